/- cert.comes: the cycles to which the first numbers come. No condition but that the library's table lies as it should. -/
import Derived.Test.YtibdipfhfaeooaaGreatDoorZM
import Derived.WalkMore
import Derived.Maps.RangeWalk
set_option linter.unusedVariables false
set_option linter.unusedSimpArgs false
namespace Go.Proofs.YtibdipfhfaeooaaGreatDoor
open Go.RowKit

def hdS (L : List LT) : List ByteArray := L.map fun x => tS (gd x.2.2 0)
theorem hdS_in {L : List LT} {z : Int} : tS z ∈ hdS L ↔ z ∈ (L.map fun x => x.2.2).map fun x => gd x 0 := by
 unfold hdS
 rw [List.map_map, List.mem_map, List.mem_map]
 constructor
 ·rintro ⟨x, hx, e⟩
  exact ⟨x, hx, tS_inj e⟩
 ·rintro ⟨x, hx, e⟩
  exact ⟨x, hx, by rw [← e]; rfl⟩
theorem hdS_snoc (L : List LT) (x : LT) : hdS (L ++ [x]) = hdS L ++ [tS (gd x.2.2 0)] := by simp [hdS]
theorem dlN_of_small {i : Nat} (h : i ≤ 20000) : dlN (i : Int).natAbs ≤ 2000 := by
 have e : (i : Int).natAbs = i := by omega
 rw [e]
 unfold dlN
 rcases Nat.eq_zero_or_pos i with h0 | h0
 ·subst h0; decide
 ·rw [txN_length h0]
  have := digs_len_le (B := 10) (k := 5) (by omega) (show i < 10 ^ 5 by omega)
  omega
/-- What comes is told of the numbers up to T. -/
def ComesR (M : Mp) (T : Nat) (e : Ending) (w' : World) : Prop :=
 ((∃ k, k ≤ T ∧ ¬ Fine M k) ∧ e = .returned (.tuple #[.slice none 0 0, .bool false])) ∨ ((∀ k, k ≤ T → Fine M k) ∧ ∃ A c ls, e = .returned (.tuple #[.slice A ls.length c, .bool true]) ∧ LsL w' A c ls ∧ FoundL M (T : Int) ls ∧ ∀ l ∈ ls, ∀ z ∈ l, dlN z.natAbs ≤ 2000)
set_option maxRecDepth 100000 in
set_option maxHeartbeats 16000000 in
theorem comes_c (M : Mp) (T : Nat) (v : Value) (w : World) (hM : IsM w v M) (hok : okM M) (hT : T ≤ 20000) (ht : Tb w) :
    Calls Tryz.prog 61 #[v, .int .i64 T] w fun e w' => ComesR M T e w' ∧ Below w.heap.size w w' := by
  obtain ⟨md, A, n, c, A', n', c', rfl, HM⟩ := hM.form
  have V3 := VM.new w 24 HM.out
  have HB := below_alloc (Below.refl w.heap.size w) (Obj.cells #[Value.int .i64 md, Value.slice A n c, Value.slice A' n' c'] 24)
  have HTB := Lib.hid ht
  have HOK := Lib.hid hok
  obtain ⟨N, hN⟩ : ∃ N, T + 1 = N := ⟨_, rfl⟩
  have HN := Lib.hid hN
  have hTw : IntKind.i64.wrap ((T : Int) + 1) = (N : Int) := by rw [IntKind.wrap_i64]; omega
  have hN1 : N ≤ 20001 := by omega
  clear hM hok ht HM hN
  have hmm := @run_makeMap Tryz.prog
  go_enter Tryz.func61, Tryz.ntmps61
  go_upto_region 1 with fail
  generalize hW : w.alloc (Obj.cells #[Value.int .i64 md, Value.slice A n c, Value.slice A' n' c'] 24) = w3 at *
  clear hW
  go_step3
  go_upto_region 2 with fail
  have HS := Lib.hid (OwnSet.made w3)
  have hba := below_alloc (Below.refl w3.heap.size w3) (Obj.map #[] 0)
  have hbM := HB.size
  replace HB := below_step HB hba
  have hv3 := V3.lt
  replace V3 := V3.keep hba
  generalize hW : w3.alloc (Obj.map #[] 0) = W at *
  obtain ⟨bM, hbm⟩ : ∃ bM, w3.heap.size = bM := ⟨_, rfl⟩
  have hbW : bM < W.heap.size := by rw [← hW]; simp; omega
  rw [hbm] at HS hbM hv3 ⊢
  clear hW hba hbm
  obtain ⟨base, hbase⟩ : ∃ base, W.heap.size = base := ⟨_, rfl⟩
  rw [hbase] at hbW
  have hb0 : base ≤ W.heap.size := by omega
  have HL : Hid (LpR W base (.slice none 0 0) []) := LpR.nil W base
  clear hbase
  clear hmm
  go_wp2_with fail
  go_step3
  go_wp2_with fail
  go_loopg [15, 7] N (fun g iv xv wr => ∃ (i : Nat) (L : List LT) (ov : Value), g = N - i ∧ iv = .int .i64 i ∧ ov = xv ∧ i ≤ N ∧ VM wr w.heap.size md A n c A' n' c' M ∧ Hid (OwnSet wr bM L.length (hdS L)) ∧ Hid (LpR wr base ov L) ∧ base ≤ wr.heap.size ∧ Below w.heap.size w wr ∧ Hid (InvC M i (L.map fun x => x.2.2)))
  case atStart => exact ⟨0, [], _, rfl, rfl, rfl, Nat.zero_le _, V3, HS, HL, hb0, HB, InvC.nil M⟩
  case round =>
    clear V3 HS HL hb0 HB
    obtain ⟨i, L, ov, hgi, rfl, rfl, hi, V3, HS, HL, hb0, HB, HI⟩ := hrel
    have hi0 : (0 : Int) ≤ (i : Int) := by omega
    by_cases hin : i < N
    · have hi1 : (i : Int) < (N : Int) := by omega
      have hi2 : i ≤ 20000 := by omega
      obtain ⟨R, hR⟩ : ∃ R, flwA M (20000 + 1) [] (i : Int) = R := ⟨_, rfl⟩
      have HF : Hid (∀ (u : Value) {W : World}, IsM W u M → Tb W → Calls Tryz.prog 38 #[u, .string (tS (i : Int)), .int .i64 20000] W fun e w' => ∃ A c, e = .returned (.tuple #[.int .i64 R.2.1, .slice A R.2.2.length c, .int .i64 R.1]) ∧ Hid (LsS w' A c (R.2.2.map tS)) ∧ (∀ b o q, A = some ⟨b, o, q⟩ → W.heap.size ≤ b ∧ b < w'.heap.size) ∧ Below W.heap.size W w') := fun u W h1 h2 => by
        have := Fate_own M (i : Int) 20000 u W h1 HOK.out (dlN_of_small hi2) (by omega) h2
        rw [hR] at this
        exact this
      have HC := Lib.hid (flw_cases M (i : Int) 20000)
      have HRF : Hid (flwA M 20001 [] (i : Int) = R) := hR
      rw [hR] at HC
      have hL : L.length ≤ 20001 := by have := HI.out.len; rw [List.length_map] at this; omega
      clear hR
      go_upto_region 6 with fail
      replace V3 := V3.drew; replace HS := Lib.hid (HS.out.below (below_drew (Below.refl _ _))); replace HL := Lib.hid (HL.out.below (below_drew (Below.refl _ _))); replace HB := below_drew HB
      replace hb0 : base ≤ wr.drew.heap.size := hb0
      generalize hWd : wr.drew = wd at *
      refine wp_region_F (fun w' => w'.cell? ⟨w.heap.size, 0, none⟩ = some (.int .i64 md) ∧ w'.cell? ⟨w.heap.size, 1, none⟩ = some (.slice A n c) ∧ w'.cell? ⟨w.heap.size, 2, none⟩ = some (.slice A' n' c')) [] (by kernel_rfl) (by rw [hWd]; exact ⟨V3.c0, V3.c1, V3.c2⟩) (fun hHeld => ?_)
      rw [hWd] at hHeld ⊢
      refine tF 0 ({ dst := some 19, op := Go.Op.load 24 (Go.Operand.tmp 2), type := 24, pos := "cert.go:87", after := #[], guard := none }) hHeld ?_; try go_frame
      refine tF 1 ({ dst := some 20, op := Go.Op.move (Go.Operand.tmp 8), type := 3, pos := "cert.go:87", after := #[], guard := none }) hHeld ?_; try go_frame
      refine wpAnyF_one (i := 2) (by kernel_rfl) rfl (fun K hK => ?_)
      go_simp
      (go_at_call 96; (with_reducible refine (Itoa_c i _ (by omega) (HTB.out.below HB)).mono ?_); rintro e w5 ⟨rfl, hb⟩; replace V3 := V3.keep hb; replace HS := Lib.hid (HS.out.below hb); replace HL := Lib.hid (HL.out.below hb); replace HB := below_step HB hb; replace hb0 := Nat.le_trans hb0 hb.size; clear hb)
      refine hK.out _ _ (by exact ⟨V3.c0, V3.c1, V3.c2⟩) (fun hHeld => ?_)
      clear hK K
      try go_frame
      refine wpAnyF_one (i := 3) (by kernel_rfl) rfl (fun K hK => ?_)
      go_simp
      (go_at_call 38; (with_reducible refine (HF.out _ V3.im.out (HTB.out.below HB)).mono ?_); rintro e w6 ⟨A9, c9, rfl, HL9, HN9, hb⟩; have hbo := HL.out; replace V3 := V3.keep hb; replace HS := Lib.hid (HS.out.below hb); replace HL := Lib.hid (HL.out.below hb); replace HB := below_step HB hb; replace hb0 := Nat.le_trans hb0 hb.size; replace HN9 := Lib.hid (fun b o q e => (⟨hbo.off (HN9 b o q e).1, (HN9 b o q e).2⟩ : Off ov b ∧ b < w6.heap.size)); clear hb hbo)
      refine hK.out _ _ (by exact ⟨V3.c0, V3.c1, V3.c2⟩) (fun hHeld => ?_)
      clear hK K
      try go_frame
      refine tF 4 ({ dst := some 18, op := Go.Op.move (Go.Operand.tmp 22), type := 65, pos := "cert.go:87", after := #[{ on := 3, ground := Go.Ground.data }], guard := none }) hHeld ?_; try go_frame
      refine tF 5 ({ dst := some 23, op := Go.Op.extract (Go.Operand.tmp 18) 0, type := 3, pos := "cert.go:87", after := #[{ on := 4, ground := Go.Ground.data }], guard := none }) hHeld ?_; try go_frame
      refine tF 6 ({ dst := some 24, op := Go.Op.extract (Go.Operand.tmp 18) 1, type := 43, pos := "cert.go:87", after := #[{ on := 4, ground := Go.Ground.data }, { on := 8, ground := Go.Ground.gcOnly Go.Departure.lateStores }], guard := none }) hHeld ?_; try go_frame
      refine tF 7 ({ dst := some 25, op := Go.Op.extract (Go.Operand.tmp 18) 2, type := 31, pos := "cert.go:87", after := #[{ on := 4, ground := Go.Ground.data }, { on := 9, ground := Go.Ground.gcOnly Go.Departure.lateStores }], guard := none }) hHeld ?_; try go_frame
      refine tF 8 ({ dst := some 9, op := Go.Op.assign (Go.Operand.tmp 23), type := 3, pos := "cert.go:87", after := #[{ on := 5, ground := Go.Ground.data }, { on := 3, ground := Go.Ground.chain }, { on := 0, ground := Go.Ground.phase }, { on := 1, ground := Go.Ground.phase }, { on := 2, ground := Go.Ground.phase }, { on := 3, ground := Go.Ground.phase }, { on := 4, ground := Go.Ground.phase }, { on := 5, ground := Go.Ground.phase }, { on := 6, ground := Go.Ground.textOnly Go.Departure.lateStores }, { on := 7, ground := Go.Ground.textOnly Go.Departure.lateStores }], guard := none }) hHeld ?_; try go_frame
      refine tF 9 ({ dst := some 10, op := Go.Op.assign (Go.Operand.tmp 24), type := 43, pos := "cert.go:87", after := #[{ on := 6, ground := Go.Ground.data }, { on := 8, ground := Go.Ground.chain }, { on := 0, ground := Go.Ground.phase }, { on := 1, ground := Go.Ground.phase }, { on := 2, ground := Go.Ground.phase }, { on := 3, ground := Go.Ground.phase }, { on := 4, ground := Go.Ground.phase }, { on := 5, ground := Go.Ground.phase }, { on := 6, ground := Go.Ground.phase }, { on := 7, ground := Go.Ground.textOnly Go.Departure.lateStores }, { on := 8, ground := Go.Ground.phase }], guard := none }) hHeld ?_; try go_frame
      refine tF 10 ({ dst := some 11, op := Go.Op.assign (Go.Operand.tmp 25), type := 31, pos := "cert.go:87", after := #[{ on := 7, ground := Go.Ground.data }, { on := 9, ground := Go.Ground.chain }, { on := 0, ground := Go.Ground.phase }, { on := 1, ground := Go.Ground.phase }, { on := 2, ground := Go.Ground.phase }, { on := 3, ground := Go.Ground.phase }, { on := 4, ground := Go.Ground.phase }, { on := 5, ground := Go.Ground.phase }, { on := 6, ground := Go.Ground.phase }, { on := 7, ground := Go.Ground.phase }, { on := 8, ground := Go.Ground.phase }, { on := 9, ground := Go.Ground.phase }], guard := none }) hHeld ?_; try go_frame
      refine wpAnyF_done (by kernel_rfl) ?_ _
      clear hHeld hWd HF
      rcases HC.out with h | h | ⟨t, l, h, h1, h2, h3, h4⟩
      · subst h
        clear HC
        have HR : Hid ((∃ k, k ≤ T ∧ ¬ Fine M k)) := ⟨i, by have := HN.out; omega, fun h => by have := h.1; rw [HRF.out] at this; cases this⟩
        clear HI HS HL
        go_wp2
        (try rw [Exit.noGoto_ret])
        go_ret2
        exact ⟨.inl ⟨HR.out, rfl⟩, HB⟩
      · subst h
        clear HC
        have HR : Hid ((∃ k, k ≤ T ∧ ¬ Fine M k)) := ⟨i, by have := HN.out; omega, fun h => by have := h.1; rw [HRF.out] at this; cases this⟩
        clear HI HS HL
        go_wp2
        (try rw [Exit.noGoto_ret])
        go_ret2
        exact ⟨.inl ⟨HR.out, rfl⟩, HB⟩
      · subst h
        clear HC h2 h3
        dsimp only at HL9 HN9 HRF ⊢
        have HDL := Lib.hid h4
        clear h4
        have hlc : l.length ≤ 9223372036854775807 := by have := HL9.out.2; rw [List.length_map] at this; omega
        by_cases hbig : 1000 < l.length
        · have hbi : (1000 : Int) < (l.length : Int) := by omega
          have HBG := Lib.hid hbig
          have HR : Hid ((∃ k, k ≤ T ∧ ¬ Fine M k)) := ⟨i, by have := HN.out; omega, fun h => by have := h.2; rw [HRF.out] at this; dsimp only at this; have := HBG.out; omega⟩
          clear HI HS HL
          go_wp2
          (try rw [Exit.noGoto_ret])
          go_ret2
          exact ⟨.inl ⟨HR.out, rfl⟩, HB⟩
        · have hbi : ¬ (1000 : Int) < (l.length : Int) := by omega
          have hbd : decide ((1000 : Int) < (l.length : Int)) = false := decide_eq_false hbi
          have hbe : decide (1000 < l.length) = false := decide_eq_false hbig
          have HFI : Hid (Fine M i) := ⟨by rw [HRF.out], by rw [HRF.out]; dsimp only; omega⟩
          have HCY : Hid (cyc M i = l) := by show (flwA M 20001 [] (i : Int)).2.2 = l; rw [HRF.out]
          have HD0 : Hid (dlN (gd l 0).natAbs ≤ 2000) := by
            show _ ≤ _
            rw [← dl_dlN]
            exact HDL.out _ (by rw [gd_lt h1]; exact List.getElem_mem h1)
          obtain ⟨b9, o9, rfl, C9⟩ := HL9.out.head h1
          have hl0 : (0 : Int) < (l.length : Int) := by omega
          have hin_ := HS.out.look (s := tS (gd l 0)) (tS_maxLen HD0.out)
          have x0 := C9.c
          by_cases hmem : gd l 0 ∈ (L.map fun x => x.2.2).map fun x => gd x 0
          · rw [inB_iff.2 (hdS_in.2 hmem)] at hin_
            have HI2 : Hid (InvC M (i + 1) (L.map fun x => x.2.2)) := HI.out.old HFI.out (by rw [HCY.out]; exact hmem)
            clear hmem
            clear HI
            go_wp2
            go_roundg (N - (i + 1))
            case measure => omega
            case rel => exact ⟨i + 1, L, _, rfl, by go_num, rfl, by omega, V3, HS, HL, hb0, HB, HI2⟩
          · have hnin : inB (hdS L) (tS (gd l 0)) = false := by
              cases e : inB (hdS L) (tS (gd l 0)) with
              | false => rfl
              | true => exact absurd (hdS_in.1 (inB_iff.1 e)) hmem
            rw [hnin] at hin_
            have HI2 : Hid (InvC M (i + 1) ((L ++ [((some ⟨b9, o9, none⟩, c9, l) : LT)]).map fun x => x.2.2)) := by
              have := HI.out.new HFI.out (by rw [HCY.out]; exact hmem)
              rw [HCY.out] at this
              rw [List.map_append]
              exact this
            have hLm : L.length < maxLen := by simp only [maxLen]; omega
            have hsm := tS_maxLen HD0.out
            clear hmem hnin
            have hlt : (L.length + 1) * 24 ≤ 140737488355328 := by omega
            go_wp2_with (first
              | (at_mapUpdate; refine upd_set rfl _ _ _ rfl bM L.length (hdS L) (tS (gd l 0)) rfl HS.out hLm hsm rfl rfl ?_; intro w7 HS7 hg7 hk7
                 have hnc := HS.out.nocells
                 replace V3 := V3.grown hg7 (ne_of_cell V3.c0 hnc) hk7
                 replace HB := HB.grown hg7 HB.size (fun r e => by cases e; exact hbM)
                 replace HL := Lib.hid (HL.out.map hg7 hbW hnc)
                 replace HL9 := Lib.hid (HL9.out.own hg7 hnc)
                 replace HN9 := Lib.hid (fun b o q e => (⟨(HN9.out b o q e).1, Nat.lt_of_lt_of_le (HN9.out b o q e).2 hg7.size⟩ : Off _ b ∧ b < w7.heap.size))
                 replace hb0 := Nat.le_trans hb0 hg7.size
                 replace HS := Lib.hid HS7
                 clear HS7 hg7 hk7 hnc hsm hin_ x0 C9)
              | (at_builtin; refine app_L base rfl _ _ rfl _ L (some ⟨b9, o9, none⟩, c9, l) HL.out HL9.out HN9.out rfl rfl hb0 hlt ?_; intro v8 w8 HL8 hg8 hb8 hk8))
            replace V3 := V3.keepB hb8 (by omega) hk8
            have HS8 : Hid (OwnSet w8 bM (L ++ [((some ⟨b9, o9, none⟩, c9, l) : LT)]).length (hdS (L ++ [((some ⟨b9, o9, none⟩, c9, l) : LT)]))) := by
              show OwnSet _ _ _ _
              rw [hdS_snoc, List.length_append]
              exact HS.out.keepB hb8 hbW
            replace HS := HS8
            replace HL := Lib.hid HL8
            replace HB := HB.trans (hb8.mono (by omega))
            replace hb0 := Nat.le_trans hb0 hb8.size
            clear HS8 HL8 hg8 hb8 hk8 HL9 HN9
            clear HI
            go_wp2
            go_roundg (N - (i + 1))
            case measure => omega
            case rel => exact ⟨i + 1, L ++ [(some ⟨b9, o9, none⟩, c9, l)], _, rfl, by go_num, rfl, by omega, V3, HS, HL, hb0, HB, HI2⟩
    · obtain rfl : i = N := by omega
      have hi1 : ¬ (i : Int) < (i : Int) := by omega
      have HEL : Hid (∀ x, x ∈ L → 0 < x.2.2.length ∧ ∀ z ∈ x.2.2, dlN z.natAbs ≤ 2000) := fun x hx => by
        obtain ⟨k, hk, e⟩ := HI.out.each x.2.2 (List.mem_map.2 ⟨x, hx, rfl⟩)
        have := (HI.out.fine k hk).pos
        rw [e]
        exact ⟨this.1, fun z hz => by rw [← dl_dlN]; exact this.2 z hz⟩
      have hL : L.length ≤ 20001 := by have := HI.out.len; rw [List.length_map] at this; omega
      have HSO := Lib.hid (sortL_c wr base _ L HL.out hb0 (fun x hx => ⟨(HEL.out x hx).1, (HEL.out x hx).2 _ (by rw [gd_lt (HEL.out x hx).1]; exact List.getElem_mem (HEL.out x hx).1)⟩) (by omega))
      go_wp2_with (go_at_call 109; (with_reducible refine HSO.out.mono ?_); rintro e w9 ⟨rfl, L', hp, hs, ⟨A9, c9, rfl, hl9⟩, hb⟩)
      have HR : Hid (ComesR M T (.returned (.tuple #[.slice A9 L'.length c9, .bool true])) w9) := by
        refine .inr ⟨fun k hk => HI.out.fine k (by have := HN.out; omega), A9, c9, L'.map (fun x => x.2.2), by rw [List.length_map], hl9, ?_, fun l hl => ?_⟩
        · have h1 := HI.out
          rw [← HN.out] at h1
          exact h1.found (hp.map _) (by rw [List.pairwise_map]; exact hs)
        · obtain ⟨x, hx, rfl⟩ := List.mem_map.1 hl
          exact (HEL.out x (hp.mem_iff.2 hx)).2
      replace HB := HB.trans (hb.mono (by omega))
      clear hs hp hl9 hb HSO HEL HI
      go_wp2
      (try rw [Exit.noGoto_ret])
      go_ret2
      exact ⟨HR.out, HB⟩
end Go.Proofs.YtibdipfhfaeooaaGreatDoor

