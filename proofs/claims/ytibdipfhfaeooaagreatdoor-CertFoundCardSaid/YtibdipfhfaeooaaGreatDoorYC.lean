/- What strings.CutPrefix returns where the prefix is a sign. No condition. -/
import Derived.Test.YtibdipfhfaeooaaGreatDoorZ2
import Derived.Test.YtibdipfhfaeooaaGreatDoorYB
import Derived.Test.YtibdipfhfaeooaaGreatDoorZD
set_option linter.unusedVariables false
set_option linter.unusedSimpArgs false
namespace Go.Proofs.YtibdipfhfaeooaaGreatDoor
open Go.RowKit

theorem ext01 (s : ByteArray) (h0 : 0 < s.size) : (s.extract 0 1).toList = [s[0]'h0] := by
 rw [ByteArray.toList_eq, ByteArray.data_extract, Array.toList_extract, List.extract_eq_take_drop]
 have : 0 < s.data.toList.length := by rw [Array.length_toList]; exact h0
 obtain ⟨a, l, h⟩ := List.exists_cons_of_length_pos this
 simp only [Nat.sub_zero, List.drop_zero, h, List.take_succ_cons, List.take_zero]
 congr 1
 have h2 : s.data.toList[0]'this = a := by simp only [h]; rfl
 rw [← h2]; rfl
theorem pre_neg {s : ByteArray} (h0 : 0 < s.size) : ((s.extract 0 1).toList == [45]) = decide (gd (codes s) 0 = 45) := by
 rw [ext01 s h0, ← codes_gd h0]
 have e : (([s[0]'h0] == [(45 : UInt8)])) = (s[0]'h0 == 45) := by simp
 rw [e]
 by_cases h : s[0]'h0 = 45
 ·rw [h]; rfl
 ·have h1 : ¬ (((s[0]'h0).toNat : Int) = 45) := fun h' => h (UInt8.toNat_inj.1 (by show (s[0]'h0).toNat = 45; omega))
  rw [decide_eq_false h1]
  simpa using h
set_option maxRecDepth 100000 in
set_option maxHeartbeats 1000000 in
theorem Cut_c (s : ByteArray) (w : World) (h0 : 0 < s.size) :
  Calls Tryz.prog 119 #[.string s, .string { data := #[45] }] w fun e w' => e = .returned (.tuple #[.string (if gd (codes s) 0 = 45 then s.extract 1 s.size else s), .bool (decide (gd (codes s) 0 = 45))]) ∧ w' = w := by
 have hp := pre_neg h0
 have hB : (1 : Int) ≤ s.size := by omega
 by_cases q : gd (codes s) 0 = 45
 ·rw [if_pos q]
  rw [decide_eq_true q] at hp ⊢
  clear q
  go_enter Tryz.func119, Tryz.ntmps119
  go_wp2
  go_ret2
  exact ⟨rfl, rfl⟩
 ·rw [if_neg q]
  rw [decide_eq_false q] at hp ⊢
  clear q
  go_enter Tryz.func119, Tryz.ntmps119
  go_wp2
  go_ret2
  exact ⟨rfl, rfl⟩
end Go.Proofs.YtibdipfhfaeooaaGreatDoor


set_option linter.unusedVariables false
set_option linter.unusedSimpArgs false
namespace Go.Proofs.YtibdipfhfaeooaaGreatDoor
open Go.RowKit

abbrev IsI (w : World) (v : Value) (z : Int) : Prop := IsZ B64 .u64 w v z
theorem isI_of {w : World} {A : Option Addr} {m c n : Nat} (neg : Bool) (h : IsW w (.slice A m c) n) : IsI w (.agg #[.bool (neg && decide (0 < m)), .slice A m c]) (sgnd neg n) := by
 obtain ⟨A', c', e, hs⟩ := h
 injection e with e1 e2 e3
 subst e1 e2 e3
 have hd : dg B64 (sgnd neg n) = digs B64 n := by unfold dg; rw [sgnd_abs]; rfl
 refine ⟨A, c, ?_, by rw [hd]; exact hs⟩
 rw [sgnd_lt _ _ (by omega), hd]
 have : decide (0 < (digs B64 n).length) = decide ((0 : Int) < n) := by
  apply decide_eq_decide.2
  constructor
  ·intro h
   rcases Nat.eq_zero_or_pos n with h0 | h0
   ·subst h0; rw [digs_zero] at h; simp at h
   ·omega
  ·intro h; rw [digs_pos B64two (by omega)]; simp
 rw [this]
theorem isI_size {w : World} {neg : Bool} {A : Option Addr} {m c : Nat} {z : Int} (h : IsI w (.agg #[.bool neg, .slice A m c]) z) : IsW w (.slice A m c) z.natAbs ∧ neg = decide (z < 0) ∧ (m = 0 ↔ z = 0) := by
 obtain ⟨A', c', e, hs⟩ := h
 have e' : neg = decide (z < 0) ∧ A = A' ∧ m = (dg B64 z).length ∧ c = c' := by simpa using e
 obtain ⟨e1, e2, e3, e4⟩ := e'
 subst e2 e4
 refine ⟨⟨A, c, by rw [e3]; rfl, hs⟩, e1, ?_⟩
 rw [e3]
 constructor
 ·intro h
  have := digs_nil B64two (List.eq_nil_of_length_eq_zero h); omega
 ·intro h; subst h; show (digs B64 0).length = 0; rw [digs_zero]; rfl

set_option maxHeartbeats 1000000 in
theorem made_c (neg : Bool) (A : Option Addr) (m c n : Nat) (w : World) (h : IsW w (.slice A m c) n) :
  Calls Tryz.prog 104 #[.bool neg, .slice A m c] w fun e w' => ∃ v, e = .returned v ∧ IsI w' v (sgnd neg n) ∧ Below w.heap.size w w' := by
 have HI := Lib.hid (isI_of neg h)
 have hB : Below w.heap.size w w := Below.refl _ _
 have hb : (decide ((0 : Int) < (m : Int))) = decide (0 < m) := decide_eq_decide.2 (by omega)
 cases neg
 ·go_enter Tryz.func104, Tryz.ntmps104
  go_wp2
  refine bodyPost_ret (v := .agg #[.bool (false && decide (0 < m)), .slice A m c]) (by simp [results, Tryz.results104, go_sem]) rfl ⟨_, rfl, HI.out.below (below_alloc hB _), below_alloc hB _⟩
 ·go_enter Tryz.func104, Tryz.ntmps104
  go_wp2
  refine bodyPost_ret (v := .agg #[.bool (true && decide (0 < m)), .slice A m c]) (by simp [results, Tryz.results104, go_sem]) rfl ⟨_, rfl, HI.out.below (below_alloc hB _), below_alloc hB _⟩

set_option maxHeartbeats 1000000 in
theorem Small_c (n : Int) (w : World) (h0 : -9223372036854775807 ≤ n) (h1 : n ≤ 9223372036854775807) :
  Calls Tryz.prog 58 #[.int .i64 n] w fun e w' => ∃ v, e = .returned v ∧ IsI w' v n ∧ Below w.heap.size w w' := by
 by_cases hn : n < 0
 ·have hE : Hid (sgnd true ((-n).toNat : Int) = n) := by show _ = _; unfold sgnd; simp; omega
  have e1 : IntKind.i64.wrap (-n) = -n := IntWalk.i64_in (-n) (by omega)
  have e2 : IntKind.u64.wrap (-n) = (-n) := wrap64 (by omega) (by omega)
  have hW0 : W64 (-n) := And.intro (by omega) (by omega)
  go_enter Tryz.func58, Tryz.ntmps58
  go_wp2_with fail
  generalize hW : w.alloc (Obj.cells #[Value.bool false, Value.slice none 0 0] 83) = W at *
  obtain ⟨HR, hWs, HB⟩ := start1 w _ W hW
  have hlt : w.heap.size < W.heap.size := by omega
  clear hW hWs
  (with_reducible refine (wOf_c (-n) hW0 _).mono ?_)
  rintro e w1 ⟨v, rfl, hv, hb1⟩
  obtain ⟨A1, m1, k1, rfl, T1⟩ := hv.form; clear hv
  replace HR := HR.keep hb1; replace HB := below_step HB hb1
  go_wp2_with fail
  (with_reducible refine (made_c true A1 m1 k1 _ _ T1.out).mono ?_)
  rintro e w2 ⟨v, rfl, hv, hb2⟩
  obtain ⟨n2, A2, m2, k2, rfl, H2⟩ := hv.form; clear hv
  replace HR := HR.keep hb2; replace HB := below_step HB hb2
  have HRh := Lib.hid HR; obtain ⟨⟨u1, r1⟩, ⟨u2, u3, u4, r2⟩, r3, r4, r5⟩ := HR
  go_wp2
  refine bodyPost_ret (v := .agg #[.bool n2, .slice A2 m2 k2]) (by simp [results, Tryz.results58, go_sem, r1, r2, r5]) rfl ⟨_, rfl, ?_, below_set2 HB (by omega) _ _⟩
  rw [← hE.out]; exact H2.out.res2 HRh.out _ _
 ·have hE : Hid (sgnd false (n.toNat : Int) = n) := by show _ = _; unfold sgnd; simp; omega
  
  have e2 : IntKind.u64.wrap n = n := wrap64 (by omega) (by omega)
  have hW0 : W64 n := And.intro (by omega) (by omega)
  go_enter Tryz.func58, Tryz.ntmps58
  go_wp2_with fail
  generalize hW : w.alloc (Obj.cells #[Value.bool false, Value.slice none 0 0] 83) = W at *
  obtain ⟨HR, hWs, HB⟩ := start1 w _ W hW
  have hlt : w.heap.size < W.heap.size := by omega
  clear hW hWs
  (with_reducible refine (wOf_c n hW0 _).mono ?_)
  rintro e w1 ⟨v, rfl, hv, hb1⟩
  obtain ⟨A1, m1, k1, rfl, T1⟩ := hv.form; clear hv
  replace HR := HR.keep hb1; replace HB := below_step HB hb1
  go_wp2_with fail
  (with_reducible refine (made_c false A1 m1 k1 _ _ T1.out).mono ?_)
  rintro e w2 ⟨v, rfl, hv, hb2⟩
  obtain ⟨n2, A2, m2, k2, rfl, H2⟩ := hv.form; clear hv
  replace HR := HR.keep hb2; replace HB := below_step HB hb2
  have HRh := Lib.hid HR; obtain ⟨⟨u1, r1⟩, ⟨u2, u3, u4, r2⟩, r3, r4, r5⟩ := HR
  go_wp2
  refine bodyPost_ret (v := .agg #[.bool n2, .slice A2 m2 k2]) (by simp [results, Tryz.results58, go_sem, r1, r2, r5]) rfl ⟨_, rfl, ?_, below_set2 HB (by omega) _ _⟩
  rw [← hE.out]; exact H2.out.res2 HRh.out _ _
end Go.Proofs.YtibdipfhfaeooaaGreatDoor

