/- The library's table of powers, strconv.Itoa and strconv.ParseUint at the program's own numbers. No condition. -/
import Derived.Test.YtibdipfhfaeooaaGreatDoorZ9
import Derived.Test.YtibdipfhfaeooaaGreatDoorZ2
import Derived.Lib.AppendIntMem
import Derived.Lib.AtoiErrMem
import Derived.Test.YtibdipfhfaeooaaGreatDoorZ6
import Derived.Test.YtibdipfhfaeooaaGreatDoorZ5
import Derived.Maps.RangeWalk
import Derived.Lib.AppendStr
import Derived.Test.YtibdipfhfaeooaaGreatDoorZ7
import Derived.Test.YtibdipfhfaeooaaGreatDoorZ8
import Derived.Maps.OwnIn
import Derived.Maps.Views
import Derived.WalkMore
import Derived.Test.YtibdipfhfaeooaaGreatDoorZ3
set_option linter.unusedVariables false
set_option linter.unusedSimpArgs false
namespace Go.Proofs.YtibdipfhfaeooaaGreatDoor
open Go.RowKit

/-- The library's table of powers of ten lies as it should. -/
def Tb (w : World) : Prop := Lib.TabIs Tryz.prog w "internal/strconv.uint64pow10" .u64 Lib.pow10Tab
theorem Tb.below {w w' : World} (h : Tb w) (hb : Below w.heap.size w w') : Tb w' := by
 unfold Tb Lib.TabIs World.var? at h ⊢
 cases hg : Tryz.prog.globalNamed "internal/strconv.uint64pow10" with
 | none => rw [hg] at h; exact h
 | some g =>
  rw [hg] at h
  simp only [Option.bind_some] at h ⊢
  have hlt : g < w.heap.size := by
   rcases Nat.lt_or_ge g w.heap.size with h' | h'
   ·exact h'
   ·rw [Array.getElem?_eq_none h'] at h; cases h
  rw [hb.block g hlt]
  exact h
theorem decDigits_tx (u : Nat) : (Lib.decDigits u).map (fun c => (c.toNat : Int)) = txN u := by
 induction u using Nat.strongRecOn with
 | _ u ih =>
  rw [Lib.decDigits]
  split
  ·rename_i h
   rcases Nat.eq_zero_or_pos u with rfl | h0
   ·rfl
   ·unfold txN
    rw [if_neg (by omega), digs_pos (by omega) h0, show u / 10 = 0 by omega, digs_zero]
    simp
    omega
  ·rename_i h
   unfold txN
   rw [if_neg (by omega), digs_pos (by omega) (by omega), List.map_append, ih _ (by omega)]
   unfold txN
   rw [if_neg (by omega)]
   simp
   omega
theorem itoa_tS (u : Nat) : (⟨(Lib.itoa (u : Int)).toArray⟩ : ByteArray) = tS (u : Int) := by
 apply codes_inj
 rw [codes_tS]
 unfold codes tx Lib.itoa
 rw [if_neg (by omega), if_neg (by omega)]
 simp only [Int.toNat_natCast, Int.natAbs_natCast, List.nil_append]
 exact decDigits_tx u
theorem Itoa_c (u : Nat) (w : World) (h : u < 4294967296) (ht : Tb w) :
  Calls Tryz.prog 96 #[.int .i64 (u : Int)] w fun e w' => e = .returned (.string (tS (u : Int))) ∧ Below w.heap.size w w' := by
 refine (Go.Proofs.Tryz.strconv_Itoa (u : Int) (by omega) (by omega) w ht).mono ?_
 rintro e w' ⟨rfl, k, os, rfl⟩
 exact ⟨by rw [itoa_tS], Lib.below_grow _ _ (Nat.le_refl _) _ _⟩
theorem dv_nonneg {l : List Int} (h : ∀ c ∈ l, 48 ≤ c ∧ c ≤ 57) : 0 ≤ dv l := by
 unfold dv
 refine V_nonneg fun d hd => ?_
 simp only [List.mem_map, List.mem_reverse] at hd
 obtain ⟨c, hc, rfl⟩ := hd
 have := h c hc
 omega
theorem dv_cons (c : Int) (l : List Int) : dv (c :: l) = (10 : Int) ^ l.length * (c - 48) + dv l := by
 rw [show c :: l = [c] ++ l from rfl, dv_append]
 simp [dv, V]
/-- The number that digits spell. -/
theorem parse_dv (l : List UInt8) : ∀ (n : Nat), (∀ c ∈ l, 48 ≤ c.toNat ∧ c.toNat ≤ 57) → n * 10 ^ l.length + (dv (l.map fun c => (c.toNat : Int))).toNat ≤ 4294967295 →
  Lib.parseUintM 4294967295 n l = .ok (n * 10 ^ l.length + (dv (l.map fun c => (c.toNat : Int))).toNat) := by
 induction l with
 | nil => intro n _ _; simp [Lib.parseUintM, dv, V]
 | cons c r ih =>
  intro n hd hb
  have hc := hd c (by simp)
  have hr : ∀ c ∈ r, 48 ≤ c.toNat ∧ c.toNat ≤ 57 := fun c hc => hd c (by simp [hc])
  have h0 : 0 ≤ dv (r.map fun c => (c.toNat : Int)) := dv_nonneg (by
   intro x hx
   obtain ⟨c, hc, rfl⟩ := List.mem_map.1 hx
   have := hr c hc
   omega)
  have e : n * 10 ^ (c :: r).length + (dv ((c :: r).map fun c => (c.toNat : Int))).toNat = (n * 10 + (c.toNat - 48)) * 10 ^ r.length + (dv (r.map fun c => (c.toNat : Int))).toNat := by
   rw [List.map_cons, dv_cons, List.length_map, List.length_cons]
   obtain ⟨d, hd⟩ : ∃ d : Nat, c.toNat = 48 + d := ⟨c.toNat - 48, by omega⟩
   obtain ⟨m, hm⟩ : ∃ m : Nat, dv (r.map fun c => (c.toNat : Int)) = m := ⟨_, (Int.toNat_of_nonneg h0).symm⟩
   rw [hm, hd]
   have e1 : (10 : Int) ^ r.length * (((48 + d : Nat) : Int) - 48) + (m : Int) = ((10 ^ r.length * d + m : Nat) : Int) := by
    rw [show (((48 + d : Nat) : Int) - 48) = (d : Int) by omega, Int.natCast_add, Int.natCast_mul, Int.natCast_pow]
    rfl
   rw [e1, Int.toNat_natCast, Int.toNat_natCast, Nat.pow_succ, Nat.add_sub_cancel_left, Nat.add_mul, Nat.mul_comm d, Nat.mul_assoc, Nat.mul_comm (10 ^ r.length) 10]
   omega
  rw [e] at hb ⊢
  have hp : 0 < 10 ^ r.length := Nat.pow_pos (by omega)
  have hle : n * 10 + (c.toNat - 48) ≤ (n * 10 + (c.toNat - 48)) * 10 ^ r.length := Nat.le_mul_of_pos_right _ hp
  rw [Lib.parseUintM, if_pos hc, if_neg (by omega), if_neg (by omega)]
  exact ih _ hr hb
/-- ParseUint at a row of at most nine digits. -/
theorem ParseUint_c (s : ByteArray) (w : World) (h0 : 0 < s.size) (h9 : s.size ≤ 9) (hd : ∀ c ∈ codes s, 48 ≤ c ∧ c ≤ 57) :
    Calls Tryz.prog 125 #[.string s, .int .i64 10, .int .i64 32] w fun e w' => e = .returned (.tuple #[.int .u64 (dv (codes s)), .nilIface]) ∧ Below w.heap.size w w' := by
  have hn := dv_nonneg hd
  have hd' : ∀ c ∈ s.data.toList, 48 ≤ c.toNat ∧ c.toNat ≤ 57 := fun c hc => by
    have := hd _ (List.mem_map.2 ⟨c, hc, rfl⟩)
    omega
  have hl : dv (codes s) < 1000000000 := by
    have h1 : Dg 10 ((codes s).reverse.map (· - 48)) := by
      intro d h
      simp only [List.mem_map, List.mem_reverse] at h
      obtain ⟨c, hc, rfl⟩ := h
      have := hd c hc
      omega
    have h2 := V_lt h1
    have h3 : ((10 : Nat) : Int) ^ ((codes s).reverse.map (· - 48)).length ≤ (10 : Int) ^ 9 := by
      rw [List.length_map, List.length_reverse, codes_length]
      exact_mod_cast Nat.pow_le_pow_right (show 0 < 10 by omega) h9
    unfold dv
    omega
  have hp := parse_dv s.data.toList 0 hd' (by
    rw [Nat.zero_mul, Nat.zero_add]
    show (dv (codes s)).toNat ≤ _
    omega)
  rw [Nat.zero_mul, Nat.zero_add] at hp
  have hne : s.data.toList ≠ [] := fun h => by
    have : s.size = 0 := by rw [← codes_length]; unfold codes; rw [h]; rfl
    omega
  have hq : Lib.parseUintB 32 s.data.toList = .ok (dv (codes s)).toNat := by
    unfold Lib.parseUintB
    rw [if_neg hne]
    exact hp
  refine (Go.Proofs.Tryz.strconv_ParseUint_10_at32_ok s (by omega) _ hq w).mono ?_
  rintro e w' ⟨rfl, h⟩
  refine ⟨by rw [Int.toNat_of_nonneg hn], ?_⟩
  rcases h with rfl | rfl
  · exact Below.refl _ _
  · exact Lib.bytesWorld_below _ _ _
end Go.Proofs.YtibdipfhfaeooaaGreatDoor


set_option linter.unusedVariables false
set_option linter.unusedSimpArgs false
namespace Go.Proofs.YtibdipfhfaeooaaGreatDoor
open Go.RowKit

theorem tS_size (u : Nat) (h : 0 < u) : (tS (u : Int)).size = (digs 10 u).length := by
 rw [← codes_length, codes_tS]
 unfold tx
 rw [if_neg (by omega), List.nil_append, Int.natAbs_natCast, txN_length h]
set_option maxRecDepth 100000 in
set_option maxHeartbeats 2000000 in
theorem hDigits_c (z : Int) (v : Value) (w : World) (h : IsH w v z) (ht : Tb w) (sz : (dg B9 z).length ≤ 1000000000) :
  Calls Tryz.prog 127 #[v] w fun e w' => e = .returned (.int .i64 (dl z : Int)) ∧ Below w.heap.size w w' := by
 obtain ⟨na, A, n, c, rfl, H⟩ := h.form
 clear h
 have HB0 : Below w.heap.size w w := Below.refl _ _
 obtain ⟨-, hn, L1⟩ := H.out.sl
 have hc1 := L1.2.1
 have hc2 := L1.2.2
 by_cases hz : z = 0
 ·have e2 : dg B9 z = [] := by rw [hz]; exact digs_zero _
  rw [e2] at hn
  have hn0 : n = 0 := hn
  subst hn0
  have e3 : dl z = 1 := by rw [hz]; rfl
  rw [e3]
  clear hn L1 hc1 hc2 e2 e3 H sz
  go_enter Tryz.func127, Tryz.ntmps127
  go_wp2
  go_ret
  exact ⟨rfl, below_alloc HB0 _⟩
 ·obtain ⟨t, ht1, ht2, ht3, ht4⟩ := dl_parts (n := z.natAbs) (by omega)
  have HDL : Hid (dl z = 9 * ((dg B9 z).length - 1) + (digs 10 t).length) := by show _ = _; unfold dl; rw [if_neg hz, ht4]; rfl
  have HTS := Lib.hid (tS_size t ht2)
  have hne : 0 < (dg B9 z).length := by
   rcases Nat.eq_zero_or_pos (dg B9 z).length with h0 | h0
   ·have := digs_nil B9two (List.eq_nil_of_length_eq_zero h0); omega
   ·exact h0
  have hta : gd (dg B9 z) ((dg B9 z).length - 1) = t := ht1
  clear ht1 ht4 hz
  generalize dg B9 z = a at *
  subst hn
  obtain ⟨m, hm⟩ : ∃ m, a.length = m + 1 := ⟨a.length - 1, by omega⟩
  obtain ⟨b, off, rfl, hbl, hcell⟩ := L1.cell (j := m) (by omega)
  rw [hm, Nat.add_sub_cancel] at hta
  rw [hta] at hcell
  have CA : CL w b (off + m) (.int .u32 (t : Int)) := ⟨hcell, hbl⟩
  rw [hm] at HDL ⊢
  rw [Nat.add_sub_cancel] at HDL
  have HT := Lib.hid ht
  clear L1 hcell hbl hta hne ht hc1 hc2
  have hmb : m ≤ 1000000000 := by omega
  rw [hm] at H
  clear hm sz
  have hnb : (((m + 1 : Nat) : Int) == 0) = false := beq_eq_false_iff_ne.2 (by omega)
  go_enter Tryz.func127, Tryz.ntmps127
  go_wp2_with fail
  have V1 := VX.new w 118 H.out
  replace CA := CA.keep (below_alloc (Below.refl w.heap.size w) (Obj.cells #[Value.bool na, Value.slice (some ⟨b, off, none⟩) (m + 1) c] 118))
  replace HT := Lib.hid (HT.out.below (below_alloc (Below.refl w.heap.size w) (Obj.cells #[Value.bool na, Value.slice (some ⟨b, off, none⟩) (m + 1) c] 118)))
  have HB := below_alloc HB0 (Obj.cells #[Value.bool na, Value.slice (some ⟨b, off, none⟩) (m + 1) c] 118)
  generalize hW : w.alloc (Obj.cells #[Value.bool na, Value.slice (some ⟨b, off, none⟩) (m + 1) c] 118) = W at *
  clear hW H
  replace V1 := V1.drew
  replace CA := CA.drew
  replace HT := Lib.hid (HT.out.below (below_drew (Below.refl _ _)))
  replace HB := below_drew HB
  generalize hWd : W.drew = wd at *
  have hi0 : (0 : Int) ≤ (m : Int) := by omega
  have hi1 : (m : Int) < (m : Int) + 1 := by omega
  have hw1 : IntKind.i64.wrap (m : Int) = (m : Int) := by rw [IntKind.wrap_i64]; omega
  have hw2 : IntKind.i64.wrap (t : Int) = (t : Int) := by rw [IntKind.wrap_i64]; omega
  refine wp_region_F (fun w' => w'.cell? ⟨w.heap.size, 0, none⟩ = some (.bool na) ∧ w'.cell? ⟨w.heap.size, 1, none⟩ = some (.slice (some ⟨b, off, none⟩) (m + 1) c) ∧ w'.cell? ⟨b, off + m, none⟩ = some (.int .u32 (t : Int))) [] (by kernel_rfl) (by rw [hWd]; exact ⟨V1.c0, V1.c1, CA.c⟩) (fun hHeld => ?_)
  rw [hWd] at hHeld ⊢
  refine tF 0 ({ dst := some 7, op := Go.Op.fieldAddr 118 (Go.Operand.tmp 1) 1, type := 0, pos := "whole.go:78", after := #[], guard := none }) hHeld ?_; try go_frame
  refine tF 1 ({ dst := some 8, op := Go.Op.load 116 (Go.Operand.tmp 7), type := 116, pos := "whole.go:78", after := #[{ on := 0, ground := Go.Ground.data }], guard := none }) hHeld ?_; try go_frame
  refine tF 2 ({ dst := some 9, op := Go.Op.call { callee := Go.Callee.builtin Go.Builtin.len, args := #[Go.Operand.tmp 8], argTypes := #[116] }, type := 3, pos := "whole.go:78", after := #[{ on := 1, ground := Go.Ground.data }], guard := none }) hHeld ?_; try go_frame
  refine tF 3 ({ dst := some 10, op := Go.Op.binOp Go.BinOp.sub 3 (Go.Operand.tmp 9) (Go.Operand.const (Go.Value.int Go.IntKind.i64 1)) 3, type := 3, pos := "whole.go:78", after := #[{ on := 2, ground := Go.Ground.data }], guard := none }) hHeld ?_; try go_frame
  refine tF 4 ({ dst := some 11, op := Go.Op.binOp Go.BinOp.mul 3 (Go.Operand.const (Go.Value.int Go.IntKind.i64 9)) (Go.Operand.tmp 10) 3, type := 3, pos := "whole.go:78", after := #[{ on := 3, ground := Go.Ground.data }], guard := none }) hHeld ?_; try go_frame
  refine tF 5 ({ dst := some 12, op := Go.Op.fieldAddr 118 (Go.Operand.tmp 1) 1, type := 0, pos := "whole.go:78", after := #[], guard := none }) hHeld ?_; try go_frame
  refine tF 6 ({ dst := some 13, op := Go.Op.load 116 (Go.Operand.tmp 12), type := 116, pos := "whole.go:78", after := #[{ on := 5, ground := Go.Ground.data }], guard := none }) hHeld ?_; try go_frame
  refine tF 7 ({ dst := some 14, op := Go.Op.fieldAddr 118 (Go.Operand.tmp 1) 1, type := 0, pos := "whole.go:78", after := #[], guard := none }) hHeld ?_; try go_frame
  refine tF 8 ({ dst := some 15, op := Go.Op.load 116 (Go.Operand.tmp 14), type := 116, pos := "whole.go:78", after := #[{ on := 7, ground := Go.Ground.data }], guard := none }) hHeld ?_; try go_frame
  refine tF 9 ({ dst := some 16, op := Go.Op.call { callee := Go.Callee.builtin Go.Builtin.len, args := #[Go.Operand.tmp 15], argTypes := #[116] }, type := 3, pos := "whole.go:78", after := #[{ on := 8, ground := Go.Ground.data }], guard := none }) hHeld ?_; try go_frame
  refine tF 10 ({ dst := some 17, op := Go.Op.binOp Go.BinOp.sub 3 (Go.Operand.tmp 16) (Go.Operand.const (Go.Value.int Go.IntKind.i64 1)) 3, type := 3, pos := "whole.go:78", after := #[{ on := 9, ground := Go.Ground.data }], guard := none }) hHeld ?_; try go_frame
  refine tF 11 ({ dst := some 18, op := Go.Op.indexAddr 116 (Go.Operand.tmp 13) (Go.Operand.tmp 17), type := 0, pos := "whole.go:78", after := #[{ on := 6, ground := Go.Ground.data }, { on := 10, ground := Go.Ground.data }], guard := none }) hHeld ?_; try go_frame
  refine tF 12 ({ dst := some 19, op := Go.Op.load 168 (Go.Operand.tmp 18), type := 168, pos := "whole.go:78", after := #[{ on := 11, ground := Go.Ground.data }], guard := none }) hHeld ?_; try go_frame
  refine tF 13 ({ dst := some 20, op := Go.Op.convert 168 3 (Go.Operand.tmp 19), type := 3, pos := "whole.go:78", after := #[{ on := 12, ground := Go.Ground.data }], guard := none }) hHeld ?_; try go_frame
  refine wpAnyF_one (i := 14) (by kernel_rfl) rfl (fun K hK => ?_)
  go_simp
  (go_at_call 96; (with_reducible refine (Itoa_c t _ (by omega) HT.out).mono ?_); rintro e w5 ⟨rfl, hb⟩; replace V1 := V1.keep hb; replace CA := CA.keep hb; replace HB := below_step HB hb; clear hb)
  refine hK.out _ _ (by exact ⟨V1.c0, V1.c1, CA.c⟩) (fun hHeld => ?_)
  clear hK K
  try go_frame
  refine tF 15 ({ dst := some 22, op := Go.Op.call { callee := Go.Callee.builtin Go.Builtin.len, args := #[Go.Operand.tmp 21], argTypes := #[9] }, type := 3, pos := "whole.go:78", after := #[{ on := 14, ground := Go.Ground.data }], guard := none }) hHeld ?_; try go_frame
  refine tF 16 ({ dst := some 23, op := Go.Op.binOp Go.BinOp.add 3 (Go.Operand.tmp 11) (Go.Operand.tmp 22) 3, type := 3, pos := "whole.go:78", after := #[{ on := 4, ground := Go.Ground.data }, { on := 15, ground := Go.Ground.data }], guard := none }) hHeld ?_; try go_frame
  refine tF 17 ({ dst := some 2, op := Go.Op.assign (Go.Operand.tmp 23), type := 3, pos := "whole.go:78", after := #[{ on := 16, ground := Go.Ground.data }, { on := 14, ground := Go.Ground.chain }, { on := 0, ground := Go.Ground.phase }, { on := 1, ground := Go.Ground.phase }, { on := 2, ground := Go.Ground.phase }, { on := 3, ground := Go.Ground.phase }, { on := 4, ground := Go.Ground.phase }, { on := 5, ground := Go.Ground.phase }, { on := 6, ground := Go.Ground.phase }, { on := 7, ground := Go.Ground.phase }, { on := 8, ground := Go.Ground.phase }, { on := 9, ground := Go.Ground.phase }, { on := 10, ground := Go.Ground.phase }, { on := 11, ground := Go.Ground.phase }, { on := 12, ground := Go.Ground.phase }, { on := 13, ground := Go.Ground.phase }, { on := 14, ground := Go.Ground.phase }, { on := 15, ground := Go.Ground.phase }, { on := 16, ground := Go.Ground.phase }], guard := none }) hHeld ?_; try go_frame
  refine wpAnyF_done (by kernel_rfl) ?_ _
  clear hHeld hWd
  have hq : IntKind.i64.wrap (IntKind.i64.wrap (9 * (m : Int)) + ((tS (t : Int)).size : Int)) = ((9 * m + (digs 10 t).length : Nat) : Int) := by
   have := digs_len_le (B := 10) (n := t) (k := 9) (by omega) (by show t < 1000000000; omega)
   rw [HTS.out, IntKind.wrap_i64, IntKind.wrap_i64]
   omega
  have HQ := Lib.hid hq
  clear hq
  go_wp2
  go_ret
  exact ⟨by rw [HDL.out, ← HQ.out] <;> rfl, HB⟩
end Go.Proofs.YtibdipfhfaeooaaGreatDoor


set_option linter.unusedVariables false
set_option linter.unusedSimpArgs false
namespace Go.Proofs.YtibdipfhfaeooaaGreatDoor
open Go.RowKit

theorem strCells_codes (s : ByteArray) : Lib.strCells s = ints .u8 (codes s) := by
 unfold Lib.strCells ints codes
 rw [List.map_map]
 rfl
section
variable {P : Program} {ops : Array Oper} {rest : List Oper} {o : Oper} {a : Act} {Q : Exit → Act → World → Prop}
/-- A string's bytes at the end of a row of the call's own. -/
theorem app_S {w0 W : World} (base : Nat) (hgd : o.guard = none) (s x : Operand) (t u e : TypeId)
  (ho : o.op = .call { callee := .builtin .append, args := #[s, x], argTypes := #[t, u] })
  (ht : P.underlying t = some (.slice e)) (hu : P.underlying u = some .string) (hinfo : (P.info? e).map (fun i => (i.zero, i.size, i.bytes)) = some (some (.int .u8 0), 1, 1))
  (v : Value) (l : List Int) (y : ByteArray) (HO : OwI W base e .u8 v l) (hs : a.eval s = v) (hx : a.eval x = .string y) (HB : Below base w0 W) (hbase : base ≤ W.heap.size) (hl : l.length + y.size ≤ 140737488355328)
  (h : ∀ v1 w1, OwI w1 base e .u8 v1 (l ++ codes y) → Below base w0 w1 → base ≤ w1.heap.size → wpList P ops Q rest (a.put o.dst v1) w1) :
  wpList P ops Q (o :: rest) a W := by
 obtain ⟨i0, hi, hzz⟩ := Option.map_eq_some_iff.1 hinfo
 simp only [Prod.mk.injEq] at hzz
 obtain ⟨hz0, hz1, hz2⟩ := hzz
 refine Lib.wpList_append_own_string (w := W) hgd s x t u ho base e i0 ht hu hi hz0 hz1 hz2 v l.length (ints .u8 l) hs HO y hx (by simp only [maxLen]; omega) hl hbase ?_
 intro v1 w1 hown hg _
 refine h v1 w1 ?_ (HB.grown hg hbase (ownsRow_base HO)) (Nat.le_trans hbase hg.size)
 unfold OwI
 rw [ints_append, List.length_append, codes_length, ← strCells_codes]
 exact hown
end
/-- The digits of a part that is not the highest, all nine. -/
theorem txN_pad {p m : Nat} (hp : p < 1000000000) (hm : 0 < m) : txN (p + 10 ^ 9 * m) = txN m ++ List.replicate (9 - (txN p).length) 48 ++ txN p ∧ (txN p).length ≤ 9 := by
  have hl := digs_len_le (B := 10) (n := p) (k := 9) (by omega) (by show p < 1000000000; omega)
  have hq : digs 10 p ++ List.replicate (9 - (digs 10 p).length) 0 ++ digs 10 m = digs 10 (p + 10 ^ 9 * m) := by
    refine digs_eq (by omega) (Dg.append (Dg.append (digs_dg (by omega) _) (Dg.zeros (by omega) _)) (digs_dg (by omega) _)) ?_ ?_
    · unfold Nm
      have := digs_nm (B := 10) (by omega) m
      unfold Nm at this
      have hne : digs 10 m ≠ [] := fun h => by have := digs_nil (B := 10) (by omega) h; omega
      rw [List.getLast?_append, Option.or_of_isSome (by rw [List.getLast?_isSome]; exact hne)]
      exact this
    · rw [V_append, V_append, digs_V (by omega), digs_V (by omega), V_zeros, List.length_append, List.length_replicate, show (digs 10 p).length + (9 - (digs 10 p).length) = 9 by omega]
      rw [Int.natCast_add, Int.natCast_mul, Int.natCast_pow]
      simp
  have e1 : txN (p + 10 ^ 9 * m) = ((digs 10 (p + 10 ^ 9 * m)).map (· + 48)).reverse := by unfold txN; rw [if_neg (by omega)]
  have e2 : txN m = ((digs 10 m).map (· + 48)).reverse := by unfold txN; rw [if_neg (by omega)]
  rw [e1, e2, ← hq]
  rcases Nat.eq_zero_or_pos p with rfl | h0
  · rw [digs_zero]
    exact ⟨by simp [txN], by simp [txN]⟩
  · have e3 : txN p = ((digs 10 p).map (· + 48)).reverse := by unfold txN; rw [if_neg (by omega)]
    have e4 : (txN p).length = (digs 10 p).length := by rw [e3]; simp
    rw [e4]
    refine ⟨?_, hl⟩
    rw [e3]
    simp
/-- What is written of the parts from k on. -/
def TX (a : List Int) (k : Nat) : List Int := if k < a.length then txN (hi9 a k) else []
theorem TX_step {a : List Int} (ha : Dg B9 a) (hn : Nm a) {k p : Nat} (hk : k < a.length) (hp : gd a k = p) :
  TX a k = TX a (k + 1) ++ List.replicate (if k + 1 < a.length then 9 - (txN p).length else 0) 48 ++ txN p ∧ p < 1000000000 ∧ (txN p).length ≤ 9 := by
 obtain ⟨p', hp1, hp2, hp3⟩ := hi9_step ha (i := k)
 have : p = p' := by omega
 subst this
 unfold TX
 rw [if_pos hk, hp3]
 by_cases h1 : k + 1 < a.length
 ·rw [if_pos h1, if_pos h1]
  have h2 := txN_pad hp2 (hi9_pos ha hn h1)
  exact ⟨h2.1, hp2, h2.2⟩
 ·rw [if_neg h1, if_neg h1, hi9_end (by omega)]
  refine ⟨by simp, hp2, (txN_pad (m := 1) hp2 (by omega)).2⟩
set_option maxRecDepth 100000 in
set_option maxHeartbeats 4000000 in
theorem hStr_c (z : Int) (v : Value) (w : World) (h : IsH w v z) (ht : Tb w) (sz : (dg B9 z).length ≤ 1000000000) :
  Calls Tryz.prog 84 #[v] w fun e w' => e = .returned (.string (tS z)) ∧ Below w.heap.size w w' := by
 obtain ⟨A, c, rfl, hs⟩ := h
 have hB : Below w.heap.size w w := Below.refl _ _
 have hc1 := hs.2.1
 have hc2 := hs.2.2
 by_cases hz : z = 0
 ·have e2 : dg B9 z = [] := by rw [hz]; exact digs_zero _
  have e3 : tS z = ({ data := #[48] } : ByteArray) := by rw [hz]; rfl
  rw [e3]
  rw [e2] at hs hc1 ⊢
  clear e2 e3 hz sz
  generalize decide (z < 0) = na
  go_enter Tryz.func84, Tryz.ntmps84
  go_wp2
  go_ret
  exact ⟨rfl, below_alloc hB _⟩
 ·have hn0 : 0 < z.natAbs := by omega
  have HD := Lib.hid (dg_dg B9two z)
  have HN := Lib.hid (dg_nm B9two z)
  have HT := Lib.hid ht
  have hne : 0 < (dg B9 z).length := by
   rcases Nat.eq_zero_or_pos (dg B9 z).length with h0 | h0
   ·have := digs_nil B9two (List.eq_nil_of_length_eq_zero h0); omega
   ·exact h0
  have HX : Hid (tx z = (if decide (z < 0) then [45] else []) ++ TX (dg B9 z) 0) := by
   show _ = _; unfold tx TX; rw [if_pos hne]; unfold hi9; rw [List.drop_zero, dg_V B9two]; simp
  have hnb2 : (((dg B9 z).length : Int) == 0) = false := beq_eq_false_iff_ne.2 (by omega)
  have HL := Lib.hid hs
  clear hz hs hn0 ht
  generalize dg B9 z = a at *
  generalize decide (z < 0) = na at *
  obtain ⟨top, htop⟩ : ∃ top, a.length = top + 1 := ⟨a.length - 1, by omega⟩
  have HTOP := Lib.hid htop
  rw [htop] at hnb2 sz hc1 ⊢
  clear htop hne
  have htw : IntKind.i64.wrap (top : Int) = (top : Int) := by rw [IntKind.wrap_i64]; omega
  cases na
  rotate_left
  ·go_enter Tryz.func84, Tryz.ntmps84
   go_upto_region 3 with fail
   generalize hW : w.alloc (Obj.cells #[Value.bool true, Value.slice A (top + 1) c] 118) = W
   have HS : Hid (S1 W w.heap.size true (.slice A (top + 1) c)) := by subst hW; constructor <;> simp [go_sem]
   have HBW : Below w.heap.size w W := by subst hW; exact below_alloc (Below.refl _ _) _
   have hWs : w.heap.size < W.heap.size := by subst hW; simp
   clear hW
   replace HL := Lib.hid (HL.out.below HBW)
   replace HT := Lib.hid (HT.out.below HBW)
   obtain ⟨s1, s2⟩ := HS.out
   go_upto_region 4 with fail
   clear s1 s2
   have HO0 : OwI (W.alloc (Obj.cells #[] 5)) W.heap.size 5 .u8 (.slice (some ⟨W.heap.size, 0, none⟩) 0 0) [] := by
    have h := OwI.made (w := W) (base := W.heap.size) (e := 5) (k := .u8) (z := .int .u8 0) (n := 0) (Nat.le_refl _) (by omega)
    have hmz : madeCells #[Value.int IntKind.u8 0] 0 = #[] := by apply Array.ext'; simp [toList_madeCells_one]
    rwa [hmz] at h
   have HB0 := below_alloc (Below.refl W.heap.size W) (Obj.cells #[] 5)
   have hb0 := HB0.size
   generalize hW2 : W.alloc (Obj.cells #[] 5) = W2 at *
   generalize hbw : W.heap.size = bw at *
   clear hW2
   obtain ⟨s1, s2⟩ := HS.out.keepB HB0 hWs
   have hLL0 : Hid ((([] : List Int).length + 1) * 1 ≤ 140737488355328) := by show _ ≤ _; simp
   go_wp2_with (at_builtin; refine app_I bw rfl _ _ 126 5 .u8 1 rfl Tryz.underlying126 info_u8 (by decide) _ [] _ HO0 rfl rfl HB0 hb0 hLL0.out ?_; intro v1 w1 HO1 HB1 hb1; obtain ⟨s1, s2⟩ := HS.out.keepB HB1 hWs)
   
   clear HO0 HB0 hb0 hLL0
   go_loopg [3, 4] (top + 1) (fun g out iv wr => ∃ (k : Nat) (l : List Int), iv = .int .i64 ((k : Int) - 1) ∧ g = k ∧ k ≤ (top + 1) ∧ OwI wr bw 5 .u8 out l ∧ Below bw W wr ∧ bw ≤ wr.heap.size ∧ l.length ≤ 1 + 9 * ((top + 1) - k) ∧ Hid (l = [45] ++ TX a k))
   case atStart => exact ⟨top + 1, _, by go_num, rfl, Nat.le_refl _, HO1, HB1, hb1, by simp, by show _ = _; unfold TX; rw [if_neg (by have := HTOP.out; omega)]; simp⟩
   case round =>
    clear HO1 HB1 hb1
    obtain ⟨k, l, rfl, hgk, hk, HO, HB, hb, hl, HI⟩ := hrel
    obtain ⟨s1, s2⟩ := HS.out.keepB HB hWs
    rcases Nat.eq_zero_or_pos k with rfl | hk0
    ·have HF : Hid (mkS l = tS z) := by show _ = _; rw [HI.out]; unfold tS; rw [HX.out]; rfl
     have hlen2 : 0 < l.length := by
      have h := congrArg ByteArray.size HF.out
      rw [mkS_size] at h
      have h2 : 0 < (tx z).length := by unfold tx; have := List.length_pos_iff.2 (txN_ne z.natAbs); rw [List.length_append]; omega
      rw [h]
      unfold tS
      rw [mkS_size]
      exact h2
     obtain ⟨A2, c2, rfl, hs2⟩ := HO.form
     have hcv := conv_str A2 c2 l wr hs2 hlen2
     clear hs2 HO
     go_wp2
     go_ret
     exact ⟨by rw [← HF.out]; rfl, HBW.trans (HB.mono (by omega))⟩
    ·obtain ⟨j, rfl⟩ : ∃ m, k = m + 1 := ⟨k - 1, by omega⟩
     obtain ⟨p, hp1, hp2, -⟩ := hi9_step HD.out (i := j)
     obtain ⟨ht1, -, ht3⟩ := TX_step HD.out HN.out (k := j) (by rw [HTOP.out]; omega) hp1
     have HLr := HL.out.belowB HB (by omega)
     obtain ⟨b, off, rfl, hbl, hcell⟩ := HLr.cell (j := j) (by rw [HTOP.out]; omega)
     rw [hp1] at hcell
     have HTX := Lib.hid ht1
     have hpw : IntKind.i64.wrap (p : Int) = (p : Int) := by rw [IntKind.wrap_i64]; omega
     have hj0 : (0 : Int) ≤ (j : Int) := by omega
     have hj1 : (j : Int) < (top : Int) + 1 := by omega
     have HTr := Lib.hid (HT.out.below (w' := wr) (HB.mono (by omega)))
     clear ht1 HLr hbl hp1
     have ed : Hid (codes (tS (p : Int)) = txN p) := by show _ = _; rw [codes_tS]; unfold tx; rw [if_neg (by omega)]; simp
     have hds : (tS (p : Int)).size = (txN p).length := by rw [← codes_length, ed.out]
     have hdp : 0 < (txN p).length := List.length_pos_iff.2 (txN_ne p)
     rw [show (((j + 1 : Nat) : Int) - 1) = (j : Int) by omega]
     go_wp2_with fail
     (with_reducible refine (Itoa_c p _ (by omega) HTr.out).mono ?_)
     rintro e w3 ⟨rfl, hb3⟩
     replace HO := HO.below hb3
     replace HB := HB.trans (hb3.mono hb)
     replace hb := HB.size
     rw [hbw] at hb
     clear hb3 HTr hcell s1 s2
     generalize tS (p : Int) = d at *
     rw [← hds] at ht3 hdp HTX
     clear hds
     obtain ⟨s1, s2⟩ := HS.out.keepB HB hWs
     go_wp2_with fail
     go_loopg [3, 6] (9 - d.size) (fun g out kv wr => ∃ (q : Nat) (l2 : List Int), kv = .int .i64 (q : Int) ∧ g = 9 - q ∧ d.size ≤ q ∧ q ≤ 9 ∧ (j < top ∨ q = d.size) ∧ OwI wr bw 5 .u8 out l2 ∧ Below bw W wr ∧ bw ≤ wr.heap.size ∧ l2.length = l.length + (q - d.size) ∧ Hid (l2 = [45] ++ TX a (j + 1) ++ List.replicate (q - d.size) 48))
     case atStart => exact ⟨d.size, l, rfl, rfl, Nat.le_refl _, ht3, .inr rfl, HO, HB, hb, by omega, by show _ = _; rw [Nat.sub_self, HI.out]; simp⟩
     case round =>
      clear HO HB hb s1 s2
      obtain ⟨q, l2, rfl, hgq, hq1, hq2, hqj, HO, HB, hb, hl2, HI2⟩ := hrel
      obtain ⟨s1, s2⟩ := HS.out.keepB HB hWs
      have hend : q = 9 ∨ (q < 9 ∧ ¬ j < top) ∨ (q < 9 ∧ j < top) := by omega
      rcases hend with hE | hE | hE
      rotate_right
      ·have hc1 : (q : Int) < 9 := by omega
       have hc2 : (j : Int) < (top : Int) := by omega
       have hLL : Hid ((l2.length + 1) * 1 ≤ 140737488355328) := by show _ ≤ _; omega
       have HI3 : Hid (l2 ++ [48] = [45] ++ TX a (j + 1) ++ List.replicate (q + 1 - d.size) 48) := by
        show _ = _
        rw [HI2.out, show q + 1 - d.size = (q - d.size) + 1 by omega, List.replicate_succ']
        simp only [List.append_assoc]
       go_wp2_with (at_builtin; refine app_I bw rfl _ _ 126 5 .u8 1 rfl Tryz.underlying126 info_u8 (by decide) _ l2 _ HO rfl rfl HB hb hLL.out ?_; intro v1 w1 HO1 HB1 hb1)
       go_roundg (9 - (q + 1))
       case measure => omega
       case rel => exact ⟨q + 1, _, by go_num, rfl, by omega, by omega, by omega, HO1, HB1, hb1, by rw [List.length_append, List.length_singleton]; omega, HI3⟩
      all_goals
       have hrep : q - d.size = (if j + 1 < a.length then 9 - d.size else 0) := by
        rw [HTOP.out]
        clear hgk hgq
        split <;> omega
       have HI3 : Hid (l2 ++ codes d = [45] ++ TX a j) := by
        show _ = _
        rw [HI2.out, HTX.out, ed.out, hrep]
        simp only [List.append_assoc]
       clear hrep
       have hLL : l2.length + d.size ≤ 140737488355328 := by omega
       have hl3 : l2.length + d.size ≤ 1 + 9 * ((top + 1) - j) := by omega
       have HLL := Lib.hid hLL
       have HL3 := Lib.hid hl3
       clear hLL hl3
      ·have hc1 : ¬ (q : Int) < 9 := by omega
       clear hE hqj
       go_wp2_with (at_builtin; refine app_S bw rfl _ _ 126 9 5 rfl Tryz.underlying126 Tryz.underlying9 info_u8 _ l2 d HO rfl rfl HB hb HLL.out ?_; intro v1 w1 HO1 HB1 hb1)
       go_roundg j
       case measure => omega
       case rel => exact ⟨j, _, by go_num, rfl, by omega, HO1, HB1, hb1, by rw [List.length_append, codes_length]; exact HL3.out, HI3⟩
      ·have hc1 : (q : Int) < 9 := by omega
       have hc2 : ¬ (j : Int) < (top : Int) := by omega
       clear hE hqj
       go_wp2_with (at_builtin; refine app_S bw rfl _ _ 126 9 5 rfl Tryz.underlying126 Tryz.underlying9 info_u8 _ l2 d HO rfl rfl HB hb HLL.out ?_; intro v1 w1 HO1 HB1 hb1)
       go_roundg j
       case measure => omega
       case rel => exact ⟨j, _, by go_num, rfl, by omega, HO1, HB1, hb1, by rw [List.length_append, codes_length]; exact HL3.out, HI3⟩
  
  
  ·go_enter Tryz.func84, Tryz.ntmps84
   go_upto_region 3 with fail
   generalize hW : w.alloc (Obj.cells #[Value.bool false, Value.slice A (top + 1) c] 118) = W
   have HS : Hid (S1 W w.heap.size false (.slice A (top + 1) c)) := by subst hW; constructor <;> simp [go_sem]
   have HBW : Below w.heap.size w W := by subst hW; exact below_alloc (Below.refl _ _) _
   have hWs : w.heap.size < W.heap.size := by subst hW; simp
   clear hW
   replace HL := Lib.hid (HL.out.below HBW)
   replace HT := Lib.hid (HT.out.below HBW)
   obtain ⟨s1, s2⟩ := HS.out
   go_upto_region 4 with fail
   clear s1 s2
   have HO0 : OwI (W.alloc (Obj.cells #[] 5)) W.heap.size 5 .u8 (.slice (some ⟨W.heap.size, 0, none⟩) 0 0) [] := by
    have h := OwI.made (w := W) (base := W.heap.size) (e := 5) (k := .u8) (z := .int .u8 0) (n := 0) (Nat.le_refl _) (by omega)
    have hmz : madeCells #[Value.int IntKind.u8 0] 0 = #[] := by apply Array.ext'; simp [toList_madeCells_one]
    rwa [hmz] at h
   have HB0 := below_alloc (Below.refl W.heap.size W) (Obj.cells #[] 5)
   have hb0 := HB0.size
   generalize hW2 : W.alloc (Obj.cells #[] 5) = W2 at *
   generalize hbw : W.heap.size = bw at *
   clear hW2
   obtain ⟨s1, s2⟩ := HS.out.keepB HB0 hWs
   have hLL0 : Hid ((([] : List Int).length + 1) * 1 ≤ 140737488355328) := by show _ ≤ _; simp
   have HO1 := HO0; have HB1 := HB0; have hb1 := hb0
   go_wp2_with fail
   clear HO0 HB0 hb0 hLL0
   go_loopg [3, 4] (top + 1) (fun g out iv wr => ∃ (k : Nat) (l : List Int), iv = .int .i64 ((k : Int) - 1) ∧ g = k ∧ k ≤ (top + 1) ∧ OwI wr bw 5 .u8 out l ∧ Below bw W wr ∧ bw ≤ wr.heap.size ∧ l.length ≤ 1 + 9 * ((top + 1) - k) ∧ Hid (l = [] ++ TX a k))
   case atStart => exact ⟨top + 1, _, by go_num, rfl, Nat.le_refl _, HO1, HB1, hb1, by simp, by show _ = _; unfold TX; rw [if_neg (by have := HTOP.out; omega)]; simp⟩
   case round =>
    clear HO1 HB1 hb1
    obtain ⟨k, l, rfl, hgk, hk, HO, HB, hb, hl, HI⟩ := hrel
    obtain ⟨s1, s2⟩ := HS.out.keepB HB hWs
    rcases Nat.eq_zero_or_pos k with rfl | hk0
    ·have HF : Hid (mkS l = tS z) := by show _ = _; rw [HI.out]; unfold tS; rw [HX.out]; rfl
     have hlen2 : 0 < l.length := by
      have h := congrArg ByteArray.size HF.out
      rw [mkS_size] at h
      have h2 : 0 < (tx z).length := by unfold tx; have := List.length_pos_iff.2 (txN_ne z.natAbs); rw [List.length_append]; omega
      rw [h]
      unfold tS
      rw [mkS_size]
      exact h2
     obtain ⟨A2, c2, rfl, hs2⟩ := HO.form
     have hcv := conv_str A2 c2 l wr hs2 hlen2
     clear hs2 HO
     go_wp2
     go_ret
     exact ⟨by rw [← HF.out]; rfl, HBW.trans (HB.mono (by omega))⟩
    ·obtain ⟨j, rfl⟩ : ∃ m, k = m + 1 := ⟨k - 1, by omega⟩
     obtain ⟨p, hp1, hp2, -⟩ := hi9_step HD.out (i := j)
     obtain ⟨ht1, -, ht3⟩ := TX_step HD.out HN.out (k := j) (by rw [HTOP.out]; omega) hp1
     have HLr := HL.out.belowB HB (by omega)
     obtain ⟨b, off, rfl, hbl, hcell⟩ := HLr.cell (j := j) (by rw [HTOP.out]; omega)
     rw [hp1] at hcell
     have HTX := Lib.hid ht1
     have hpw : IntKind.i64.wrap (p : Int) = (p : Int) := by rw [IntKind.wrap_i64]; omega
     have hj0 : (0 : Int) ≤ (j : Int) := by omega
     have hj1 : (j : Int) < (top : Int) + 1 := by omega
     have HTr := Lib.hid (HT.out.below (w' := wr) (HB.mono (by omega)))
     clear ht1 HLr hbl hp1
     have ed : Hid (codes (tS (p : Int)) = txN p) := by show _ = _; rw [codes_tS]; unfold tx; rw [if_neg (by omega)]; simp
     have hds : (tS (p : Int)).size = (txN p).length := by rw [← codes_length, ed.out]
     have hdp : 0 < (txN p).length := List.length_pos_iff.2 (txN_ne p)
     rw [show (((j + 1 : Nat) : Int) - 1) = (j : Int) by omega]
     go_wp2_with fail
     (with_reducible refine (Itoa_c p _ (by omega) HTr.out).mono ?_)
     rintro e w3 ⟨rfl, hb3⟩
     replace HO := HO.below hb3
     replace HB := HB.trans (hb3.mono hb)
     replace hb := HB.size
     rw [hbw] at hb
     clear hb3 HTr hcell s1 s2
     generalize tS (p : Int) = d at *
     rw [← hds] at ht3 hdp HTX
     clear hds
     obtain ⟨s1, s2⟩ := HS.out.keepB HB hWs
     go_wp2_with fail
     go_loopg [3, 6] (9 - d.size) (fun g out kv wr => ∃ (q : Nat) (l2 : List Int), kv = .int .i64 (q : Int) ∧ g = 9 - q ∧ d.size ≤ q ∧ q ≤ 9 ∧ (j < top ∨ q = d.size) ∧ OwI wr bw 5 .u8 out l2 ∧ Below bw W wr ∧ bw ≤ wr.heap.size ∧ l2.length = l.length + (q - d.size) ∧ Hid (l2 = [] ++ TX a (j + 1) ++ List.replicate (q - d.size) 48))
     case atStart => exact ⟨d.size, l, rfl, rfl, Nat.le_refl _, ht3, .inr rfl, HO, HB, hb, by omega, by show _ = _; rw [Nat.sub_self, HI.out]; simp⟩
     case round =>
      clear HO HB hb s1 s2
      obtain ⟨q, l2, rfl, hgq, hq1, hq2, hqj, HO, HB, hb, hl2, HI2⟩ := hrel
      obtain ⟨s1, s2⟩ := HS.out.keepB HB hWs
      have hend : q = 9 ∨ (q < 9 ∧ ¬ j < top) ∨ (q < 9 ∧ j < top) := by omega
      rcases hend with hE | hE | hE
      rotate_right
      ·have hc1 : (q : Int) < 9 := by omega
       have hc2 : (j : Int) < (top : Int) := by omega
       have hLL : Hid ((l2.length + 1) * 1 ≤ 140737488355328) := by show _ ≤ _; omega
       have HI3 : Hid (l2 ++ [48] = [] ++ TX a (j + 1) ++ List.replicate (q + 1 - d.size) 48) := by
        show _ = _
        rw [HI2.out, show q + 1 - d.size = (q - d.size) + 1 by omega, List.replicate_succ']
        simp only [List.append_assoc]
       go_wp2_with (at_builtin; refine app_I bw rfl _ _ 126 5 .u8 1 rfl Tryz.underlying126 info_u8 (by decide) _ l2 _ HO rfl rfl HB hb hLL.out ?_; intro v1 w1 HO1 HB1 hb1)
       go_roundg (9 - (q + 1))
       case measure => omega
       case rel => exact ⟨q + 1, _, by go_num, rfl, by omega, by omega, by omega, HO1, HB1, hb1, by rw [List.length_append, List.length_singleton]; omega, HI3⟩
      all_goals
       have hrep : q - d.size = (if j + 1 < a.length then 9 - d.size else 0) := by
        rw [HTOP.out]
        clear hgk hgq
        split <;> omega
       have HI3 : Hid (l2 ++ codes d = [] ++ TX a j) := by
        show _ = _
        rw [HI2.out, HTX.out, ed.out, hrep]
        simp only [List.append_assoc]
       clear hrep
       have hLL : l2.length + d.size ≤ 140737488355328 := by omega
       have hl3 : l2.length + d.size ≤ 1 + 9 * ((top + 1) - j) := by omega
       have HLL := Lib.hid hLL
       have HL3 := Lib.hid hl3
       clear hLL hl3
      ·have hc1 : ¬ (q : Int) < 9 := by omega
       clear hE hqj
       go_wp2_with (at_builtin; refine app_S bw rfl _ _ 126 9 5 rfl Tryz.underlying126 Tryz.underlying9 info_u8 _ l2 d HO rfl rfl HB hb HLL.out ?_; intro v1 w1 HO1 HB1 hb1)
       go_roundg j
       case measure => omega
       case rel => exact ⟨j, _, by go_num, rfl, by omega, HO1, HB1, hb1, by rw [List.length_append, codes_length]; exact HL3.out, HI3⟩
      ·have hc1 : (q : Int) < 9 := by omega
       have hc2 : ¬ (j : Int) < (top : Int) := by omega
       clear hE hqj
       go_wp2_with (at_builtin; refine app_S bw rfl _ _ 126 9 5 rfl Tryz.underlying126 Tryz.underlying9 info_u8 _ l2 d HO rfl rfl HB hb HLL.out ?_; intro v1 w1 HO1 HB1 hb1)
       go_roundg j
       case measure => omega
       case rel => exact ⟨j, _, by go_num, rfl, by omega, HO1, HB1, hb1, by rw [List.length_append, codes_length]; exact HL3.out, HI3⟩
end Go.Proofs.YtibdipfhfaeooaaGreatDoor


set_option linter.unusedVariables false
set_option linter.unusedSimpArgs false
namespace Go.Proofs.YtibdipfhfaeooaaGreatDoor
open Go.RowKit Go.Shelf Go.Maps

section
variable {A B : World} {row : Option Nat}
theorem ne_of_cell {b o : Nat} {v : Value} (h : A.cell? ⟨b, o, none⟩ = some v) (hr : ∀ r, row = some r → ∃ o : Obj, A.heap[r]? = some o ∧ o.isCells = false) : some b ≠ row := by
 intro e
 obtain ⟨o1, h1, h2⟩ := hr b e.symm
 obtain ⟨o2, h3, h4⟩ := cells_of_cell h
 rw [h1] at h3
 cases h3
 rw [h2] at h4
 cases h4
theorem Kp.own (hg : A.grownBy B row) (hr : ∀ r, row = some r → ∃ o : Obj, A.heap[r]? = some o ∧ o.isCells = false) : Kp A B := by
 intro k Ad c l hs
 refine ⟨⟨hs.1.1, fun hn => ?_⟩, hs.2⟩
 obtain ⟨b, off, e, hl, hc⟩ := hs.1.2 hn
 exact ⟨b, off, e, Nat.lt_of_lt_of_le hl hg.size, fun j u hu => cell_kept (hc j u hu) hg hr⟩
theorem VX.grown {Bs : Nat} {k : IntKind} {b : Nat} {nv : Bool} {Ad : Option Addr} {n c : Nat} {z : Int} (h : VX Bs k A b nv Ad n c z) (hg : A.grownBy B row) (hne : some b ≠ row) (hk : Kp A B) : VX Bs k B b nv Ad n c z :=
 ⟨(World.cell?_of_block (hg.block b h.lt hne)).trans h.c0, (World.cell?_of_block (hg.block b h.lt hne)).trans h.c1, (World.frozen?_of_block (hg.block b h.lt hne)).trans h.f0, (World.frozen?_of_block (hg.block b h.lt hne)).trans h.f1, Nat.lt_of_lt_of_le h.lt hg.size, hk.isZ h.iz.out⟩
theorem VM.grown {b : Nat} {md : Int} {Ad : Option Addr} {n c : Nat} {A' : Option Addr} {n' c' : Nat} {M : Mp} (h : VM A b md Ad n c A' n' c' M) (hg : A.grownBy B row) (hne : some b ≠ row) (hk : Kp A B) : VM B b md Ad n c A' n' c' M :=
 ⟨(World.cell?_of_block (hg.block b h.lt hne)).trans h.c0, (World.cell?_of_block (hg.block b h.lt hne)).trans h.c1, (World.cell?_of_block (hg.block b h.lt hne)).trans h.c2, Nat.lt_of_lt_of_le h.lt hg.size, h.im.out.kp hk⟩
theorem OwZ.grown {Bs : Nat} {k : IntKind} {base : Nat} {e : TypeId} {v : Value} {l : List Int} (h : OwZ Bs k A base e v l) (hg : A.grownBy B row) (hne : v.ownBlock = none ∨ v.ownBlock ≠ row) (hk : Kp A B) : OwZ Bs k B base e v l := by
 obtain ⟨xs, ⟨h1, h2⟩, h3⟩ := h
 refine ⟨xs, ⟨h1.kept hg hne, ?_⟩, h3.kp hk⟩
 intro g cur e' fz hgo hcur
 have hlt := (h1.lt g hgo).2
 have hn : some g ≠ row := by
  rcases hne with h | h
  ·rw [h] at hgo; cases hgo
  ·rw [hgo] at h; exact h
 rw [hg.block g hlt hn] at hcur
 exact h2 g cur e' fz hgo hcur
theorem OwZ.row_ge {Bs : Nat} {k : IntKind} {base : Nat} {e : TypeId} {v : Value} {l : List Int} (h : OwZ Bs k A base e v l) {r : Nat} (hr : r < base) : v.ownBlock = none ∨ v.ownBlock ≠ some r := by
 obtain ⟨xs, ⟨h1, -⟩, -⟩ := h
 cases ho : v.ownBlock with
 | none => exact .inl rfl
 | some g =>
  have := (h1.lt g ho).1
  exact .inr (by intro he; injection he with he; omega)
theorem OwZ.row_cells {Bs : Nat} {k : IntKind} {base : Nat} {e : TypeId} {v : Value} {l : List Int} (h : OwZ Bs k A base e v l) (hr : ∀ r, row = some r → ∃ o : Obj, A.heap[r]? = some o ∧ o.isCells = false) : v.ownBlock = none ∨ v.ownBlock ≠ row := by
 obtain ⟨xs, ⟨h1, -⟩, -⟩ := h
 cases ho : v.ownBlock with
 | none => exact .inl rfl
 | some g =>
  right
  intro he
  obtain ⟨cur, e1, fz, hc⟩ := own_cells h1 g ho
  obtain ⟨o, h3, h4⟩ := hr g he.symm
  rw [hc] at h3
  cases h3
  cases h4
/-- A store into a box that holds no whole number. -/
theorem Kp.set {b : Nat} {t : TypeId} {u : Value} (h : Boxed A b t u) (hu : NoInt u) (x : Value) : Kp A (A.setCell ⟨b, 0, none⟩ x) := fun k Ad c l hs => hs.set h.cell (fun n => hu k n)
end
theorem boxed_below {A B : World} {b base : Nat} {t : TypeId} {v : Value} (h : Boxed A b t v) (hb : Below base A B) (hl : b < base) : Boxed B b t v := (hb.block b hl).trans h

section
variable {F : Fence} {nF : Nat} {P : Program} {ops : Array Oper} {rest : List Oper} {o : Oper} {a : Act} {Q : Exit → Act → World → Prop}
/-- One number more at the end of a list of the call's own, in a round. -/
theorem appIn_Z {B : Nat} {k : IntKind} {W : World} (base : Nat) (hgd : o.guard = none) (s x : Operand) (t e : TypeId) (bytes : Nat)
  (ho : o.op = .call { callee := .builtin .append, args := #[s, x], argTypes := #[t, t] })
  (ht : P.underlying t = some (.slice e)) (hinfo : (P.info? e).map (fun i => (i.zero, i.size, i.bytes)) = some (some (.agg #[.bool false, .slice none 0 0]), 2, bytes)) (hb0 : 0 < bytes)
  (v : Value) (l : List Int) (nv : Bool) (A : Option Addr) (n c : Nat) (y : Int) (HO : OwZ B k W base e v l) (hy : IsZ B k W (.agg #[.bool nv, .slice A n c]) y) (hs : a.eval s = v) (hx : a.eval x = .slice (some ⟨W.heap.size, 0, none⟩) 1 1) (hbase : base ≤ W.heap.size) (hl : (l.length + 1) * bytes ≤ 140737488355328)
  (h : ∀ v1 w1, OwZ B k w1 base e v1 (l ++ [y]) → Below base W w1 → Kp W w1 → KeepsOthers W w1 → base ≤ w1.heap.size → wpListIn F nF P ops Q rest (a.put o.dst v1) w1) :
  wpListIn F nF P ops Q (o :: rest) a (W.alloc (.cells #[.bool nv, .slice A n c] e)) := by
 obtain ⟨i0, hi, hzz⟩ := Option.map_eq_some_iff.1 hinfo
 simp only [Prod.mk.injEq] at hzz
 obtain ⟨hz0, hz1, hz2⟩ := hzz
 obtain ⟨xs, hP, hR⟩ := HO
 have hlen : l.length + 1 ≤ 140737488355328 := Nat.le_trans (Nat.le_mul_of_pos_right _ hb0) hl
 have hba : Below W.heap.size W (W.alloc (.cells #[.bool nv, .slice A n c] e)) := below_alloc (Below.refl _ _) _
 have hP2 := hP.below hba
 obtain ⟨v1, w1, hr, hown, hg⟩ := run_append_P (P := P) (W.alloc (.cells #[.bool nv, .slice A n c] e)) base t o.type e i0 (.agg #[.bool false, .slice none 0 0]) 2 bytes ht hi hz0 hz1 hz2 rfl (by omega) (by
   intro u hu
   simp [Value.cells] at hu
   rcases hu with rfl | rfl <;> exact fun _ _ h => by cases h) v l.length xs hP2 ⟨W.heap.size, 0, none⟩ 1 1 [.bool nv, .slice A n c] rfl (by
   intro j u hj
   match j, hj with
   | 0, hj => simp at hj; subst hj; simp [Addr.add, go_sem]
   | 1, hj => simp at hj; subst hj; simp [Addr.add, go_sem]) (by simp [Value.oneCell']) (by
   intro u hu
   simp at hu
   rcases hu with rfl | rfl <;> exact fun _ _ h => by cases h) (by omega) (by simp only [maxLen]; omega) hl (by simp; omega)
 have hk : Kp W w1 := (Kp.of hba).trans (Kp.grown hg hP2.2 (own_cells hP2.1))
 have hko : KeepsOthers W w1 := (KeepsOthers.alloc _ _).trans (KeepsOthers.of_grownBy hg (fun j ob e hob => by
  obtain ⟨cur, e1, fz, hc⟩ := own_cells hP2.1 j e
  rw [hc] at hob
  cases hob
  rfl))
 refine wpListIn_plain hgd fun K' hK' => ?_
 unfold Oper.wpIn
 refine ⟨by simp [Oper.about, ho, resolve, Target.leads, Sem.run_pure], ?_⟩
 rw [Oper.semAt_plain F _ _ (by rw [ho]; intro c hc'; cases hc')]
 simp [execOp, ho, resolve, invoke, builtin, hs, hx, hr, Result.andThen]
 exact hK' _ _ (h v1 w1 ⟨xs ++ [.bool nv, .slice A n c], by rw [List.length_append]; exact hown, (hR.kp hk).snoc hP.1.1 (hk.isZ hy)⟩ (((Below.refl base W).alloc hbase _).grown hg (by simp; omega) (ownsRow_base hP2.1)) hk hko (by have := hg.size; simp at this; omega))
end

/-- What a number's string reads as, as a key. -/
def kL (z : Int) : Lit := .string (tS z).data.toList
theorem kL_inj {a b : Int} (h : kL a = kL b) : a = b := by
 unfold kL at h
 injection h with h
 apply tS_inj
 have e : (tS a).data = (tS b).data := by rw [← Array.toList_inj]; exact h
 cases ha : tS a
 cases hb : tS b
 rw [ha, hb] at e
 simp only at e
 rw [e]
theorem kL_key (z : Int) : WideAt.IsKeyLit (kL z) := trivial
theorem snocInd {P : List Int → Prop} (h0 : P []) (h1 : ∀ l z, P l → P (l ++ [z])) (l : List Int) : P l := by
 rw [← List.reverse_reverse l]
 generalize l.reverse = m
 induction m with
 | nil => exact h0
 | cons a t ih => rw [List.reverse_cons]; exact h1 _ _ ih
/-- The table of the numbers met: each with its place. -/
def metF (s : DataW Unit × Nat) (z : Int) : DataW Unit × Nat := (s.1.put (kL z) (.lit (.int .i64 (s.2 : Int))), s.2 + 1)
def metD (l : List Int) : DataW Unit := (l.foldl metF (.map [], 0)).1
theorem met_len (l : List Int) : (l.foldl metF (.map [], 0)).2 = l.length := by
 suffices h : ∀ (l : List Int) (s : DataW Unit × Nat), (l.foldl metF s).2 = s.2 + l.length by
  rw [h]; simp
 intro l
 induction l with
 | nil => intro s; rfl
 | cons a t ih => intro s; rw [List.foldl_cons, ih, List.length_cons]; unfold metF; simp only; omega
theorem metD_snoc (l : List Int) (z : Int) : metD (l ++ [z]) = (metD l).put (kL z) (.lit (.int .i64 (l.length : Int))) := by
 unfold metD
 rw [List.foldl_append]
 show (l.foldl metF (.map [], 0)).1.put (kL z) (.lit (.int .i64 ((l.foldl metF (.map [], 0)).2 : Int))) = _
 rw [met_len]
theorem metD_map (l : List Int) : IsMap (metD l) := by
 refine snocInd (P := fun l => IsMap (metD l)) ⟨[], rfl⟩ (fun l z ih => ?_) l
 rw [metD_snoc]; exact ih.put _ _
theorem met_has (l : List Int) (z : Int) : has (metD l) (kL z) = decide (z ∈ l) := by
 refine snocInd (P := fun l => has (metD l) (kL z) = decide (z ∈ l)) rfl (fun l y ih => ?_) l
 rw [metD_snoc]
 by_cases h : z = y
 ·subst h
  rw [has_put_same (metD_map l) (kL_key _)]
  simp
 ·rw [has_put_other (fun e => h (kL_inj e)), ih]
  simp [h]
theorem met_at (l : List Int) (hd : l.Nodup) (z : Int) (hz : z ∈ l) (zd : DataW Unit) : (metD l).atKey (kL z) zd = .lit (.int .i64 (l.idxOf z : Int)) := by
 revert hd hz
 refine snocInd (P := fun l => l.Nodup → z ∈ l → (metD l).atKey (kL z) zd = .lit (.int .i64 (l.idxOf z : Int))) (fun _ h => by cases h) (fun l y ih hd hz => ?_) l
 rw [metD_snoc]
 rw [List.nodup_append] at hd
 obtain ⟨hd1, -, hd3⟩ := hd
 by_cases h : z = y
 ·subst h
  rw [atKey_put_same (metD_map l) (kL_key _)]
  have hn : z ∉ l := fun h => hd3 z h z (by simp) rfl
  rw [List.idxOf_append, if_neg hn]
  simp
 ·have hl : z ∈ l := by simpa [h] using hz
  rw [atKey_put_other (fun e => h (kL_inj e)), ih hd1 hl, List.idxOf_append, if_pos hl]
/-- What follow returns: the error, the steps, the cycle; f rounds are left. -/
def flwA (M : Mp) : Nat → List Int → Int → Int × Nat × List Int
 | 0, _, _ => (4, 0, [])
 | f + 1, pre, z =>
  if 2000 < dl z then (3, 0, [])
  else if z ∈ pre then (0, pre.idxOf z, turnL (pre.drop (pre.idxOf z)))
  else flwA M f (pre ++ [z]) (stepZ M z)
end Go.Proofs.YtibdipfhfaeooaaGreatDoor


set_option linter.unusedVariables false
set_option linter.unusedSimpArgs false
namespace Go.Proofs.YtibdipfhfaeooaaGreatDoor
open Go.RowKit Go.Shelf Go.Maps

attribute [local go_sem] Oper.semAt_some
theorem itZ_len {M : Mp} (hok : okM M) (z : Int) (k : Nat) : (dg B9 (itZ M z k)).length ≤ (dg B9 z).length + 4 * k := by
 induction k with
 | zero => exact Nat.le_refl _
 | succ k ih => have := step_len hok (itZ M z k); unfold itZ; omega
section
variable (w : World) (b5 b6 b7 b8 b9 b10 b11 bM D most : Nat) (M : Mp) (z : Int)
/-- What holds between two rounds: the call's own variables, the list and the table of the numbers met. -/
def FI (k : Nat) (W : World) : Prop :=
 Boxed W b5 3 (.int .i64 most) ∧ Boxed W b6 3 (.int .i64 0) ∧ Boxed W b7 123 (.slice none 0 0) ∧ Boxed W b8 31 (.int .i64 0) ∧ Boxed W b9 171 (.map (some bM)) ∧ Boxed W b11 3 (.int .i64 (-1)) ∧
 (∃ lv pre, Boxed W b10 123 lv ∧ OwZ B9 .u32 W D 118 lv pre ∧ W.ownsMap Tryz.prog 9 (plainElem (H := Unit) Tryz.prog 3) bM k (metD pre) ∧ pre.length = k ∧ k ≤ most + 1 ∧ pre.Nodup ∧ flwA M (most + 1) [] z = flwA M (most + 1 - k) pre (itZ M z k)) ∧
 Below w.heap.size w W ∧ D ≤ W.heap.size
/-- What holds when a round has left. -/
def FX (c : Code) (W : World) : Prop :=
  Below w.heap.size w W ∧
  ((c = .ret ∧ ∃ err, Boxed W b6 3 (.int .i64 0) ∧ Boxed W b7 123 (.slice none 0 0) ∧ Boxed W b8 31 (.int .i64 err) ∧ flwA M (most + 1) [] z = (err, 0, [])) ∨
   (c = .exit 0 ∧ ∃ (i : Nat) (lv : Value) (pre : List Int), Boxed W b6 3 (.int .i64 0) ∧ Boxed W b7 123 (.slice none 0 0) ∧ Boxed W b8 31 (.int .i64 0) ∧ Boxed W b11 3 (.int .i64 i) ∧ Boxed W b10 123 lv ∧
     OwZ B9 .u32 W D 118 lv pre ∧ i < pre.length ∧ pre.length ≤ most + 1 ∧ flwA M (most + 1) [] z = (0, i, turnL (pre.drop i))))
variable {w b5 b6 b7 b8 b9 b10 b11 bM D most M z}
theorem FI.kept {bn k : Nat} {A B : World} {row : Option Nat} (h : FI w b5 b6 b7 b8 b9 b10 b11 bM D most M z k A) (hg : A.grownBy B row) (hk : Kp A B) (hD : bn < D) (hw : w.heap.size ≤ bn)
  (h5 : b5 < bn) (h6 : b6 < bn) (h7 : b7 < bn) (h8 : b8 < bn) (h9 : b9 < bn) (h10 : b10 < bn) (h11 : b11 < bn) (hM : bM < bn)
  (hr : ∀ r, row = some r → r = bn ∨ (D ≤ r ∧ ∃ o : Obj, A.heap[r]? = some o ∧ o.isCells = false)) : FI w b5 b6 b7 b8 b9 b10 b11 bM D most M z k B := by
 have ne : ∀ b, b < bn → some b ≠ row := fun b hb e => by
  rcases hr b e.symm with h | ⟨h, -⟩ <;> omega
 have wr : ∀ r, row = some r → w.heap.size ≤ r := fun r e => by
  rcases hr r e with h | ⟨h, -⟩ <;> omega
 obtain ⟨c5, c6, c7, c8, c9, c11, ⟨lv, pre, c10, ho, hm, h1, h2, h3, h4⟩, hb, hsz⟩ := h
 have ro : lv.ownBlock = none ∨ lv.ownBlock ≠ row := by
  cases hrow : row with
  | none => cases lv.ownBlock <;> simp
  | some r =>
   rcases hr r hrow with rfl | ⟨-, ho2⟩
   ·exact ho.row_ge hD
   ·exact ho.row_cells (row := some r) (fun r' e => by cases e; exact ho2)
 exact ⟨c5.kept hg (ne _ h5), c6.kept hg (ne _ h6), c7.kept hg (ne _ h7), c8.kept hg (ne _ h8), c9.kept hg (ne _ h9), c11.kept hg (ne _ h11),
  ⟨lv, pre, c10.kept hg (ne _ h10), ho.grown hg ro hk, hm.kept hg (ne _ hM), h1, h2, h3, h4⟩, hb.grown hg hb.size wr, Nat.le_trans hsz hg.size⟩
theorem FI.below {k : Nat} {A B : World} (h : FI w b5 b6 b7 b8 b9 b10 b11 bM D most M z k A) (hb : Below A.heap.size A B) : FI w b5 b6 b7 b8 b9 b10 b11 bM D most M z k B := by
 have hg : A.grownBy B none := ⟨hb.os, hb.tape, hb.output, hb.size, fun i hi _ => hb.block i hi⟩
 obtain ⟨c5, c6, c7, c8, c9, c11, ⟨lv, pre, c10, ho, hm, h1, h2, h3, h4⟩, hb', hsz⟩ := h
 exact ⟨c5.kept hg (by simp), c6.kept hg (by simp), c7.kept hg (by simp), c8.kept hg (by simp), c9.kept hg (by simp), c11.kept hg (by simp),
  ⟨lv, pre, c10.kept hg (by simp), ho.below hb, hm.kept hg (by simp), h1, h2, h3, h4⟩, below_step hb' hb, Nat.le_trans hsz hb.size⟩
theorem FX.kept {c : Code} {A B : World} {row : Option Nat} (h : FX w b6 b7 b8 b10 b11 D most M z c A) (hg : A.grownBy B row) (hw : w.heap.size ≤ D)
  (hr : ∀ r, row = some r → D ≤ r ∧ ∃ o : Obj, A.heap[r]? = some o ∧ o.isCells = false) : FX w b6 b7 b8 b10 b11 D most M z c B := by
 have hr2 := fun r e => (hr r e).2
 have hk := Kp.own hg hr2
 have bk : ∀ {b t v}, Boxed A b t v → Boxed B b t v := fun hb => hb.kept hg (ne_of_cell hb.cell hr2)
 obtain ⟨hb, h⟩ := h
 refine ⟨hb.grown hg hb.size (fun r e => by have := (hr r e).1; omega), ?_⟩
 rcases h with ⟨h1, err, h2, h3, h4, h5⟩ | ⟨h1, i, lv, pre, h2, h3, h4, h5, h6, h7, h8⟩
 ·exact .inl ⟨h1, err, bk h2, bk h3, bk h4, h5⟩
 ·exact .inr ⟨h1, i, lv, pre, bk h2, bk h3, bk h4, bk h5, bk h6, h7.grown hg (h7.row_cells hr2) hk, h8⟩
theorem RW.kept {bm bn k : Nat} {x : XZ} {A B : World} {row : Option Nat} (h : RW M z bm bn k x A) (hg : A.grownBy B row) (hk : Kp A B) (hm : some bm ≠ row) (hn : some bn ≠ row) : RW M z bm bn k x B := by
 obtain ⟨⟨md, A1, n, c, A2, n', c', h1⟩, h2⟩ := h
 exact ⟨⟨md, A1, n, c, A2, n', c', h1.grown hg hm hk⟩, h2.grown hg hn hk⟩
theorem RW.own {bm bn k : Nat} {x : XZ} {A B : World} {row : Option Nat} (h : RW M z bm bn k x A) (hg : A.grownBy B row) (hr : ∀ r, row = some r → ∃ o : Obj, A.heap[r]? = some o ∧ o.isCells = false) : RW M z bm bn k x B := by
 have h' := h
 obtain ⟨⟨md, A1, n, c, A2, n', c', h1⟩, h2⟩ := h'
 exact h.kept hg (Kp.own hg hr) (ne_of_cell h1.c0 hr) (ne_of_cell h2.c0 hr)
theorem RW.below {bm bn k : Nat} {x : XZ} {A B : World} (h : RW M z bm bn k x A) (hb : Below A.heap.size A B) : RW M z bm bn k x B :=
 h.kept (row := none) ⟨hb.os, hb.tape, hb.output, hb.size, fun i hi _ => hb.block i hi⟩ (Kp.of hb) (by simp) (by simp)
end
theorem World.ownsMap_of_made {H : Type} {P : Program} {k : TypeId} {R : Value → Option (DataW H × List MemPlace)} {A B : World} {b n : Nat} (h : A.heap[b]? = some (.map #[] 0)) (hb : Below n A B) (hl : b < n) : B.ownsMap P k R b 0 (.map []) := by
 exact ⟨#[], 0, (hb.block b hl).trans h, ⟨by simp, MapKept.stamped_empty 0, by simp⟩, Nat.le_refl _, rfl⟩
theorem st3 {W : World} {n b6 b7 b8 : Nat} {t6 t7 t8 : TypeId} {v6 v7 v8 : Value} {w : World} (c6 : Boxed W b6 t6 v6) (c7 : Boxed W b7 t7 v7) (c8 : Boxed W b8 t8 v8) (h67 : b6 ≠ b7) (h68 : b6 ≠ b8) (h78 : b7 ≠ b8) (x6 x7 x8 : Value) (hb : Below n w W) (n6 : n ≤ b6) (n7 : n ≤ b7) (n8 : n ≤ b8) :
  Boxed (((W.setCell ⟨b6, 0, none⟩ x6).setCell ⟨b7, 0, none⟩ x7).setCell ⟨b8, 0, none⟩ x8) b6 t6 x6 ∧ Boxed (((W.setCell ⟨b6, 0, none⟩ x6).setCell ⟨b7, 0, none⟩ x7).setCell ⟨b8, 0, none⟩ x8) b7 t7 x7 ∧ Boxed (((W.setCell ⟨b6, 0, none⟩ x6).setCell ⟨b7, 0, none⟩ x7).setCell ⟨b8, 0, none⟩ x8) b8 t8 x8 ∧
  KeepsOthers W (((W.setCell ⟨b6, 0, none⟩ x6).setCell ⟨b7, 0, none⟩ x7).setCell ⟨b8, 0, none⟩ x8) ∧ Below n w (((W.setCell ⟨b6, 0, none⟩ x6).setCell ⟨b7, 0, none⟩ x7).setCell ⟨b8, 0, none⟩ x8) := by
 have d6 := ((c6.set x6).other h67 x7).other h68 x8
 have d7 := ((c7.other (Ne.symm h67) x6).set x7).other h78 x8
 have d8 := ((c8.other (Ne.symm h68) x6).other (Ne.symm h78) x7).set x8
 exact ⟨d6, d7, d8, ((KeepsOthers.setCell _ _ _).trans (KeepsOthers.setCell _ _ _)).trans (KeepsOthers.setCell _ _ _), ((hb.setCell (p := ⟨b6, 0, none⟩) n6 x6).setCell (p := ⟨b7, 0, none⟩) n7 x7).setCell (p := ⟨b8, 0, none⟩) n8 x8⟩
theorem IsZ.set64 {A : World} {b : Nat} {t : TypeId} {y : Int} {v : Value} {z : Int} (h : IsZ B9 .u32 A v z) (hb : Boxed A b t (.int .i64 y)) (x : Value) : IsZ B9 .u32 (A.setCell ⟨b, 0, none⟩ x) v z := by
 obtain ⟨Ad, c, e, hs⟩ := h
 exact ⟨Ad, c, e, hs.set hb.cell (fun n h => by cases h)⟩
/-- A store into a variable that holds an int leaves a list of the call's own. -/
theorem OwZ.set64 {A : World} {b base : Nat} {t e : TypeId} {y : Int} {v : Value} {l : List Int} (h : OwZ B9 .u32 A base e v l) (hb : Boxed A b t (.int .i64 y)) (hl : b < base) (x : Value) : OwZ B9 .u32 (A.setCell ⟨b, 0, none⟩ x) base e v l := by
 have hg := grownBy_setCell' A b x
 have hne := h.row_ge hl
 obtain ⟨xs, ⟨h1, h2⟩, h3⟩ := h
 refine ⟨xs, ⟨h1.kept hg hne, ?_⟩, ?_⟩
 ·intro g cur e' fz hgo hcur
  have hlt := (h1.lt g hgo).2
  have hn : some g ≠ some b := by
   rcases hne with h | h
   ·rw [h] at hgo; cases hgo
   ·rw [hgo] at h; exact h
  rw [hg.block g hlt hn] at hcur
  exact h2 g cur e' fz hgo hcur
 ·intro j z hj
  obtain ⟨nv, A', n, c, h5, h6, h7⟩ := h3 j z hj
  exact ⟨nv, A', n, c, h5, h6, h7.set64 hb x⟩
theorem ownsMap_at {H : Type} {P : Program} {k : TypeId} {R : Value → Option (DataW H × List MemPlace)} {A B : World} {b n : Nat} {D : DataW H} (h : A.ownsMap P k R b n D) (e : B.heap[b]? = A.heap[b]?) : B.ownsMap P k R b n D := by
 obtain ⟨es, ck, h1, h2⟩ := h
 exact ⟨es, ck, e.trans h1, h2⟩
theorem RW.keepB {M : Mp} {z : Int} {bm bn k base : Nat} {x : XZ} {A B : World} (h : RW M z bm bn k x A) (hb : Below base A B) (hm : bm < base) (hn : bn < base) (hk : Kp A B) : RW M z bm bn k x B := by
 obtain ⟨⟨md, A1, n, c, A2, n', c', h1⟩, h2⟩ := h
 exact ⟨⟨md, A1, n, c, A2, n', c', h1.keepB hb hm hk⟩, h2.keepB hb hn hk⟩
theorem KeepsFrom.below {D : Nat} {A B : World} (h : Below A.heap.size A B) : KeepsFrom D A B := ⟨h.size, fun k o _ hk _ => (h.block k (Array.getElem?_eq_some_iff.1 hk).1).trans hk⟩
theorem dl_dlN (z : Int) : dl z = dlN z.natAbs := by
 unfold dl dlN txN
 by_cases h : z = 0
 ·subst h; rfl
 ·rw [if_neg h, if_neg (by omega)]; simp
theorem zeroE_ (w : World) : (zeroValue 3).run Tryz.prog w = .ok (.int .i64 0) w := by kernel_rfl
/-- The blocks that the call lays ahead of the walk. -/
theorem startF (w : World) (o0 o1 o2 o3 o4 o5 o6 o7 o8 o9 : Obj) (W : World) (hW : ((((((((((w.alloc o0).alloc o1).alloc o2).alloc o3).alloc o4).alloc o5).alloc o6).alloc o7).alloc o8).alloc o9) = W) :
  W.heap[w.heap.size + 1 + 1]? = some o2 ∧ W.heap[w.heap.size + 1 + 1 + 1]? = some o3 ∧ W.heap[w.heap.size + 1 + 1 + 1 + 1]? = some o4 ∧ W.heap[w.heap.size + 1 + 1 + 1 + 1 + 1]? = some o5 ∧ W.heap[w.heap.size + 1 + 1 + 1 + 1 + 1 + 1]? = some o6 ∧
  W.heap[w.heap.size + 1 + 1 + 1 + 1 + 1 + 1 + 1]? = some o7 ∧ W.heap[w.heap.size + 1 + 1 + 1 + 1 + 1 + 1 + 1 + 1]? = some o8 ∧ W.heap[w.heap.size + 1 + 1 + 1 + 1 + 1 + 1 + 1 + 1 + 1]? = some o9 ∧ W.heap.size = w.heap.size + 10 ∧ Below w.heap.size w W := by
 subst hW
 have nw : ∀ (V : World) (o : Obj), (V.alloc o).heap[V.heap.size]? = some o := fun V o => heap_alloc_new V _
 have od : ∀ (V : World) (o : Obj) (k : Nat), k < V.heap.size → (V.alloc o).heap[k]? = V.heap[k]? := fun V o k h => Below.heap_alloc V _ k h
 refine ⟨?_, ?_, ?_, ?_, ?_, ?_, ?_, ?_, ?_, ?_⟩
 ·exact ((od (((((((((w.alloc o0).alloc o1).alloc o2).alloc o3).alloc o4).alloc o5).alloc o6).alloc o7).alloc o8) o9 _ (by simp only [World.size_alloc]; omega)).trans ((od ((((((((w.alloc o0).alloc o1).alloc o2).alloc o3).alloc o4).alloc o5).alloc o6).alloc o7) o8 _ (by simp only [World.size_alloc]; omega)).trans ((od (((((((w.alloc o0).alloc o1).alloc o2).alloc o3).alloc o4).alloc o5).alloc o6) o7 _ (by simp only [World.size_alloc]; omega)).trans ((od ((((((w.alloc o0).alloc o1).alloc o2).alloc o3).alloc o4).alloc o5) o6 _ (by simp only [World.size_alloc]; omega)).trans ((od (((((w.alloc o0).alloc o1).alloc o2).alloc o3).alloc o4) o5 _ (by simp only [World.size_alloc]; omega)).trans ((od ((((w.alloc o0).alloc o1).alloc o2).alloc o3) o4 _ (by simp only [World.size_alloc]; omega)).trans ((od (((w.alloc o0).alloc o1).alloc o2) o3 _ (by simp only [World.size_alloc]; omega)).trans (by have h := nw ((w.alloc o0).alloc o1) o2; simpa only [World.size_alloc] using h))))))))
 ·exact ((od (((((((((w.alloc o0).alloc o1).alloc o2).alloc o3).alloc o4).alloc o5).alloc o6).alloc o7).alloc o8) o9 _ (by simp only [World.size_alloc]; omega)).trans ((od ((((((((w.alloc o0).alloc o1).alloc o2).alloc o3).alloc o4).alloc o5).alloc o6).alloc o7) o8 _ (by simp only [World.size_alloc]; omega)).trans ((od (((((((w.alloc o0).alloc o1).alloc o2).alloc o3).alloc o4).alloc o5).alloc o6) o7 _ (by simp only [World.size_alloc]; omega)).trans ((od ((((((w.alloc o0).alloc o1).alloc o2).alloc o3).alloc o4).alloc o5) o6 _ (by simp only [World.size_alloc]; omega)).trans ((od (((((w.alloc o0).alloc o1).alloc o2).alloc o3).alloc o4) o5 _ (by simp only [World.size_alloc]; omega)).trans ((od ((((w.alloc o0).alloc o1).alloc o2).alloc o3) o4 _ (by simp only [World.size_alloc]; omega)).trans (by have h := nw (((w.alloc o0).alloc o1).alloc o2) o3; simpa only [World.size_alloc] using h)))))))
 ·exact ((od (((((((((w.alloc o0).alloc o1).alloc o2).alloc o3).alloc o4).alloc o5).alloc o6).alloc o7).alloc o8) o9 _ (by simp only [World.size_alloc]; omega)).trans ((od ((((((((w.alloc o0).alloc o1).alloc o2).alloc o3).alloc o4).alloc o5).alloc o6).alloc o7) o8 _ (by simp only [World.size_alloc]; omega)).trans ((od (((((((w.alloc o0).alloc o1).alloc o2).alloc o3).alloc o4).alloc o5).alloc o6) o7 _ (by simp only [World.size_alloc]; omega)).trans ((od ((((((w.alloc o0).alloc o1).alloc o2).alloc o3).alloc o4).alloc o5) o6 _ (by simp only [World.size_alloc]; omega)).trans ((od (((((w.alloc o0).alloc o1).alloc o2).alloc o3).alloc o4) o5 _ (by simp only [World.size_alloc]; omega)).trans (by have h := nw ((((w.alloc o0).alloc o1).alloc o2).alloc o3) o4; simpa only [World.size_alloc] using h))))))
 ·exact ((od (((((((((w.alloc o0).alloc o1).alloc o2).alloc o3).alloc o4).alloc o5).alloc o6).alloc o7).alloc o8) o9 _ (by simp only [World.size_alloc]; omega)).trans ((od ((((((((w.alloc o0).alloc o1).alloc o2).alloc o3).alloc o4).alloc o5).alloc o6).alloc o7) o8 _ (by simp only [World.size_alloc]; omega)).trans ((od (((((((w.alloc o0).alloc o1).alloc o2).alloc o3).alloc o4).alloc o5).alloc o6) o7 _ (by simp only [World.size_alloc]; omega)).trans ((od ((((((w.alloc o0).alloc o1).alloc o2).alloc o3).alloc o4).alloc o5) o6 _ (by simp only [World.size_alloc]; omega)).trans (by have h := nw (((((w.alloc o0).alloc o1).alloc o2).alloc o3).alloc o4) o5; simpa only [World.size_alloc] using h)))))
 ·exact ((od (((((((((w.alloc o0).alloc o1).alloc o2).alloc o3).alloc o4).alloc o5).alloc o6).alloc o7).alloc o8) o9 _ (by simp only [World.size_alloc]; omega)).trans ((od ((((((((w.alloc o0).alloc o1).alloc o2).alloc o3).alloc o4).alloc o5).alloc o6).alloc o7) o8 _ (by simp only [World.size_alloc]; omega)).trans ((od (((((((w.alloc o0).alloc o1).alloc o2).alloc o3).alloc o4).alloc o5).alloc o6) o7 _ (by simp only [World.size_alloc]; omega)).trans (by have h := nw ((((((w.alloc o0).alloc o1).alloc o2).alloc o3).alloc o4).alloc o5) o6; simpa only [World.size_alloc] using h))))
 ·exact ((od (((((((((w.alloc o0).alloc o1).alloc o2).alloc o3).alloc o4).alloc o5).alloc o6).alloc o7).alloc o8) o9 _ (by simp only [World.size_alloc]; omega)).trans ((od ((((((((w.alloc o0).alloc o1).alloc o2).alloc o3).alloc o4).alloc o5).alloc o6).alloc o7) o8 _ (by simp only [World.size_alloc]; omega)).trans (by have h := nw (((((((w.alloc o0).alloc o1).alloc o2).alloc o3).alloc o4).alloc o5).alloc o6) o7; simpa only [World.size_alloc] using h)))
 ·exact ((od (((((((((w.alloc o0).alloc o1).alloc o2).alloc o3).alloc o4).alloc o5).alloc o6).alloc o7).alloc o8) o9 _ (by simp only [World.size_alloc]; omega)).trans (by have h := nw ((((((((w.alloc o0).alloc o1).alloc o2).alloc o3).alloc o4).alloc o5).alloc o6).alloc o7) o8; simpa only [World.size_alloc] using h))
 ·exact (by have h := nw (((((((((w.alloc o0).alloc o1).alloc o2).alloc o3).alloc o4).alloc o5).alloc o6).alloc o7).alloc o8) o9; simpa only [World.size_alloc] using h)
 ·simp only [World.size_alloc]
 ·repeat (first | exact Below.refl _ _ | apply below_alloc)
set_option maxRecDepth 100000 in
set_option maxHeartbeats 8000000 in
theorem follow_c (M : Mp) (z : Int) (most : Nat) (v u : Value) (w : World) (hM : IsM w v M) (hz : IsH w u z) (hok : okM M) (sz : (dg B9 z).length ≤ 2100) (hmo : most ≤ 900000) (ht : Tb w) :
  Calls Tryz.prog 83 #[v, u, .int .i64 most] w fun e w' => ∃ A c, e = .returned (.tuple #[.int .i64 (flwA M (most + 1) [] z).2.1, .slice A (flwA M (most + 1) [] z).2.2.length c, .int .i64 (flwA M (most + 1) [] z).1]) ∧ Hid (LsZ B9 .u32 w' A c (flwA M (most + 1) [] z).2.2) ∧ Below w.heap.size w w' := by
 obtain ⟨md, A, n, c, A', n', c', rfl, HM⟩ := hM.form
 obtain ⟨nz, Az, mz, kz, rfl, HZ⟩ := hz.form
 have hmm := @run_makeMap Tryz.prog
 have HT := Lib.hid ht
 have HOK := Lib.hid hok
 have SZ : Hid (∀ k, k < most + 2 → (dg B9 (itZ M z k)).length ≤ 900000000) := fun k hk => by have := itZ_len hok z k; omega
 clear hM hz ht hok sz
 refine (callsIn_wide (n := 9)).1 (callsIn_of_wp_marks Tryz.func83 rfl trivial ?_ rfl)
 simp only [Tryz.ntmps83, List.size_toArray, List.length_cons, List.length_nil, Nat.reduceAdd, Nat.reduceSub, Array.replicate_succ, Array.replicate_zero, List.push_toArray, List.append_toArray, List.nil_append, List.cons_append]
 refine wpIn_wide.2 ?_
 go_wp2
 go_step3
 go_wp2
 go_step3
 go_wp2_with fail
 clear hmm
 generalize hW : (((((((((w.alloc (Obj.cells #[Value.int IntKind.i64 md, Value.slice A n c, Value.slice A' n' c'] 24)).alloc (Obj.cells #[Value.bool nz, Value.slice Az mz kz] 118)).alloc (Obj.cells #[Value.int IntKind.i64 ↑most] 3)).alloc (Obj.cells #[Value.int IntKind.i64 0] 3)).alloc (Obj.cells #[Value.slice none 0 0] 123)).alloc (Obj.cells #[Value.int IntKind.i64 0] 31)).alloc (Obj.map #[] 0)).alloc (Obj.cells #[Value.map (some (w.heap.size + 1 + 1 + 1 + 1 + 1 + 1))] 171)).alloc (Obj.cells #[Value.slice none 0 0] 123)).alloc (Obj.cells #[Value.int IntKind.i64 (-1)] 3) = W
 obtain ⟨c5, c6, c7, c8, cM, c9, c10, c11, hs, HB⟩ := startF w _ _ _ _ _ _ _ _ _ _ W hW
 clear hW
 have HMW := Lib.hid (HM.out.below HB)
 have HZW := Lib.hid (HZ.out.below HB)
 (with_reducible refine (Walk_c M z _ _ W HMW.out HZW.out).mono ?_)
 rintro e w1 ⟨rfl, ⟨md1, A1, n1, c1, A1', n1', c1', VM1⟩, ⟨nv1, Av1, mv1, kv1, VH1⟩, hb1⟩
 generalize hbm : W.heap.size = bm at *
 obtain ⟨b11, e11⟩ : ∃ b, w.heap.size + 1 + 1 + 1 + 1 + 1 + 1 + 1 + 1 + 1 = b := ⟨_, rfl⟩
 obtain ⟨b10, e10⟩ : ∃ b, w.heap.size + 1 + 1 + 1 + 1 + 1 + 1 + 1 + 1 = b := ⟨_, rfl⟩
 obtain ⟨b9, e9⟩ : ∃ b, w.heap.size + 1 + 1 + 1 + 1 + 1 + 1 + 1 = b := ⟨_, rfl⟩
 obtain ⟨bM, eM⟩ : ∃ b, w.heap.size + 1 + 1 + 1 + 1 + 1 + 1 = b := ⟨_, rfl⟩
 obtain ⟨b8, e8⟩ : ∃ b, w.heap.size + 1 + 1 + 1 + 1 + 1 = b := ⟨_, rfl⟩
 obtain ⟨b7, e7⟩ : ∃ b, w.heap.size + 1 + 1 + 1 + 1 = b := ⟨_, rfl⟩
 obtain ⟨b6, e6⟩ : ∃ b, w.heap.size + 1 + 1 + 1 = b := ⟨_, rfl⟩
 obtain ⟨b5, e5⟩ : ∃ b, w.heap.size + 1 + 1 = b := ⟨_, rfl⟩
 rw [e11] at c11 ⊢
 rw [e10] at c10 ⊢
 rw [e9] at c9 ⊢
 rw [eM] at cM c9 ⊢
 rw [e8] at c8 ⊢
 rw [e7] at c7 ⊢
 rw [e6] at c6 ⊢
 rw [e5] at c5 ⊢
 have l5 : b5 < bm := by omega
 have l6 : b6 < bm := by omega
 have l7 : b7 < bm := by omega
 have l8 : b8 < bm := by omega
 have l9 : b9 < bm := by omega
 have l10 : b10 < bm := by omega
 have l11 : b11 < bm := by omega
 have lM : bM < bm := by omega
 have lw : w.heap.size ≤ bm := by omega
 obtain ⟨bn, ebn⟩ : ∃ b, bm + 1 = b := ⟨_, rfl⟩
 rw [ebn] at VH1 ⊢
 have lbm : bm < bn := by omega
 have lbn : bn < w1.heap.size := VH1.lt
 have d5 : Boxed w1 b5 3 _ := (hb1.block b5 l5).trans c5
 have d6 : Boxed w1 b6 3 _ := (hb1.block b6 l6).trans c6
 have d7 : Boxed w1 b7 123 _ := (hb1.block b7 l7).trans c7
 have d8 : Boxed w1 b8 31 _ := (hb1.block b8 l8).trans c8
 have d9 : Boxed w1 b9 171 _ := (hb1.block b9 l9).trans c9
 have d10 : Boxed w1 b10 123 _ := (hb1.block b10 l10).trans c10
 have d11 : Boxed w1 b11 3 _ := (hb1.block b11 l11).trans c11
 have HB1 := HB.trans (hb1.mono lw)
 have o65 : b6 ≠ b7 := by omega
 have o68 : b6 ≠ b8 := by omega
 have o78 : b7 ≠ b8 := by omega
 have oX : b11 ≠ b6 ∧ b11 ≠ b7 ∧ b11 ≠ b8 ∧ b11 ≠ b10 ∧ b10 ≠ b5 ∧ b10 ≠ b6 ∧ b10 ≠ b7 ∧ b10 ≠ b8 ∧ b10 ≠ b9 := by omega
 have oM : bM ≠ b10 := by omega
 have n6 : w.heap.size ≤ b6 := by omega
 have n7 : w.heap.size ≤ b7 := by omega
 have n8 : w.heap.size ≤ b8 := by omega
 have n10 : w.heap.size ≤ b10 := by omega
 have n11 : w.heap.size ≤ b11 := by omega
 have nM : w.heap.size ≤ bM := by omega
 clear c5 c6 c7 c8 c9 c10 c11 e5 e6 e7 e8 e9 e10 e11 eM ebn hbm hs HM HZ HMW HZW
 go_wp2_with fail
 obtain ⟨D, hD⟩ : ∃ D, w1.heap.size = D := ⟨_, rfl⟩
 rw [hD] at lbn
 have HDw := Lib.hid hD
 have lwD : w.heap.size ≤ D := by omega
 have hFK : ∀ (k : Nat) (A B : World) (row : Option Nat), FI w b5 b6 b7 b8 b9 b10 b11 bM D most M z k A → A.grownBy B row → Kp A B → (∀ r, row = some r → r = bn ∨ (D ≤ r ∧ ∃ o : Obj, A.heap[r]? = some o ∧ o.isCells = false)) → FI w b5 b6 b7 b8 b9 b10 b11 bM D most M z k B :=
  fun k A B row h hg hk hr => h.kept hg hk lbn (by omega) (by omega) (by omega) (by omega) (by omega) (by omega) (by omega) (by omega) (by omega) hr
 have HFK := Lib.hid hFK
 clear hFK
 refine (wpIn_wide (n := 9)).1 (wpIn_rangeFunc_St (w := w1) (α := XZ) rfl (by omega) (gf := 129) (lb := #[.pointer (some ⟨bn, 0, none⟩), .pointer (some ⟨bm, 0, none⟩)]) rfl trivial (enters_of Tryz.func129 (by kernel_rfl) rfl) (bn := bn) (N := most + 2) (by rw [hD]; exact lbn)
  (Walk1_st M z bm bn (most + 2) _ (by omega) (by omega) HOK.out SZ.out (by omega)) (fun _ _ => rfl)
  (fun k x => by rw [hD]; exact fun _ A B row h hg hr => h.own hg (fun r e => (hr r e).2)) ⟨(nv1, Av1, mv1, kv1), ⟨_, _, _, _, _, _, _, VM1⟩, VH1⟩
  (FI w b5 b6 b7 b8 b9 b10 b11 bM D most M z) (FX w b6 b7 b8 b10 b11 D most M z)
  (by rw [hD]; exact fun k A B row h hg hr => HFK.out _ _ _ _ h hg (Kp.own hg (fun r e => (hr r e).2)) (fun r e => .inr (hr r e)))
  (by rw [hD]; exact fun c A B row h hg hr => h.kept hg lwD hr)
  (fun k A B h hst => HFK.out _ _ _ _ h hst.1 hst.2 (fun r e => by cases e; exact .inl rfl))
  (fun W h => by obtain ⟨_, _, _, _, _, _, ⟨_, _, _, _, _, _, h, _⟩, _⟩ := h; omega)
  ⟨d5, d6, d7, d8, d9, d11, ⟨_, [], d10, OwZ.nil _ _ _, (World.ownsMap_of_made cM hb1 lM), rfl, by omega, List.nodup_nil, rfl⟩, HB1, by omega⟩
  (fun k x a' W => ∃ Bx, D ≤ Bx ∧ VH W Bx x.1 x.2.1 x.2.2.1 x.2.2.2 (itZ M z k) ∧ a' = { tmps := #[Value.agg #[Value.int IntKind.i64 md, Value.slice A n c, Value.slice A' n' c'], Value.agg #[Value.bool nz, Value.slice Az mz kz], Value.int IntKind.i64 (most : Int), Value.pointer (some ⟨w.heap.size, 0, none⟩), Value.pointer (some ⟨w.heap.size + 1, 0, none⟩), Value.pointer (some ⟨b5, 0, none⟩), Value.pointer (some ⟨b6, 0, none⟩), Value.pointer (some ⟨b7, 0, none⟩), Value.pointer (some ⟨b8, 0, none⟩), Value.pointer (some ⟨b9, 0, none⟩), Value.pointer (some ⟨b10, 0, none⟩), Value.pointer (some ⟨b11, 0, none⟩), Value.int IntKind.i64 (k : Int), Value.pointer (some ⟨Bx, 0, none⟩), undef, undef, undef, Value.map (some bM), Value.agg #[Value.int IntKind.i64 md, Value.slice A n c, Value.slice A' n' c'], Value.agg #[Value.bool nz, Value.slice Az mz kz], Value.func (Fn.func 129) #[] #[Value.pointer (some ⟨bn, 0, none⟩), Value.pointer (some ⟨bm, 0, none⟩)], Value.int IntKind.i64 (k : Int), Value.agg #[Value.bool x.1, Value.slice x.2.1 x.2.2.1 x.2.2.2], undef, undef, undef, undef, undef, undef, undef, undef, undef, undef, undef, undef, undef, undef, undef, undef, undef, undef, undef, undef, undef, undef, undef, undef, undef, undef, undef, undef, undef, undef], defers := [] })
  (fun k x a' => by
   rw [hD]
   rintro _ A B row ⟨Bx, h1, h2, h3⟩ hg hr
   have hr2 := fun r e => (hr r e).2
   exact ⟨Bx, h1, h2.grown hg (ne_of_cell h2.c0 hr2) (Kp.own hg hr2), h3⟩)
  ?assign ?body ?stop)
 case assign =>
  intro l k x W K hi hr hK
  gi_wp2
  have hb := below_alloc (Below.refl W.heap.size W) (Obj.cells #[Value.bool x.1, Value.slice x.2.1 x.2.2.1 x.2.2.2] 118)
  exact hK _ _ (KeepsFrom.below hb) (hr.below hb) (hi.below hb) ⟨W.heap.size, hi.2.2.2.2.2.2.2.2, VX.new W _ hr.2.iz.out, rfl⟩
 case body =>
  rintro l k x a' W hfi hr ⟨Bx, hBx, VB, rfl⟩ hkN
  have hfi' := hfi
  obtain ⟨c5, c6, c7, c8, c9, c11, ⟨lv, pre, c10, ho, hm, h1, h2, h3, h4⟩, hb, hsz⟩ := hfi'
  have m5 := c5.cell
  by_cases hk : (most : Int) < (k : Int)
  ·have m6 := c6.cell; have m7 := c7.cell; have m8 := c8.cell
   have f6 := c6.frozen; have f7 := c7.frozen; have f8 := c8.frozen
   gi_wp2
   obtain ⟨e6, e7, e8, eo, eb⟩ := st3 c6 c7 c8 o65 o68 o78 (.int .i64 0) (.slice none 0 0) (.int .i64 4) hb n6 n7 n8
   refine ⟨eo.from _, eb, .inl ⟨rfl, 4, e6, e7, e8, ?_⟩⟩
   rw [h4, show most + 1 - k = 0 by omega]
   rfl
  ·have HT0 := Lib.hid (HT.out.below hb)
   have HSZ := Lib.hid (SZ.out k hkN)
   have v0 := VB.c0; have v1 := VB.c1
   have hFL : ∃ f, most + 1 - k = f + 1 := ⟨most - k, by omega⟩
   cases hd : decide (2000 < dl (itZ M z k)) with
   | true =>
    have hd1 := of_decide_eq_true hd
    have hd2 : (2000 : Int) < (dl (itZ M z k) : Int) := by omega
    have HRES : Hid (flwA M (most + 1) [] z = (3, 0, [])) := by
     obtain ⟨f, hf⟩ := hFL
     show _ = _
     rw [h4, hf, flwA, if_pos hd1]
    clear hd hd1 hFL h4
    gi_wp2_with (refine ⟨trivial, ?_⟩; gi_at_call 127; refine (CallsIn.inRound l (callsIn_wide.2 (hDigits_c (itZ M z k) _ _ VB.iz.out HT0.out (by have := HSZ.out; omega)))).mono ?_; rintro e w2 ⟨rfl, hb2⟩; have e6 := (hfi.below hb2).2.1; have e7 := (hfi.below hb2).2.2.1; have e8 := (hfi.below hb2).2.2.2.1; have m6 := e6.cell; have m7 := e7.cell; have m8 := e8.cell; have f6 := e6.frozen; have f7 := e7.frozen; have f8 := e8.frozen)
    obtain ⟨c5', c6', c7', c8', -, -, -, hb', -⟩ := hfi.below hb2
    obtain ⟨e6, e7, e8, eo, eb⟩ := st3 c6' c7' c8' o65 o68 o78 (.int .i64 0) (.slice none 0 0) (.int .i64 3) hb' n6 n7 n8
    exact ⟨(KeepsFrom.below hb2).trans (eo.from _), eb, .inl ⟨rfl, 3, e6, e7, e8, HRES.out⟩⟩
   | false =>
    have hd1 := of_decide_eq_false hd
    have hd2 : ¬ (2000 : Int) < (dl (itZ M z k) : Int) := by omega
    have hsz2 : (tS (itZ M z k)).size ≤ maxLen := by
     have h1 : dl (itZ M z k) = dlN (itZ M z k).natAbs := dl_dlN _
     rw [← codes_length, codes_tS]
     unfold tx
     unfold dlN at h1
     rw [List.length_append]
     simp only [maxLen]
     split <;> simp <;> omega
    have hkey : keyOf Tryz.prog 9 (.string (tS (itZ M z k))) = some (kL (itZ M z k)) := WideMaps.keyOf_string_mk Tryz.underlying9 hsz2
    have HKEY := Lib.hid hkey
    have HAS := Lib.hid (met_has pre (itZ M z k))
    have HSS := Lib.hid (show flwA M (most + 1) [] z = (if itZ M z k ∈ pre then (0, pre.idxOf (itZ M z k), turnL (pre.drop (pre.idxOf (itZ M z k)))) else flwA M (most - k) (pre ++ [itZ M z k]) (itZ M z (k + 1))) by
     rw [h4, show most + 1 - k = (most - k) + 1 by omega, flwA, if_neg hd1]; rfl)
    have H3 := Lib.hid h3
    clear hd hd1 hFL h4 hkey hsz2 h3
    by_cases hin : itZ M z k ∈ pre
    ·have hhas : has (metD pre) (kL (itZ M z k)) = true := by rw [HAS.out]; exact decide_eq_true hin
     have HAT := Lib.hid (fun zd => met_at pre H3.out (itZ M z k) hin zd)
     have HRES : Hid (flwA M (most + 1) [] z = (0, pre.idxOf (itZ M z k), turnL (pre.drop (pre.idxOf (itZ M z k))))) := by show _ = _; rw [HSS.out, if_pos hin]
     have hix : pre.idxOf (itZ M z k) < pre.length := List.idxOf_lt_length_iff.2 hin
     have HIN := Lib.hid hin
     clear hin HAS HSS
     gi_wp2_with (first
      | (refine ⟨trivial, ?_⟩; gi_at_call 127; refine (CallsIn.inRound l (callsIn_wide.2 (hDigits_c (itZ M z k) _ _ VB.iz.out HT0.out (by have := HSZ.out; omega)))).mono ?_; rintro e w2 ⟨rfl, hb2⟩; have VB2 := VB.keep hb2; have q0 := VB2.c0; have q1 := VB2.c1; have HT2 := Lib.hid (HT0.out.below hb2))
      | (refine ⟨trivial, ?_⟩; gi_at_call 84; refine (CallsIn.inRound l (callsIn_wide.2 (hStr_c (itZ M z k) _ _ VB2.iz.out HT2.out (by have := HSZ.out; omega)))).mono ?_; rintro e w3 ⟨rfl, hb3⟩; have hb23 := below_step hb2 hb3; have hfi3 := hfi.below hb23; have m9 := hfi3.2.2.2.2.1.cell; have hm3 := hm.kept (row := none) ⟨hb23.os, hb23.tape, hb23.output, hb23.size, fun i hi _ => hb23.block i hi⟩ (by simp); have m11 := hfi3.2.2.2.2.2.1.cell; have f11 := hfi3.2.2.2.2.2.1.frozen; clear q0 q1)
      | (gi_at_lookup; refine wpListIn_lookup_own_ok_int _ rfl _ _ 171 rfl 9 3 .i64 (string_keyed Tryz.underlying9) Tryz.underlying171 Tryz.underlying3 (zeroE_ _) bM k (metD pre) rfl hm3 _ _ rfl HKEY.out ?_; intro cc hat hwc; rw [HAT.out] at hat; injection hat with hat; injection hat with hat1 hat; subst hat; clear hat1))
     obtain ⟨k5, k6, k7, k8, k9, k11, ⟨lv3, pre3, k10, ko, -, -, -, -, -⟩, kb, -⟩ := hfi3
     have k10' := (hfi.below hb23).2.2.2.2.2.2.1
     have c10b : Boxed w3 b10 123 lv := boxed_below c10 hb23 c10.lt
     have hob := ho.below hb23
     exact ⟨(KeepsFrom.below hb23).trans ((KeepsOthers.setCell _ _ _).from _), kb.setCell (p := ⟨b11, 0, none⟩) n11 _,
      .inr ⟨rfl, pre.idxOf (itZ M z k), lv, pre, k6.other (Ne.symm oX.1) _, k7.other (Ne.symm oX.2.1) _, k8.other (Ne.symm oX.2.2.1) _, k11.set _, c10b.other (Ne.symm oX.2.2.2.1) _, hob.set64 k11 (by omega) _, hix, by omega, HRES.out⟩⟩
    ·have hhas : has (metD pre) (kL (itZ M z k)) = false := by rw [HAS.out]; exact decide_eq_false hin
     have HRES : Hid (flwA M (most + 1) [] z = flwA M (most - k) (pre ++ [itZ M z k]) (itZ M z (k + 1))) := by show _ = _; rw [HSS.out, if_neg hin]
     have HIN := Lib.hid hin
     have HLL : Hid ((pre.length + 1) * 32 ≤ 140737488355328) := by show _ ≤ _; omega
     have hkm : k < maxLen := by simp only [maxLen]; omega
     have hwf : (Lit.int .i64 (k : Int)).wf = true := WalkArith.wf_i64 (by omega)
     clear hin HAS HSS
     gi_wp2_with (first
      | (refine ⟨trivial, ?_⟩; gi_at_call 127; refine (CallsIn.inRound l (callsIn_wide.2 (hDigits_c (itZ M z k) _ _ VB.iz.out HT0.out (by have := HSZ.out; omega)))).mono ?_; rintro e w2 ⟨rfl, hb2⟩; have VB2 := VB.keep hb2; have q0 := VB2.c0; have q1 := VB2.c1; have HT2 := Lib.hid (HT0.out.below hb2))
      | (refine ⟨trivial, ?_⟩; gi_at_call 84; refine (CallsIn.inRound l (callsIn_wide.2 (hStr_c (itZ M z k) _ _ VB2.iz.out HT2.out (by have := HSZ.out; omega)))).mono ?_; rintro e w3 ⟨rfl, hb3⟩; have hb23 := below_step hb2 hb3; have hfi3 := hfi.below hb23; have m9 := hfi3.2.2.2.2.1.cell; have hm3 := hm.kept (row := none) ⟨hb23.os, hb23.tape, hb23.output, hb23.size, fun i hi _ => hb23.block i hi⟩ (by simp); have VB3 := VB2.keep hb3; clear q0 q1)
      | (gi_at_lookup; refine wpListIn_lookup_own_ok_int _ rfl _ _ 171 rfl 9 3 .i64 (string_keyed Tryz.underlying9) Tryz.underlying171 Tryz.underlying3 (zeroE_ _) bM k (metD pre) rfl hm3 _ _ rfl HKEY.out ?_; intro cc hat hwc; clear hat hwc)
      | (gi_at_mapUpdate; refine wpListIn_mapUpdate_own _ rfl _ _ _ 171 rfl 9 3 (string_keyed Tryz.underlying9) Tryz.underlying171 _ bM k (metD pre) rfl hm3 hkm _ _ (kL (itZ M z k)) rfl rfl HKEY.out _ [] (plainElem_int Tryz.underlying3 hwf) ?_; intro w4 hm4 hg4; have hcM : ∀ r, some bM = some r → ∃ o : Obj, w3.heap[r]? = some o ∧ o.isCells = false := (fun r e => by cases e; obtain ⟨es, ck, hh, -⟩ := hm3; exact ⟨_, hh, rfl⟩); have hk4 := Kp.own hg4 hcM; have VB4 := VB3.grown hg4 (ne_of_cell VB3.c0 hcM) hk4; have c10b := (boxed_below c10 hb23 c10.lt).kept hg4 (ne_of_cell (boxed_below c10 hb23 c10.lt).cell hcM); have hob4 := (ho.below hb23).grown hg4 ((ho.below hb23).row_cells hcM) hk4; have hsz4 : D ≤ w4.heap.size := Nat.le_trans hfi3.2.2.2.2.2.2.2.2 hg4.size; have m10 := c10b.cell; have q0 := VB4.c0; have q1 := VB4.c1)
      | (gi_at_builtin; refine appIn_Z D rfl _ _ 123 118 32 rfl Tryz.underlying123 info_H (by decide) lv pre _ _ _ _ (itZ M z k) hob4 VB4.iz.out rfl rfl hsz4 HLL.out ?_; intro v5 w5 HO5 HB5 HK5 HKO5 hb5; obtain ⟨A5, cc5, rfl, -⟩ := HO5.form; generalize (pre ++ [itZ M z k]).length = L5 at HO5 ⊢; have c10c := boxed_below c10b HB5 (by omega); have p10 := c10c.cell; have pf10 := c10c.frozen))
     obtain ⟨k5, k6, k7, k8, k9, k11, -, kb, -⟩ := hfi3
     have hr5 := ((hr.below hb23).kept hg4 hk4 (by simp; omega) (by simp; omega)).keepB HB5 (by omega) lbn HK5
     have hni : NoInt lv := by
      obtain ⟨A6, cc6, rfl, -⟩ := hob4.form
      exact fun _ _ h => by cases h
     have hkS := Kp.set c10c hni (.slice A5 L5 cc5)
     have hgS := grownBy_setCell' w5 b10 (.slice A5 L5 cc5)
     have bx : ∀ {b t v}, Boxed w3 b t v → b < D → b ≠ b10 → Boxed (w5.setCell ⟨b10, 0, none⟩ (.slice A5 L5 cc5)) b t v := fun h hl hne => ((boxed_below (h.kept hg4 (ne_of_cell h.cell hcM)) HB5 hl).other hne _)
     refine ⟨((KeepsFrom.below hb23).trans (KeepsFrom.of_grownBy hg4 (fun j e => by cases e; omega))).trans ((HKO5.from _).trans ((KeepsOthers.setCell _ _ _).from _)), hr5.kept hgS hkS (by simp; omega) (by simp; omega),
      bx k5 (by omega) (Ne.symm oX.2.2.2.2.1), bx k6 (by omega) (Ne.symm oX.2.2.2.2.2.1), bx k7 (by omega) (Ne.symm oX.2.2.2.2.2.2.1), bx k8 (by omega) (Ne.symm oX.2.2.2.2.2.2.2.1), bx k9 (by omega) (Ne.symm oX.2.2.2.2.2.2.2.2), bx k11 (by omega) oX.2.2.2.1,
      ⟨_, pre ++ [itZ M z k], c10c.set _, HO5.grown hgS (HO5.row_ge (by omega)) hkS, ?_, by rw [List.length_append, h1]; rfl, by omega, ?_, ?_⟩, ?_, ?_⟩
     ·rw [metD_snoc, h1]
      exact ((ownsMap_at hm4 (HB5.block bM (by omega))).kept hgS (fun e => oM (by simpa using e)))
     ·rw [List.nodup_append]
      exact ⟨H3.out, by simp, fun a ha b hb => by simp at hb; subst hb; exact fun e => HIN.out (e ▸ ha)⟩
     ·rw [HRES.out, show most + 1 - (k + 1) = most - k by omega]
     ·exact ((kb.grown hg4 kb.size (fun j e => by cases e; exact nM)).trans (HB5.mono lwD)).setCell (p := ⟨b10, 0, none⟩) n10 _
     ·exact Nat.le_trans hb5 hgS.size
 case stop =>
  rintro D2 cd W hD2 ⟨hb, hx⟩ hK2
  rcases hx with ⟨rfl, err, c6, c7, c8, hres⟩ | ⟨rfl, i, lv, pre, c6, c7, c8, c11, c10, ho, hi, hpl, hres⟩
  ·have HR := Lib.hid hres
   clear hres
   gi_wp2
   rw [Exit.noGoto_ret]
   have hr2 : ∀ r, some D2 = some r → ∃ o : Obj, W.heap[r]? = some o ∧ o.isCells = false := fun r e => by cases e; exact ⟨_, hK2, rfl⟩
   have hg2 := grownBy_putObj' W D2 (.deferred none)
   have m6 := cell_kept c6.cell hg2 hr2; have m7 := cell_kept c7.cell hg2 hr2; have m8 := cell_kept c8.cell hg2 hr2
   have hbb := hb.grown hg2 hb.size (fun r e => by cases e; rw [HDw.out] at hD2; omega)
   refine ⟨by simp, .inl ⟨_, _, rfl, run_takeDeferred hK2, ?_⟩⟩
   refine ⟨.tuple #[.int .i64 0, .slice none 0 0, .int .i64 err], ?_, none, 0, by rw [HR.out] <;> rfl, by rw [HR.out]; exact LsZ.nil _, hbb⟩
   simp [results, Tryz.results83, go_sem, m6, m7, m8]
  ·refine wpIn_wide.2 ?_
   have HR := Lib.hid hres
   obtain ⟨Al, cl, rfl, hls⟩ := ho.form
   have hA : ∃ bl ol, Al = some ⟨bl, ol, none⟩ := by
    obtain ⟨b, off, _, _, _, _, e, _⟩ := hls.at (j := 0) (by omega)
    exact ⟨b, off, e⟩
   obtain ⟨bl, ol, rfl⟩ := hA
   have hcl : pre.length ≤ cl := by obtain ⟨_, _, h2, _⟩ := hls; exact h2
   have hplen : ∃ np, pre.length = np := ⟨_, rfl⟩
   obtain ⟨np, hnp⟩ := hplen
   have hic : i ≤ cl := by omega
   have hicl : ¬ cl = i := by omega
   have hil : i ≤ np := by omega
   have hlen : (pre.drop i).length = np - i := by rw [List.length_drop, hnp]
   have HTU : Hid (∀ V, LsZ B9 .u32 V (some ⟨bl, ol + i * 2, none⟩) (cl - i) (pre.drop i) → Calls Tryz.prog 128 #[.slice (some ⟨bl, ol + i * 2, none⟩) (np - i) (cl - i)] V fun e w' => ∃ v, e = .returned v ∧ OwZ B9 .u32 w' V.heap.size 118 v (turnL (pre.drop i)) ∧ Below V.heap.size V w') := by
    intro V hV
    rw [← hlen]
    exact turned_c _ _ _ V hV (List.length_pos_iff.1 (by omega)) (by omega)
   have LD : Hid (LsZ B9 .u32 W (some ⟨bl, ol + i * 2, none⟩) (cl - i) (pre.drop i)) := by
    have h := hls.drop (n := i) (by omega)
    rw [if_neg hicl, Option.map_some, plain_add] at h
    exact h
   rw [hnp] at c10
   have i0 : (0 : Int) ≤ (i : Int) := by omega
   have i1 : (i : Int) ≤ (np : Int) := by omega
   have szW : w1.heap.size < W.heap.size := by rw [HDw.out]; have := (Array.getElem?_eq_some_iff.1 hK2).1; rw [HDw.out] at hD2; omega
   rw [HDw.out] at szW
   clear hres hls hlen ho hi hpl
   have m11 := c11.cell; have m10 := c10.cell
   go_wp2_with fail
   clear m11 m10
   replace LD := Lib.hid (LD.out.below (below_drew (Below.refl _ _)))
   replace hb := below_drew hb
   replace c6 : Boxed W.drew b6 _ _ := c6
   replace c7 : Boxed W.drew b7 _ _ := c7
   replace c8 : Boxed W.drew b8 _ _ := c8
   replace c10 : Boxed W.drew b10 _ _ := c10
   replace c11 : Boxed W.drew b11 _ _ := c11
   replace hK2 : W.drew.heap[D2]? = _ := hK2
   replace szW : D < W.drew.heap.size := szW
   generalize hWd : W.drew = wd at *
   refine Code.wp_mono (Q := Exit.then _ (fun _ _ _ => False)) (fun e a w h => by cases e with | normal => exact h | _ => exact h.elim) ?_
   refine wp_region_held_drew (S := fun w' => w'.cell? ⟨b11, 0, none⟩ = some (.int .i64 (i : Int)) ∧ w'.cell? ⟨b10, 0, none⟩ = some (.slice (some ⟨bl, ol, none⟩) np cl)) (by kernel_rfl) (by rw [hWd]; exact ⟨c11.cell, c10.cell⟩) (fun hHeld => ?_)
   rw [hWd] at hHeld ⊢
   refine tH 0 ({ dst := some 48, op := Go.Op.load 3 (Go.Operand.tmp 11), type := 3, pos := "fate.go:34", after := #[], guard := none }) hHeld ?_; try go_frame
   refine tH 1 ({ dst := some 49, op := Go.Op.load 123 (Go.Operand.tmp 10), type := 123, pos := "fate.go:34", after := #[], guard := none }) hHeld ?_; try go_frame
   refine tH 2 ({ dst := some 50, op := Go.Op.load 3 (Go.Operand.tmp 11), type := 3, pos := "fate.go:34", after := #[], guard := none }) hHeld ?_; try go_frame
   refine tH 3 ({ dst := some 51, op := Go.Op.slice 123 (Go.Operand.tmp 49) (some (Go.Operand.tmp 50)) none none, type := 123, pos := "fate.go:34", after := #[{ on := 1, ground := Go.Ground.data }, { on := 2, ground := Go.Ground.data }], guard := none }) hHeld ?_; try go_frame
   refine wpAnyH_ready (rs := [4]) (by kernel_rfl) (by simp) ?_
   refine AllReadyH.cons (o := { dst := some 52, op := Go.Op.call { callee := Go.Callee.value (Go.Operand.func 128), args := #[Go.Operand.tmp 51], argTypes := #[123] }, type := 123, pos := "fate.go:34", after := #[{ on := 3, ground := Go.Ground.data }], guard := none }) rfl (fun K hK => ?_) AllReadyH.nil
   go_simp
   (go_at_call 128; (with_reducible refine (HTU.out _ LD.out).mono ?_); rintro e w7 ⟨v7, rfl, HO7, hb7⟩; replace hb := below_step hb hb7; replace c6 := boxed_below c6 hb7 c6.lt; replace c7 := boxed_below c7 hb7 c7.lt; replace c8 := boxed_below c8 hb7 c8.lt; replace c10 := boxed_below c10 hb7 c10.lt; replace c11 := boxed_below c11 hb7 c11.lt; replace hK2 := (hb7.block D2 (Array.getElem?_eq_some_iff.1 hK2).1).trans hK2; obtain ⟨A7, cc7, rfl, -⟩ := HO7.form; have m6 := c6.cell; have m7 := c7.cell; have m8 := c8.cell; have f6 := c6.frozen; have f7 := c7.frozen; have f8 := c8.frozen; clear HTU LD)
   refine hK.out _ _ (by exact ⟨c11.cell, c10.cell⟩) (fun hHeld => ?_)
   clear hK K
   try go_frame
   refine wpAnyH_ready (rs := [5]) (by kernel_rfl) (by simp) ?_
   refine AllReadyH.cons (o := { dst := none, op := Go.Op.store 3 (Go.Operand.tmp 6) (Go.Operand.tmp 48), type := 0, pos := "fate.go:34", after := #[{ on := 0, ground := Go.Ground.data }, { on := 4, ground := Go.Ground.chain }, { on := 0, ground := Go.Ground.phase }, { on := 1, ground := Go.Ground.textOnly Go.Departure.inlinedCapture }, { on := 2, ground := Go.Ground.textOnly Go.Departure.inlinedCapture }, { on := 3, ground := Go.Ground.textOnly Go.Departure.lateStoresUnsure }, { on := 4, ground := Go.Ground.textOnly Go.Departure.lateStoresUnsure }], guard := none }) rfl (fun K hK => ?_) AllReadyH.nil
   go_simp
   skip
   refine hK.out _ _ (by exact ⟨by rw [World.cell?_setCell_other _ _ _ _ (by intro h; injection h with h; omega)]; exact hHeld.1, by rw [World.cell?_setCell_other _ _ _ _ (by intro h; injection h with h; omega)]; exact hHeld.2⟩) (fun hHeld => ?_)
   clear hK K
   try go_frame
   refine wpAnyH_ready (rs := [6]) (by kernel_rfl) (by simp) ?_
   refine AllReadyH.cons (o := { dst := none, op := Go.Op.store 123 (Go.Operand.tmp 7) (Go.Operand.tmp 52), type := 0, pos := "fate.go:34", after := #[{ on := 4, ground := Go.Ground.data }, { on := 5, ground := Go.Ground.chain }, { on := 0, ground := Go.Ground.phase }, { on := 1, ground := Go.Ground.phase }, { on := 2, ground := Go.Ground.phase }, { on := 3, ground := Go.Ground.phase }, { on := 4, ground := Go.Ground.phase }, { on := 5, ground := Go.Ground.phase }], guard := none }) rfl (fun K hK => ?_) AllReadyH.nil
   go_simp
   skip
   refine hK.out _ _ (by exact ⟨by rw [World.cell?_setCell_other _ _ _ _ (by intro h; injection h with h; omega)]; exact hHeld.1, by rw [World.cell?_setCell_other _ _ _ _ (by intro h; injection h with h; omega)]; exact hHeld.2⟩) (fun hHeld => ?_)
   clear hK K
   try go_frame
   refine wpAnyH_ready (rs := [7]) (by kernel_rfl) (by simp) ?_
   refine AllReadyH.cons (o := { dst := none, op := Go.Op.store 31 (Go.Operand.tmp 8) (Go.Operand.const (Go.Value.int Go.IntKind.i64 0)), type := 0, pos := "fate.go:34", after := #[{ on := 6, ground := Go.Ground.chain }, { on := 0, ground := Go.Ground.phase }, { on := 1, ground := Go.Ground.phase }, { on := 2, ground := Go.Ground.phase }, { on := 3, ground := Go.Ground.phase }, { on := 4, ground := Go.Ground.phase }, { on := 5, ground := Go.Ground.phase }, { on := 6, ground := Go.Ground.phase }], guard := none }) rfl (fun K hK => ?_) AllReadyH.nil
   go_simp
   skip
   refine hK.out _ _ (by exact ⟨by rw [World.cell?_setCell_other _ _ _ _ (by intro h; injection h with h; omega)]; exact hHeld.1, by rw [World.cell?_setCell_other _ _ _ _ (by intro h; injection h with h; omega)]; exact hHeld.2⟩) (fun hHeld => ?_)
   clear hK K
   try go_frame
   refine wpAnyH_done (by kernel_rfl) ?_ _
   clear hHeld
   obtain ⟨e6, e7, e8, eo, eb⟩ := st3 c6 c7 c8 o65 o68 o78 (.int .i64 (i : Int)) (.slice A7 (turnL (List.drop i pre)).length cc7) (.int .i64 0) hb n6 n7 n8
   have g1 := HO7.set64 c6 (by omega) (.int .i64 (i : Int))
   have k7 := c7.other (Ne.symm o65) (.int .i64 (i : Int))
   have g2 := g1.grown (grownBy_setCell' _ b7 (.slice A7 (turnL (List.drop i pre)).length cc7)) (g1.row_ge (by omega)) (Kp.set k7 (fun _ _ h => by cases h) _)
   have k8 := (c8.other (Ne.symm o68) (.int .i64 (i : Int))).other (Ne.symm o78) (.slice A7 (turnL (List.drop i pre)).length cc7)
   have g3 := g2.set64 k8 (by omega) (.int .i64 0)
   have hK4 := (eo.from 0).same _ _ (Nat.zero_le _) hK2 rfl
   clear c6 c7 c8 k7 k8 g1 g2 HO7 m6 m7 m8 f6 f7 f8 c10 c11 hK2 eo hb szW
   generalize ((w7.setCell ⟨b6, 0, none⟩ (.int .i64 (i : Int))).setCell ⟨b7, 0, none⟩ (.slice A7 (turnL (List.drop i pre)).length cc7)).setCell ⟨b8, 0, none⟩ (.int .i64 0) = W4 at *
   go_wp2
   rw [Exit.noGoto_ret]
   have hr2 : ∀ r, some D2 = some r → ∃ o : Obj, W4.heap[r]? = some o ∧ o.isCells = false := fun r e => by cases e; exact ⟨_, hK4, rfl⟩
   have hg2 := grownBy_putObj' W4 D2 (.deferred none)
   have m6 := cell_kept e6.cell hg2 hr2; have m7 := cell_kept e7.cell hg2 hr2; have m8 := cell_kept e8.cell hg2 hr2
   have hbb := eb.grown hg2 eb.size (fun r e => by cases e; omega)
   have g4 := g3.grown hg2 (g3.row_cells hr2) (Kp.own hg2 hr2)
   obtain ⟨A9, c9', e9, hl9⟩ := g4.form
   injection e9 with e91 e92 e93
   subst e91 e93
   refine ⟨by simp, .inl ⟨_, _, rfl, run_takeDeferred hK4, ?_⟩⟩
   refine ⟨.tuple #[.int .i64 i, .slice A7 (turnL (List.drop i pre)).length cc7, .int .i64 0], ?_, A7, cc7, by rw [HR.out] <;> rfl, by rw [HR.out]; exact hl9, hbb⟩
   simp [results, Tryz.results83, go_sem, m6, m7, m8]
end Go.Proofs.YtibdipfhfaeooaaGreatDoor


set_option linter.unusedVariables false
set_option linter.unusedSimpArgs false
namespace Go.Proofs.YtibdipfhfaeooaaGreatDoor
open Go.RowKit

def strs (l : List ByteArray) : List Value := l.map Value.string
theorem strs_append (l m : List ByteArray) : strs (l ++ m) = strs l ++ strs m := by simp [strs]
def gs (l : List ByteArray) (i : Nat) : ByteArray := l.getD i ByteArray.empty
theorem gs_lt {l : List ByteArray} {i : Nat} (h : i < l.length) : gs l i = l[i] := by simp [gs, h]
/-- A slice of strings. -/
def LsS (w : World) (A : Option Addr) (c : Nat) (l : List ByteArray) : Prop := Rd w 1 A l.length (strs l) ∧ l.length ≤ c ∧ c ≤ 9223372036854775807
/-- A list of strings of the call's own. -/
def OwS (w : World) (base : Nat) (e : TypeId) (v : Value) (l : List ByteArray) : Prop := OwP w base e 1 v l.length (strs l)
section
variable {w w' : World} {base : Nat} {e : TypeId} {v : Value} {l : List ByteArray} {A : Option Addr} {c : Nat}
theorem LsS.below (h : LsS w A c l) (hb : Below w.heap.size w w') : LsS w' A c l := ⟨h.1.below hb, h.2⟩
theorem LsS.nil (w : World) : LsS w none 0 [] := ⟨Rd.nil, Nat.le_refl _, by omega⟩
theorem LsS.cell (h : LsS w A c l) {j : Nat} (hj : j < l.length) : ∃ b off, A = some ⟨b, off, none⟩ ∧ b < w.heap.size ∧ w.cell? ⟨b, off + j, none⟩ = some (.string (gs l j)) := by
 obtain ⟨b, off, e, hl, u, hu, hc⟩ := h.1.at_ hj
 refine ⟨b, off, e, hl, hc.trans ?_⟩
 rw [← hu, gs_lt hj]
 simp [strs, hj]
theorem OwS.nil (w : World) (base : Nat) (e : TypeId) : OwS w base e (.slice none 0 0) [] := ⟨World.ownsRow_nil _ _ _ _, fun g _ _ _ hg => by simp [Value.ownBlock] at hg⟩
theorem OwS.below (h : OwS w base e v l) (hb : Below w.heap.size w w') : OwS w' base e v l := OwP.below h hb
theorem OwS.form (h : OwS w base e v l) : ∃ A c, v = .slice A l.length c ∧ LsS w A c l := by
 have hh := h.1
 rcases h.1.2 with ⟨rfl, h0⟩ | ⟨g, cap, cur, rfl, hb, hg, hnc, hm, _⟩
 ·have : l = [] := List.eq_nil_of_length_eq_zero h0
  subst this
  exact ⟨none, 0, rfl, ⟨hh.1, fun h => absurd h (by simp)⟩, Nat.le_refl _, by omega⟩
 ·refine ⟨some ⟨g, 0, none⟩, cap, rfl, Rd.of_own hh, hnc, ?_⟩
  simp only [maxLen] at hm
  omega
end
section
variable {P : Program} {ops : Array Oper} {rest : List Oper} {o : Oper} {a : Act} {Q : Exit → Act → World → Prop}
/-- One string more at the end of a list of the call's own. -/
theorem app_T {W : World} (base : Nat) (hgd : o.guard = none) (s x : Operand) (t e : TypeId) (bytes : Nat)
  (ho : o.op = .call { callee := .builtin .append, args := #[s, x], argTypes := #[t, t] })
  (ht : P.underlying t = some (.slice e)) (hinfo : (P.info? e).map (fun i => (i.zero, i.size, i.bytes)) = some (some (.string ByteArray.empty), 1, bytes)) (hb0 : 0 < bytes)
  (v : Value) (l : List ByteArray) (y : ByteArray) (HO : OwS W base e v l) (hs : a.eval s = v) (hx : a.eval x = .slice (some ⟨W.heap.size, 0, none⟩) 1 1) (hbase : base ≤ W.heap.size) (hl : (l.length + 1) * bytes ≤ 140737488355328)
  (h : ∀ v1 w1, OwS w1 base e v1 (l ++ [y]) → Below base W w1 → Kp W w1 → base ≤ w1.heap.size → wpList P ops Q rest (a.put o.dst v1) w1) :
  wpList P ops Q (o :: rest) a (W.alloc (.cells #[.string y] e)) := by
 obtain ⟨i0, hi, hzz⟩ := Option.map_eq_some_iff.1 hinfo
 simp only [Prod.mk.injEq] at hzz
 obtain ⟨hz0, hz1, hz2⟩ := hzz
 have hlen : l.length + 1 ≤ 140737488355328 := Nat.le_trans (Nat.le_mul_of_pos_right _ hb0) hl
 have hba : Below W.heap.size W (W.alloc (.cells #[.string y] e)) := below_alloc (Below.refl _ _) _
 have hP2 : OwP (W.alloc (.cells #[.string y] e)) base e 1 v l.length (strs l) := OwP.below HO hba
 refine wp_append_P (w := W.alloc (.cells #[.string y] e)) hgd s x t ho base e i0 (.string ByteArray.empty) 1 bytes ht hi hz0 hz1 hz2 rfl (by omega) (by
  intro u hu
  simp [Value.cells] at hu
  subst hu
  exact fun _ _ h => by cases h) v l.length (strs l) hs hP2 ⟨W.heap.size, 0, none⟩ 1 1 [.string y] hx rfl (cell_one_new _ _ _) (by simp [Value.oneCell']) (by
  intro u hu
  simp at hu
  subst hu
  exact fun _ _ h => by cases h) (by omega) (by simp only [maxLen]; omega) hl (by simp; omega) ?_
 intro v1 w1 hown hg
 have hk : Kp W w1 := (Kp.of hba).trans (Kp.grown hg hP2.2 (own_cells hP2.1))
 refine h v1 w1 ?_ (((Below.refl base W).alloc hbase _).grown hg (by simp; omega) (ownsRow_base hP2.1)) hk (by have := hg.size; simp at this; omega)
 unfold OwS
 rw [strs_append, List.length_append]
 exact hown
end
end Go.Proofs.YtibdipfhfaeooaaGreatDoor

