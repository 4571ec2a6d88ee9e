/- What ref05.Fate does to memory and what it returns. No condition. -/
import Derived.Test.YtibdipfhfaeooaaGreatDoorZ5
import Derived.Maps.RangeWalk
import Derived.Test.YtibdipfhfaeooaaGreatDoorZ6
import Derived.Lib.LazyBuf
set_option linter.unusedVariables false
set_option linter.unusedSimpArgs false
namespace Go.Proofs.YtibdipfhfaeooaaGreatDoor
open Go.RowKit

theorem LsZ.el {B : Nat} {k : IntKind} {w : World} {b off c : Nat} {l : List Int} (h : LsZ B k w (some ⟨b, off, none⟩) c l) {j : Nat} (hj : j < l.length) :
  ∃ nv A' n' c', CL w b (off + j * 2) (.bool nv) ∧ CL w b (off + j * 2 + 1) (.slice A' n' c') ∧ Hid (IsZ B k w (.agg #[.bool nv, .slice A' n' c']) (gd l j)) := by
 obtain ⟨b', off', nv, A', n', c', e, hlt, h1, h2, h3⟩ := h.at hj
 injection e with e
 injection e with e1 e2
 subst e1 e2
 exact ⟨nv, A', n', c', ⟨h1, hlt⟩, ⟨h2, hlt⟩, h3⟩
theorem LsZ.keepB {B : Nat} {k : IntKind} {w w' : World} {b off c base : Nat} {l : List Int} (h : LsZ B k w (some ⟨b, off, none⟩) c l) (hb : Below base w w') (hlt : b < base) (hk : Kp w w') : LsZ B k w' (some ⟨b, off, none⟩) c l := by
 obtain ⟨xs, h1, h2, h3, h4⟩ := h
 refine ⟨xs, ⟨h1.1, fun hn => ?_⟩, h2, h3, h4.kp hk⟩
 obtain ⟨b', off', e, hl, hc⟩ := h1.2 hn
 injection e with e
 injection e with e1 e2
 subst e1 e2
 exact ⟨b, off, rfl, Nat.lt_of_lt_of_le hl hb.size, fun j u hu => kcellB hb hlt (hc j u hu)⟩

theorem LsZ.nil {B : Nat} {k : IntKind} (w : World) : LsZ B k w none 0 [] := ⟨[], Rd.nil, Nat.le_refl _, by omega, fun j z h => by simp at h⟩
theorem icmp_lt' (x y : Int) : icmp x y < 0 ↔ x < y := by unfold icmp; split <;> (try split) <;> omega
theorem icmp_eq (x y : Int) : icmp x y = 0 ↔ x = y := by unfold icmp; split <;> (try split) <;> omega
def leastF (l : List Int) : Nat → Nat → Nat → Nat
 | 0, _, m => m
 | f + 1, i, m => leastF l f (i + 1) (if gd l i < gd l m then i else m)
end Go.Proofs.YtibdipfhfaeooaaGreatDoor


set_option linter.unusedVariables false
set_option linter.unusedSimpArgs false
namespace Go.Proofs.YtibdipfhfaeooaaGreatDoor
open Go.RowKit

theorem Rl.cells {B : Nat} {k : IntKind} {w : World} {xs : List Value} {l : List Int} (h : Rl B k w xs l) (hl : xs.length = l.length * 2) : ∀ u ∈ xs, NoInt u ∧ u.oneCell' = true := by
 intro u hu
 obtain ⟨i, hi, rfl⟩ := List.getElem_of_mem hu
 have hj : i / 2 < l.length := by omega
 obtain ⟨nv, A, n, c, h1, h2, -⟩ := h (i / 2) l[i / 2] (List.getElem?_eq_getElem hj)
 have h3 := List.getElem?_eq_getElem hi
 generalize xs[i] = u at *
 rcases (show 2 * (i / 2) = i ∨ 2 * (i / 2) + 1 = i by omega) with e | e
 ·rw [e, h3] at h1
  injection h1 with h1
  subst h1
  exact ⟨fun _ _ h => (by cases h), rfl⟩
 ·rw [e, h3] at h2
  injection h2 with h2
  subst h2
  exact ⟨fun _ _ h => (by cases h), rfl⟩
theorem Rl.append {B : Nat} {k : IntKind} {w : World} {xs ys : List Value} {l m : List Int} (h : Rl B k w xs l) (hl : xs.length = l.length * 2) (h' : Rl B k w ys m) : Rl B k w (xs ++ ys) (l ++ m) := by
 intro j z hj
 rcases Nat.lt_or_ge j l.length with h1 | h1
 ·rw [List.getElem?_append_left h1] at hj
  obtain ⟨nv, A, n, c, h2, h3, h4⟩ := h j z hj
  exact ⟨nv, A, n, c, by rw [List.getElem?_append_left (by omega)]; exact h2, by rw [List.getElem?_append_left (by omega)]; exact h3, h4⟩
 ·rw [List.getElem?_append_right h1] at hj
  obtain ⟨nv, A, n, c, h2, h3, h4⟩ := h' _ z hj
  refine ⟨nv, A, n, c, ?_, ?_, h4⟩
  ·rw [List.getElem?_append_right (by omega), show 2 * j - xs.length = 2 * (j - l.length) by omega]; exact h2
  ·rw [List.getElem?_append_right (by omega), show 2 * j + 1 - xs.length = 2 * (j - l.length) + 1 by omega]; exact h3
theorem LsZ.take {B : Nat} {k : IntKind} {w : World} {A : Option Addr} {c : Nat} {l : List Int} (h : LsZ B k w A c l) {n : Nat} (hn : n ≤ l.length) : LsZ B k w A c (l.take n) := by
 obtain ⟨xs, h1, h2, h3, h4⟩ := h
 have hl : (l.take n).length = n := by rw [List.length_take, Nat.min_eq_left hn]
 refine ⟨xs.take (n * 2), ?_, by omega, h3, fun j z hj => ?_⟩
 ·rw [hl]; exact h1.take hn
 ·rw [List.getElem?_take] at hj
  split at hj
  ·rename_i hjn
   obtain ⟨nv, A', n', c', h5, h6, h7⟩ := h4 j z hj
   exact ⟨nv, A', n', c', by rw [List.getElem?_take, if_pos (by omega)]; exact h5, by rw [List.getElem?_take, if_pos (by omega)]; exact h6, h7⟩
  ·cases hj
theorem LsZ.drop {B : Nat} {k : IntKind} {w : World} {A : Option Addr} {c : Nat} {l : List Int} (h : LsZ B k w A c l) {n : Nat} (hn : n ≤ l.length) : LsZ B k w (if c = n then A else A.map (·.add (n * 2))) (c - n) (l.drop n) := by
 obtain ⟨xs, h1, h2, h3, h4⟩ := h
 refine ⟨xs.drop (n * 2), ?_, by rw [List.length_drop]; omega, by omega, fun j z hj => ?_⟩
 ·rw [List.length_drop]; exact h1.drop hn h2
 ·rw [List.getElem?_drop] at hj
  obtain ⟨nv, A', n', c', h5, h6, h7⟩ := h4 _ z hj
  exact ⟨nv, A', n', c', by rw [List.getElem?_drop, show n * 2 + 2 * j = 2 * (n + j) by omega]; exact h5, by rw [List.getElem?_drop, show n * 2 + (2 * j + 1) = 2 * (n + j) + 1 by omega]; exact h6, h7⟩
theorem OwZ.made0 {B : Nat} {k : IntKind} {w : World} {base : Nat} {e : TypeId} (hb : base ≤ w.heap.size) : OwZ B k (w.alloc (.cells #[] e)) base e (.slice (some ⟨w.heap.size, 0, none⟩) 0 0) [] :=
 ⟨[], ⟨⟨rfl, .inr ⟨w.heap.size, 0, #[], rfl, hb, heap_alloc_new w _, Nat.le_refl _, by simp [maxLen], rfl, rfl⟩⟩, noI_alloc rfl fun u hu => by simp at hu⟩, fun j z h => by simp at h⟩
theorem OwZ.ne {B : Nat} {k : IntKind} {w : World} {base : Nat} {e : TypeId} {v : Value} {l : List Int} (h : OwZ B k w base e v l) (hl : l ≠ []) : v ≠ .slice none 0 0 := by
 obtain ⟨A, c, rfl, -⟩ := h.form
 intro he
 injection he with _ h1 _
 exact hl (List.eq_nil_of_length_eq_zero h1)
section
variable {P : Program} {ops : Array Oper} {rest : List Oper} {o : Oper} {a : Act} {Q : Exit → Act → World → Prop}
/-- A list of numbers at the end of a list of the call's own. -/
theorem run_app_Zs {B : Nat} {k : IntKind} {W : World} (base : Nat) (t ty e : TypeId) (bytes : Nat)
  (ht : P.underlying t = some (.slice e)) (hinfo : (P.info? e).map (fun i => (i.zero, i.size, i.bytes)) = some (some (.agg #[.bool false, .slice none 0 0]), 2, bytes)) (hb0 : 0 < bytes)
  (v : Value) (l m : List Int) (A : Option Addr) (c : Nat) (HO : OwZ B k W base e v l) (HL : LsZ B k W A c m) (hv : v ≠ .slice none 0 0 ∨ m ≠ []) (hbase : base ≤ W.heap.size) (hl : (l.length + m.length) * bytes ≤ 140737488355328) :
  ∃ v1 w1, (Builtin.append_ #[t, t] ty #[v, .slice A m.length c]).run P W = .ok v1 w1 ∧ OwZ B k w1 base e v1 (l ++ m) ∧ Below base W w1 ∧ Kp W w1 ∧ base ≤ w1.heap.size := by
 obtain ⟨i0, hi, hzz⟩ := Option.map_eq_some_iff.1 hinfo
 simp only [Prod.mk.injEq] at hzz
 obtain ⟨hz0, hz1, hz2⟩ := hzz
 obtain ⟨xs, hP, hR⟩ := HO
 obtain ⟨ys, hY, hY2, hY3, hR2⟩ := HL
 have hlen : l.length + m.length ≤ 140737488355328 := Nat.le_trans (Nat.le_mul_of_pos_right _ hb0) hl
 have hcs := hR2.cells (by rw [hY.1])
 have hzn : ∀ u ∈ (Value.agg #[.bool false, .slice none 0 0]).cells.toList, NoInt u := by
  intro u hu
  simp [Value.cells] at hu
  rcases hu with rfl | rfl <;> exact fun _ _ h => by cases h
 rcases Nat.eq_zero_or_pos m.length with hm | hm
 ·have hm0 : m = [] := List.eq_nil_of_length_eq_zero hm
  subst hm0
  rcases hP.1.2 with ⟨hv0, _⟩ | ⟨g, cap, cur, rfl, hbg, hg, hnc, hcm, hcs2, htake⟩
  ·exact absurd hv0 (hv.resolve_right (by simp))
  ·refine ⟨.slice (some ⟨g, 0, none⟩) l.length cap, W, ?_, ⟨xs, by rw [List.append_nil]; exact hP, by rw [List.append_nil]; exact hR⟩, Below.refl _ _, Kp.refl _, hbase⟩
   cases A <;> simp [Builtin.append_, run_underlying ht, sizeOf, typeInfo, hi, Builtin.lenOf, Builtin.firstCells, hnc, storeCells, loadCells, loadCellsFrom]
 ·obtain ⟨b, off, rfl, hlt, hc⟩ := hY.2 hm
  obtain ⟨v1, w1, hr, hown, hg⟩ := run_append_P (P := P) W base t ty e i0 (.agg #[.bool false, .slice none 0 0]) 2 bytes ht hi hz0 hz1 hz2 rfl (by omega) hzn v l.length xs hP ⟨b, off, none⟩ m.length c ys hY.1
   (fun j u hj => by rw [plain_add]; exact hc j u hj) (fun u hu => (hcs u hu).2) (fun u hu => (hcs u hu).1) hm (by simp only [maxLen]; omega) hl hbase
  have hk : Kp W w1 := Kp.grown hg hP.2 (own_cells hP.1)
  refine ⟨v1, w1, hr, ⟨xs ++ ys, by rw [List.length_append]; exact hown, (hR.kp hk).append hP.1.1 (hR2.kp hk)⟩, (Below.refl base W).grown hg hbase (ownsRow_base hP.1), hk, Nat.le_trans hbase hg.size⟩
end
end Go.Proofs.YtibdipfhfaeooaaGreatDoor


set_option linter.unusedVariables false
set_option linter.unusedSimpArgs false
namespace Go.Proofs.YtibdipfhfaeooaaGreatDoor
open Go.RowKit

theorem info_H : (Tryz.prog.info? 118).map (fun i => (i.zero, i.size, i.bytes)) = some (some (.agg #[.bool false, .slice none 0 0]), 2, 32) := by kernel_rfl
section
variable {P : Program} {ops : Array Oper} {rest : List Oper} {o : Oper} {a : Act} {Q : Exit → Act → World → Prop}
theorem op_Zs {B : Nat} {k : IntKind} {W : World} {K : Act → World → Prop} (base : Nat) (s x : Operand) (t e : TypeId) (bytes : Nat)
  (ho : o.op = .call { callee := .builtin .append, args := #[s, x], argTypes := #[t, t] })
  (ht : P.underlying t = some (.slice e)) (hinfo : (P.info? e).map (fun i => (i.zero, i.size, i.bytes)) = some (some (.agg #[.bool false, .slice none 0 0]), 2, bytes)) (hb0 : 0 < bytes)
  (v : Value) (l m : List Int) (A : Option Addr) (n c : Nat) (hn : n = m.length) (HO : OwZ B k W base e v l) (HL : LsZ B k W A c m) (hs : a.eval s = v) (hx : a.eval x = .slice A n c) (hv : v ≠ .slice none 0 0 ∨ m ≠ []) (hbase : base ≤ W.heap.size) (hl : (l.length + m.length) * bytes ≤ 140737488355328)
  (h : ∀ v1 w1, OwZ B k w1 base e v1 (l ++ m) → Below base W w1 → Kp W w1 → base ≤ w1.heap.size → K (a.put o.dst v1) w1) :
  Oper.wp P o a W K Q := by
 subst hn
 obtain ⟨v', w', hr, h1, h2, h3, h4⟩ := run_app_Zs (P := P) base t o.type e bytes ht hinfo hb0 v l m A c HO HL hv hbase hl
 unfold Oper.wp execOp
 simp only [ho, resolve, invoke, builtin, Sem.run_bind, Sem.run_pure, Result.andThen_ok, List.map_toArray, List.map_cons, List.map_nil, hs, hx, hr]
 exact h v' w' h1 h2 h3 h4
theorem app_Zs {B : Nat} {k : IntKind} {W : World} (base : Nat) (hgd : o.guard = none) (s x : Operand) (t e : TypeId) (bytes : Nat)
  (ho : o.op = .call { callee := .builtin .append, args := #[s, x], argTypes := #[t, t] })
  (ht : P.underlying t = some (.slice e)) (hinfo : (P.info? e).map (fun i => (i.zero, i.size, i.bytes)) = some (some (.agg #[.bool false, .slice none 0 0]), 2, bytes)) (hb0 : 0 < bytes)
  (v : Value) (l m : List Int) (A : Option Addr) (n c : Nat) (hn : n = m.length) (HO : OwZ B k W base e v l) (HL : LsZ B k W A c m) (hs : a.eval s = v) (hx : a.eval x = .slice A n c) (hv : v ≠ .slice none 0 0 ∨ m ≠ []) (hbase : base ≤ W.heap.size) (hl : (l.length + m.length) * bytes ≤ 140737488355328)
  (h : ∀ v1 w1, OwZ B k w1 base e v1 (l ++ m) → Below base W w1 → Kp W w1 → base ≤ w1.heap.size → wpList P ops Q rest (a.put o.dst v1) w1) :
  wpList P ops Q (o :: rest) a W :=
 wpList_plain hgd fun _ hK => by
  subst hn
  obtain ⟨v', w', hr, h1, h2, h3, h4⟩ := run_app_Zs (P := P) base t o.type e bytes ht hinfo hb0 v l m A c HO HL hv hbase hl
  unfold Oper.wp execOp
  simp only [ho, resolve, invoke, builtin, Sem.run_bind, Sem.run_pure, Result.andThen_ok, List.map_toArray, List.map_cons, List.map_nil, hs, hx, hr]
  exact hK _ _ (h v' w' h1 h2 h3 h4)
end
set_option maxRecDepth 100000 in
set_option maxHeartbeats 1000000 in
theorem Clone_c (A : Option Addr) (c : Nat) (l : List Int) (w : World) (h : LsZ B9 .u32 w A c l) (h0 : l ≠ []) (sz : l.length ≤ 1000000) :
  Calls Tryz.prog 159 #[.slice A l.length c] w fun e w' => ∃ v, e = .returned v ∧ OwZ B9 .u32 w' w.heap.size 118 v l ∧ Below w.heap.size w w' := by
 have hA : ∃ b off, A = some ⟨b, off, none⟩ := by
  obtain ⟨b, off, _, _, _, _, e, _⟩ := h.at (j := 0) (List.length_pos_iff.2 h0)
  exact ⟨b, off, e⟩
 obtain ⟨b, off, rfl⟩ := hA
 have HO0 : OwZ B9 .u32 (w.alloc (.cells #[] 118)) w.heap.size 118 (.slice (some ⟨w.heap.size, 0, none⟩) 0 0) [] := OwZ.made0 (Nat.le_refl _)
 have HB0 := below_alloc (Below.refl w.heap.size w) (Obj.cells #[] 118)
 have HL := h.below HB0
 have hb := HB0.size
 have hsn := fun W : World => _root_.Go.run_eql_slice_nil (P := Tryz.prog) W 123 118 (some ⟨b, off, none⟩) l.length c Tryz.underlying123
 simp only [Option.isNone_some] at hsn
 go_enter Tryz.func159, Tryz.ntmps159
 go_wp2_with (at_builtin; refine app_Zs w.heap.size rfl _ _ 123 118 32 rfl Tryz.underlying123 info_H (by decide) _ [] l _ _ c rfl HO0 HL rfl rfl (.inr h0) hb (by simp; omega) ?_; intro v1 w1 HO1 HB1 HK1 hb1)
 go_ret
 exact ⟨_, rfl, by simpa using HO1, HB0.trans HB1⟩
theorem OwZ.base_le {B : Nat} {k : IntKind} {w : World} {base base' : Nat} {e : TypeId} {v : Value} {l : List Int} (h : OwZ B k w base e v l) (hb : base' ≤ base) : OwZ B k w base' e v l := by
 obtain ⟨xs, ⟨⟨h1, h2⟩, h3⟩, h4⟩ := h
 refine ⟨xs, ⟨⟨h1, ?_⟩, h3⟩, h4⟩
 rcases h2 with h2 | ⟨g, cap, cur, r0, r1, r2⟩
 ·exact .inl h2
 ·exact .inr ⟨g, cap, cur, r0, Nat.le_trans hb r1, r2⟩
/-- Where the least number first stands. -/
def mnL (l : List Int) : Nat := leastF l l.length 0 0
def turnL (l : List Int) : List Int := l.drop (mnL l) ++ l.take (mnL l)
set_option maxRecDepth 100000 in
set_option maxHeartbeats 4000000 in
theorem turned_c (A : Option Addr) (c : Nat) (l : List Int) (w : World) (h : LsZ B9 .u32 w A c l) (h0 : l ≠ []) (sz : l.length ≤ 1000000) :
  Calls Tryz.prog 128 #[.slice A l.length c] w fun e w' => ∃ v, e = .returned v ∧ OwZ B9 .u32 w' w.heap.size 118 v (turnL l) ∧ Below w.heap.size w w' := by
 have hA : ∃ b off, A = some ⟨b, off, none⟩ := by
  obtain ⟨b, off, _, _, _, _, e, _⟩ := h.at (j := 0) (List.length_pos_iff.2 h0)
  exact ⟨b, off, e⟩
 obtain ⟨b, off, rfl⟩ := hA
 have hcl : l.length ≤ c := by obtain ⟨_, _, h2, _⟩ := h; exact h2
 have hc63 : c ≤ 9223372036854775807 := by obtain ⟨_, _, _, h2, _⟩ := h; exact h2
 have LL0 := Lib.hid h
 obtain ⟨n, hn⟩ : ∃ n, l.length = n := ⟨_, rfl⟩
 have HLN := Lib.hid hn
 have hn0 : 0 < n := by have := List.length_pos_iff.2 h0; omega
 have HN0 := Lib.hid h0
 rw [hn] at sz hcl ⊢
 clear h hn h0
 have HB0 : Below w.heap.size w w := Below.refl _ _
 go_enter Tryz.func128, Tryz.ntmps128
 go_wp2_with fail
 go_loopg [3, 7] n (fun g av iv wr => ∃ (i m : Nat), av = .int .i64 m ∧ iv = .int .i64 i ∧ g = n - i ∧ i ≤ n ∧ m < n ∧ Hid (LsZ B9 .u32 wr (some ⟨b, off, none⟩) c l) ∧ Below w.heap.size w wr ∧ Hid (leastF l n 0 0 = leastF l (n - i) i m))
 case atStart => exact ⟨0, 0, rfl, rfl, rfl, by omega, hn0, LL0, HB0, rfl⟩
 case round =>
  clear LL0 HB0
  obtain ⟨i, m, rfl, rfl, hgk, hi, hm, LL, HB, HM⟩ := hrel
  by_cases hin : i < n
  ·have hi0 : (0 : Int) ≤ (i : Int) := by omega
   have hm0 : (0 : Int) ≤ (m : Int) := by omega
   have hi1 : (i : Int) < (n : Int) := by omega
   have hm1 : (m : Int) < (n : Int) := by omega
   obtain ⟨np, Ap, mp, kp, p0, p1, HP⟩ := LL.out.el (j := i) (by rw [HLN.out]; exact hin)
   obtain ⟨nq, Aq, mq, kq, q0, q1, HQ⟩ := LL.out.el (j := m) (by rw [HLN.out]; exact hm)
   go_wp2_with fail
   replace p0 := p0.drew; replace p1 := p1.drew; replace q0 := q0.drew; replace q1 := q1.drew
   replace LL := Lib.hid (LL.out.below (below_drew (Below.refl _ _)))
   replace HP := Lib.hid (HP.out.below (below_drew (Below.refl _ _)))
   replace HQ := Lib.hid (HQ.out.below (below_drew (Below.refl _ _)))
   replace HB := below_drew HB
   generalize hWd : wr.drew = wd at *
   refine wp_region_F (fun w' => w'.cell? ⟨b, off + i * 2, none⟩ = some (.bool np) ∧ w'.cell? ⟨b, off + i * 2 + 1, none⟩ = some (.slice Ap mp kp) ∧ w'.cell? ⟨b, off + m * 2, none⟩ = some (.bool nq) ∧ w'.cell? ⟨b, off + m * 2 + 1, none⟩ = some (.slice Aq mq kq)) [] (by kernel_rfl) (by rw [hWd]; exact ⟨p0.c, p1.c, q0.c, q1.c⟩) (fun hHeld => ?_)
   rw [hWd] at hHeld ⊢
   refine tF 0 ({ dst := some 10, op := Go.Op.move (Go.Operand.tmp 0), type := 123, pos := "fate.go:41", after := #[], guard := none }) hHeld ?_; try go_frame
   refine tF 1 ({ dst := some 11, op := Go.Op.move (Go.Operand.tmp 4), type := 3, pos := "fate.go:41", after := #[], guard := none }) hHeld ?_; try go_frame
   refine tF 2 ({ dst := some 12, op := Go.Op.indexAddr 123 (Go.Operand.tmp 10) (Go.Operand.tmp 11), type := 0, pos := "fate.go:41", after := #[{ on := 0, ground := Go.Ground.data }, { on := 1, ground := Go.Ground.data }], guard := none }) hHeld ?_; try go_frame
   refine tF 3 ({ dst := some 13, op := Go.Op.load 118 (Go.Operand.tmp 12), type := 118, pos := "fate.go:41", after := #[{ on := 2, ground := Go.Ground.data }], guard := none }) hHeld ?_; try go_frame
   refine tF 4 ({ dst := some 14, op := Go.Op.move (Go.Operand.tmp 0), type := 123, pos := "fate.go:41", after := #[], guard := none }) hHeld ?_; try go_frame
   refine tF 5 ({ dst := some 15, op := Go.Op.move (Go.Operand.tmp 3), type := 3, pos := "fate.go:41", after := #[], guard := none }) hHeld ?_; try go_frame
   refine tF 6 ({ dst := some 16, op := Go.Op.indexAddr 123 (Go.Operand.tmp 14) (Go.Operand.tmp 15), type := 0, pos := "fate.go:41", after := #[{ on := 4, ground := Go.Ground.data }, { on := 5, ground := Go.Ground.data }], guard := none }) hHeld ?_; try go_frame
   refine tF 7 ({ dst := some 17, op := Go.Op.load 118 (Go.Operand.tmp 16), type := 118, pos := "fate.go:41", after := #[{ on := 6, ground := Go.Ground.data }], guard := none }) hHeld ?_; try go_frame
   refine wpAnyF_one (i := 8) (by kernel_rfl) rfl (fun K hK => ?_)
   go_simp
   (go_at_call 90; (with_reducible refine (hCmp_c (gd l i) (gd l m) _ _ _ HP.out HQ.out).mono ?_); rintro e w5 ⟨rfl, hb5⟩; replace LL := Lib.hid (LL.out.below hb5); replace p0 := p0.keep hb5; replace p1 := p1.keep hb5; replace q0 := q0.keep hb5; replace q1 := q1.keep hb5; replace HB := below_step HB hb5; clear hb5)
   refine hK.out _ _ (by exact ⟨p0.c, p1.c, q0.c, q1.c⟩) (fun hHeld => ?_)
   clear hK K
   try go_frame
   refine tF 9 ({ dst := some 19, op := Go.Op.binOp Go.BinOp.lss 3 (Go.Operand.tmp 18) (Go.Operand.const (Go.Value.int Go.IntKind.i64 0)) 3, type := 4, pos := "fate.go:41", after := #[{ on := 8, ground := Go.Ground.data }], guard := none }) hHeld ?_; try go_frame
   refine wpAnyF_done (by kernel_rfl) ?_ _
   clear hHeld hWd HP HQ p0 p1 q0 q1
   by_cases hlt : gd l i < gd l m
   ·have HM2 : Hid (leastF l n 0 0 = leastF l (n - (i + 1)) (i + 1) i) := by
     show _ = _
     rw [HM.out, show n - i = (n - (i + 1)) + 1 by omega, leastF, if_pos hlt]
    have hc : icmp (gd l i) (gd l m) < 0 := (icmp_lt' _ _).2 hlt
    clear hlt HM
    go_wp2
    go_roundg (n - (i + 1))
    case measure => omega
    case rel => exact ⟨i + 1, i, rfl, by go_num, rfl, by omega, by omega, LL, HB, HM2⟩
   ·have HM2 : Hid (leastF l n 0 0 = leastF l (n - (i + 1)) (i + 1) m) := by
     show _ = _
     rw [HM.out, show n - i = (n - (i + 1)) + 1 by omega, leastF, if_neg hlt]
    have hc : ¬ icmp (gd l i) (gd l m) < 0 := fun h => hlt ((icmp_lt' _ _).1 h)
    clear hlt HM
    go_wp2
    go_roundg (n - (i + 1))
    case measure => omega
    case rel => exact ⟨i + 1, m, rfl, by go_num, rfl, by omega, by omega, LL, HB, HM2⟩
  ·obtain rfl : i = n := by omega
   have HMM : Hid (mnL l = m) := by show _ = _; unfold mnL; rw [HLN.out, HM.out, Nat.sub_self]; rfl
   clear HM hgk hi hin
   have hm0 : (0 : Int) ≤ (m : Int) := by omega
   have hm1 : (m : Int) ≤ (i : Int) := by omega
   go_wp2_with fail
   have hmc : m ≤ c := by omega
   have hcne : ¬ c = m := by omega
   have hld : (l.drop m).length = i - m := by rw [List.length_drop, HLN.out]
   have hlt : (l.take m).length = m := by rw [List.length_take, HLN.out]; omega
   have HCL : Hid (∀ W, LsZ B9 .u32 W (some ⟨b, off + m * 2, none⟩) (c - m) (l.drop m) → Calls Tryz.prog 159 #[.slice (some ⟨b, off + m * 2, none⟩) (i - m) (c - m)] W fun e w' => ∃ v, e = .returned v ∧ OwZ B9 .u32 w' W.heap.size 118 v (l.drop m) ∧ Below W.heap.size W w') := by
    intro W hW
    rw [← hld]
    exact Clone_c _ _ _ W hW (List.length_pos_iff.1 (by omega)) (by omega)
   have LD : Hid (LsZ B9 .u32 wr (some ⟨b, off + m * 2, none⟩) (c - m) (l.drop m)) := by
    have h := LL.out.drop (n := m) (by rw [HLN.out]; omega)
    rw [if_neg hcne, Option.map_some, plain_add] at h
    exact h
   have LT := Lib.hid (LL.out.take (n := m) (by rw [HLN.out]; omega))
   replace LD := Lib.hid (LD.out.below (below_drew (Below.refl _ _)))
   replace LT := Lib.hid (LT.out.below (below_drew (Below.refl _ _)))
   replace HB := below_drew HB
   have HLD := Lib.hid hld
   have HLT := Lib.hid hlt
   clear hld hlt LL
   generalize hWd : wr.drew = wd at *
   refine wp_region_F (fun w' => 0 ≤ w'.heap.size) [] (by kernel_rfl) (by rw [hWd]; exact Nat.zero_le _) (fun hHeld => ?_)
   rw [hWd] at hHeld ⊢
   refine tF 0 ({ dst := some 22, op := Go.Op.move (Go.Operand.tmp 0), type := 123, pos := "fate.go:45", after := #[], guard := none }) hHeld ?_; try go_frame
   refine tF 1 ({ dst := some 23, op := Go.Op.move (Go.Operand.tmp 3), type := 3, pos := "fate.go:45", after := #[], guard := none }) hHeld ?_; try go_frame
   refine tF 2 ({ dst := some 24, op := Go.Op.slice 123 (Go.Operand.tmp 22) (some (Go.Operand.tmp 23)) none none, type := 123, pos := "fate.go:45", after := #[{ on := 0, ground := Go.Ground.data }, { on := 1, ground := Go.Ground.data }], guard := none }) hHeld ?_; try go_frame
   refine tF 4 ({ dst := some 26, op := Go.Op.move (Go.Operand.tmp 0), type := 123, pos := "fate.go:45", after := #[], guard := none }) hHeld ?_; try go_frame
   refine tF 5 ({ dst := some 27, op := Go.Op.move (Go.Operand.tmp 3), type := 3, pos := "fate.go:45", after := #[], guard := none }) hHeld ?_; try go_frame
   refine tF 6 ({ dst := some 28, op := Go.Op.slice 123 (Go.Operand.tmp 26) none (some (Go.Operand.tmp 27)) none, type := 123, pos := "fate.go:45", after := #[{ on := 4, ground := Go.Ground.data }, { on := 5, ground := Go.Ground.data }], guard := none }) hHeld ?_; try go_frame
   refine wpAnyF_one (i := 3) (by kernel_rfl) rfl (fun K hK => ?_)
   go_simp
   (go_at_call 159; (with_reducible refine (HCL.out _ LD.out).mono ?_); rintro e w3 ⟨v3, rfl, HO3, hb3⟩; replace LT := Lib.hid (LT.out.below hb3); have HB3 := below_step HB hb3; have hne3 := Lib.hid (HO3.ne (List.length_pos_iff.1 (by rw [HLD.out]; omega))); have hbs := hb3.size; clear HCL LD)
   refine hK.out _ _ (by exact Nat.zero_le _) (fun hHeld => ?_)
   clear hK K
   try go_frame
   refine wpAnyF_one (i := 7) (by kernel_rfl) rfl (fun K hK => ?_)
   rw [if_pos (show Region.wanted _ _ = true from rfl)]
   (refine op_Zs wd.heap.size _ _ 123 118 32 rfl Tryz.underlying123 info_H (by decide) v3 (l.drop m) (l.take m) _ m c HLT.out.symm HO3 LT.out rfl rfl (.inl hne3.out) hbs (by rw [HLD.out, HLT.out]; omega) ?_; intro v1 w1 HO1 HB1 HK1 hb1)
   refine hK.out _ _ (by exact Nat.zero_le _) (fun hHeld => ?_)
   clear hK K
   try go_frame
   refine tF 8 ({ dst := some 2, op := Go.Op.assign (Go.Operand.tmp 29), type := 123, pos := "fate.go:45", after := #[{ on := 7, ground := Go.Ground.data }, { on := 7, ground := Go.Ground.chain }, { on := 0, ground := Go.Ground.phase }, { on := 1, ground := Go.Ground.phase }, { on := 2, ground := Go.Ground.phase }, { on := 3, ground := Go.Ground.phase }, { on := 4, ground := Go.Ground.phase }, { on := 5, ground := Go.Ground.phase }, { on := 6, ground := Go.Ground.phase }, { on := 7, ground := Go.Ground.phase }], guard := none }) hHeld ?_; try go_frame
   refine wpAnyF_done (by kernel_rfl) ?_ _
   clear hHeld
   have hwwd := Lib.hid HB.size
   replace HB := HB3.trans (HB1.mono (by have := HB.size; omega))
   have HOM : Hid (OwZ B9 .u32 w1 wd.heap.size 118 v1 (turnL l)) := by
    show OwZ _ _ _ _ _ _ _
    unfold turnL
    rw [HMM.out]
    exact HO1
   have hwd := Lib.hid (HOM.out.base_le (base' := w.heap.size) hwwd.out)
   obtain ⟨A2, c2, rfl, hs⟩ := HOM.out.form
   clear hs HOM HO1
   go_wp2
   refine bodyPost_ret (v := .slice A2 (turnL l).length c2) (by simp [results, Tryz.results128, go_sem]) rfl ⟨_, rfl, hwd.out, HB⟩
end Go.Proofs.YtibdipfhfaeooaaGreatDoor

