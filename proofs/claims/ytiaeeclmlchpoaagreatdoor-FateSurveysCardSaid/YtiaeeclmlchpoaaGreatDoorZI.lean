/- The plain law behind fate.Survey: how many of some numbers come to each cycle. -/
import Derived.Test.YtiaeeclmlchpoaaGreatDoorZC
import Derived.Test.YtiaeeclmlchpoaaGreatDoorZ9
import Derived.Test.YtiaeeclmlchpoaaGreatDoorZ4
import Derived.Sort.Grow
import Derived.Maps.RangeWalk
import Derived.Test.YtiaeeclmlchpoaaGreatDoorZ7
set_option linter.unusedVariables false
set_option linter.unusedSimpArgs false
namespace Go.Proofs.YtiaeeclmlchpoaaGreatDoor

/-- The least number of the cycle to which a number comes. -/
def lstO (M : Mp) (most : Nat) (z : Int) : Option Int := if (flwA M (most + 1) [] z).1 = 0 then some (gd (flwA M (most + 1) [] z).2.2 0) else none
/-- Those of the numbers from z to z + n - 1. -/
def lsts (M : Mp) (most : Nat) (z : Int) (n : Nat) : List Int := (List.range n).filterMap fun i : Nat => lstO M most (z + (i : Int))
theorem lsts_succ (M : Mp) (most : Nat) (z : Int) (n : Nat) : lsts M most z (n + 1) = lsts M most z n ++ (lstO M most (z + (n : Int))).toList := by
  unfold lsts
  rw [List.range_succ, List.filterMap_append]
  congr 1
theorem lsts_len (M : Mp) (most : Nat) (z : Int) (n : Nat) : (lsts M most z n).length ≤ n := by
  have := List.length_filterMap_le (fun i : Nat => lstO M most (z + (i : Int))) (List.range n)
  rw [List.length_range] at this
  exact this
theorem lsts_add (M : Mp) (most : Nat) (z : Int) (a b : Nat) : lsts M most z (a + b) = lsts M most z a ++ lsts M most (z + (a : Int)) b := by
  induction b with
  | zero => simp [lsts]
  | succ b ih =>
    rw [← Nat.add_assoc, lsts_succ, ih, lsts_succ, List.append_assoc]
    rw [show z + ((a + b : Nat) : Int) = z + (a : Int) + (b : Int) by omega]
/-- A list of names, rising, with how often each occurs. -/
def SrvOK (cs : List Int) (L : List (Int × Nat)) : Prop := L.Pairwise (fun p q => p.1 < q.1) ∧ ∀ y m, (y, m) ∈ L ↔ 0 < m ∧ m = cs.count y
theorem rise_uniq : ∀ (L L' : List (Int × Nat)), L.Pairwise (fun p q => p.1 < q.1) → L'.Pairwise (fun p q => p.1 < q.1) → (∀ p, p ∈ L ↔ p ∈ L') → L = L'
  | [], [], _, _, _ => rfl
  | [], p :: _, _, _, h => absurd ((h p).2 (.head _)) (by simp)
  | p :: _, [], _, _, h => absurd ((h p).1 (.head _)) (by simp)
  | p :: L, q :: L', h1, h2, h => by
    rw [List.pairwise_cons] at h1 h2
    have e : p = q := by
      rcases List.mem_cons.1 ((h p).1 (.head _)) with e | hp
      · exact e
      · rcases List.mem_cons.1 ((h q).2 (.head _)) with e | hq
        · exact e.symm
        · have := h2.1 p hp
          have := h1.1 q hq
          omega
    subst e
    congr 1
    refine rise_uniq L L' h1.2 h2.2 fun r => ⟨fun hr => ?_, fun hr => ?_⟩
    · rcases List.mem_cons.1 ((h r).1 (.tail _ hr)) with e | h3
      · have := h1.1 r hr
        rw [e] at this; omega
      · exact h3
    · rcases List.mem_cons.1 ((h r).2 (.tail _ hr)) with e | h3
      · have := h2.1 r hr
        rw [e] at this; omega
      · exact h3
theorem SrvOK.uniq {cs : List Int} {L L' : List (Int × Nat)} (h : SrvOK cs L) (h' : SrvOK cs L') : L = L' :=
  rise_uniq L L' h.1 h'.1 fun p => (h.2 p.1 p.2).trans (h'.2 p.1 p.2).symm
theorem sum_count (ks : List Int) (hn : ks.Nodup) : ∀ cs : List Int, (∀ c, c ∈ cs → c ∈ ks) → (ks.map fun k => cs.count k).sum = cs.length
  | [], _ => by
    clear hn
    induction ks with
    | nil => rfl
    | cons k ks ih => simpa using ih
  | c :: cs, h => by
    have ih := sum_count ks hn cs (fun x hx => h x (.tail _ hx))
    have hc := h c (.head _)
    rw [List.length_cons, ← ih]
    clear ih h
    induction ks with
    | nil => cases hc
    | cons k ks ih =>
      rw [List.nodup_cons] at hn
      simp only [List.map_cons, List.sum_cons]
      by_cases e : c = k
      · subst e
        have hne : (ks.map fun k => (c :: cs).count k) = ks.map fun k => cs.count k := List.map_congr_left fun x hx => by
          rw [List.count_cons, if_neg (by simp; rintro rfl; exact hn.1 hx), Nat.add_zero]
        rw [hne, List.count_cons_self]; omega
      · have := ih hn.2 (by rcases List.mem_cons.1 hc with h | h; exact absurd h e; exact h)
        rw [this, List.count_cons, if_neg (by simpa using e)]; omega
theorem rise_nodup {L : List (Int × Nat)} (h : L.Pairwise (fun p q => p.1 < q.1)) : (L.map Prod.fst).Nodup := by
  rw [List.Nodup, List.pairwise_map]
  exact h.imp fun h => by omega
theorem SrvOK.sum {cs : List Int} {L : List (Int × Nat)} (h : SrvOK cs L) : (L.map Prod.snd).sum = cs.length := by
  have e : L.map Prod.snd = (L.map Prod.fst).map fun k => cs.count k := by
    rw [List.map_map]
    exact List.map_congr_left fun p hp => ((h.2 p.1 p.2).1 hp).2
  rw [e]
  refine sum_count _ (rise_nodup h.1) cs fun c hc => ?_
  exact List.mem_map.2 ⟨(c, cs.count c), (h.2 _ _).2 ⟨List.count_pos_iff.2 hc, rfl⟩, rfl⟩
/-- What the sorting of the names yields. -/
theorem SrvOK.of_perm {cs : List Int} {L L' : List (Int × Nat)} (hm : ∀ y m, (y, m) ∈ L ↔ 0 < m ∧ m = cs.count y) (hp : L.Perm L') (hs : L'.Pairwise (fun p q => p.1 < q.1)) : SrvOK cs L' :=
  ⟨hs, fun y m => (hp.mem_iff.symm).trans (hm y m)⟩
end Go.Proofs.YtiaeeclmlchpoaaGreatDoor

set_option linter.unusedVariables false
set_option linter.unusedSimpArgs false
namespace Go.Proofs.YtiaeeclmlchpoaaGreatDoor
open Go.RowKit

def cns (l : List (ByteArray × Nat)) : List Value := l.flatMap fun p => [.string p.1, .int .i64 p.2]
theorem cns_length (l : List (ByteArray × Nat)) : (cns l).length = l.length * 2 := by
  induction l with
  | nil => rfl
  | cons a t ih => unfold cns at ih ⊢; rw [List.flatMap_cons, List.length_append, ih, List.length_cons]; simp; omega
theorem cns_snoc (l : List (ByteArray × Nat)) (p : ByteArray × Nat) : cns (l ++ [p]) = cns l ++ [.string p.1, .int .i64 p.2] := by
  unfold cns; rw [List.flatMap_append]; rfl
def gc (l : List (ByteArray × Nat)) (i : Nat) : ByteArray × Nat := l.getD i (ByteArray.empty, 0)
theorem gc_lt {l : List (ByteArray × Nat)} {i : Nat} (h : i < l.length) : gc l i = l[i] := by simp [gc, h]
theorem cns_at (l : List (ByteArray × Nat)) : ∀ i, i < l.length → (cns l)[i * 2]? = some (.string (gc l i).1) ∧ (cns l)[i * 2 + 1]? = some (.int .i64 (gc l i).2) := by
  induction l with
  | nil => intro i h; cases h
  | cons a t ih =>
    intro i h
    have e : cns (a :: t) = .string a.1 :: .int .i64 a.2 :: cns t := rfl
    rw [e]
    cases i with
    | zero => exact ⟨rfl, rfl⟩
    | succ i =>
      obtain ⟨h1, h2⟩ := ih i (by simpa using h)
      have eg : gc (a :: t) (i + 1) = gc t i := by simp [gc]
      rw [eg, show (i + 1) * 2 = i * 2 + 1 + 1 by omega]
      exact ⟨by simpa using h1, by simpa using h2⟩
/-- A slice of counts. -/
def LsC (w : World) (A : Option Addr) (c : Nat) (l : List (ByteArray × Nat)) : Prop := Rd w 2 A l.length (cns l) ∧ l.length ≤ c ∧ c ≤ 9223372036854775807
/-- A row of counts of the call's own. -/
def OwC (w : World) (base : Nat) (v : Value) (l : List (ByteArray × Nat)) : Prop := w.ownsRow base 74 2 v l.length (cns l)
section
variable {w w' : World} {base : Nat} {v : Value} {l : List (ByteArray × Nat)} {A : Option Addr} {c : Nat}
theorem LsC.below (h : LsC w A c l) (hb : Below w.heap.size w w') : LsC w' A c l := ⟨h.1.below hb, h.2⟩
theorem LsC.el (h : LsC w A c l) {j : Nat} (hj : j < l.length) : ∃ b off, A = some ⟨b, off, none⟩ ∧ CL w b (off + j * 2) (.string (gc l j).1) ∧ CL w b (off + j * 2 + 1) (.int .i64 (gc l j).2) := by
  obtain ⟨b, off, e, hl, hc⟩ := h.1.2 (by omega)
  obtain ⟨h1, h2⟩ := cns_at l j hj
  exact ⟨b, off, e, ⟨hc _ _ h1, hl⟩, ⟨by rw [Nat.add_assoc]; exact hc _ _ h2, hl⟩⟩
theorem OwC.nil (w : World) (base : Nat) : OwC w base (.slice none 0 0) [] := World.ownsRow_nil _ _ _ _
theorem OwC.below (h : OwC w base v l) (hb : Below w.heap.size w w') : OwC w' base v l :=
  World.ownsRow.kept (row := none) h ⟨hb.os, hb.tape, hb.output, hb.size, fun i hi _ => hb.block i hi⟩ (by cases v.ownBlock <;> simp)
theorem OwC.form (h : OwC w base v l) : ∃ A c, v = .slice A l.length c ∧ LsC w A c l := by
  have hh : w.ownsRow base 74 2 v l.length (cns l) := h
  have h2 := hh.2
  rcases h2 with ⟨rfl, h0⟩ | ⟨g, cap, cur, rfl, hb, hg, hnc, hm, _⟩
  · have : l = [] := List.eq_nil_of_length_eq_zero h0
    subst this
    exact ⟨none, 0, rfl, ⟨hh.1, fun h => absurd h (by simp)⟩, Nat.le_refl _, by omega⟩
  · refine ⟨some ⟨g, 0, none⟩, cap, rfl, Rd.of_own hh, hnc, ?_⟩
    simp only [maxLen] at hm
    omega
end
theorem info_C : (Tryz.prog.info? 74).map (fun i => (i.zero, i.size, i.bytes)) = some (some (.agg #[.string ByteArray.empty, .int .i64 0]), 2, 24) := by kernel_rfl
/-- What Survey returns: each name with how often it came, and, if there are any, how many came to none. -/
def cnL (L : List (Int × Nat)) (q : Nat) : List (ByteArray × Nat) := L.map (fun p => (tS p.1, p.2)) ++ if q = 0 then [] else [(ByteArray.empty, q)]
section
variable {P : Program} {o : Oper} {a : Act} {K : Act → World → Prop} {Q : Exit → Act → World → Prop}
/-- One element more at the end of a row of the call's own, where the operation stands in a region that draws. -/
theorem app_RW {w0 W : World} (base : Nat) (s x : Operand) (t e : TypeId) (z : Value) (size bytes : Nat) (news : List Value) (n : Nat) (xs : List Value)
    (ho : o.op = .call { callee := .builtin .append, args := #[s, x], argTypes := #[t, t] })
    (ht : P.underlying t = some (.slice e)) (hinfo : (P.info? e).map (fun i => (i.zero, i.size, i.bytes)) = some (some z, size, bytes)) (hzs : z.cells.size = size) (hsz : 0 < size) (hb0 : 0 < bytes) (hnl : news.length = size) (hn1 : ∀ u ∈ news, u.oneCell' = true)
    (v : Value) (HO : W.ownsRow base e size v n xs) (hs : a.eval s = v) (hx : a.eval x = .slice (some ⟨W.heap.size, 0, none⟩) 1 1) (HB : Below base w0 W) (hbase : base ≤ W.heap.size) (hl : (n + 1) * bytes ≤ 140737488355328)
    (h : ∀ v1 w1, w1.ownsRow base e size v1 (n + 1) (xs ++ news) → Below base w0 w1 → base ≤ w1.heap.size → (∀ i, i < W.heap.size → v.ownBlock ≠ some i → w1.heap[i]? = W.heap[i]?) → K (a.put o.dst v1) w1) :
    o.wp P a (W.alloc (.cells news.toArray e)) K Q := by
  obtain ⟨i0, hi, hzz⟩ := Option.map_eq_some_iff.1 hinfo
  simp only [Prod.mk.injEq] at hzz
  obtain ⟨hz0, hz1, hz2⟩ := hzz
  have hlen : n + 1 ≤ 140737488355328 := Nat.le_trans (Nat.le_mul_of_pos_right _ hb0) hl
  refine wp_append_own (W.alloc (.cells news.toArray e)) s x t ho base e i0 z size bytes ht hi hz0 hz1 hz2 hzs hsz v n xs hs (HO.alloc _) ⟨W.heap.size, 0, none⟩ 1 1 news hx (by omega)
    (fun j u hu => by rw [plain_add]; simp only [World.cell?, heap_alloc_new]; simpa using hu) hn1 (by simp only [maxLen]; omega) hl (by simp; omega) ?_
  intro v1 w1 hown hg _
  exact h v1 w1 hown ((HB.alloc hbase _).grown hg (by simp; omega) (ownsRow_base HO)) (by have := hg.size; simp at this; omega) (fun i hi hne => (hg.block i (by simp; omega) (fun e => hne e.symm)).trans ((World.grownBy_alloc W (.cells news.toArray e) none).block i hi (by simp)))
end
end Go.Proofs.YtiaeeclmlchpoaaGreatDoor

set_option linter.unusedVariables false
set_option linter.unusedSimpArgs false
namespace Go.Proofs.YtiaeeclmlchpoaaGreatDoor.D
open Go.RowKit

abbrev opae89c433 : Oper := { dst := some 6, op := Go.Op.load 57 (Go.Operand.tmp 2), type := 57, pos := "whole.go:111", after := #[], guard := none }
abbrev opda2e2d72 : Oper := { dst := some 8, op := Go.Op.load 57 (Go.Operand.tmp 3), type := 57, pos := "whole.go:111", after := #[], guard := none }
abbrev opda13e5a3 : Oper := { dst := some 10, op := Go.Op.binOp Go.BinOp.neq 3 (Go.Operand.tmp 7) (Go.Operand.tmp 9) 3, type := 4, pos := "whole.go:111", after := #[{ on := 1, ground := Go.Ground.data }, { on := 3, ground := Go.Ground.data }], guard := none }
abbrev opd14747bc : Oper := { dst := some 5, op := Go.Op.assign (Go.Operand.tmp 10), type := 4, pos := "whole.go:111", after := #[{ on := 4, ground := Go.Ground.data }, { on := 3, ground := Go.Ground.chain }], guard := none }
abbrev op040ac0ee : Oper := { dst := some 11, op := Go.Op.load 57 (Go.Operand.tmp 2), type := 57, pos := "whole.go:112", after := #[], guard := none }
abbrev opeb4aae0c : Oper := { dst := some 13, op := Go.Op.load 57 (Go.Operand.tmp 3), type := 57, pos := "whole.go:112", after := #[], guard := none }
abbrev opc5386256 : Oper := { dst := some 15, op := Go.Op.binOp Go.BinOp.sub 3 (Go.Operand.tmp 12) (Go.Operand.tmp 14) 3, type := 3, pos := "whole.go:112", after := #[{ on := 1, ground := Go.Ground.data }, { on := 3, ground := Go.Ground.data }], guard := none }
abbrev op33f57d0a : Oper := { dst := some 16, op := Go.Op.call { callee := Go.Callee.builtin Go.Builtin.max, args := #[Go.Operand.const (Go.Value.int Go.IntKind.i64 (-1)), Go.Operand.tmp 15], argTypes := #[3, 3] }, type := 3, pos := "whole.go:112", after := #[{ on := 4, ground := Go.Ground.data }], guard := none }
abbrev op59c8148d : Oper := { dst := some 17, op := Go.Op.call { callee := Go.Callee.builtin Go.Builtin.min, args := #[Go.Operand.const (Go.Value.int Go.IntKind.i64 1), Go.Operand.tmp 16], argTypes := #[3, 3] }, type := 3, pos := "whole.go:112", after := #[{ on := 5, ground := Go.Ground.data }], guard := none }
abbrev op147cfb77 : Oper := { dst := some 4, op := Go.Op.assign (Go.Operand.tmp 17), type := 3, pos := "whole.go:112", after := #[{ on := 6, ground := Go.Ground.data }, { on := 3, ground := Go.Ground.chain }, { on := 0, ground := Go.Ground.phase }, { on := 1, ground := Go.Ground.phase }, { on := 2, ground := Go.Ground.phase }, { on := 3, ground := Go.Ground.phase }, { on := 4, ground := Go.Ground.phase }, { on := 5, ground := Go.Ground.phase }, { on := 6, ground := Go.Ground.phase }], guard := none }
attribute [local go_sem] opae89c433 opda2e2d72 opda13e5a3 opd14747bc op040ac0ee opeb4aae0c opc5386256 op33f57d0a op59c8148d op147cfb77
/-- Below, and the draws have not sunk. -/
structure BelowD (B : Nat) (w w' : World) : Prop where
  b : Below B w w'
  d : w.drawn ≤ w'.drawn
instance {B : Nat} {w w' : World} : Coe (BelowD B w w') (Below B w w') := ⟨BelowD.b⟩
theorem BelowD.refl (B : Nat) (w : World) : BelowD B w w := ⟨Below.refl B w, Nat.le_refl _⟩
theorem belowD_alloc {w W : World} (h : BelowD w.heap.size w W) (o : Obj) : BelowD w.heap.size w (W.alloc o) := ⟨below_alloc h.b o, h.d⟩
theorem belowD_drew {B : Nat} {w W : World} (h : BelowD B w W) : BelowD B w W.drew := ⟨below_drew h.b, Nat.le_succ_of_le h.d⟩
theorem belowD_drewN {B : Nat} {w W : World} (h : BelowD B w W) (n : Nat) : BelowD B w (W.drewN n) := ⟨below_drewN h.b n, Nat.le_trans h.d (Nat.le_add_right _ _)⟩
theorem belowD_step {w W W' : World} (h : BelowD w.heap.size w W) (h' : BelowD W.heap.size W W') : BelowD w.heap.size w W' := ⟨below_step h.b h'.b, Nat.le_trans h.d h'.d⟩
/-- So the world behind the call is the one ahead, some draws on, with some blocks behind. -/
theorem BelowD.grow {w w' : World} (h : BelowD w.heap.size w w') : ∃ q os, w' = Go.Sort.grow (w.drewN q) os := by
  refine ⟨w'.drawn - w.drawn, w'.heap.extract w.heap.size w'.heap.size, ?_⟩
  obtain ⟨⟨h1, h2, h3, h4, h5⟩, h6⟩ := h
  have hh : w'.heap = w.heap ++ w'.heap.extract w.heap.size w'.heap.size := by
    apply Array.ext_getElem?
    intro i
    by_cases hi : i < w.heap.size
    · rw [h5 i hi, Array.getElem?_append_left hi]
    · rw [Array.getElem?_append_right (by omega), Array.getElem?_extract]
      by_cases h7 : i < w'.heap.size
      · rw [if_pos (by omega), show w.heap.size + (i - w.heap.size) = i by omega]
      · rw [if_neg (by omega), Array.getElem?_eq_none (by omega)]
  cases w' with
  | mk a b c d e =>
    simp only at h1 h2 h3 h6
    unfold Go.Sort.grow World.drewN
    simp only at hh ⊢
    rw [← hh]
    subst h1 h2 h3
    congr 1
    omega
theorem hcompareD_b (A A' : Option Addr) (c c' : Nat) (a b : List Int) (w : World) (h : SlI w .u32 A c a) (h' : SlI w .u32 A' c' b) (ha : Dg B9 a) (hb : Dg B9 b) (na : Nm a) (nb : Nm b) :
    Calls Tryz.prog 45 #[.slice A a.length c, .slice A' b.length c'] w fun e w' => e = .returned (.int .i64 (icmp (V B9 a) (V B9 b))) ∧ BelowD w.heap.size w w' :=
  (hcompare_c A A' c c' a b w h h' ha hb na nb).mono fun e w' ⟨he, n, hw⟩ => ⟨he, by rw [hw]; exact belowD_drewN (BelowD.refl _ _) n⟩
theorem start2HD (w : World) {na nb : Bool} {A1 A2 : Option Addr} {n1 c1 n2 c2 : Nat} {x y : Int} (t : TypeId) (W : World)
    (h1 : IsH w (.agg #[.bool na, .slice A1 n1 c1]) x) (h2 : IsH w (.agg #[.bool nb, .slice A2 n2 c2]) y)
    (hW : (w.alloc (.cells #[.bool na, .slice A1 n1 c1] t)).alloc (.cells #[.bool nb, .slice A2 n2 c2] t) = W) :
    VH W w.heap.size na A1 n1 c1 x ∧ VH W (w.heap.size + 1) nb A2 n2 c2 y ∧ W.heap.size = w.heap.size + 1 + 1 ∧ BelowD w.heap.size w W := by
  obtain ⟨k1, k2, k3, k4⟩ := start2H w t W h1 h2 hW
  subst hW
  exact ⟨k1, k2, k3, belowD_alloc (belowD_alloc (BelowD.refl _ _) _) _⟩
set_option maxRecDepth 100000 in
set_option maxHeartbeats 2000000 in
theorem hSignD_c (x : Int) (v : Value) (w : World) (h : IsH w v x) :
    Calls Tryz.prog 52 #[v] w fun e w' => e = .returned (.int .i64 (if x = 0 then 0 else if x < 0 then -1 else 1)) ∧ BelowD w.heap.size w w' := by
  obtain ⟨A, c, rfl, hs⟩ := h
  have hB : BelowD w.heap.size w w := BelowD.refl _ _
  have hc1 := hs.2.1
  have hc2 := hs.2.2
  have el : ((dg B9 x).length : Int) = 0 ↔ x = 0 := by
    unfold dg
    rcases Nat.eq_zero_or_pos x.natAbs with h0 | h0
    · rw [h0, digs_zero]; simp; omega
    · rw [digs_pos B9two h0]; simp only [List.length_cons]; omega
  by_cases h0 : x = 0
  · have hl : (((dg B9 x).length : Int) == 0) = true := by simpa using el.2 h0
    rw [if_pos h0]
    have hd : decide (x < 0) = false := by simp; omega
    rw [hd]
    generalize dg B9 x = l at *
    clear el h0 hd
    go_enter Tryz.func52, Tryz.ntmps52
    go_wp2
    go_ret
    exact ⟨rfl, belowD_alloc hB _⟩
  · have hl : (((dg B9 x).length : Int) == 0) = false := by simpa using fun h => h0 (el.1 h)
    rw [if_neg h0]
    by_cases hx : x < 0
    · have hd : decide (x < 0) = true := by simpa using hx
      rw [if_pos hx, hd]
      generalize dg B9 x = l at *
      clear el h0 hd hx
      go_enter Tryz.func52, Tryz.ntmps52
      go_wp2
      go_ret
      exact ⟨rfl, belowD_alloc hB _⟩
    · have hd : decide (x < 0) = false := by simpa using hx
      rw [if_neg hx, hd]
      generalize dg B9 x = l at *
      clear el h0 hd hx
      go_enter Tryz.func52, Tryz.ntmps52
      go_wp2
      go_ret
      exact ⟨rfl, belowD_alloc hB _⟩
theorem hSignD_s (x : Int) (v : Value) (w : World) (h : IsH w v x) :
    Calls Tryz.prog 52 #[v] w fun e w' => e = .returned (.int .i64 (sgn x)) ∧ BelowD w.heap.size w w' := hSignD_c x v w h
set_option maxRecDepth 100000 in
set_option maxHeartbeats 2000000 in
theorem hCmpD_c (x y : Int) (v1 v2 : Value) (w : World) (h1 : IsH w v1 x) (h2 : IsH w v2 y) :
    Calls Tryz.prog 32 #[v1, v2] w fun e w' => e = .returned (.int .i64 (icmp x y)) ∧ BelowD w.heap.size w w' := by
  obtain ⟨na, A1, n1, c1, rfl, H1⟩ := h1.form
  obtain ⟨nb, A2, n2, c2, rfl, H2⟩ := h2.form
  clear h1 h2
  have hsx := sgn_r x
  have hsy := sgn_r y
  by_cases hne : sgn x = sgn y
  · have hq : (sgn x != sgn y) = false := by simpa using hne
    have hxy : (x < 0 ↔ y < 0) := by
      have h := hne
      unfold sgn at h
      by_cases a : x = 0 <;> by_cases b : y = 0 <;> by_cases c : x < 0 <;> by_cases d : y < 0 <;> simp_all <;> omega
    have hna := H1.out.sl.1
    by_cases hneg : x < 0
    · have hn : na = true := by rw [hna]; simpa using hneg
      clear hna
      subst hn
      go_enter Tryz.func32, Tryz.ntmps32
      go_wp2_with fail
      generalize hW : (w.alloc (Obj.cells #[Value.bool true, Value.slice A1 n1 c1] 57)).alloc (Obj.cells #[Value.bool nb, Value.slice A2 n2 c2] 57) = W at *
      obtain ⟨V2, V3, hs, HB⟩ := start2HD w _ W H1.out H2.out hW
      clear hW H1 H2
      replace V2 := V2.drew; replace V3 := V3.drew; replace HB := belowD_drew HB
      generalize hWd : W.drew = wd at *
      refine wp_region_F (fun w' => w'.cell? ⟨w.heap.size, 0, none⟩ = some (.bool true) ∧ w'.cell? ⟨w.heap.size, 1, none⟩ = some (.slice A1 n1 c1) ∧ w'.cell? ⟨w.heap.size + 1, 0, none⟩ = some (.bool nb) ∧ w'.cell? ⟨w.heap.size + 1, 1, none⟩ = some (.slice A2 n2 c2)) [] (by kernel_rfl) (by rw [hWd]; exact ⟨V2.c0, V2.c1, V3.c0, V3.c1⟩) (fun hHeld => ?_)
      rw [hWd] at hHeld ⊢
      refine wpF_t (i := 0) (oi := opae89c433) (v := ?_) rfl (by kernel_rfl) (fun _ _ _ h => h) (Or.inl ⟨by rfl, ?_⟩) hHeld ?_; rotate_left
      · intro w_ hSw_; (try dsimp only at hSw_); go_simp; (try with_reducible rfl)
      try go_frame
      refine wpF_t (i := 2) (oi := opda2e2d72) (v := ?_) rfl (by kernel_rfl) (fun _ _ _ h => h) (Or.inl ⟨by rfl, ?_⟩) hHeld ?_; rotate_left
      · intro w_ hSw_; (try dsimp only at hSw_); go_simp; (try with_reducible rfl)
      try go_frame
      refine wpAnyF_one (i := 1) (by kernel_rfl) rfl (fun K hK => ?_)
      go_simp
      (go_at_call 52; (with_reducible refine (hSignD_s x _ _ (by exact V2.iz.out)).mono ?_); rintro e w1 ⟨rfl, hb⟩; replace V2 := V2.keep hb.b; replace V3 := V3.keep hb.b; replace HB := belowD_step HB hb; clear hb)
      refine hK.out _ _ (by exact ⟨V2.c0, V2.c1, V3.c0, V3.c1⟩) (fun hHeld => ?_)
      clear hK K
      try go_frame
      refine wpAnyF_one (i := 3) (by kernel_rfl) rfl (fun K hK => ?_)
      go_simp
      (go_at_call 52; (with_reducible refine (hSignD_s y _ _ (by exact V3.iz.out)).mono ?_); rintro e w2 ⟨rfl, hb⟩; replace V2 := V2.keep hb.b; replace V3 := V3.keep hb.b; replace HB := belowD_step HB hb; clear hb)
      refine hK.out _ _ (by exact ⟨V2.c0, V2.c1, V3.c0, V3.c1⟩) (fun hHeld => ?_)
      clear hK K
      try go_frame
      refine wpF_t (i := 4) (oi := opda13e5a3) (v := ?_) rfl (by kernel_rfl) (fun _ _ _ h => h) (Or.inl ⟨by rfl, ?_⟩) hHeld ?_; rotate_left
      · intro w_ hSw_; (try dsimp only at hSw_); go_simp; (try with_reducible rfl)
      try go_frame
      refine wpF_t (i := 5) (oi := opd14747bc) (v := ?_) rfl (by kernel_rfl) (fun _ _ _ h => h) (Or.inl ⟨by rfl, ?_⟩) hHeld ?_; rotate_left
      · intro w_ hSw_; (try dsimp only at hSw_); go_simp; (try with_reducible rfl)
      try go_frame
      refine wpAnyF_done (by kernel_rfl) ?_ _
      clear hHeld hWd
      have va0 := V2.c0; have va1 := V2.c1; have vb0 := V3.c0; have vb1 := V3.c1
      obtain ⟨-, hn1, L1⟩ := V2.iz.out.sl
      obtain ⟨-, hn2, L2⟩ := V3.iz.out.sl
      have HC : Hid (∀ w', w' = w2 → Calls Tryz.prog 45 #[.slice A2 n2 c2, .slice A1 n1 c1] w' fun e w'' => e = .returned (.int .i64 (icmp x y)) ∧ BelowD w'.heap.size w' w'') := fun w' hw => by
        subst hw
        rw [hn2, hn1]
        refine (hcompareD_b _ _ _ _ _ _ _ L2 L1 (dg_dg B9two _) (dg_dg B9two _) (dg_nm B9two _) (dg_nm B9two _)).mono ?_
        rintro e w'' ⟨rfl, hb⟩
        exact ⟨by rw [dg_V B9two, dg_V B9two]; congr 2; have := hxy.1 hneg; unfold icmp; split <;> (try split) <;> (try split) <;> (try split) <;> omega, hb⟩
      clear hn1 hn2 L1 L2
      go_wp2_with fail
      (with_reducible refine (HC.out _ rfl).mono ?_)
      rintro e w9 ⟨rfl, hb⟩
      replace HB := belowD_step HB hb
      clear hb va0 va1 vb0 vb1 HC
      go_wp2
      go_ret
      exact ⟨rfl, HB⟩
    · have hn : na = false := by rw [hna]; simpa using hneg
      clear hna
      subst hn
      go_enter Tryz.func32, Tryz.ntmps32
      go_wp2_with fail
      generalize hW : (w.alloc (Obj.cells #[Value.bool false, Value.slice A1 n1 c1] 57)).alloc (Obj.cells #[Value.bool nb, Value.slice A2 n2 c2] 57) = W at *
      obtain ⟨V2, V3, hs, HB⟩ := start2HD w _ W H1.out H2.out hW
      clear hW H1 H2
      replace V2 := V2.drew; replace V3 := V3.drew; replace HB := belowD_drew HB
      generalize hWd : W.drew = wd at *
      refine wp_region_F (fun w' => w'.cell? ⟨w.heap.size, 0, none⟩ = some (.bool false) ∧ w'.cell? ⟨w.heap.size, 1, none⟩ = some (.slice A1 n1 c1) ∧ w'.cell? ⟨w.heap.size + 1, 0, none⟩ = some (.bool nb) ∧ w'.cell? ⟨w.heap.size + 1, 1, none⟩ = some (.slice A2 n2 c2)) [] (by kernel_rfl) (by rw [hWd]; exact ⟨V2.c0, V2.c1, V3.c0, V3.c1⟩) (fun hHeld => ?_)
      rw [hWd] at hHeld ⊢
      refine wpF_t (i := 0) (oi := opae89c433) (v := ?_) rfl (by kernel_rfl) (fun _ _ _ h => h) (Or.inl ⟨by rfl, ?_⟩) hHeld ?_; rotate_left
      · intro w_ hSw_; (try dsimp only at hSw_); go_simp; (try with_reducible rfl)
      try go_frame
      refine wpF_t (i := 2) (oi := opda2e2d72) (v := ?_) rfl (by kernel_rfl) (fun _ _ _ h => h) (Or.inl ⟨by rfl, ?_⟩) hHeld ?_; rotate_left
      · intro w_ hSw_; (try dsimp only at hSw_); go_simp; (try with_reducible rfl)
      try go_frame
      refine wpAnyF_one (i := 1) (by kernel_rfl) rfl (fun K hK => ?_)
      go_simp
      (go_at_call 52; (with_reducible refine (hSignD_s x _ _ (by exact V2.iz.out)).mono ?_); rintro e w1 ⟨rfl, hb⟩; replace V2 := V2.keep hb.b; replace V3 := V3.keep hb.b; replace HB := belowD_step HB hb; clear hb)
      refine hK.out _ _ (by exact ⟨V2.c0, V2.c1, V3.c0, V3.c1⟩) (fun hHeld => ?_)
      clear hK K
      try go_frame
      refine wpAnyF_one (i := 3) (by kernel_rfl) rfl (fun K hK => ?_)
      go_simp
      (go_at_call 52; (with_reducible refine (hSignD_s y _ _ (by exact V3.iz.out)).mono ?_); rintro e w2 ⟨rfl, hb⟩; replace V2 := V2.keep hb.b; replace V3 := V3.keep hb.b; replace HB := belowD_step HB hb; clear hb)
      refine hK.out _ _ (by exact ⟨V2.c0, V2.c1, V3.c0, V3.c1⟩) (fun hHeld => ?_)
      clear hK K
      try go_frame
      refine wpF_t (i := 4) (oi := opda13e5a3) (v := ?_) rfl (by kernel_rfl) (fun _ _ _ h => h) (Or.inl ⟨by rfl, ?_⟩) hHeld ?_; rotate_left
      · intro w_ hSw_; (try dsimp only at hSw_); go_simp; (try with_reducible rfl)
      try go_frame
      refine wpF_t (i := 5) (oi := opd14747bc) (v := ?_) rfl (by kernel_rfl) (fun _ _ _ h => h) (Or.inl ⟨by rfl, ?_⟩) hHeld ?_; rotate_left
      · intro w_ hSw_; (try dsimp only at hSw_); go_simp; (try with_reducible rfl)
      try go_frame
      refine wpAnyF_done (by kernel_rfl) ?_ _
      clear hHeld hWd
      have va0 := V2.c0; have va1 := V2.c1; have vb0 := V3.c0; have vb1 := V3.c1
      obtain ⟨-, hn1, L1⟩ := V2.iz.out.sl
      obtain ⟨-, hn2, L2⟩ := V3.iz.out.sl
      have HC : Hid (∀ w', w' = w2 → Calls Tryz.prog 45 #[.slice A1 n1 c1, .slice A2 n2 c2] w' fun e w'' => e = .returned (.int .i64 (icmp x y)) ∧ BelowD w'.heap.size w' w'') := fun w' hw => by
        subst hw
        rw [hn1, hn2]
        refine (hcompareD_b _ _ _ _ _ _ _ L1 L2 (dg_dg B9two _) (dg_dg B9two _) (dg_nm B9two _) (dg_nm B9two _)).mono ?_
        rintro e w'' ⟨rfl, hb⟩
        exact ⟨by rw [dg_V B9two, dg_V B9two]; congr 2; have hy0 : ¬ y < 0 := fun h => (by have := hxy.2 h; omega); unfold icmp; split <;> (try split) <;> (try split) <;> (try split) <;> omega, hb⟩
      clear hn1 hn2 L1 L2
      go_wp2_with fail
      (with_reducible refine (HC.out _ rfl).mono ?_)
      rintro e w9 ⟨rfl, hb⟩
      replace HB := belowD_step HB hb
      clear hb va0 va1 vb0 vb1 HC
      go_wp2
      go_ret
      exact ⟨rfl, HB⟩
  · have hq : (sgn x != sgn y) = true := by simpa using hne
    have hw1 : IntKind.i64.wrap (sgn x - sgn y) = sgn x - sgn y := by rw [IntKind.wrap_i64]; omega
    rcases sgn_icmp hne with ⟨h3, h4⟩ | ⟨h3, h4⟩
    · have hmx : max (-1) (sgn x - sgn y) = -1 := by omega
      have HI := Lib.hid h4
      clear h4 hne
      go_enter Tryz.func32, Tryz.ntmps32
      go_wp2_with fail
      generalize hW : (w.alloc (Obj.cells #[Value.bool na, Value.slice A1 n1 c1] 57)).alloc (Obj.cells #[Value.bool nb, Value.slice A2 n2 c2] 57) = W at *
      obtain ⟨V2, V3, hs, HB⟩ := start2HD w _ W H1.out H2.out hW
      clear hW H1 H2
      replace V2 := V2.drew; replace V3 := V3.drew; replace HB := belowD_drew HB
      generalize hWd : W.drew = wd at *
      refine wp_region_F (fun w' => w'.cell? ⟨w.heap.size, 0, none⟩ = some (.bool na) ∧ w'.cell? ⟨w.heap.size, 1, none⟩ = some (.slice A1 n1 c1) ∧ w'.cell? ⟨w.heap.size + 1, 0, none⟩ = some (.bool nb) ∧ w'.cell? ⟨w.heap.size + 1, 1, none⟩ = some (.slice A2 n2 c2)) [] (by kernel_rfl) (by rw [hWd]; exact ⟨V2.c0, V2.c1, V3.c0, V3.c1⟩) (fun hHeld => ?_)
      rw [hWd] at hHeld ⊢
      refine wpF_t (i := 0) (oi := opae89c433) (v := ?_) rfl (by kernel_rfl) (fun _ _ _ h => h) (Or.inl ⟨by rfl, ?_⟩) hHeld ?_; rotate_left
      · intro w_ hSw_; (try dsimp only at hSw_); go_simp; (try with_reducible rfl)
      try go_frame
      refine wpF_t (i := 2) (oi := opda2e2d72) (v := ?_) rfl (by kernel_rfl) (fun _ _ _ h => h) (Or.inl ⟨by rfl, ?_⟩) hHeld ?_; rotate_left
      · intro w_ hSw_; (try dsimp only at hSw_); go_simp; (try with_reducible rfl)
      try go_frame
      refine wpAnyF_one (i := 1) (by kernel_rfl) rfl (fun K hK => ?_)
      go_simp
      (go_at_call 52; (with_reducible refine (hSignD_s x _ _ (by exact V2.iz.out)).mono ?_); rintro e w1 ⟨rfl, hb⟩; replace V2 := V2.keep hb.b; replace V3 := V3.keep hb.b; replace HB := belowD_step HB hb; clear hb)
      refine hK.out _ _ (by exact ⟨V2.c0, V2.c1, V3.c0, V3.c1⟩) (fun hHeld => ?_)
      clear hK K
      try go_frame
      refine wpAnyF_one (i := 3) (by kernel_rfl) rfl (fun K hK => ?_)
      go_simp
      (go_at_call 52; (with_reducible refine (hSignD_s y _ _ (by exact V3.iz.out)).mono ?_); rintro e w2 ⟨rfl, hb⟩; replace V2 := V2.keep hb.b; replace V3 := V3.keep hb.b; replace HB := belowD_step HB hb; clear hb)
      refine hK.out _ _ (by exact ⟨V2.c0, V2.c1, V3.c0, V3.c1⟩) (fun hHeld => ?_)
      clear hK K
      try go_frame
      refine wpF_t (i := 4) (oi := opda13e5a3) (v := ?_) rfl (by kernel_rfl) (fun _ _ _ h => h) (Or.inl ⟨by rfl, ?_⟩) hHeld ?_; rotate_left
      · intro w_ hSw_; (try dsimp only at hSw_); go_simp; (try with_reducible rfl)
      try go_frame
      refine wpF_t (i := 5) (oi := opd14747bc) (v := ?_) rfl (by kernel_rfl) (fun _ _ _ h => h) (Or.inl ⟨by rfl, ?_⟩) hHeld ?_; rotate_left
      · intro w_ hSw_; (try dsimp only at hSw_); go_simp; (try with_reducible rfl)
      try go_frame
      refine wpAnyF_done (by kernel_rfl) ?_ _
      clear hHeld hWd
      go_wp2_with fail
      replace V2 := V2.drew; replace V3 := V3.drew; replace HB := belowD_drew HB
      generalize hWd : w2.drew = wd at *
      refine wp_region_F (fun w' => w'.cell? ⟨w.heap.size, 0, none⟩ = some (.bool na) ∧ w'.cell? ⟨w.heap.size, 1, none⟩ = some (.slice A1 n1 c1) ∧ w'.cell? ⟨w.heap.size + 1, 0, none⟩ = some (.bool nb) ∧ w'.cell? ⟨w.heap.size + 1, 1, none⟩ = some (.slice A2 n2 c2)) [] (by kernel_rfl) (by rw [hWd]; exact ⟨V2.c0, V2.c1, V3.c0, V3.c1⟩) (fun hHeld => ?_)
      rw [hWd] at hHeld ⊢
      refine wpF_t (i := 0) (oi := op040ac0ee) (v := ?_) rfl (by kernel_rfl) (fun _ _ _ h => h) (Or.inl ⟨by rfl, ?_⟩) hHeld ?_; rotate_left
      · intro w_ hSw_; (try dsimp only at hSw_); go_simp; (try with_reducible rfl)
      try go_frame
      refine wpF_t (i := 2) (oi := opeb4aae0c) (v := ?_) rfl (by kernel_rfl) (fun _ _ _ h => h) (Or.inl ⟨by rfl, ?_⟩) hHeld ?_; rotate_left
      · intro w_ hSw_; (try dsimp only at hSw_); go_simp; (try with_reducible rfl)
      try go_frame
      refine wpAnyF_one (i := 1) (by kernel_rfl) rfl (fun K hK => ?_)
      go_simp
      (go_at_call 52; (with_reducible refine (hSignD_s x _ _ (by exact V2.iz.out)).mono ?_); rintro e w3 ⟨rfl, hb⟩; replace V2 := V2.keep hb.b; replace V3 := V3.keep hb.b; replace HB := belowD_step HB hb; clear hb)
      refine hK.out _ _ (by exact ⟨V2.c0, V2.c1, V3.c0, V3.c1⟩) (fun hHeld => ?_)
      clear hK K
      try go_frame
      refine wpAnyF_one (i := 3) (by kernel_rfl) rfl (fun K hK => ?_)
      go_simp
      (go_at_call 52; (with_reducible refine (hSignD_s y _ _ (by exact V3.iz.out)).mono ?_); rintro e w4 ⟨rfl, hb⟩; replace V2 := V2.keep hb.b; replace V3 := V3.keep hb.b; replace HB := belowD_step HB hb; clear hb)
      refine hK.out _ _ (by exact ⟨V2.c0, V2.c1, V3.c0, V3.c1⟩) (fun hHeld => ?_)
      clear hK K
      try go_frame
      refine wpF_t (i := 4) (oi := opc5386256) (v := ?_) rfl (by kernel_rfl) (fun _ _ _ h => h) (Or.inl ⟨by rfl, ?_⟩) hHeld ?_; rotate_left
      · intro w_ hSw_; (try dsimp only at hSw_); go_simp; (try with_reducible rfl)
      try go_frame
      refine wpF_t (i := 5) (oi := op33f57d0a) (v := ?_) rfl (by kernel_rfl) (fun _ _ _ h => h) (Or.inl ⟨by rfl, ?_⟩) hHeld ?_; rotate_left
      · intro w_ hSw_; (try dsimp only at hSw_); go_simp; (try with_reducible rfl)
      try go_frame
      refine wpF_t (i := 6) (oi := op59c8148d) (v := ?_) rfl (by kernel_rfl) (fun _ _ _ h => h) (Or.inl ⟨by rfl, ?_⟩) hHeld ?_; rotate_left
      · intro w_ hSw_; (try dsimp only at hSw_); go_simp; (try with_reducible rfl)
      try go_frame
      refine wpF_t (i := 7) (oi := op147cfb77) (v := ?_) rfl (by kernel_rfl) (fun _ _ _ h => h) (Or.inl ⟨by rfl, ?_⟩) hHeld ?_; rotate_left
      · intro w_ hSw_; (try dsimp only at hSw_); go_simp; (try with_reducible rfl)
      try go_frame
      refine wpAnyF_done (by kernel_rfl) ?_ _
      clear hHeld hWd
      go_wp2
      go_ret
      exact ⟨by rw [HI.out] <;> rfl, HB⟩
    · have hmx : max (-1) (sgn x - sgn y) = sgn x - sgn y := by omega
      have hmn : min 1 (sgn x - sgn y) = 1 := by omega
      have HI := Lib.hid h4
      clear h4 hne
      go_enter Tryz.func32, Tryz.ntmps32
      go_wp2_with fail
      generalize hW : (w.alloc (Obj.cells #[Value.bool na, Value.slice A1 n1 c1] 57)).alloc (Obj.cells #[Value.bool nb, Value.slice A2 n2 c2] 57) = W at *
      obtain ⟨V2, V3, hs, HB⟩ := start2HD w _ W H1.out H2.out hW
      clear hW H1 H2
      replace V2 := V2.drew; replace V3 := V3.drew; replace HB := belowD_drew HB
      generalize hWd : W.drew = wd at *
      refine wp_region_F (fun w' => w'.cell? ⟨w.heap.size, 0, none⟩ = some (.bool na) ∧ w'.cell? ⟨w.heap.size, 1, none⟩ = some (.slice A1 n1 c1) ∧ w'.cell? ⟨w.heap.size + 1, 0, none⟩ = some (.bool nb) ∧ w'.cell? ⟨w.heap.size + 1, 1, none⟩ = some (.slice A2 n2 c2)) [] (by kernel_rfl) (by rw [hWd]; exact ⟨V2.c0, V2.c1, V3.c0, V3.c1⟩) (fun hHeld => ?_)
      rw [hWd] at hHeld ⊢
      refine wpF_t (i := 0) (oi := opae89c433) (v := ?_) rfl (by kernel_rfl) (fun _ _ _ h => h) (Or.inl ⟨by rfl, ?_⟩) hHeld ?_; rotate_left
      · intro w_ hSw_; (try dsimp only at hSw_); go_simp; (try with_reducible rfl)
      try go_frame
      refine wpF_t (i := 2) (oi := opda2e2d72) (v := ?_) rfl (by kernel_rfl) (fun _ _ _ h => h) (Or.inl ⟨by rfl, ?_⟩) hHeld ?_; rotate_left
      · intro w_ hSw_; (try dsimp only at hSw_); go_simp; (try with_reducible rfl)
      try go_frame
      refine wpAnyF_one (i := 1) (by kernel_rfl) rfl (fun K hK => ?_)
      go_simp
      (go_at_call 52; (with_reducible refine (hSignD_s x _ _ (by exact V2.iz.out)).mono ?_); rintro e w1 ⟨rfl, hb⟩; replace V2 := V2.keep hb.b; replace V3 := V3.keep hb.b; replace HB := belowD_step HB hb; clear hb)
      refine hK.out _ _ (by exact ⟨V2.c0, V2.c1, V3.c0, V3.c1⟩) (fun hHeld => ?_)
      clear hK K
      try go_frame
      refine wpAnyF_one (i := 3) (by kernel_rfl) rfl (fun K hK => ?_)
      go_simp
      (go_at_call 52; (with_reducible refine (hSignD_s y _ _ (by exact V3.iz.out)).mono ?_); rintro e w2 ⟨rfl, hb⟩; replace V2 := V2.keep hb.b; replace V3 := V3.keep hb.b; replace HB := belowD_step HB hb; clear hb)
      refine hK.out _ _ (by exact ⟨V2.c0, V2.c1, V3.c0, V3.c1⟩) (fun hHeld => ?_)
      clear hK K
      try go_frame
      refine wpF_t (i := 4) (oi := opda13e5a3) (v := ?_) rfl (by kernel_rfl) (fun _ _ _ h => h) (Or.inl ⟨by rfl, ?_⟩) hHeld ?_; rotate_left
      · intro w_ hSw_; (try dsimp only at hSw_); go_simp; (try with_reducible rfl)
      try go_frame
      refine wpF_t (i := 5) (oi := opd14747bc) (v := ?_) rfl (by kernel_rfl) (fun _ _ _ h => h) (Or.inl ⟨by rfl, ?_⟩) hHeld ?_; rotate_left
      · intro w_ hSw_; (try dsimp only at hSw_); go_simp; (try with_reducible rfl)
      try go_frame
      refine wpAnyF_done (by kernel_rfl) ?_ _
      clear hHeld hWd
      go_wp2_with fail
      replace V2 := V2.drew; replace V3 := V3.drew; replace HB := belowD_drew HB
      generalize hWd : w2.drew = wd at *
      refine wp_region_F (fun w' => w'.cell? ⟨w.heap.size, 0, none⟩ = some (.bool na) ∧ w'.cell? ⟨w.heap.size, 1, none⟩ = some (.slice A1 n1 c1) ∧ w'.cell? ⟨w.heap.size + 1, 0, none⟩ = some (.bool nb) ∧ w'.cell? ⟨w.heap.size + 1, 1, none⟩ = some (.slice A2 n2 c2)) [] (by kernel_rfl) (by rw [hWd]; exact ⟨V2.c0, V2.c1, V3.c0, V3.c1⟩) (fun hHeld => ?_)
      rw [hWd] at hHeld ⊢
      refine wpF_t (i := 0) (oi := op040ac0ee) (v := ?_) rfl (by kernel_rfl) (fun _ _ _ h => h) (Or.inl ⟨by rfl, ?_⟩) hHeld ?_; rotate_left
      · intro w_ hSw_; (try dsimp only at hSw_); go_simp; (try with_reducible rfl)
      try go_frame
      refine wpF_t (i := 2) (oi := opeb4aae0c) (v := ?_) rfl (by kernel_rfl) (fun _ _ _ h => h) (Or.inl ⟨by rfl, ?_⟩) hHeld ?_; rotate_left
      · intro w_ hSw_; (try dsimp only at hSw_); go_simp; (try with_reducible rfl)
      try go_frame
      refine wpAnyF_one (i := 1) (by kernel_rfl) rfl (fun K hK => ?_)
      go_simp
      (go_at_call 52; (with_reducible refine (hSignD_s x _ _ (by exact V2.iz.out)).mono ?_); rintro e w3 ⟨rfl, hb⟩; replace V2 := V2.keep hb.b; replace V3 := V3.keep hb.b; replace HB := belowD_step HB hb; clear hb)
      refine hK.out _ _ (by exact ⟨V2.c0, V2.c1, V3.c0, V3.c1⟩) (fun hHeld => ?_)
      clear hK K
      try go_frame
      refine wpAnyF_one (i := 3) (by kernel_rfl) rfl (fun K hK => ?_)
      go_simp
      (go_at_call 52; (with_reducible refine (hSignD_s y _ _ (by exact V3.iz.out)).mono ?_); rintro e w4 ⟨rfl, hb⟩; replace V2 := V2.keep hb.b; replace V3 := V3.keep hb.b; replace HB := belowD_step HB hb; clear hb)
      refine hK.out _ _ (by exact ⟨V2.c0, V2.c1, V3.c0, V3.c1⟩) (fun hHeld => ?_)
      clear hK K
      try go_frame
      refine wpF_t (i := 4) (oi := opc5386256) (v := ?_) rfl (by kernel_rfl) (fun _ _ _ h => h) (Or.inl ⟨by rfl, ?_⟩) hHeld ?_; rotate_left
      · intro w_ hSw_; (try dsimp only at hSw_); go_simp; (try with_reducible rfl)
      try go_frame
      refine wpF_t (i := 5) (oi := op33f57d0a) (v := ?_) rfl (by kernel_rfl) (fun _ _ _ h => h) (Or.inl ⟨by rfl, ?_⟩) hHeld ?_; rotate_left
      · intro w_ hSw_; (try dsimp only at hSw_); go_simp; (try with_reducible rfl)
      try go_frame
      refine wpF_t (i := 6) (oi := op59c8148d) (v := ?_) rfl (by kernel_rfl) (fun _ _ _ h => h) (Or.inl ⟨by rfl, ?_⟩) hHeld ?_; rotate_left
      · intro w_ hSw_; (try dsimp only at hSw_); go_simp; (try with_reducible rfl)
      try go_frame
      refine wpF_t (i := 7) (oi := op147cfb77) (v := ?_) rfl (by kernel_rfl) (fun _ _ _ h => h) (Or.inl ⟨by rfl, ?_⟩) hHeld ?_; rotate_left
      · intro w_ hSw_; (try dsimp only at hSw_); go_simp; (try with_reducible rfl)
      try go_frame
      refine wpAnyF_done (by kernel_rfl) ?_ _
      clear hHeld hWd
      go_wp2
      go_ret
      exact ⟨by rw [HI.out] <;> rfl, HB⟩
end Go.Proofs.YtiaeeclmlchpoaaGreatDoor.D

set_option linter.unusedVariables false
set_option linter.unusedSimpArgs false
namespace Go.Proofs.YtiaeeclmlchpoaaGreatDoor
open Go.RowKit

set_option maxRecDepth 100000 in
set_option maxHeartbeats 4000000 in
theorem nameCmp_c (x y : Int) (n1 n2 : Bool) (A1 A2 : Option Addr) (m1 k1 m2 k2 : Nat) (c1 c2 : Int) (w : World) (h1 : IsH w (.agg #[.bool n1, .slice A1 m1 k1]) x) (h2 : IsH w (.agg #[.bool n2, .slice A2 m2 k2]) y) :
    Calls Tryz.prog 31 #[.agg #[.bool n1, .slice A1 m1 k1, .int .i64 c1], .agg #[.bool n2, .slice A2 m2 k2, .int .i64 c2]] w fun e w' => e = .returned (.int .i64 (icmp x y)) ∧ D.BelowD w.heap.size w w' := by
  have HB : D.BelowD w.heap.size w ((w.alloc (.cells #[.bool n1, .slice A1 m1 k1, .int .i64 c1] 68)).alloc (.cells #[.bool n2, .slice A2 m2 k2, .int .i64 c2] 68)) := D.belowD_alloc (D.belowD_alloc (D.BelowD.refl _ _) _) _
  have H1 := Lib.hid (h1.below HB.b)
  have H2 := Lib.hid (h2.below HB.b)
  clear h1 h2
  go_enter Tryz.func31, Tryz.ntmps31
  go_wp2_with fail
  (with_reducible refine (D.hCmpD_c x y _ _ _ H1.out H2.out).mono ?_)
  rintro e w2 ⟨rfl, hb⟩
  replace HB := D.belowD_step HB hb
  clear hb
  go_wp2
  go_ret
  exact ⟨rfl, HB⟩
end Go.Proofs.YtiaeeclmlchpoaaGreatDoor

set_option linter.unusedVariables false
set_option linter.unusedSimpArgs false
namespace Go.Proofs.YtiaeeclmlchpoaaGreatDoor
open Go.RowKit Go.Shelf Go.Maps

/-- A name's value: its number, and how many. -/
def nmV (n : Bool) (A : Option Addr) (m k : Nat) (c : Int) : Value := .agg #[.bool n, .slice A m k, .int .i64 c]
/-- How a name reads: as itself (what its number reads as is carried beside). -/
noncomputable def nmR (v : Value) : Option (DataW Value × List MemPlace) :=
  open Classical in if ∃ n A m k c, v = nmV n A m k c then some (.held v, []) else none
theorem nmR_V (n : Bool) (A : Option Addr) (m k : Nat) (c : Int) : nmR (nmV n A m k c) = some (.held (nmV n A m k c), []) := by
  unfold nmR; exact if_pos ⟨_, _, _, _, _, rfl⟩
theorem nmR_inv {v : Value} {y : DataW Value × List MemPlace} (h : nmR v = some y) : ∃ n A m k c, v = nmV n A m k c ∧ y = (.held v, []) := by
  unfold nmR at h
  split at h
  · rename_i hv
    obtain ⟨n, A, m, k, c, hv⟩ := hv
    cases h
    exact ⟨n, A, m, k, c, hv, rfl⟩
  · cases h
theorem nmR_held {v u : Value} {ps : List MemPlace} (h : nmR v = some (.held u, ps)) : v = u := by
  obtain ⟨_, _, _, _, _, _, e⟩ := nmR_inv h
  cases e; rfl
/-- The map holds each number of a list, with how often it stands there. -/
structure NmM (W : World) (D : DataW Value) (cs : List Int) : Prop where
  map : IsMap D
  has_ : ∀ y, has D (kL y) = decide (y ∈ cs)
  key : ∀ kl, has D kl = true → ∃ y, y ∈ cs ∧ kl = kL y
  at_ : ∀ y, y ∈ cs → ∃ n A m k, (∀ zd, D.atKey (kL y) zd = .held (nmV n A m k (cs.count y : Int))) ∧ IsH W (.agg #[.bool n, .slice A m k]) y
  not_ : ∀ y, y ∉ cs → ∀ zd, D.atKey (kL y) zd = zd
theorem NmM.nil (W : World) : NmM W (.map []) [] := ⟨⟨[], rfl⟩, fun y => rfl, fun kl h => (by cases h), fun y h => (by cases h), fun y _ zd => rfl⟩
theorem NmM.kp {W W' : World} {D : DataW Value} {cs : List Int} (h : NmM W D cs) (hk : Kp W W') : NmM W' D cs :=
  ⟨h.map, h.has_, h.key, fun y hy => by
    obtain ⟨n, A, m, k, h1, h2⟩ := h.at_ y hy
    exact ⟨n, A, m, k, h1, hk.isZ h2⟩, h.not_⟩
theorem NmM.put {W : World} {D : DataW Value} {cs : List Int} (h : NmM W D cs) {n : Bool} {A : Option Addr} {m k : Nat} {y : Int} (hy : IsH W (.agg #[.bool n, .slice A m k]) y) :
    NmM W (D.put (kL y) (.held (nmV n A m k ((cs.count y : Int) + 1)))) (cs ++ [y]) := by
  have hc : ∀ x, x ≠ y → (cs ++ [y]).count x = cs.count x := fun x hx => by
    rw [List.count_append, List.count_singleton, if_neg (by simpa using fun e => hx e.symm), Nat.add_zero]
  refine ⟨h.map.put _ _, fun x => ?_, fun kl hk => ?_, fun x hx => ?_, fun x hx zd => ?_⟩
  · by_cases e : x = y
    · subst e; rw [has_put_same h.map (kL_key _)]; simp
    · rw [has_put_other (fun e2 => e (kL_inj e2)), h.has_]; simp [e]
  · by_cases e : kl = kL y
    · exact ⟨y, by simp, e⟩
    · rw [has_put_other e] at hk
      obtain ⟨x, hx, e2⟩ := h.key kl hk
      exact ⟨x, by simp [hx], e2⟩
  · by_cases e : x = y
    · subst e
      exact ⟨n, A, m, k, fun zd => by rw [atKey_put_same h.map (kL_key _), List.count_append, List.count_singleton_self]; rfl, hy⟩
    · obtain ⟨n', A', m', k', h1, h2⟩ := h.at_ x (by simpa [e] using hx)
      exact ⟨n', A', m', k', fun zd => by rw [atKey_put_other (fun e2 => e (kL_inj e2)), h1, hc x e], h2⟩
  · have e : x ≠ y := fun e => hx (by simp [e])
    rw [atKey_put_other (fun e2 => e (kL_inj e2))]
    exact h.not_ x (fun h2 => hx (by simp [h2])) zd
end Go.Proofs.YtiaeeclmlchpoaaGreatDoor

set_option linter.unusedVariables false
set_option linter.unusedSimpArgs false
namespace Go.Proofs.YtiaeeclmlchpoaaGreatDoor
open Go.RowKit Go.Shelf Go.Maps

theorem zeroName (w : World) : (zeroValue 68).run Tryz.prog w = .ok (nmV false none 0 0 0) w := by kernel_rfl
theorem nm_key {y : Int} (h : (tS y).size ≤ maxLen) : keyOf Tryz.prog 9 (.string (tS y)) = some (kL y)  := WideMaps.keyOf_string_mk Tryz.underlying9 h
theorem NmM.look {W : World} {D : DataW Value} {cs : List Int} (h : NmM W D cs) {bM N : Nat} (hm : W.ownsMap Tryz.prog 9 nmR bM N D) {y : Int} (hy : (tS y).size ≤ maxLen) :
    ∃ n A m k, (Instr.lookup 62 (.map (some bM)) (.string (tS y)) false).run Tryz.prog W = .ok (nmV n A m k (cs.count y : Int)) W := by
  obtain ⟨v, ps, hrun, hv⟩ := hm.lookup (string_keyed Tryz.underlying9) Tryz.underlying62 (zeroName W) (nmR_V _ _ _ _ _) (nm_key hy)
  by_cases hc : y ∈ cs
  · obtain ⟨n, A, m, k, h1, -⟩ := h.at_ y hc
    rw [h1] at hv
    exact ⟨n, A, m, k, by rw [hrun, nmR_held hv]⟩
  · rw [h.not_ y hc] at hv
    have e : cs.count y = 0 := List.count_eq_zero.2 hc
    exact ⟨false, none, 0, 0, by rw [hrun, nmR_held hv, e]; rfl⟩
theorem NmM.upd {W : World} {D : DataW Value} {cs : List Int} (h : NmM W D cs) {bM N : Nat} (hm : W.ownsMap Tryz.prog 9 nmR bM N D) (hN : N < maxLen) {y : Int} (hy : (tS y).size ≤ maxLen) {n : Bool} {A : Option Addr} {m k : Nat} (hi : IsH W (.agg #[.bool n, .slice A m k]) y) :
    ∃ W' D', (Instr.mapUpdate 62 (.map (some bM)) (.string (tS y)) (nmV n A m k ((cs.count y : Int) + 1))).run Tryz.prog W = .ok () W' ∧ W'.ownsMap Tryz.prog 9 nmR bM (N + 1) D' ∧ W.grownBy W' (some bM) ∧ NmM W' D' (cs ++ [y]) := by
  obtain ⟨W', h1, h2, h3⟩ := hm.update (string_keyed Tryz.underlying9) Tryz.underlying62 hN (nm_key hy) (nmR_V n A m k ((cs.count y : Int) + 1))
  refine ⟨W', _, h1, h2, h3, (h.put hi).kp ?_⟩
  refine Kp.own h3 fun r e => ?_
  cases e
  obtain ⟨es, clock, hb, -⟩ := hm
  exact ⟨_, hb, rfl⟩
end Go.Proofs.YtiaeeclmlchpoaaGreatDoor

set_option linter.unusedVariables false
set_option linter.unusedSimpArgs false
namespace Go.Proofs.YtiaeeclmlchpoaaGreatDoor
open Go.RowKit Go.Shelf Go.Maps

/-- A name: its number's sign and digits, how many, and the number. -/
abbrev NT := Bool × Option Addr × Nat × Nat × Nat × Int
def ntC (x : NT) : List Value := [.bool x.1, .slice x.2.1 x.2.2.1 x.2.2.2.1, .int .i64 (x.2.2.2.2.1 : Int)]
def ntsC (l : List NT) : List Value := l.flatMap ntC
theorem ntsC_snoc (l : List NT) (x : NT) : ntsC (l ++ [x]) = ntsC l ++ ntC x := by simp [ntsC]
theorem info_Nm : (Tryz.prog.info? 68).map (fun i => (i.zero, i.size, i.bytes)) = some (some (.agg #[.bool false, .slice none 0 0, .int .i64 0]), 3, 40) := by kernel_rfl
def OwN (w : World) (base : Nat) (v : Value) (l : List NT) : Prop := w.ownsRow base 68 3 v l.length (ntsC l)
theorem OwN.nil (w : World) (base : Nat) : OwN w base (.slice none 0 0) [] := World.ownsRow_nil _ _ _ _
theorem OwN.below {w w' : World} {base : Nat} {v : Value} {l : List NT} (h : OwN w base v l) (hb : Below w.heap.size w w') : OwN w' base v l :=
  World.ownsRow.kept (row := none) h ⟨hb.os, hb.tape, hb.output, hb.size, fun i hi _ => hb.block i hi⟩ (by cases v.ownBlock <;> simp)
/-- Those names of the map that are no longer to come stand in the list, each once. -/
structure NL (W : World) (cs : List Int) (left : Lit → Bool) (L : List NT) : Prop where
  mem : ∀ x, x ∈ L → x.2.2.2.2.2 ∈ cs ∧ left (kL x.2.2.2.2.2) = false ∧ x.2.2.2.2.1 = cs.count x.2.2.2.2.2 ∧ IsH W (.agg #[.bool x.1, .slice x.2.1 x.2.2.1 x.2.2.2.1]) x.2.2.2.2.2
  all : ∀ y, y ∈ cs → left (kL y) = false → ∃ x, x ∈ L ∧ x.2.2.2.2.2 = y
  nodup : (L.map fun x => x.2.2.2.2.2).Nodup
theorem NL.start (W : World) (cs : List Int) (left : Lit → Bool) (h : ∀ y, y ∈ cs → left (kL y) = true) : NL W cs left [] :=
  ⟨fun x h => (by cases h), fun y hy h2 => (by rw [h y hy] at h2; cases h2), List.nodup_nil⟩
theorem NL.kp {W W' : World} {cs : List Int} {left : Lit → Bool} {L : List NT} (h : NL W cs left L) (hk : Kp W W') : NL W' cs left L :=
  ⟨fun x hx => ⟨(h.mem x hx).1, (h.mem x hx).2.1, (h.mem x hx).2.2.1, hk.isZ (h.mem x hx).2.2.2⟩, h.all, h.nodup⟩
theorem NL.step {W : World} {cs : List Int} {left : Lit → Bool} {L : List NT} (h : NL W cs left L) {x : NT} (hy : x.2.2.2.2.2 ∈ cs) (hl : left (kL x.2.2.2.2.2) = true) (hc : x.2.2.2.2.1 = cs.count x.2.2.2.2.2) (hi : IsH W (.agg #[.bool x.1, .slice x.2.1 x.2.2.1 x.2.2.2.1]) x.2.2.2.2.2) :
    NL W cs (fun q => left q && !q.sameKey (kL x.2.2.2.2.2)) (L ++ [x]) := by
  have hs : ∀ y, (kL y).sameKey (kL x.2.2.2.2.2) = decide (y = x.2.2.2.2.2) := fun y => by
    by_cases e : y = x.2.2.2.2.2
    · subst e; simp [Lit.sameKey, kL]
    · rw [decide_eq_false e]
      cases hq : (kL y).sameKey (kL x.2.2.2.2.2) with
      | false => rfl
      | true => exact absurd (kL_inj (by simpa [Lit.sameKey, kL] using hq)) e
  refine ⟨fun u hu => ?_, fun y hyc hyl => ?_, ?_⟩
  · rcases List.mem_append.1 hu with hu | hu
    · obtain ⟨h1, h2, h3, h4⟩ := h.mem u hu
      exact ⟨h1, by rw [h2]; rfl, h3, h4⟩
    · simp at hu
      subst hu
      exact ⟨hy, by rw [hs]; simp, hc, hi⟩
  · rw [hs] at hyl
    by_cases e : y = x.2.2.2.2.2
    · exact ⟨x, by simp, e.symm⟩
    · obtain ⟨u, hu, he⟩ := h.all y hyc (by simpa [e] using hyl)
      exact ⟨u, by simp [hu], he⟩
  · rw [List.map_append, List.nodup_append]
    refine ⟨h.nodup, by simp, fun a ha b hb e => ?_⟩
    simp at hb
    subst hb
    obtain ⟨u, hu, he⟩ := List.mem_map.1 ha
    have := (h.mem u hu).2.1
    rw [he, e, hl] at this
    cases this
end Go.Proofs.YtiaeeclmlchpoaaGreatDoor

set_option linter.unusedVariables false
set_option linter.unusedSimpArgs false
namespace Go.Proofs.YtiaeeclmlchpoaaGreatDoor
open Go.RowKit

set_option maxRecDepth 100000 in
set_option maxHeartbeats 8000000 in
theorem Srv_bad (M : Mp) (s : ByteArray) (count most : Int) (v : Value) (w : World) (hM : IsM w v M) (hs : s.size ≤ 9223372036854775807) (hbad : okB M = false ∨ vldL (codes s) = false) : Calls Tryz.prog 10 #[v, .string s, .int .i64 count, .int .i64 most] w fun e w' => e = .returned (.tuple #[.slice none 0 0, .int .i64 1]) ∧ Below w.heap.size w w' := by
  obtain ⟨md, A, n, c, A', n', c', rfl, HM⟩ := hM.form
  have V3 := VM.new w 24 HM.out
  have HB := below_alloc (Below.refl w.heap.size w) (Obj.cells #[Value.int .i64 md, Value.slice A n c, Value.slice A' n' c'] 24)
  by_cases hok : okB M = true
  · have HV := Lib.hid (hbad.resolve_left (by rw [hok]; simp))
    have HOK := Lib.hid hok
    clear hok hbad hM
    go_enter Tryz.func10, Tryz.ntmps10
    go_wp2_with fail
    (with_reducible refine (SValid_c M _ _ V3.im.out).mono ?_)
    rintro e w4 ⟨he, hb⟩
    replace HB := below_step HB hb
    replace V3 := V3.keep hb
    clear hb
    obtain rfl : e = .returned (.bool true) := by rw [he, HOK.out] <;> rfl
    clear he
    go_wp2_with fail
    (with_reducible refine (nValid_c s _ hs).mono ?_)
    rintro e w5 ⟨he, hb⟩
    replace HB := below_step HB hb
    replace V3 := V3.keep hb
    clear hb
    obtain rfl : e = .returned (.bool false) := by rw [he, HV.out] <;> rfl
    clear he
    go_wp2
    go_ret2
    exact ⟨rfl, HB⟩
  · have HOK : Hid (okB M = false) := by show _ = _; revert hok; cases okB M <;> simp
    clear hok hbad hM
    go_enter Tryz.func10, Tryz.ntmps10
    go_wp2_with fail
    (with_reducible refine (SValid_c M _ _ V3.im.out).mono ?_)
    rintro e w4 ⟨he, hb⟩
    replace HB := below_step HB hb
    replace V3 := V3.keep hb
    clear hb
    obtain rfl : e = .returned (.bool false) := by rw [he, HOK.out] <;> rfl
    clear he
    go_wp2
    go_ret2
    exact ⟨rfl, HB⟩
set_option maxRecDepth 100000 in
set_option maxHeartbeats 8000000 in
theorem Srv_arg (M : Mp) (z count most : Int) (v : Value) (w : World) (hM : IsM w v M) (hok : okM M) (hz : dlN z.natAbs ≤ 2000) (hbad : count < 0 ∨ 20000 < count ∨ most < 0 ∨ 20000 < most) : Calls Tryz.prog 10 #[v, .string (tS z), .int .i64 count, .int .i64 most] w fun e w' => e = .returned (.tuple #[.slice none 0 0, .int .i64 2]) ∧ Below w.heap.size w w' := by
  obtain ⟨md, A, n, c, A', n', c', rfl, HM⟩ := hM.form
  have V3 := VM.new w 24 HM.out
  have HB := below_alloc (Below.refl w.heap.size w) (Obj.cells #[Value.int .i64 md, Value.slice A n c, Value.slice A' n' c'] 24)
  have HOK : Hid (okB M = true) := okB_iff.2 hok
  have HV := Lib.hid (vld_tS hz)
  have hs := tS_sz hz
  generalize tS z = s at *
  clear hok hM
  by_cases h1 : count < 0
  rotate_left
  by_cases h2 : 20000 < count
  rotate_left
  by_cases h3 : most < 0
  rotate_left
  have h4 : 20000 < most := by omega
  all_goals
    go_enter Tryz.func10, Tryz.ntmps10
    go_wp2_with fail
    (with_reducible refine (SValid_c M _ _ V3.im.out).mono ?_)
    rintro e w4 ⟨he, hb⟩
    replace HB := below_step HB hb
    replace V3 := V3.keep hb
    clear hb
    obtain rfl : e = .returned (.bool true) := by rw [he, HOK.out] <;> rfl
    clear he
    go_wp2_with fail
    (with_reducible refine (nValid_c s _ hs).mono ?_)
    rintro e w5 ⟨he, hb⟩
    replace HB := below_step HB hb
    replace V3 := V3.keep hb
    clear hb
    obtain rfl : e = .returned (.bool true) := by rw [he, HV.out] <;> rfl
    clear he
    go_wp2
    go_ret2
    exact ⟨rfl, HB⟩
set_option maxRecDepth 100000 in
set_option maxHeartbeats 8000000 in
theorem Srv_size (M : Mp) (z : Int) (count most : Nat) (v : Value) (w : World) (hM : IsM w v M) (hok : okM M) (hz : dlN z.natAbs ≤ 2000) (hc : count ≤ 20000) (hm : most ≤ 20000) (ht : Tb w) (hbig : 2000 < dl (z + (count : Int))) : Calls Tryz.prog 10 #[v, .string (tS z), .int .i64 count, .int .i64 most] w fun e w' => e = .returned (.tuple #[.slice none 0 0, .int .i64 3]) ∧ Below w.heap.size w w' := by
  obtain ⟨md, A, n, c, A', n', c', rfl, HM⟩ := hM.form
  have V3 := VM.new w 24 HM.out
  have HB := below_alloc (Below.refl w.heap.size w) (Obj.cells #[Value.int .i64 md, Value.slice A n c, Value.slice A' n' c'] 24)
  have HOK : Hid (okB M = true) := okB_iff.2 hok
  have HV := Lib.hid (vld_tS hz)
  have hs := tS_sz hz
  have HZ := Lib.hid hz
  have HT := Lib.hid ht
  have HL4 : Hid ((dg B9 z).length ≤ 2000) := by have := len_dlN hz; show _ ≤ _; omega
  have hlc : (dg B9 (count : Int)).length ≤ 2 := len_small (by omega) (by omega)
  have HLC : Hid ((dg B9 (count : Int)).length ≤ 1000000000000) := by show _ ≤ _; omega
  have HLS : Hid ((dg B9 (z + (count : Int))).length ≤ 1000000000) := by
    have h1 := len_add B9two z (count : Int)
    have h2 := HL4.out
    show _ ≤ _
    omega
  have hb1 : decide (2000 < dl (z + (count : Int))) = true := decide_eq_true hbig
  have hb2 : (2000 : Int) < (dl (z + (count : Int)) : Int) := by omega
  have hc0 : (0 : Int) ≤ (count : Int) := by omega
  have hc1 : (count : Int) ≤ 20000 := by omega
  have hm0 : (0 : Int) ≤ (most : Int) := by omega
  have hm1 : (most : Int) ≤ 20000 := by omega
  clear hok hM hz ht hbig hlc
  go_enter Tryz.func10, Tryz.ntmps10
  go_wp2_with fail
  (with_reducible refine (SValid_c M _ _ V3.im.out).mono ?_)
  rintro e w4 ⟨he, hb⟩
  replace HB := below_step HB hb
  replace V3 := V3.keep hb
  clear hb
  obtain rfl : e = .returned (.bool true) := by rw [he, HOK.out] <;> rfl
  clear he
  go_wp2_with fail
  (with_reducible refine (nValid_c (tS z) _ hs).mono ?_)
  rintro e w5 ⟨he, hb⟩
  replace HB := below_step HB hb
  replace V3 := V3.keep hb
  clear hb
  obtain rfl : e = .returned (.bool true) := by rw [he, HV.out] <;> rfl
  clear he
  go_wp2_with fail
  (with_reducible refine (hParse_c z _ (by have := HZ.out; omega)).mono ?_)
  rintro e w6 ⟨v, rfl, hv, hb⟩
  obtain ⟨n4, A4, m4, k4, rfl, H4⟩ := hv.form; clear hv
  replace V3 := V3.keep hb
  replace HB := below_step HB hb
  clear hb
  go_wp2_with fail
  have VA := VX.new w6 57 H4.out
  have hb := below_alloc (Below.refl w6.heap.size w6) (Obj.cells #[Value.bool n4, Value.slice A4 m4 k4] 57)
  replace V3 := V3.keep hb
  replace HB := below_step HB hb
  clear hb H4
  generalize hba : w6.heap.size = ba at *
  generalize hwa : w6.alloc (Obj.cells #[Value.bool n4, Value.slice A4 m4 k4] 57) = wa at *
  replace V3 := V3.drew; replace VA := VA.drew; replace HB := below_drew HB
  generalize hWd : wa.drew = wd at *
  clear hwa
  refine wp_region_F (fun w' => w'.cell? ⟨ba, 0, none⟩ = some (.bool n4) ∧ w'.cell? ⟨ba, 1, none⟩ = some (.slice A4 m4 k4)) [] (by kernel_rfl) (by rw [hWd]; exact ⟨VA.c0, VA.c1⟩) (fun hHeld => ?_)
  rw [hWd] at hHeld ⊢
  refine wpF_t (i := 0) (oi := { dst := some 50, op := Go.Op.load 57 (Go.Operand.tmp 10), type := 57, pos := "fate.go:82", after := #[], guard := none }) (v := ?_) rfl (by kernel_rfl) (fun _ _ _ h => h) (Or.inl ⟨by rfl, ?_⟩) hHeld ?_; rotate_left
  · intro w_ hSw_; (try dsimp only at hSw_); go_simp; (try with_reducible rfl)
  try go_frame
  refine wpF_t (i := 1) (oi := { dst := some 51, op := Go.Op.move (Go.Operand.tmp 2), type := 3, pos := "fate.go:82", after := #[], guard := none }) (v := ?_) rfl (by kernel_rfl) (fun _ _ _ h => h) (Or.inl ⟨by rfl, ?_⟩) hHeld ?_; rotate_left
  · intro w_ hSw_; (try dsimp only at hSw_); go_simp; (try with_reducible rfl)
  try go_frame
  refine wpAnyF_one (i := 2) (by kernel_rfl) rfl (fun K hK => ?_)
  go_simp
  (go_at_call 26; (with_reducible refine (hOf_c (count : Int) _ (by omega) (by omega)).mono ?_); rintro e w7 ⟨v, rfl, hv, hb⟩; obtain ⟨n7, A7, m7, k7, rfl, H7⟩ := hv.form; clear hv; replace V3 := V3.keep hb; replace VA := VA.keep hb; replace HB := below_step HB hb; clear hb)
  refine hK.out _ _ (by exact ⟨VA.c0, VA.c1⟩) (fun hHeld => ?_)
  clear hK K
  try go_frame
  refine wpAnyF_one (i := 3) (by kernel_rfl) rfl (fun K hK => ?_)
  go_simp
  (go_at_call 25; (with_reducible refine (hAdd_c z (count : Int) _ _ _ VA.iz.out H7.out (by have := HL4.out; omega) HLC.out).mono ?_); rintro e w8 ⟨v, rfl, hv, hb⟩; obtain ⟨n8, A8, m8, k8, rfl, H8⟩ := hv.form; clear hv; replace V3 := V3.keep hb; replace VA := VA.keep hb; replace HB := below_step HB hb; clear hb)
  refine hK.out _ _ (by exact ⟨VA.c0, VA.c1⟩) (fun hHeld => ?_)
  clear hK K
  try go_frame
  refine wpAnyF_one (i := 4) (by kernel_rfl) rfl (fun K hK => ?_)
  go_simp
  (go_at_call 27; (with_reducible refine (hDigits_c (z + (count : Int)) _ _ H8.out (HT.out.below HB) HLS.out).mono ?_); rintro e w9 ⟨rfl, hb⟩; replace V3 := V3.keep hb; replace VA := VA.keep hb; replace HB := below_step HB hb; clear hb)
  refine hK.out _ _ (by exact ⟨VA.c0, VA.c1⟩) (fun hHeld => ?_)
  clear hK K
  try go_frame
  refine wpF_t (i := 5) (oi := { dst := some 55, op := Go.Op.binOp Go.BinOp.gtr 3 (Go.Operand.tmp 54) (Go.Operand.const (Go.Value.int Go.IntKind.i64 2000)) 3, type := 4, pos := "fate.go:82", after := #[{ on := 4, ground := Go.Ground.data }], guard := none }) (v := ?_) rfl (by kernel_rfl) (fun _ _ _ h => h) (Or.inl ⟨by rfl, ?_⟩) hHeld ?_; rotate_left
  · intro w_ hSw_; (try dsimp only at hSw_); go_simp; (try with_reducible rfl)
  try go_frame
  refine wpAnyF_done (by kernel_rfl) ?_ _
  clear hHeld hWd
  go_wp2
  go_ret2
  exact ⟨rfl, HB⟩
end Go.Proofs.YtiaeeclmlchpoaaGreatDoor

set_option linter.unusedVariables false
set_option linter.unusedSimpArgs false
namespace Go.Proofs.YtiaeeclmlchpoaaGreatDoor
open Go.RowKit Go.Shelf Go.Maps

/-- The cells below a border are as they were. -/
structure KB (B : Nat) (w w' : World) : Prop where
  size : w.heap.size ≤ w'.heap.size
  cells : ∀ i c e fz, i < B → w.heap[i]? = some (.cells c e fz) → w'.heap[i]? = some (.cells c e fz)
theorem KB.refl (B : Nat) (w : World) : KB B w w := ⟨Nat.le_refl _, fun _ _ _ _ _ h => h⟩
theorem KB.below {B : Nat} {w W W' : World} (h : KB B w W) (hb : Below B W W') : KB B w W' :=
  ⟨Nat.le_trans h.size hb.size, fun i c e fz hi hc => (hb.block i hi).trans (h.cells i c e fz hi hc)⟩
theorem KB.own {B r : Nat} {w W W' : World} (h : KB B w W) (hg : W.grownBy W' (some r)) (hr : ∀ o : Obj, W.heap[r]? = some o → o.isCells = false) : KB B w W' :=
  ⟨Nat.le_trans h.size hg.size, fun i c e fz hi hc => by
    have h1 := h.cells i c e fz hi hc
    have hlt : i < W.heap.size := (Array.getElem?_eq_some_iff.1 h1).1
    by_cases he : i = r
    · subst he
      have := hr _ h1
      simp [Obj.isCells] at this
    · exact (hg.block i hlt (by simp [he])).trans h1⟩
theorem KB.isH {B : Nat} {w w' : World} (h : KB B w w') (hB : w.heap.size ≤ B) {v : Value} {y : Int} (hi : IsH w v y) : IsH w' v y := by
  obtain ⟨A, c, e, hs⟩ := hi
  refine ⟨A, c, e, ⟨hs.1.1, fun hn => ?_⟩, hs.2⟩
  obtain ⟨b, off, hA, hlt, hc⟩ := hs.1.2 hn
  refine ⟨b, off, hA, Nat.lt_of_lt_of_le hlt h.size, fun j u hu => ?_⟩
  have h1 := hc j u hu
  obtain ⟨o, h2, h3⟩ := cells_of_cell h1
  cases o with
  | cells c e fz => exact (World.cell?_of_block ((h.cells b c e fz (by omega) h2).trans h2.symm)).trans h1
  | _ => simp [Obj.isCells] at h3
/-- An entry of the map is one of its names. -/
theorem NmM.entry {W : World} {D : DataW Value} {cs : List Int} (h : NmM W D cs) {kl : Lit} {v : Value} (hat : ∀ zd, D.atKey kl zd = .held v) :
    ∃ y, y ∈ cs ∧ kl = kL y ∧ ∃ n A m k, v = nmV n A m k (cs.count y : Int) ∧ IsH W (.agg #[.bool n, .slice A m k]) y := by
  obtain ⟨y, hy, rfl⟩ := h.key kl (has_true_of_atKey hat)
  obtain ⟨n, A, m, k, h1, h2⟩ := h.at_ y hy
  have h3 := (h1 (.map [])).symm.trans (hat (.map []))
  cases h3
  exact ⟨y, hy, rfl, n, A, m, k, rfl, h2⟩
theorem ranges_iter {H : Type} {P : Program} {k : TypeId} {R : Value → Option (DataW H × List MemPlace)} {w : World} {b r n : Nat} {D : DataW H} {left : Lit → Bool} {cnt : Nat} (h : w.ranges P k R b r n D left cnt) :
    ∀ o : Obj, w.heap[r]? = some o → o.isCells = false := by
  obtain ⟨es, clock, since, seen, c0, -, -, -, -, h1, -⟩ := h
  intro o ho
  rw [h1] at ho
  cases ho
  rfl
/-- Nothing is left: the list holds every name. -/
theorem NL.done {W : World} {cs : List Int} {left : Lit → Bool} {L : List NT} (h : NL W cs left L) (h0 : ∀ kl, left kl = false) : ∀ y m, (y, m) ∈ L.map (fun x => (x.2.2.2.2.2, x.2.2.2.2.1)) ↔ 0 < m ∧ m = cs.count y := by
  intro y m
  constructor
  · intro hm
    obtain ⟨x, hx, he⟩ := List.mem_map.1 hm
    obtain ⟨h1, -, h3, -⟩ := h.mem x hx
    simp only [Prod.mk.injEq] at he
    obtain ⟨rfl, rfl⟩ := he
    exact ⟨by rw [h3]; exact List.count_pos_iff.2 h1, h3⟩
  · rintro ⟨h1, rfl⟩
    have hy : y ∈ cs := List.count_pos_iff.1 h1
    obtain ⟨x, hx, rfl⟩ := h.all y hy (h0 _)
    exact List.mem_map.2 ⟨x, hx, by rw [(h.mem x hx).2.2.1]⟩
def gN (l : List NT) (i : Nat) : NT := l.getD i (false, none, 0, 0, 0, 0)
theorem gN_lt {l : List NT} {i : Nat} (h : i < l.length) : gN l i = l[i] := by simp [gN, h]
theorem ntsC_at (l : List NT) : ∀ i, i < l.length → (ntsC l)[i * 3]? = some (.bool (gN l i).1) ∧ (ntsC l)[i * 3 + 1]? = some (.slice (gN l i).2.1 (gN l i).2.2.1 (gN l i).2.2.2.1) ∧ (ntsC l)[i * 3 + 2]? = some (.int .i64 ((gN l i).2.2.2.2.1 : Int)) := by
  induction l with
  | nil => intro i h; cases h
  | cons a t ih =>
    intro i h
    have e : ntsC (a :: t) = .bool a.1 :: .slice a.2.1 a.2.2.1 a.2.2.2.1 :: .int .i64 (a.2.2.2.2.1 : Int) :: ntsC t := rfl
    rw [e]
    cases i with
    | zero => exact ⟨rfl, rfl, rfl⟩
    | succ i =>
      obtain ⟨h1, h2, h3⟩ := ih i (by simpa using h)
      have eg : gN (a :: t) (i + 1) = gN t i := by simp [gN]
      rw [eg, show (i + 1) * 3 = i * 3 + 1 + 1 + 1 by omega]
      exact ⟨by simpa using h1, by simpa using h2, by simpa using h3⟩
/-- A slice of names. -/
def LsN (w : World) (A : Option Addr) (c : Nat) (l : List NT) : Prop := Rd w 3 A l.length (ntsC l) ∧ l.length ≤ c ∧ c ≤ 9223372036854775807
theorem LsN.below {w w' : World} {A : Option Addr} {c : Nat} {l : List NT} (h : LsN w A c l) (hb : Below w.heap.size w w') : LsN w' A c l := ⟨h.1.below hb, h.2⟩
theorem LsN.el {w : World} {A : Option Addr} {c : Nat} {l : List NT} (h : LsN w A c l) {j : Nat} (hj : j < l.length) : ∃ b off, A = some ⟨b, off, none⟩ ∧ CL w b (off + j * 3) (.bool (gN l j).1) ∧ CL w b (off + j * 3 + 1) (.slice (gN l j).2.1 (gN l j).2.2.1 (gN l j).2.2.2.1) ∧ CL w b (off + j * 3 + 2) (.int .i64 ((gN l j).2.2.2.2.1 : Int)) := by
  obtain ⟨b, off, e, hl, hc⟩ := h.1.2 (by omega)
  obtain ⟨h1, h2, h3⟩ := ntsC_at l j hj
  exact ⟨b, off, e, ⟨hc _ _ h1, hl⟩, ⟨by rw [Nat.add_assoc]; exact hc _ _ h2, hl⟩, ⟨by rw [Nat.add_assoc]; exact hc _ _ h3, hl⟩⟩
theorem OwN.form {w : World} {base : Nat} {v : Value} {l : List NT} (h : OwN w base v l) : ∃ A c, v = .slice A l.length c ∧ LsN w A c l := by
  have hh : w.ownsRow base 68 3 v l.length (ntsC l) := h
  have h2 := hh.2
  rcases h2 with ⟨rfl, h0⟩ | ⟨g, cap, cur, rfl, hb, hg, hnc, hm, _⟩
  · have : l = [] := List.eq_nil_of_length_eq_zero h0
    subst this
    exact ⟨none, 0, rfl, ⟨hh.1, fun h => absurd h (by simp)⟩, Nat.le_refl _, by omega⟩
  · refine ⟨some ⟨g, 0, none⟩, cap, rfl, Rd.of_own hh, hnc, ?_⟩
    simp only [maxLen] at hm
    omega
theorem ranges_below {H : Type} {P : Program} {k : TypeId} {R : Value → Option (DataW H × List MemPlace)} {w w' : World} {b r n B : Nat} {D : DataW H} {left : Lit → Bool} {cnt : Nat} (h : w.ranges P k R b r n D left cnt) (hb : Below B w w') (h1 : b < B) (h2 : r < B) : w'.ranges P k R b r n D left cnt := by
  obtain ⟨es, clock, since, seen, c0, hm, F, hs, hD, hr, rest⟩ := h
  exact ⟨es, clock, since, seen, c0, (hb.block b h1).trans hm, F, hs, hD, (hb.block r h2).trans hr, rest⟩
theorem OwN.own {w w' : World} {base r : Nat} {v : Value} {l : List NT} (h : OwN w base v l) (hg : w.grownBy w' (some r)) (hr : r < base) : OwN w' base v l := by
  have hh : w.ownsRow base 68 3 v l.length (ntsC l) := h
  refine World.ownsRow.kept (row := some r) h hg ?_
  cases hq : v.ownBlock with
  | none => exact .inl rfl
  | some g =>
    refine .inr fun e => ?_
    have := (hh.lt g hq).1
    injection e with e
    omega
theorem key_string {key : Value} {kl : Lit} (h : keyOf Tryz.prog 9 key = some kl) : ∃ s : ByteArray, key = .string s := by
  have hk := Tryz.underlying9
  cases key <;> simp [keyOf, hk, mapKey] at h
  exact ⟨_, rfl⟩
theorem lsts_dl {M : Mp} {most : Nat} {z : Int} {n : Nat} {y : Int} (h : y ∈ lsts M most z n) : dl y ≤ 2000 := by
  unfold lsts at h
  obtain ⟨i, -, hi⟩ := List.mem_filterMap.1 h
  unfold lstO at hi
  rcases flw_cases M (z + (i : Int)) most with e | e | ⟨t, l, e, h1, -, -, h4⟩
  · rw [e] at hi; cases hi
  · rw [e] at hi; cases hi
  · rw [e] at hi
    cases hi
    exact h4 _ (gd_mem h1)
theorem strict_pair {L : List NT} (h : L.Pairwise (fun p q => p.2.2.2.2.2 ≤ q.2.2.2.2.2)) (hn : (L.map fun x => x.2.2.2.2.2).Nodup) : (L.map fun x => (x.2.2.2.2.2, x.2.2.2.2.1)).Pairwise (fun p q => p.1 < q.1) := by
  rw [List.pairwise_map]
  rw [List.Nodup, List.pairwise_map] at hn
  exact (h.and hn).imp fun ⟨h1, h2⟩ => by dsimp only; omega
def nmF (x : NT) : ByteArray × Nat := (tS x.2.2.2.2.2, x.2.2.2.2.1)
theorem take_nmF {L : List NT} {j : Nat} (h : j < L.length) : (L.take (j + 1)).map nmF = (L.take j).map nmF ++ [nmF (gN L j)] := by
  rw [List.take_succ_eq_append_getElem h, List.map_append, gN_lt h]
  rfl
theorem nodup_len : ∀ (l cs : List Int), l.Nodup → (∀ x, x ∈ l → x ∈ cs) → l.length ≤ cs.length
  | [], _, _, _ => Nat.zero_le _
  | a :: l, cs, hn, h => by
    rw [List.nodup_cons] at hn
    have h1 := nodup_len l (cs.erase a) hn.2 fun x hx => (List.mem_erase_of_ne (fun e => hn.1 (by rw [← e]; exact hx))).2 (h x (.tail _ hx))
    have h2 := h a (.head _)
    rw [List.length_erase_of_mem h2] at h1
    have := List.length_pos_of_mem h2
    rw [List.length_cons]; omega
theorem NL.len {W : World} {cs : List Int} {left : Lit → Bool} {L : List NT} (h : NL W cs left L) : L.length ≤ cs.length := by
  have := nodup_len _ cs h.nodup fun x hx => by
    obtain ⟨u, hu, rfl⟩ := List.mem_map.1 hx
    exact (h.mem u hu).1
  rwa [List.length_map] at this
/-- What an entry of the map holds. -/
structure NmB where
  b : Bool
  A : Option Addr
  m : Nat
  k : Nat
  c : Int
end Go.Proofs.YtiaeeclmlchpoaaGreatDoor
