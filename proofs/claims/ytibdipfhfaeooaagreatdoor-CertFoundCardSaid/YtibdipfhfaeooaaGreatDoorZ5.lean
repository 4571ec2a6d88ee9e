/- What ref02.Rest, Step, Orbit do to memory and what they return. No condition. -/
import Derived.Test.YtibdipfhfaeooaaGreatDoorZ4
import Derived.Maps.RangeWalk
import Derived.Deep.CutRange
import Derived.RangeFuncNested
import Derived.RangeFuncBound
import Derived.RangeFuncCalls
import Derived.RangeFuncLeaves
import Derived.Test.YtibdipfhfaeooaaGreatDoorZ1
import Derived.Deep.LoopGhost
set_option linter.unusedVariables false
set_option linter.unusedSimpArgs false
namespace Go.Proofs.YtibdipfhfaeooaaGreatDoor
open Go.RowKit

theorem Res2.lt {W : World} {b : Nat} (h : Res2 W b) : b < W.heap.size := h.2.2.2.2
theorem IsM.sl {W : World} {md : Int} {A : Option Addr} {n c : Nat} {A' : Option Addr} {n' c' : Nat} {M : Mp} (h : IsM W (.agg #[.int .i64 md, .slice A n c, .slice A' n' c']) M) : md = M.mod ∧ n = M.mul.length ∧ n' = M.add.length ∧ SlI W .i64 A c M.mul ∧ SlI W .i64 A' c' M.add := by
 obtain ⟨A1, c1, A2, c2, e, h1, h2⟩ := h
 injection e with e
 simp only [Array.mk.injEq, List.cons.injEq, Value.int.injEq, Value.slice.injEq, and_true, true_and] at e
 obtain ⟨e0, ⟨rfl, e1, rfl⟩, rfl, e2, rfl⟩ := e
 exact ⟨e0, e1, e2, h1, h2⟩
/-- A cell and what it holds. -/
structure CL (W : World) (b o : Nat) (u : Value) : Prop where
 c : W.cell? ⟨b, o, none⟩ = some u
 lt : b < W.heap.size
theorem CL.keep {W w1 : World} {b o : Nat} {u : Value} (h : CL W b o u) (hb : Below W.heap.size W w1) : CL w1 b o u := ⟨kcell hb h.lt h.c, Nat.lt_of_lt_of_le h.lt hb.size⟩
theorem CL.drew {W : World} {b o : Nat} {u : Value} (h : CL W b o u) : CL W.drew b o u := h.keep (below_drew (Below.refl _ _))
/-- The number to which a number is mapped. -/
def stepZ (M : Mp) (z : Int) : Int := (gd M.mul (z % M.mod).toNat * z + gd M.add (z % M.mod).toNat) / M.mod
theorem len_small {z : Int} (h0 : -1000000000000000000 < z) (h1 : z < 1000000000000000000) : (dg B9 z).length ≤ 2 := len_int h0 h1
end Go.Proofs.YtibdipfhfaeooaaGreatDoor


set_option linter.unusedVariables false
set_option linter.unusedSimpArgs false
namespace Go.Proofs.YtibdipfhfaeooaaGreatDoor
open Go.RowKit

theorem heap_set2 (w : World) (b g : Nat) (x y : Value) (h : g ≠ b) : ((w.setCell ⟨b, 0, none⟩ x).setCell ⟨b, 1, none⟩ y).heap[g]? = w.heap[g]? := by
 simp [World.setCell, Array.getElem?_modify, Ne.symm h]
theorem OwZ.res2 {B : Nat} {k : IntKind} {w : World} {base : Nat} {e : TypeId} {v : Value} {l : List Int} {b : Nat} (h : OwZ B k w base e v l) (hr : Res2 w b) (hb : b < base) (x y : Value) : OwZ B k ((w.setCell ⟨b, 0, none⟩ x).setCell ⟨b, 1, none⟩ y) base e v l := by
 obtain ⟨xs, ⟨h1, h2⟩, h3⟩ := h
 refine ⟨xs, ⟨⟨h1.1, ?_⟩, ?_⟩, h3.kp (Kp.res2 hr x y)⟩
 ·rcases h1.2 with hn | ⟨g, cap, cur, rfl, hg, hgg, rest⟩
  ·exact .inl hn
  ·exact .inr ⟨g, cap, cur, rfl, hg, by rw [heap_set2 w b g x y (by omega)]; exact hgg, rest⟩
 ·intro g cur e' fz hg hcur
  have hge := (h1.lt g hg).1
  rw [heap_set2 w b g x y (by omega)] at hcur
  exact h2 g cur e' fz hg hcur
theorem natAbs_div_le {a m : Int} (h : 1 ≤ m) : (a / m).natAbs ≤ a.natAbs := Int.natAbs_ediv_le_natAbs a m
theorem step_len {M : Mp} (hok : okM M) (z : Int) : (dg B9 (stepZ M z)).length ≤ (dg B9 z).length + 4 := by
 obtain ⟨m2, m12, hl1, hl2, hrow⟩ := hok
 have h0 := Int.emod_nonneg z (show M.mod ≠ 0 by omega)
 have h1 := Int.emod_lt_of_pos z (show 0 < M.mod by omega)
 have h2 := hrow (z % M.mod).toNat (by omega)
 obtain ⟨x1, x2, y1, y2, -⟩ := h2
 unfold stepZ
 generalize gd M.mul (z % M.mod).toNat = x at *
 generalize gd M.add (z % M.mod).toNat = y at *
 have e1 := len_mul B9two x z
 have e2 := len_add B9two (x * z) y
 have e3 : (dg B9 x).length ≤ 2 := len_small (by omega) (by omega)
 have e4 : (dg B9 y).length ≤ 2 := len_small (by omega) (by omega)
 have e5 : (dg B9 ((x * z + y) / M.mod)).length ≤ (dg B9 (x * z + y)).length := digs_len_mono B9two (natAbs_div_le (by omega))
 omega
theorem len_of_dl {z : Int} (h : dl z ≤ 2000) : (dg B9 z).length ≤ 2000 := by
 unfold dl at h
 rcases Nat.eq_zero_or_pos z.natAbs with h0 | h0
 ·unfold dg; rw [h0, digs_zero]; simp
 ·rw [if_neg (by omega)] at h
  have h1 := digs_len_lt (B := 10) (by omega) z.natAbs
  have h2 : (10 : Nat) ^ (digs 10 z.natAbs).length ≤ B9 ^ (digs 10 z.natAbs).length := Nat.pow_le_pow_left (by decide) _
  have := digs_len_le B9two (Nat.lt_of_lt_of_le h1 h2)
  unfold dg
  omega
end Go.Proofs.YtibdipfhfaeooaaGreatDoor


set_option linter.unusedVariables false
set_option linter.unusedSimpArgs false
namespace Go.Proofs.YtibdipfhfaeooaaGreatDoor
open Go.RowKit

/-- The iterator's own steps between two rounds: new blocks; of what lay, its own block alone is written; whole numbers lie as they lay. -/
def St (bn : Nat) (A B : World) : Prop := A.grownBy B (some bn) ∧ Kp A B
theorem St.trans {bn : Nat} {A B C : World} (h : St bn A B) (k : St bn B C) : St bn A C :=
 ⟨⟨k.1.os.trans h.1.os, k.1.tape.trans h.1.tape, k.1.output.trans h.1.output, Nat.le_trans h.1.size k.1.size, fun i hi hn => (k.1.block i (Nat.lt_of_lt_of_le hi h.1.size) hn).trans (h.1.block i hi hn)⟩, h.2.trans k.2⟩
theorem St.of {bn : Nat} {A B : World} (h : Below A.heap.size A B) : St bn A B := ⟨⟨h.os, h.tape, h.output, h.size, fun i hi _ => h.block i hi⟩, Kp.of h⟩
theorem St.set {bn : Nat} {A : World} (h : Res2 A bn) (x y : Value) : St bn A ((A.setCell ⟨bn, 0, none⟩ x).setCell ⟨bn, 1, none⟩ y) :=
 ⟨⟨rfl, rfl, rfl, by simp [World.setCell], fun i _ hn => heap_set2 A bn i x y (fun e => hn (by rw [e]))⟩, Kp.res2 h x y⟩

/-- The promise: whatever holds between two rounds and stands the iterator's own steps; what the iterator knows of its state (R) is kept by each round; the rounds end before there are N. -/
def SeqSt {α : Type} (F : Fence) (n : Nat) (P : Program) (g : Nat) (lb : Array Value) (encs : Nat → α → Array Value) (R : Nat → α → World → Prop) (bn N : Nat) : Prop :=
 ∀ (l : Nat) (J : Nat → World → Prop) (Jx : World → Prop) (W : World),
  (∀ k A B, J k A → St bn A B → J k B) →
  (∀ k x W1, J k W1 → R k x W1 → k < N → YieldAt F (n - 1) P l (encs k x) W1 fun e W' => (e = .returned (.bool true) ∧ J (k + 1) W' ∧ R k x W') ∨ (e = .returned (.bool false) ∧ Jx W')) →
  (∀ W1, ¬ J N W1) → J 0 W → (∃ x, R 0 x W) →
  CallsIn F n P g (#[.func (.yield l) #[] #[]] ++ lb) W fun e W' => (∃ v, e = .returned v) ∧ Jx W'

/-- How a round may be left. -/
def postSt (B : Nat) (R I : World → Prop) (Ix : Code → World → Prop) (W : World) : Exit → Act → World → Prop
 | .normal, _, W' => KeepsFrom B W W' ∧ R W' ∧ I W'
 | .ret, _, W' => KeepsFrom B W W' ∧ Ix .ret W'
 | .exit id, _, W' => KeepsFrom B W W' ∧ Ix (.exit id) W'
 | .goto t, _, W' => KeepsFrom B W W' ∧ Ix (.goto t) W'
 | .panic _, _, _ => False
 | .outgrown, _, _ => False

section
variable {F : Fence} {n : Nat} {P : Program}
/-- What the end of a round does, in whatever way it was left. -/
theorem round_end {B l : Nat} {rec : LoopState → Option Code → Loop} (hrec : ∃ fn tmps ps asg bd df, rec = fun st pe => { state := st, pending := pe, fn := fn, tmps := tmps, params := ps, assign := asg, body := bd, defers := df })
  {W3 : World} (j : Option Code) (hl : W3.heap[l]? = some (.loop (rec .busy none))) :
  (Instr.endRound l j).run P W3 = .ok (.bool j.isNone) (W3.putObj l (.loop (rec (if j.isNone then .ready else .done) j))) := by
 obtain ⟨fn, tmps, ps, asg, bd, df, rfl⟩ := hrec
 exact run_endRound (P := P) j hl

theorem wpIn_rangeFunc_St {α : Type} {g : Operand} {ps : Array Tmp} {assign body : Code} {Q : Exit → Act → World → Prop} {a : Act} {w : World}
  (hro : F.round = none) (h1 : 1 ≤ n) {gf : Nat} {lb : Array Value} (hg : a.eval g = .func (.func gf) #[] lb) (hFg : F.fn gf) (eg : ∀ args w, (callFunc gf args).run P w = .ok (.enter gf args) w)
  {encs : Nat → α → Array Value} {R : Nat → α → World → Prop} {bn N : Nat} (hbn : bn < w.heap.size) (hseq : SeqSt F (n - 1) P gf lb encs R bn N) (hps : ∀ k x, (encs k x).size = ps.size)
  (hR : ∀ k x, OwnFrom w.heap.size fun (_ : Unit) W => R k x W) (hR0 : ∃ x, R 0 x w)
  (I : Nat → World → Prop) (Ix : Code → World → Prop) (hI : OwnFrom w.heap.size I) (hIx : OwnFrom w.heap.size Ix)
  (hIs : ∀ k A B, I k A → St bn A B → I k B) (hN : ∀ W, ¬ I N W) (h0 : I 0 w)
  (Ax : Nat → α → Act → World → Prop) (hAx : ∀ k x a', OwnFrom w.heap.size fun (_ : Unit) W => Ax k x a' W)
  (hassign : ∀ (l k : Nat) (x : α) (W : World) (K : Act → World → Prop), I k W → R k x W → (∀ a' W', KeepsFrom w.heap.size W W' → R k x W' → I k W' → Ax k x a' W' → K a' W') →
   assign.wpIn (F.inRound l) (n - 1 - 1) P (Exit.then K (fun _ _ _ => False)) { tmps := (ps.zip (encs k x)).foldl (fun t (p, v) => t.setIfInBounds p v) a.tmps, defers := [] } W)
  (hbody : ∀ (l k : Nat) (x : α) (a' : Act) (W : World), I k W → R k x W → Ax k x a' W → k < N → body.wpIn (F.inRound l) (n - 1 - 1) P (postSt w.heap.size (R k x) (I (k + 1)) Ix W) a' W)
  (hstop : ∀ (D : Nat) (c : Code) (W : World), w.heap.size ≤ D → Ix c W → W.heap[D]? = some (.deferred (some [])) → c.wpIn F n P Q { a with defers := { target := .collected D, args := #[] } :: a.defers } W) :
  (Code.rangeFunc g ps assign body).wpIn F n P Q a w := by
 refine wpIn_rangeFunc fun fn hfn => ?_
 rw [hro]
 obtain ⟨rec, hrec⟩ : ∃ rec : LoopState → Option Code → Loop, rec = fun st pe => { state := st, pending := pe, fn := fn, tmps := a.tmps, params := ps, assign := assign, body := body, defers := w.heap.size } := ⟨_, rfl⟩
 have hrec' : ∃ fn tmps ps asg bd df, rec = fun st pe => { state := st, pending := pe, fn := fn, tmps := tmps, params := ps, assign := asg, body := bd, defers := df } := ⟨_, _, _, _, _, _, hrec⟩
 obtain ⟨D, hD⟩ : ∃ D, w.heap.size = D := ⟨_, rfl⟩
 obtain ⟨W1, hW1⟩ : ∃ W1, (w.alloc (.deferred (some []))).alloc (.loop (rec .ready none)) = W1 := ⟨_, rfl⟩
 have aD : W1.heap[D]? = some (.deferred (some [])) := by
  rw [← hW1, ← hD]; exact (Below.heap_alloc _ _ _ (by simp)).trans (World.alloc_heap_new w _)
 have aL : W1.heap[D + 1]? = some (.loop (rec .ready none)) := by
  rw [← hW1, ← hD]; have h := World.alloc_heap_new (w.alloc (.deferred (some []))) (.loop (rec .ready none)); rwa [World.size_alloc] at h
 have aI : I 0 W1 := by rw [← hW1]; exact hI.alloc _ (hI.alloc _ h0)
 have aR : ∃ x, R 0 x W1 := by
  obtain ⟨x, hx⟩ := hR0
  exact ⟨x, by rw [← hW1]; exact (hR 0 x).alloc (s := ()) _ ((hR 0 x).alloc (s := ()) _ hx)⟩
 have hen : (Instr.enterLoop fn a.tmps ps assign body none).run P w = .ok (D + 1, [{ target := .collected D, args := #[] }]) W1 := by
  rw [← hW1, hrec, ← hD]; exact run_enterLoop_outer _ _ _ _ _
 rw [hD] at hI hIx hR hAx hassign hbody hbn hstop
 refine ⟨D + 1, [{ target := .collected D, args := #[] }], W1, { target := .fn (.func gf) lb, args := #[.func (.yield (D + 1)) #[] #[]] }, W1, gf, #[.func (.yield (D + 1)) #[] #[]] ++ lb, W1, hen, ?_, ?_, ?_, fun _ => h1, ?_⟩
 ·simp only [resolve, hg]
  simp [go_sem]
 ·intro f' hf'; simp [Target.leads] at hf'; subst hf'; exact hFg
 ·simp [invoke, go_sem, eg]
 refine (hseq (D + 1) (fun k W => I k W ∧ W.heap[D]? = some (.deferred (some [])) ∧ W.heap[D + 1]? = some (.loop (rec .ready none)))
  (fun W => ∃ c, Ix c W ∧ W.heap[D]? = some (.deferred (some [])) ∧ W.heap[D + 1]? = some (.loop (rec .done (some c)))) W1 ?_ ?_ ?_ ⟨aI, aD, aL⟩ aR).mono ?_
 ·rintro k A B ⟨hi, hd, hl⟩ hst
  have e : ∀ j, bn < j → ∀ o, A.heap[j]? = some o → B.heap[j]? = some o := fun j hj o ho => (hst.1.block j (Array.getElem?_eq_some_iff.1 ho).1 (by intro he; injection he with he; omega)).trans ho
  exact ⟨hIs k A B hi hst, e _ hbn _ hd, e _ (by omega) _ hl⟩
 ·rintro k x W ⟨hi, hd, hl⟩ hr hk
  have hy := run_yield (P := P) (args := encs k x) hl (by rw [hrec]; exact hps k x)
  rw [hrec] at hy
  refine ⟨fn, _, assign, body, hy, roundIn_of_wpIn hfn (hassign _ k x W _ hi hr ?_)⟩
  intro a' Wa hka hra hia hax
  replace hd := hka.same _ _ (Nat.le_refl _) hd rfl
  replace hl := hka.same _ _ (by omega) hl rfl
  refine ⟨_, run_beginRound hl (by rw [hrec]), ?_⟩
  have hbz : ({ rec .ready none with state := .busy } : Loop) = rec .busy none := by rw [hrec]
  rw [hbz]
  have put : ∀ o (W : World), D + 1 < W.heap.size → W.heap[D]? = some (.deferred (some [])) → (W.putObj (D + 1) o).heap[D + 1]? = some o ∧ (W.putObj (D + 1) o).heap[D]? = some (.deferred (some [])) :=
   fun o W h h' => ⟨World.putObj_heap_same h, (World.putObj_heap_other (by omega)).trans h'⟩
  obtain ⟨b2, b1⟩ := put (.loop (rec .busy none)) Wa (Array.getElem?_eq_some_iff.1 hl).1 hd
  refine wpIn_mono (hbody _ k x a' _ (hI.putObj _ hia (by omega) hl rfl) ((hR k x).putObj (s := ()) _ hra (by omega) hl rfl) ((hAx k x a').putObj (s := ()) _ hax (by omega) hl rfl) hk) ?_
  have jump : ∀ (c : Code) (W3 : World), KeepsFrom D (Wa.putObj (D + 1) (.loop (rec .busy none))) W3 → Ix c W3 →
    ∃ v w', (Instr.endRound (D + 1) (some c)).run P W3 = .ok v w' ∧ ((Ending.returned v = .returned (.bool true) ∧ (I (k + 1) w' ∧ w'.heap[D]? = some (.deferred (some [])) ∧ w'.heap[D + 1]? = some (.loop (rec .ready none))) ∧ R k x w') ∨ (Ending.returned v = .returned (.bool false) ∧ ∃ c, Ix c w' ∧ w'.heap[D]? = some (.deferred (some [])) ∧ w'.heap[D + 1]? = some (.loop (rec .done (some c))))) := by
   intro c W3 hk3 hx
   have c2 := hk3.same _ _ (by omega) b2 rfl
   have c1 := hk3.same _ _ (Nat.le_refl _) b1 rfl
   obtain ⟨d2, d1⟩ := put (.loop (rec .done (some c))) W3 (Array.getElem?_eq_some_iff.1 c2).1 c1
   exact ⟨_, _, round_end (B := D) hrec' (some c) c2, .inr ⟨rfl, c, hIx.putObj _ hx (by omega) c2 rfl, d1, d2⟩⟩
  rintro e a3 W3 hp
  cases e with
  | normal =>
   obtain ⟨hk3, hr3, hi3⟩ := hp
   have c2 := hk3.same _ _ (by omega) b2 rfl
   have c1 := hk3.same _ _ (Nat.le_refl _) b1 rfl
   obtain ⟨d2, d1⟩ := put (.loop (rec .ready none)) W3 (Array.getElem?_eq_some_iff.1 c2).1 c1
   exact ⟨_, _, round_end (B := D) hrec' none c2, .inl ⟨rfl, ⟨hI.putObj _ hi3 (by omega) c2 rfl, d1, d2⟩, (hR k x).putObj (s := ()) _ hr3 (by omega) c2 rfl⟩⟩
  | ret => exact jump _ _ hp.1 hp.2
  | exit id => exact jump _ _ hp.1 hp.2
  | goto t => exact jump _ _ hp.1 hp.2
  | panic ch => exact hp.elim
  | outgrown => exact hp.elim
 ·exact fun W h => hN W h.1
 ·rintro e W2 ⟨⟨v, rfl⟩, c, hx, hd, hl⟩
  have h := run_endLoop (P := P) hl (by rw [hrec]; simp)
  have hpe : (rec .done (some c)).pending = some c := by rw [hrec]
  rw [hpe] at h
  exact ⟨some c, _, h, hstop D c _ (Nat.le_refl _) (hIx.putObj _ hx (by omega) hl rfl) ((World.putObj_heap_other (by omega)).trans hd)⟩
end
end Go.Proofs.YtibdipfhfaeooaaGreatDoor


set_option linter.unusedVariables false
set_option linter.unusedSimpArgs false
namespace Go.Proofs.YtibdipfhfaeooaaGreatDoor
open Go.RowKit

/-- The value reads as a number of package whole. -/
abbrev IsH (w : World) (v : Value) (z : Int) : Prop := IsZ B9 .u32 w v z
theorem SlI.cut {w : World} {k : IntKind} {A : Option Addr} {c : Nat} {l : List Int} (h : SlI w k A c l) {m : Nat} (hm : m ≤ l.length) : SlI w k A m (l.take m) := by
 have hl : (l.take m).length = m := by rw [List.length_take, Nat.min_eq_left hm]
 have h2 := h.take hm
 exact ⟨h2.1, by omega, by have := h.2; omega⟩
set_option maxHeartbeats 400000 in
theorem htrim_c (neg : Bool) (A : Option Addr) (c : Nat) (l : List Int) (w : World) (h : SlI w .u32 A c l) :
  Calls Tryz.prog 126 #[.bool neg, .slice A l.length c] w fun e w' =>
   ∃ A', e = .returned (.agg #[.bool (neg && !(trimmed l).isEmpty), .slice A' (trimmed l).length (trimmed l).length]) ∧ SlI w .u32 A' (trimmed l).length (trimmed l) ∧ Below w.heap.size w w' := by
 have hc1 := h.2.1
 have hc2 := h.2.2
 have hB : Below w.heap.size w w := Below.refl _ _
 cases neg
 all_goals
 go_enter Tryz.func126, Tryz.ntmps126
 go_wp2
 go_loop [5] (fun i => ∃ k : Nat, k ≤ l.length ∧ i = .int .i64 k ∧ trimmed (l.take k) = trimmed l) (fun i => (intOf i).toNat)
 case atStart => exact ⟨l.length, Nat.le_refl _, rfl, by rw [List.take_of_length_le (Nat.le_refl _)]⟩
 case round =>
  obtain ⟨k, hk, rfl, ht⟩ := hrel
  rcases Nat.eq_zero_or_pos k with rfl | hk0
  ·have HT : Hid (trimmed l = []) := by rw [← ht]; rfl
   clear ht
   go_wp2
   refine bodyPost_ret (v := .agg #[.bool false, .slice A 0 0]) (by simp [results, Tryz.results126, go_sem]) rfl ⟨A, by rw [HT.out] <;> rfl, by rw [HT.out]; exact h.cut (m := 0) (by omega), hB.alloc (Nat.le_refl _) _⟩
  ·obtain ⟨k, rfl⟩ : ∃ m, k = m + 1 := ⟨k - 1, by omega⟩
   obtain ⟨b, off, rfl, hl, hcell⟩ := h.cell (j := k) (by omega)
   have HT := Lib.hid ht
   clear ht
   by_cases hz : gd l k = 0
   ·have hz' : (gd l k == 0) = true := by simpa using hz
    have HZ := Lib.hid hz
    clear hz
    go_wp2
    go_round
    case rel => exact ⟨k, by omega, rfl, trimmed_step (by omega) HZ.out HT.out⟩
    case measure => simp [intOf]
   ·have hz' : (gd l k == 0) = false := by simpa using hz
    have HZ : Hid (trimmed l = l.take (k + 1)) := by rw [← HT.out, trimmed_stop (by omega) hz]; rfl
    clear hz
    have HL := Lib.hid h
    clear h
    go_wp2
    have e1 : (l.take (k + 1)).isEmpty = false := by cases l <;> simp at hk ⊢
    have e2 : (l.take (k + 1)).length = k + 1 := by rw [List.length_take, Nat.min_eq_left (by omega)]
    refine bodyPost_ret (v := _) (by simp [results, Tryz.results126, go_sem]; rfl) rfl ⟨some ⟨b, off, none⟩, ?_, ?_, hB.alloc (Nat.le_refl _) _⟩
    ·first | (rw [HZ.out, e1, e2]; done) | (rw [HZ.out, e1, e2]; rfl) | (rw [HZ.out, e2]; done) | (rw [HZ.out, e2]; rfl)
    ·rw [HZ.out, e2]; exact HL.out.cut (by omega)
theorem htrim_n (neg : Bool) (A : Option Addr) (c : Nat) (l : List Int) (w : World) (h : SlI w .u32 A c l) (hd : Dg B9 l) :
  Calls Tryz.prog 126 #[.bool neg, .slice A l.length c] w fun e w' => ∃ v, e = .returned v ∧ IsH w' v (sgnd neg (V B9 l)) ∧ Below w.heap.size w w' := by
 refine (htrim_c neg A c l w h).mono ?_
 rintro e w' ⟨A', rfl, h1, hb⟩
 refine ⟨_, rfl, ?_, hb⟩
 have hv := V_nonneg hd
 have e : trimmed l = dg B9 (sgnd neg (V B9 l)) := by
  rw [trimmed_digs B9two hd, dg, sgnd_abs]
  congr 1; omega
 refine ⟨A', (trimmed l).length, ?_, ?_⟩
 ·rw [sgnd_lt _ _ hv, e, dg, isEmpty_digs B9two, sgnd_abs]
  have : decide (0 < (V B9 l).natAbs) = decide (0 < V B9 l) := decide_eq_decide.2 (by omega)
  rw [this]
 ·rw [← e]; exact h1.below hb

theorem hSign_c (x : Int) (v : Value) (w : World) (h : IsH w v x) :
  Calls Tryz.prog 130 #[v] w fun e w' => e = .returned (.int .i64 (if x = 0 then 0 else if x < 0 then -1 else 1)) ∧ Below w.heap.size w w' := by
 obtain ⟨A, c, rfl, hs⟩ := h
 have hB : Below w.heap.size w w := Below.refl _ _
 have hc1 := hs.2.1
 have hc2 := hs.2.2
 have el : ((dg B9 x).length : Int) = 0 ↔ x = 0 := by
  unfold dg
  rcases Nat.eq_zero_or_pos x.natAbs with h0 | h0
  ·rw [h0, digs_zero]; simp; omega
  ·rw [digs_pos B9two h0]; simp only [List.length_cons]; omega
 by_cases h0 : x = 0
 ·have hl : (((dg B9 x).length : Int) == 0) = true := by simpa using el.2 h0
  rw [if_pos h0]
  have hd : decide (x < 0) = false := by simp; omega
  rw [hd]
  generalize dg B9 x = l at *
  clear el h0 hd
  go_enter Tryz.func130, Tryz.ntmps130
  go_wp2
  go_ret
  exact ⟨rfl, below_alloc hB _⟩
 ·have hl : (((dg B9 x).length : Int) == 0) = false := by simpa using fun h => h0 (el.1 h)
  rw [if_neg h0]
  by_cases hx : x < 0
  ·have hd : decide (x < 0) = true := by simpa using hx
   rw [if_pos hx, hd]
   generalize dg B9 x = l at *
   clear el h0 hd hx
   go_enter Tryz.func130, Tryz.ntmps130
   go_wp2
   go_ret
   exact ⟨rfl, below_alloc hB _⟩
  ·have hd : decide (x < 0) = false := by simpa using hx
   rw [if_neg hx, hd]
   generalize dg B9 x = l at *
   clear el h0 hd hx
   go_enter Tryz.func130, Tryz.ntmps130
   go_wp2
   go_ret
   exact ⟨rfl, below_alloc hB _⟩
end Go.Proofs.YtibdipfhfaeooaaGreatDoor


set_option linter.unusedVariables false
set_option linter.unusedSimpArgs false
namespace Go.Proofs.YtibdipfhfaeooaaGreatDoor
open Go.RowKit

theorem info_u32 : (Tryz.prog.info? 168).map (fun i => (i.zero, i.size, i.bytes)) = some (some (.int .u32 0), 1, 4) := by kernel_rfl
/-- 'make' of no element with room for n. -/
theorem make0 {P : Program} (t e : TypeId) (z : Value) (bytes : Nat) (ht : P.underlying t = some (.slice e)) (hinfo : (P.info? e).map (fun i => (i.zero, i.size, i.bytes)) = some (some z, 1, bytes)) (hz1 : z.cells = #[z])
  (n : Nat) (hb : bytes * n ≤ 281474976710656) (h63 : n ≤ 9223372036854775807) (w : World) :
  (Instr.makeSlice t (.int .i64 0) (.int .i64 (n : Int))).run P w = .ok (.slice (some ⟨w.heap.size, 0, none⟩) 0 n) (w.alloc (.cells (madeCells #[z] n) e)) := by
 obtain ⟨i, hi, hzz⟩ := Option.map_eq_some_iff.1 hinfo
 simp only [Prod.mk.injEq] at hzz
 obtain ⟨hz, hs, hbb⟩ := hzz
 have h1 : (i.bytes : Int) * (n : Int) ≤ 281474976710656 := by
  have h : ((i.bytes * n : Nat) : Int) ≤ 281474976710656 := by rw [hbb]; omega
  rwa [Int.natCast_mul] at h
 have hr := run_make (P := P) w t e i z ht hi hz .i64 .i64 0 n (Int.le_refl _) (by omega) h1 (by omega)
 simp only [Int.toNat_zero, Int.toNat_natCast, hs, hz1, Nat.mul_one] at hr
 exact hr
theorem OwI.made {w : World} {base : Nat} {e : TypeId} {k : IntKind} {z : Value} {n : Nat} (hbase : base ≤ w.heap.size) (hn : n ≤ 1000000000000000) : OwI (w.alloc (.cells (madeCells #[z] n) e)) base e k (.slice (some ⟨w.heap.size, 0, none⟩) 0 n) [] :=
 World.ownsRow_made w _ n hbase (by simp only [maxLen]; omega) (by rw [size_madeCells, Nat.mul_one])
theorem gd_ge' {l : List Int} {i : Nat} (h : l.length ≤ i) : gd l i = 0 := gd_ge h
/-- What is left of the sum, behind the last digits. -/
theorem more_last {a b l : List Int} {k : Nat} {cy : Int} (h : MoreInv a b l k cy) (hk : max a.length b.length ≤ k) : Dg B9 (l ++ [cy]) ∧ V B9 (l ++ [cy]) = V B9 a + V B9 b := by
 obtain ⟨h1, h2, h3, h4, h5, h6, h7⟩ := h
 rw [List.take_of_length_le (by omega), List.take_of_length_le (by omega)] at h5
 refine ⟨Dg.append h2 (Dg.cons h3 (by rw [B9c]; omega) (Dg.nil _)), ?_⟩
 rw [V_snoc, h1]; exact h5

set_option maxRecDepth 100000 in
set_option maxHeartbeats 2000000 in
theorem hplus_c (A A' : Option Addr) (c c' : Nat) (a b : List Int) (w : World) (h : SlI w .u32 A c a) (h' : SlI w .u32 A' c' b) (ha : Dg B9 a) (hb : Dg B9 b)
  (sa : a.length ≤ 1000000000000) (sb : b.length ≤ 1000000000000) :
  Calls Tryz.prog 156 #[.slice A a.length c, .slice A' b.length c'] w fun e w' =>
   ∃ A1 c1 l, e = .returned (.slice A1 l.length c1) ∧ SlI w' .u32 A1 c1 l ∧ Dg B9 l ∧ V B9 l = V B9 a + V B9 b ∧ Below w.heap.size w w' := by
 by_cases hl : a.length < b.length
 ·have HH := Lib.hid hb
  have HH' := Lib.hid ha
  have H0s := Lib.hid h'
  have H1s := Lib.hid h
  have hmk := fun W => make0 (P := Tryz.prog) 116 168 (.int .u32 0) 4 Tryz.underlying116 info_u32 rfl (b.length + 1) (by omega) (by omega) W
  rw [show ((b.length + 1 : Nat) : Int) = (b.length : Int) + 1 by omega] at hmk
  clear h h' ha hb
  go_enter Tryz.func156, Tryz.ntmps156
  go_wp2
  clear hmk
  have HO0 : OwI (w.alloc (.cells (madeCells #[.int .u32 0] (b.length + 1)) 168)) w.heap.size 168 .u32 (.slice (some ⟨w.heap.size, 0, none⟩) 0 (b.length + 1)) [] := OwI.made (Nat.le_refl _) (by omega)
  have HB0 := below_alloc (Below.refl w.heap.size w) (Obj.cells (madeCells #[Value.int IntKind.u32 0] (b.length + 1)) 168)
  go_loopg [5, 6, 22] b.length (fun g out cr iv wr => ∃ (k : Nat) (cy : Int) (l : List Int), g = b.length - k ∧ iv = .int .i64 k ∧ cr = .int .u32 cy ∧ k ≤ b.length ∧ OwI wr w.heap.size 168 .u32 out l ∧ Below w.heap.size w wr ∧ Hid (MoreInv b a l k cy))
  case atStart => exact ⟨0, 0, [], rfl, rfl, rfl, by omega, HO0, HB0, ⟨rfl, Dg.nil _, by simp, by simp, by simp [V], by omega, fun _ => rfl⟩⟩
  case round =>
   clear HO0 HB0
   obtain ⟨k, cy, l, hgk, rfl, rfl, hk, HO, HB, HI⟩ := hrel
   obtain ⟨i1, i2, i3, i4, -, -, -⟩ := HI.out
   have I1 := Lib.hid i1
   clear i1 i2
   have hB := HB.size
   have hL : Hid ((l.length + 1) * 4 ≤ 140737488355328) := by have := I1.out; show _ ≤ _; omega
   have x1 := (HH.out.getD (by decide) k)
   have x2 := (HH'.out.getD (by decide) k)
   change 0 ≤ gd b k ∧ gd b k < _ at x1
   change 0 ≤ gd a k ∧ gd a k < _ at x2
   rw [B9c] at x1 x2
   obtain ⟨x1, x1'⟩ := x1
   obtain ⟨x2, x2'⟩ := x2
   by_cases q1 : k < b.length
   ·have HS := Lib.hid (more_step HH.out HH'.out HI.out (by omega))
    clear HI
    obtain ⟨b1, o1, rfl, hl1, hcell1⟩ := (H0s.out.below HB).cell (j := k) q1
    have hi0 : (0 : Int) ≤ (k : Int) := by omega
    have hi1 : (k : Int) < (b.length : Int) := by omega
    by_cases q2 : k < a.length
    ·obtain ⟨b2, o2, rfl, hl2, hcell2⟩ := (H1s.out.below HB).cell (j := k) q2
     have hi2 : (k : Int) < (a.length : Int) := by omega
     rw [show gd b k + gd a k + cy = gd b k + cy + gd a k by omega] at HS
     go_wp2_with (at_builtin; refine app_I w.heap.size rfl _ _ 116 168 .u32 4 rfl Tryz.underlying116 info_u32 (by decide) _ l _ HO rfl rfl HB hB hL.out ?_; intro v1 w1 HO1 HB1 hB1)
     go_roundg (b.length - (k + 1))
     case measure => omega
     case rel => exact ⟨k + 1, _, _, rfl, by go_num, rfl, by omega, HO1, HB1, HS.out⟩
    ·have hi2 : ¬ (k : Int) < (a.length : Int) := by omega
     rw [show gd b k + gd a k + cy = gd b k + cy by rw [gd_ge' (show a.length ≤ k by omega)]; omega] at HS
     go_wp2_with (at_builtin; refine app_I w.heap.size rfl _ _ 116 168 .u32 4 rfl Tryz.underlying116 info_u32 (by decide) _ l _ HO rfl rfl HB hB hL.out ?_; intro v1 w1 HO1 HB1 hB1)
     go_roundg (b.length - (k + 1))
     case measure => omega
     case rel => exact ⟨k + 1, _, _, rfl, by go_num, rfl, by omega, HO1, HB1, HS.out⟩
   ·have HE := Lib.hid (more_last HI.out (by omega))
    clear HI
    have hi1 : ¬ (k : Int) < (b.length : Int) := by omega
    go_wp2_with (at_builtin; refine app_I w.heap.size rfl _ _ 116 168 .u32 4 rfl Tryz.underlying116 info_u32 (by decide) _ l _ HO rfl rfl HB hB hL.out ?_; intro v1 w1 HO1 HB1 hB1)
    obtain ⟨A1, c1, rfl, hs⟩ := HO1.form
    go_wp2
    go_ret
    exact ⟨A1, c1, _, rfl, hs, HE.out.1, by rw [HE.out.2]; omega, HB1⟩
 ·have HH := Lib.hid ha
  have HH' := Lib.hid hb
  have H0s := Lib.hid h
  have H1s := Lib.hid h'
  have hmk := fun W => make0 (P := Tryz.prog) 116 168 (.int .u32 0) 4 Tryz.underlying116 info_u32 rfl (a.length + 1) (by omega) (by omega) W
  rw [show ((a.length + 1 : Nat) : Int) = (a.length : Int) + 1 by omega] at hmk
  clear h h' ha hb
  go_enter Tryz.func156, Tryz.ntmps156
  go_wp2
  clear hmk
  have HO0 : OwI (w.alloc (.cells (madeCells #[.int .u32 0] (a.length + 1)) 168)) w.heap.size 168 .u32 (.slice (some ⟨w.heap.size, 0, none⟩) 0 (a.length + 1)) [] := OwI.made (Nat.le_refl _) (by omega)
  have HB0 := below_alloc (Below.refl w.heap.size w) (Obj.cells (madeCells #[Value.int IntKind.u32 0] (a.length + 1)) 168)
  go_loopg [5, 6, 22] a.length (fun g out cr iv wr => ∃ (k : Nat) (cy : Int) (l : List Int), g = a.length - k ∧ iv = .int .i64 k ∧ cr = .int .u32 cy ∧ k ≤ a.length ∧ OwI wr w.heap.size 168 .u32 out l ∧ Below w.heap.size w wr ∧ Hid (MoreInv a b l k cy))
  case atStart => exact ⟨0, 0, [], rfl, rfl, rfl, by omega, HO0, HB0, ⟨rfl, Dg.nil _, by simp, by simp, by simp [V], by omega, fun _ => rfl⟩⟩
  case round =>
   clear HO0 HB0
   obtain ⟨k, cy, l, hgk, rfl, rfl, hk, HO, HB, HI⟩ := hrel
   obtain ⟨i1, i2, i3, i4, -, -, -⟩ := HI.out
   have I1 := Lib.hid i1
   clear i1 i2
   have hB := HB.size
   have hL : Hid ((l.length + 1) * 4 ≤ 140737488355328) := by have := I1.out; show _ ≤ _; omega
   have x1 := (HH.out.getD (by decide) k)
   have x2 := (HH'.out.getD (by decide) k)
   change 0 ≤ gd a k ∧ gd a k < _ at x1
   change 0 ≤ gd b k ∧ gd b k < _ at x2
   rw [B9c] at x1 x2
   obtain ⟨x1, x1'⟩ := x1
   obtain ⟨x2, x2'⟩ := x2
   by_cases q1 : k < a.length
   ·have HS := Lib.hid (more_step HH.out HH'.out HI.out (by omega))
    clear HI
    obtain ⟨b1, o1, rfl, hl1, hcell1⟩ := (H0s.out.below HB).cell (j := k) q1
    have hi0 : (0 : Int) ≤ (k : Int) := by omega
    have hi1 : (k : Int) < (a.length : Int) := by omega
    by_cases q2 : k < b.length
    ·obtain ⟨b2, o2, rfl, hl2, hcell2⟩ := (H1s.out.below HB).cell (j := k) q2
     have hi2 : (k : Int) < (b.length : Int) := by omega
     rw [show gd a k + gd b k + cy = gd a k + cy + gd b k by omega] at HS
     go_wp2_with (at_builtin; refine app_I w.heap.size rfl _ _ 116 168 .u32 4 rfl Tryz.underlying116 info_u32 (by decide) _ l _ HO rfl rfl HB hB hL.out ?_; intro v1 w1 HO1 HB1 hB1)
     go_roundg (a.length - (k + 1))
     case measure => omega
     case rel => exact ⟨k + 1, _, _, rfl, by go_num, rfl, by omega, HO1, HB1, HS.out⟩
    ·have hi2 : ¬ (k : Int) < (b.length : Int) := by omega
     rw [show gd a k + gd b k + cy = gd a k + cy by rw [gd_ge' (show b.length ≤ k by omega)]; omega] at HS
     go_wp2_with (at_builtin; refine app_I w.heap.size rfl _ _ 116 168 .u32 4 rfl Tryz.underlying116 info_u32 (by decide) _ l _ HO rfl rfl HB hB hL.out ?_; intro v1 w1 HO1 HB1 hB1)
     go_roundg (a.length - (k + 1))
     case measure => omega
     case rel => exact ⟨k + 1, _, _, rfl, by go_num, rfl, by omega, HO1, HB1, HS.out⟩
   ·have HE := Lib.hid (more_last HI.out (by omega))
    clear HI
    have hi1 : ¬ (k : Int) < (a.length : Int) := by omega
    go_wp2_with (at_builtin; refine app_I w.heap.size rfl _ _ 116 168 .u32 4 rfl Tryz.underlying116 info_u32 (by decide) _ l _ HO rfl rfl HB hB hL.out ?_; intro v1 w1 HO1 HB1 hB1)
    obtain ⟨A1, c1, rfl, hs⟩ := HO1.form
    go_wp2
    go_ret
    exact ⟨A1, c1, _, rfl, hs, HE.out.1, HE.out.2, HB1⟩
end Go.Proofs.YtibdipfhfaeooaaGreatDoor


set_option linter.unusedVariables false
set_option linter.unusedSimpArgs false
namespace Go.Proofs.YtibdipfhfaeooaaGreatDoor
open Go.RowKit

set_option maxRecDepth 100000 in
set_option maxHeartbeats 2000000 in
theorem hminus_c (A A' : Option Addr) (c c' : Nat) (a b : List Int) (w : World) (h : SlI w .u32 A c a) (h' : SlI w .u32 A' c' b) (ha : Dg B9 a) (hb : Dg B9 b)
  (sa : a.length ≤ 1000000000000) (hlen : b.length ≤ a.length) (hle : V B9 b ≤ V B9 a) :
  Calls Tryz.prog 157 #[.slice A a.length c, .slice A' b.length c'] w fun e w' =>
   ∃ A1 c1 l, e = .returned (.slice A1 l.length c1) ∧ SlI w' .u32 A1 c1 l ∧ Dg B9 l ∧ V B9 l = V B9 a - V B9 b ∧ Below w.heap.size w w' := by
 have HH := Lib.hid ha
 have HH' := Lib.hid hb
 have HLE := Lib.hid hle
 have H0s := Lib.hid h
 have H1s := Lib.hid h'
 have hmk := fun W => make0 (P := Tryz.prog) 116 168 (.int .u32 0) 4 Tryz.underlying116 info_u32 rfl a.length (by omega) (by omega) W
 clear h h' ha hb hle
 go_enter Tryz.func157, Tryz.ntmps157
 go_wp2
 clear hmk
 have HO0 : OwI (w.alloc (.cells (madeCells #[.int .u32 0] a.length) 168)) w.heap.size 168 .u32 (.slice (some ⟨w.heap.size, 0, none⟩) 0 a.length) [] := OwI.made (Nat.le_refl _) (by omega)
 have HB0 := below_alloc (Below.refl w.heap.size w) (Obj.cells (madeCells #[Value.int IntKind.u32 0] a.length) 168)
 go_loopg [5, 6, 14] a.length (fun g out cr iv wr => ∃ (k : Nat) (cy : Int) (l : List Int), g = a.length - k ∧ iv = .int .i64 k ∧ cr = .int .i64 cy ∧ k ≤ a.length ∧ OwI wr w.heap.size 168 .u32 out l ∧ Below w.heap.size w wr ∧ Hid (LessInv a b l k cy))
 case atStart => exact ⟨0, 0, [], rfl, rfl, rfl, by omega, HO0, HB0, ⟨rfl, Dg.nil _, by simp, by simp, by simp [V], by omega⟩⟩
 case round =>
  clear HO0 HB0
  obtain ⟨k, cy, l, hgk, rfl, rfl, hk, HO, HB, HI⟩ := hrel
  obtain ⟨i1, i2, i3, i4, -, -⟩ := HI.out
  have I1 := Lib.hid i1
  have I2 := Lib.hid i2
  clear i1 i2
  have hB := HB.size
  have hL : Hid ((l.length + 1) * 4 ≤ 140737488355328) := by have := I1.out; show _ ≤ _; omega
  have x1 := (HH.out.getD (by decide) k)
  have x2 := (HH'.out.getD (by decide) k)
  change 0 ≤ gd a k ∧ gd a k < _ at x1
  change 0 ≤ gd b k ∧ gd b k < _ at x2
  rw [B9c] at x1 x2
  obtain ⟨x1, x1'⟩ := x1
  obtain ⟨x2, x2'⟩ := x2
  by_cases q1 : k < a.length
  ·obtain ⟨b1, o1, rfl, hl1, hcell1⟩ := (H0s.out.below HB).cell (j := k) q1
   have hi0 : (0 : Int) ≤ (k : Int) := by omega
   have hi1 : (k : Int) < (a.length : Int) := by omega
   by_cases q2 : k < b.length
   ·obtain ⟨b2, o2, rfl, hl2, hcell2⟩ := (H1s.out.below HB).cell (j := k) q2
    have hi2 : (k : Int) < (b.length : Int) := by omega
    by_cases q3 : gd a k - cy - gd b k < 0
    ·have HS := Lib.hid (less_step (q := 1) HI.out q1 (.inr rfl) (by omega) (by omega))
     rw [show gd a k - gd b k - cy + 1000000000 * 1 = gd a k - cy - gd b k + 1000000000 by omega] at HS
     clear HI
     go_wp2_with (at_builtin; refine app_I w.heap.size rfl _ _ 116 168 .u32 4 rfl Tryz.underlying116 info_u32 (by decide) _ l _ HO rfl rfl HB hB hL.out ?_; intro v1 w1 HO1 HB1 hB1)
     go_roundg (a.length - (k + 1))
     case measure => omega
     case rel => exact ⟨k + 1, _, _, rfl, by go_num, rfl, by omega, HO1, HB1, HS.out⟩
    ·have HS := Lib.hid (less_step (q := 0) HI.out q1 (.inl rfl) (by omega) (by omega))
     rw [show gd a k - gd b k - cy + 1000000000 * 0 = gd a k - cy - gd b k by omega] at HS
     clear HI
     go_wp2_with (at_builtin; refine app_I w.heap.size rfl _ _ 116 168 .u32 4 rfl Tryz.underlying116 info_u32 (by decide) _ l _ HO rfl rfl HB hB hL.out ?_; intro v1 w1 HO1 HB1 hB1)
     go_roundg (a.length - (k + 1))
     case measure => omega
     case rel => exact ⟨k + 1, _, _, rfl, by go_num, rfl, by omega, HO1, HB1, HS.out⟩
   ·have hi2 : ¬ (k : Int) < (b.length : Int) := by omega
    have hz : gd b k = 0 := gd_ge (by omega)
    have HZ := Lib.hid hz
    clear hz
    by_cases q3 : gd a k - cy < 0
    ·have hz := HZ.out
     have HS := Lib.hid (less_step (q := 1) HI.out q1 (.inr rfl) (by omega) (by omega))
     rw [show gd a k - gd b k - cy + 1000000000 * 1 = gd a k - cy + 1000000000 by rw [gd_ge (show b.length ≤ k by omega)]; omega] at HS
     clear HI hz
     go_wp2_with (at_builtin; refine app_I w.heap.size rfl _ _ 116 168 .u32 4 rfl Tryz.underlying116 info_u32 (by decide) _ l _ HO rfl rfl HB hB hL.out ?_; intro v1 w1 HO1 HB1 hB1)
     go_roundg (a.length - (k + 1))
     case measure => omega
     case rel => exact ⟨k + 1, _, _, rfl, by go_num, rfl, by omega, HO1, HB1, HS.out⟩
    ·have hz := HZ.out
     have HS := Lib.hid (less_step (q := 0) HI.out q1 (.inl rfl) (by omega) (by omega))
     rw [show gd a k - gd b k - cy + 1000000000 * 0 = gd a k - cy by rw [gd_ge (show b.length ≤ k by omega)]; omega] at HS
     clear HI hz
     go_wp2_with (at_builtin; refine app_I w.heap.size rfl _ _ 116 168 .u32 4 rfl Tryz.underlying116 info_u32 (by decide) _ l _ HO rfl rfl HB hB hL.out ?_; intro v1 w1 HO1 HB1 hB1)
     go_roundg (a.length - (k + 1))
     case measure => omega
     case rel => exact ⟨k + 1, _, _, rfl, by go_num, rfl, by omega, HO1, HB1, HS.out⟩
  ·have HE := Lib.hid (less_end HI.out (by omega) hlen HH.out HH'.out HLE.out)
   clear HI
   have hi1 : ¬ (k : Int) < (a.length : Int) := by omega
   obtain ⟨A1, c1, rfl, hs⟩ := HO.form
   go_wp2
   go_ret
   exact ⟨A1, c1, _, rfl, hs, I2.out, HE.out, HB⟩

set_option maxRecDepth 100000 in
set_option maxHeartbeats 1000000 in
theorem hcompare_c (A A' : Option Addr) (c c' : Nat) (a b : List Int) (w : World) (h : SlI w .u32 A c a) (h' : SlI w .u32 A' c' b) (ha : Dg B9 a) (hb : Dg B9 b) (na : Nm a) (nb : Nm b) :
  Calls Tryz.prog 131 #[.slice A a.length c, .slice A' b.length c'] w fun e w' => e = .returned (.int .i64 (icmp (V B9 a) (V B9 b))) ∧ ∃ n, w' = w.drewN n := by
 have hc1 := h.2.1
 have hc2 := h.2.2
 have hc3 := h'.2.1
 have hc4 := h'.2.2
 by_cases hl : a.length = b.length
 ·have hne : ((a.length : Int) != (b.length : Int)) = false := by simp; omega
  have HL := Lib.hid hl
  have hll : a.length ≤ b.length := by omega
  have H1 := Lib.hid h
  have H2 := Lib.hid h'
  clear hl na nb h h'
  have HA := Lib.hid ha
  have HB := Lib.hid hb
  clear ha hb
  go_enter Tryz.func131, Tryz.ntmps131
  go_wp2
  go_loopw [5] (fun i wr => ∃ k : Nat, k ≤ a.length ∧ i = .int .i64 ((k : Int) - 1) ∧ Hid (V B9 (a.drop k) = V B9 (b.drop k)) ∧ ∃ n, wr = w.drewN n) (fun i _ => (intOf i + 1).toNat)
  case atStart => exact ⟨a.length, Nat.le_refl _, rfl, by show _ = _; rw [List.drop_of_length_le (Nat.le_refl _), List.drop_of_length_le (by have := HL.out; omega)], 0, rfl⟩
  case round =>
   obtain ⟨k, hk, rfl, HE, n, rfl⟩ := hrel
   rcases Nat.eq_zero_or_pos k with rfl | hk0
   ·go_wp2
    go_ret
    refine ⟨?_, n, rfl⟩
    have e := HE.out
    simp only [List.drop_zero] at e
    rw [e]; unfold icmp; rw [if_neg (by omega), if_neg (by omega)]; rfl
   ·obtain ⟨m, rfl⟩ : ∃ m, k = m + 1 := ⟨k - 1, by omega⟩
    obtain ⟨b1, o1, rfl, hl1, hcell1⟩ := (Hid.out H1).cell (j := m) (by omega)
    obtain ⟨b2, o2, rfl, hl2, hcell2⟩ := (Hid.out H2).cell (j := m) (by omega)
    have hi0 : (0 : Int) ≤ (m : Int) := by omega
    have hi1 : (m : Int) < (a.length : Int) := by omega
    have hi2 : (m : Int) < (b.length : Int) := by omega
    by_cases q1 : gd a m < gd b m
    ·have HR : Hid (icmp (V B9 a) (V B9 b) = -1) := by
      have := V_top B9two HA.out HB.out HL.out (by omega) HE.out q1
      show _ = _; unfold icmp; rw [if_pos this]
     go_wp2
     go_quiet (fail)
     go_wp2
     go_ret
     exact ⟨by rw [HR.out]; rfl, by first | exact ⟨_, rfl⟩ | (simp only [World.drewN_drewN]; exact ⟨_, rfl⟩)⟩
    ·by_cases q2 : gd b m < gd a m
     ·have HR : Hid (icmp (V B9 a) (V B9 b) = 1) := by
       have := V_top B9two HB.out HA.out HL.out.symm (by have := HL.out; omega) HE.out.symm q2
       show _ = _; unfold icmp; rw [if_neg (by omega), if_pos this]
      go_wp2
      go_quiet (fail)
      go_wp2
      go_quiet (fail)
      go_wp2
      go_ret
      exact ⟨by rw [HR.out]; rfl, by first | exact ⟨_, rfl⟩ | (simp only [World.drewN_drewN]; exact ⟨_, rfl⟩)⟩
     ·have HR : Hid (V B9 (a.drop m) = V B9 (b.drop m)) := by
       show _ = _
       rw [V_drop B9 a m, V_drop B9 b m, HE.out]
       have : gd a m = gd b m := by omega
       unfold gd at this
       rw [this]
      go_wp2
      go_quiet (fail)
      go_wp2
      go_quiet (fail)
      go_wp2
      go_roundw
      case rel => exact ⟨m, by omega, by go_num, HR, by first | exact ⟨_, rfl⟩ | (simp only [World.drewN_drewN]; exact ⟨_, rfl⟩)⟩
      case measure => simp [intOf]
 ·by_cases hlt : a.length < b.length
  ·have e : icmp (V B9 a) (V B9 b) = -1 := by have := V_long B9two ha hb nb hlt; unfold icmp; rw [if_pos this]
   rw [e]
   have hne : ((a.length : Int) != (b.length : Int)) = true := by simp; omega
   have hmx : max (-1) ((a.length : Int) - (b.length : Int)) = -1 := by omega
   clear e ha hb na nb hl
   go_enter Tryz.func131, Tryz.ntmps131
   go_wp2
   go_ret
   exact ⟨rfl, 0, rfl⟩
  ·have e : icmp (V B9 a) (V B9 b) = 1 := by have := V_long B9two hb ha na (by omega); unfold icmp; rw [if_neg (by omega), if_pos this]
   rw [e]
   have hne : ((a.length : Int) != (b.length : Int)) = true := by simp; omega
   have hmx : max (-1) ((a.length : Int) - (b.length : Int)) = (a.length : Int) - (b.length : Int) := by omega
   have hmn : min 1 ((a.length : Int) - (b.length : Int)) = 1 := by omega
   clear e ha hb na nb hl
   go_enter Tryz.func131, Tryz.ntmps131
   go_wp2
   go_ret
   exact ⟨rfl, 0, rfl⟩
theorem hcompare_b (A A' : Option Addr) (c c' : Nat) (a b : List Int) (w : World) (h : SlI w .u32 A c a) (h' : SlI w .u32 A' c' b) (ha : Dg B9 a) (hb : Dg B9 b) (na : Nm a) (nb : Nm b) :
  Calls Tryz.prog 131 #[.slice A a.length c, .slice A' b.length c'] w fun e w' => e = .returned (.int .i64 (icmp (V B9 a) (V B9 b))) ∧ Below w.heap.size w w' :=
 (hcompare_c A A' c c' a b w h h' ha hb na nb).mono fun e w' ⟨he, n, hw⟩ => ⟨he, by rw [hw]; exact below_drewN (Below.refl _ _) n⟩
end Go.Proofs.YtibdipfhfaeooaaGreatDoor

