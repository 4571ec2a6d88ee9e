/- A row's step where the arguments lie in memory and nothing old is written; maps, lists and tables opened. No condition. -/
import Derived.ChangeSame
import Derived.Below
import Derived.WalkKit
import Derived.ProofKit
import Derived.OpenShut
import Derived.ShutString
import Derived.Carry
import Derived.LaidMore
import Derived.Lib.SmallJoins
import Derived.Lib.LaidTab
import Derived.Stop.LaidErr
import Derived.Stop.Joined
import Derived.SevenTiedAt
import Derived.Test.YtibdipfhfaeooaaGreatDoorZ4
set_option linter.unusedVariables false
set_option linter.unusedSimpArgs false
namespace Go.Proofs.YtibdipfhfaeooaaGreatDoor
open Go Go.ChangeShapes Go.WideShapes Go.ChangeAt Go.RowKit Go.Joins Go.Deep

section
variable {P : Program} {H : Type} {enc : TypeId × Value → H}
/-- All arguments read behind the call as they did before. -/
theorem trodAll_below (hl : laidOutB P = true) {W W' : World} (hb : Below W.heap.size W W') {ts : List TypeId} : ∀ {vs : List Value} {ds : List (DataW H)} {ps : List MemPlace},
  (ts.all fun t => P.readableRec t && decide (t < P.types.size)) = true → DataW.TrodAll enc P W 0 (fun _ => true) true ts vs ds ps → (∀ x ∈ ps, x.block < W.heap.size) →
  DataW.TrodAll enc P W' 0 (fun b => decide (b < W.heap.size)) true ts vs ds ps := by
 induction ts with
 | nil =>
  intro vs ds ps _ h _
  obtain ⟨rfl, rfl, rfl⟩ := trodAll_nil h
  exact trodAll_mk0
 | cons t ts ih =>
  intro vs ds ps hr h hlt
  obtain ⟨v0, vs0, d0, ds0, p0, q0, rfl, rfl, rfl, h0, r0⟩ := trodAll_cons h
  simp only [List.all_cons, Bool.and_eq_true, decide_eq_true_eq] at hr
  exact trodAll_cons_mk (Below.trod hl hr.1.1 hr.1.2 h0 hb (fun x hx => hlt x (by simp [hx]))) (ih (by simpa using hr.2) r0 (fun x hx => hlt x (by simp [hx])))
theorem post_args (hl : laidOutB P = true) {f : Func} {s : ChangeSpec} {apart fresh handsOn : Bool} {W W' : World} {args : Array Value} {v : Value} {ds gs : List (DataW H)} {before : List MemPlace}
    (hsv : s.vars = []) (hrd : (f.params.toList.all fun t => P.readableRec t && decide (t < P.types.size)) = true)
    (hW : DataW.Whole enc P f.params.toList s.vars apart W args.toList ds gs before) (hsa : (s.fn H (ds ++ gs)).args = ds) (hsv' : (s.fn H (ds ++ gs)).vars = [])
    (hres : ∀ (b : Nat) (sp : Nat → Bool) (hd : Bool), DataW.TrodAll enc P W' b sp hd f.resultTypes.toList (v.resultList f.resultTypes.size) (s.fn H (ds ++ gs)).results [])
    (hb : Below W.heap.size W W') : s.post enc P f apart fresh handsOn false W args v W' := by
  have hlt := hW.lt
  obtain ⟨p, q, hA, hV, rfl, hz, hn⟩ := hW
  have hW : DataW.Whole enc P f.params.toList s.vars apart W args.toList ds gs (p ++ q) := ⟨p, q, hA, hV, rfl, hz, hn⟩
  refine ⟨ds, gs, p ++ q, [], p, [], hW, hres _ _ _, ?_, ?_, World.keptBut_mono (fun x hp => ⟨hp, ?_⟩) (Below.frame hb (· ∈ p ++ q)), fun h => by cases h⟩
  · rw [hsa]
    exact trodAll_below hl hb hrd hA (fun x hx => hlt x (by simp [hx]))
  · rw [hsv, hsv']; rfl
  · rw [hsv] at hV
    obtain ⟨rfl, rfl⟩ := trodVars_none hV
    rw [List.append_nil] at hp
    exact Or.inr (Or.inl hp)
/-- A slice of whole numbers that came in. -/
theorem sl_of {w : World} {base : Nat} {spare : Nat → Bool} {held : Bool} {t e : TypeId} {k : IntKind} {fuel : Nat} {v : Value} {x : DataW H × List MemPlace} (ht : P.underlying t = some (.slice e)) (he : P.underlying e = some (.int k)) (hc : P.cellsOf e = 1)
  (h : DataW.trod enc P w base spare held fuel t [v] = some x) : ∃ A c l, v = .slice A l.length c ∧ SlI w k A c l ∧ (∀ n ∈ l, (Lit.int k n).wf = true) ∧ ((∀ y ∈ x.1.weights P t, y ≤ reachBytes) → l.length * P.bytesOf e ≤ reachBytes) := by
 rcases open_ints ht he hc h with ⟨hcs, -⟩ | ⟨a, len, cap, zs, hcs, -, hl, hm, hz, hx, hcell, hwf⟩
 ·obtain rfl : v = .slice none 0 0 := by simpa using hcs
  exact ⟨none, 0, [], rfl, ⟨⟨by simp [ints], fun h => absurd h (by simp)⟩, Nat.le_refl _, by omega⟩, (fun n h => absurd h (by simp)), fun _ => by simp⟩
 ·obtain rfl : v = .slice (some a) len cap := by simpa using hcs
  have hlz : len ≤ zs.length := by rw [hz]; split <;> omega
  refine ⟨some a, cap, zs.take len, by rw [List.length_take, Nat.min_eq_left hlz], ⟨⟨by simp [ints], fun hp => ?_⟩, by rw [List.length_take]; omega, by simp only [maxLen] at hm; omega⟩, fun n hn => hwf n (List.mem_of_mem_take hn), fun hr => ?_⟩
  rotate_left
  ·have h1 := hr _ (show ((zs.take len).length + (zs.drop len).length) * P.bytesOf e ∈ x.1.weights P t by rw [hx]; simp [DataW.weights, ht, lits])
   exact Nat.le_trans (Nat.mul_le_mul_right _ (Nat.le_add_right _ _)) h1
  rw [List.length_take] at hp
  obtain ⟨b, off, rfl, hj⟩ := ints_at hcell (by omega)
  have h0 := hj 0 (by omega)
  have hlt : b < w.heap.size := by
   rcases Nat.lt_or_ge b w.heap.size with h' | h'
   ·exact h'
   ·rw [World.cell?] at h0
    simp only [Array.getElem?_eq_none h'] at h0
    cases h0
  refine ⟨b, off, rfl, hlt, fun j u hu => ?_⟩
  have hjl : j < (zs.take len).length := by
   rcases Nat.lt_or_ge j (zs.take len).length with h' | h'
   ·exact h'
   ·rw [List.getElem?_eq_none (by simpa [ints] using h')] at hu; cases hu
  rw [List.length_take] at hjl
  rw [hj j (by omega), ← hu]
  simp [ints, List.getElem?_take, show j < len by omega, List.getD]
  rw [List.getElem?_eq_getElem (by omega)]
  simp
/-- A map that came in. -/
theorem open_M {r : Reach} {b0 : Nat} {w : World} {t t1 t2 : TypeId} {f0 f1 f2 : Field} {v : Value} {d : DataW H} {p : List MemPlace} (hs : P.underlying t = some (.struct #[f0, f1, f2])) (hone : oneCellFields P #[f0, f1, f2] = true) (hC : P.cellsOf t = 3)
  (h0 : f0.type = t1) (h1 : f1.type = t2) (h2 : f2.type = t2) (hi : P.underlying t1 = some (.int .i64)) (hsl : P.underlying t2 = some (.slice t1)) (hc1 : P.cellsOf t1 = 1)
  (hv : Value.okWide P w r b0 t v) (h : DataW.Trod enc P w 0 (fun _ => true) true t v d p) : ∃ M, IsM w v M ∧ ((∀ y ∈ d.weights P t, y ≤ reachBytes) → M.mul.length * P.bytesOf t1 ≤ reachBytes ∧ M.add.length * P.bytesOf t1 ≤ reachBytes) := by
 obtain ⟨v0, v1, v2, y0, y1, y2, n, rfl, hd, -, k0, k1, k2⟩ := open_agg3 hs hone hC hv h
 rw [h0] at k0
 rw [h1] at k1
 rw [h2] at k2
 obtain ⟨a, e0, -, -⟩ := DataW.trod_int hi k0
 obtain ⟨A, c, l, rfl, s1, -, r1⟩ := sl_of hsl hi hc1 k1
 obtain ⟨A', c', l', rfl, s2, -, r2⟩ := sl_of hsl hi hc1 k2
 obtain rfl : v0 = .int .i64 a := by simpa using e0
 refine ⟨⟨a, l, l'⟩, ⟨A, c, A', c', rfl, s1, s2⟩, fun hr => ⟨r1 fun y hy => hr y ?_, r2 fun y hy => hr y ?_⟩⟩
 ·rw [hd]; simp [DataW.weights, DataW.weightsEach, hs, h1]; exact .inr (.inl hy)
 ·rw [hd]; simp [DataW.weights, DataW.weightsEach, hs, h2]; exact .inr (.inr hy)
end
end Go.Proofs.YtibdipfhfaeooaaGreatDoor

