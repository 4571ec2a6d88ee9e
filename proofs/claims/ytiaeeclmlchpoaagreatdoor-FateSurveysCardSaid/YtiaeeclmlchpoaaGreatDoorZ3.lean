/- A row's step where the arguments lie in memory and nothing old is written; maps, lists and tables opened. No condition. -/
import Derived.ChangeSame
import Derived.Below
import Derived.WalkKit
import Derived.ProofKit
import Derived.OpenShut
import Derived.ShutString
import Derived.Carry
import Derived.LaidMore
import Derived.Lib.SmallJoins
import Derived.Lib.LaidTab
import Derived.Stop.LaidErr
import Derived.Stop.Joined
import Derived.SevenTiedAt
import Derived.Test.YtiaeeclmlchpoaaGreatDoorZ2
import Derived.Maps.RangeWalk
import Derived.Deep.CutRange
import Derived.RangeFuncNested
import Derived.RangeFuncBound
import Derived.RangeFuncCalls
import Derived.RangeFuncLeaves
set_option linter.unusedVariables false
set_option linter.unusedSimpArgs false
namespace Go.Proofs.YtiaeeclmlchpoaaGreatDoor
open Go Go.ChangeShapes Go.WideShapes Go.ChangeAt Go.RowKit Go.Joins Go.Deep

section
variable {P : Program} {H : Type} {enc : TypeId × Value → H}
/-- All arguments read behind the call as they did before. -/
theorem trodAll_below (hl : laidOutB P = true) {W W' : World} (hb : Below W.heap.size W W') {ts : List TypeId} : ∀ {vs : List Value} {ds : List (DataW H)} {ps : List MemPlace},
    (ts.all fun t => P.readableRec t && decide (t < P.types.size)) = true → DataW.TrodAll enc P W 0 (fun _ => true) true ts vs ds ps → (∀ x ∈ ps, x.block < W.heap.size) →
    DataW.TrodAll enc P W' 0 (fun b => decide (b < W.heap.size)) true ts vs ds ps := by
  induction ts with
  | nil =>
    intro vs ds ps _ h _
    obtain ⟨rfl, rfl, rfl⟩ := trodAll_nil h
    exact trodAll_mk0
  | cons t ts ih =>
    intro vs ds ps hr h hlt
    obtain ⟨v0, vs0, d0, ds0, p0, q0, rfl, rfl, rfl, h0, r0⟩ := trodAll_cons h
    simp only [List.all_cons, Bool.and_eq_true, decide_eq_true_eq] at hr
    exact trodAll_cons_mk (Below.trod hl hr.1.1 hr.1.2 h0 hb (fun x hx => hlt x (by simp [hx]))) (ih (by simpa using hr.2) r0 (fun x hx => hlt x (by simp [hx])))
theorem post_args (hl : laidOutB P = true) {f : Func} {s : ChangeSpec} {apart fresh handsOn : Bool} {W W' : World} {args : Array Value} {v : Value} {ds gs : List (DataW H)} {before : List MemPlace}
    (hsv : s.vars = []) (hrd : (f.params.toList.all fun t => P.readableRec t && decide (t < P.types.size)) = true)
    (hW : DataW.Whole enc P f.params.toList s.vars apart W args.toList ds gs before) (hsa : (s.fn H (ds ++ gs)).args = ds) (hsv' : (s.fn H (ds ++ gs)).vars = [])
    (hres : ∀ (b : Nat) (sp : Nat → Bool) (hd : Bool), DataW.TrodAll enc P W' b sp hd f.resultTypes.toList (v.resultList f.resultTypes.size) (s.fn H (ds ++ gs)).results [])
    (hb : Below W.heap.size W W') : s.post enc P f apart fresh handsOn false W args v W' := by
  have hlt := hW.lt
  obtain ⟨p, q, hA, hV, rfl, hz, hn⟩ := hW
  have hW : DataW.Whole enc P f.params.toList s.vars apart W args.toList ds gs (p ++ q) := ⟨p, q, hA, hV, rfl, hz, hn⟩
  refine ⟨ds, gs, p ++ q, [], p, [], hW, hres _ _ _, ?_, ?_, World.keptBut_mono (fun x hp => ⟨hp, ?_⟩) (Below.frame hb (· ∈ p ++ q)), fun h => by cases h⟩
  · rw [hsa]
    exact trodAll_below hl hb hrd hA (fun x hx => hlt x (by simp [hx]))
  · rw [hsv, hsv']; rfl
  · rw [hsv] at hV
    obtain ⟨rfl, rfl⟩ := trodVars_none hV
    rw [List.append_nil] at hp
    exact Or.inr (Or.inl hp)
/-- A slice of whole numbers that came in. -/
theorem sl_of {w : World} {base : Nat} {spare : Nat → Bool} {held : Bool} {t e : TypeId} {k : IntKind} {fuel : Nat} {v : Value} {x : DataW H × List MemPlace} (ht : P.underlying t = some (.slice e)) (he : P.underlying e = some (.int k)) (hc : P.cellsOf e = 1)
    (h : DataW.trod enc P w base spare held fuel t [v] = some x) : ∃ A c l, v = .slice A l.length c ∧ SlI w k A c l ∧ (∀ n ∈ l, (Lit.int k n).wf = true) ∧ ((∀ y ∈ x.1.weights P t, y ≤ reachBytes) → l.length * P.bytesOf e ≤ reachBytes) := by
  rcases open_ints ht he hc h with ⟨hcs, -⟩ | ⟨a, len, cap, zs, hcs, -, hl, hm, hz, hx, hcell, hwf⟩
  · obtain rfl : v = .slice none 0 0 := by simpa using hcs
    exact ⟨none, 0, [], rfl, ⟨⟨by simp [ints], fun h => absurd h (by simp)⟩, Nat.le_refl _, by omega⟩, (fun n h => absurd h (by simp)), fun _ => by simp⟩
  · obtain rfl : v = .slice (some a) len cap := by simpa using hcs
    have hlz : len ≤ zs.length := by rw [hz]; split <;> omega
    refine ⟨some a, cap, zs.take len, by rw [List.length_take, Nat.min_eq_left hlz], ⟨⟨by simp [ints], fun hp => ?_⟩, by rw [List.length_take]; omega, by simp only [maxLen] at hm; omega⟩, fun n hn => hwf n (List.mem_of_mem_take hn), fun hr => ?_⟩
    rotate_left
    · have h1 := hr _ (show ((zs.take len).length + (zs.drop len).length) * P.bytesOf e ∈ x.1.weights P t by rw [hx]; simp [DataW.weights, ht, lits])
      exact Nat.le_trans (Nat.mul_le_mul_right _ (Nat.le_add_right _ _)) h1
    rw [List.length_take] at hp
    obtain ⟨b, off, rfl, hj⟩ := ints_at hcell (by omega)
    have h0 := hj 0 (by omega)
    have hlt : b < w.heap.size := by
      rcases Nat.lt_or_ge b w.heap.size with h' | h'
      · exact h'
      · rw [World.cell?] at h0
        simp only [Array.getElem?_eq_none h'] at h0
        cases h0
    refine ⟨b, off, rfl, hlt, fun j u hu => ?_⟩
    have hjl : j < (zs.take len).length := by
      rcases Nat.lt_or_ge j (zs.take len).length with h' | h'
      · exact h'
      · rw [List.getElem?_eq_none (by simpa [ints] using h')] at hu; cases hu
    rw [List.length_take] at hjl
    rw [hj j (by omega), ← hu]
    simp [ints, List.getElem?_take, show j < len by omega, List.getD]
    rw [List.getElem?_eq_getElem (by omega)]
    simp
theorem one_cells {a len cap} : (Value.slice a len cap).cells.toList = [Value.slice a len cap] := rfl
theorem open_sl {r : Reach} {b0 : Nat} {w : World} {t e : TypeId} {k : IntKind} {v : Value} {d : DataW H} {p : List MemPlace} (ht : P.underlying t = some (.slice e)) (he : P.underlying e = some (.int k)) (hc : P.cellsOf e = 1) (hv : Value.okWide P w r b0 t v)
    (h : DataW.Trod enc P w 0 (fun _ => true) true t v d p) : ∃ A c l, v = .slice A l.length c ∧ SlI w k A c l ∧ (∀ n ∈ l, (Lit.int k n).wf = true) ∧ ((∀ y ∈ d.weights P t, y ≤ reachBytes) → l.length * P.bytesOf e ≤ reachBytes) := by
  obtain ⟨a, len, cap, rfl⟩ := okWide_slice ht hv
  obtain ⟨fuel, hf⟩ := h
  exact sl_of ht he hc hf
/-- A map that came in. -/
theorem open_M {r : Reach} {b0 : Nat} {w : World} {t t1 t2 : TypeId} {f0 f1 f2 : Field} {v : Value} {d : DataW H} {p : List MemPlace} (hs : P.underlying t = some (.struct #[f0, f1, f2])) (hone : oneCellFields P #[f0, f1, f2] = true) (hC : P.cellsOf t = 3)
    (h0 : f0.type = t1) (h1 : f1.type = t2) (h2 : f2.type = t2) (hi : P.underlying t1 = some (.int .i64)) (hsl : P.underlying t2 = some (.slice t1)) (hc1 : P.cellsOf t1 = 1)
    (hv : Value.okWide P w r b0 t v) (h : DataW.Trod enc P w 0 (fun _ => true) true t v d p) : ∃ M, IsM w v M ∧ ((∀ y ∈ d.weights P t, y ≤ reachBytes) → M.mul.length * P.bytesOf t1 ≤ reachBytes ∧ M.add.length * P.bytesOf t1 ≤ reachBytes) := by
  obtain ⟨v0, v1, v2, y0, y1, y2, n, rfl, hd, -, k0, k1, k2⟩ := open_agg3 hs hone hC hv h
  rw [h0] at k0
  rw [h1] at k1
  rw [h2] at k2
  obtain ⟨a, e0, -, -⟩ := DataW.trod_int hi k0
  obtain ⟨A, c, l, rfl, s1, -, r1⟩ := sl_of hsl hi hc1 k1
  obtain ⟨A', c', l', rfl, s2, -, r2⟩ := sl_of hsl hi hc1 k2
  obtain rfl : v0 = .int .i64 a := by simpa using e0
  refine ⟨⟨a, l, l'⟩, ⟨A, c, A', c', rfl, s1, s2⟩, fun hr => ⟨r1 fun y hy => hr y ?_, r2 fun y hy => hr y ?_⟩⟩
  · rw [hd]; simp [DataW.weights, DataW.weightsEach, hs, h1]; exact .inr (.inl hy)
  · rw [hd]; simp [DataW.weights, DataW.weightsEach, hs, h2]; exact .inr (.inr hy)
end
end Go.Proofs.YtiaeeclmlchpoaaGreatDoor

set_option linter.unusedVariables false
set_option linter.unusedSimpArgs false
namespace Go.Proofs.YtiaeeclmlchpoaaGreatDoor
open Go.RowKit

abbrev opab1be682 : Oper := { dst := some 11, op := Go.Op.move (Go.Operand.tmp 29), type := 134, pos := "ref.go:83", after := #[{ on := 17, ground := Go.Ground.data }], guard := none }
abbrev op1fc1e3b9 : Oper := { dst := some 30, op := Go.Op.extract (Go.Operand.tmp 11) 0, type := 37, pos := "ref.go:83", after := #[{ on := 18, ground := Go.Ground.data }], guard := none }
abbrev op67affdec : Oper := { dst := some 31, op := Go.Op.extract (Go.Operand.tmp 11) 1, type := 3, pos := "ref.go:83", after := #[{ on := 18, ground := Go.Ground.data }, { on := 22, ground := Go.Ground.gcOnly Go.Departure.lateStores }], guard := none }
attribute [local go_sem] opab1be682 op1fc1e3b9 op67affdec
theorem Res2.lt {W : World} {b : Nat} (h : Res2 W b) : b < W.heap.size := h.2.2.2.2
theorem IsM.sl {W : World} {md : Int} {A : Option Addr} {n c : Nat} {A' : Option Addr} {n' c' : Nat} {M : Mp} (h : IsM W (.agg #[.int .i64 md, .slice A n c, .slice A' n' c']) M) : md = M.mod ∧ n = M.mul.length ∧ n' = M.add.length ∧ SlI W .i64 A c M.mul ∧ SlI W .i64 A' c' M.add := by
  obtain ⟨A1, c1, A2, c2, e, h1, h2⟩ := h
  injection e with e
  simp only [Array.mk.injEq, List.cons.injEq, Value.int.injEq, Value.slice.injEq, and_true, true_and] at e
  obtain ⟨e0, ⟨rfl, e1, rfl⟩, rfl, e2, rfl⟩ := e
  exact ⟨e0, e1, e2, h1, h2⟩
/-- A cell and what it holds. -/
structure CL (W : World) (b o : Nat) (u : Value) : Prop where
  c : W.cell? ⟨b, o, none⟩ = some u
  lt : b < W.heap.size
theorem CL.keep {W w1 : World} {b o : Nat} {u : Value} (h : CL W b o u) (hb : Below W.heap.size W w1) : CL w1 b o u := ⟨kcell hb h.lt h.c, Nat.lt_of_lt_of_le h.lt hb.size⟩
theorem CL.drew {W : World} {b o : Nat} {u : Value} (h : CL W b o u) : CL W.drew b o u := h.keep (below_drew (Below.refl _ _))
/-- A map and a number come in: their blocks. -/
theorem startM (w : World) {md : Int} {A : Option Addr} {n c : Nat} {A' : Option Addr} {n' c' : Nat} {M : Mp} {nz : Bool} {Az : Option Addr} {mz kz : Nat} {z : Int} (t t' : TypeId) (W : World)
    (hM : IsM w (.agg #[.int .i64 md, .slice A n c, .slice A' n' c']) M) (hz : IsN w (.agg #[.bool nz, .slice Az mz kz]) z)
    (hW : (w.alloc (.cells #[.int .i64 md, .slice A n c, .slice A' n' c'] t)).alloc (.cells #[.bool nz, .slice Az mz kz] t') = W) :
    VM W w.heap.size md A n c A' n' c' M ∧ VN W (w.heap.size + 1) nz Az mz kz z ∧ W.heap.size = w.heap.size + 2 ∧ Below w.heap.size w W := by
  have h1 := VM.new w t hM
  have h2 := VX.new (w.alloc (.cells #[.int .i64 md, .slice A n c, .slice A' n' c'] t)) t' (hz.below (below_alloc (Below.refl _ _) _))
  have e : (w.alloc (.cells #[.int .i64 md, .slice A n c, .slice A' n' c'] t)).heap.size = w.heap.size + 1 := by simp
  rw [e] at h2
  subst hW
  exact ⟨h1.keep (below_alloc (Below.refl _ _) _), h2, by simp, below_alloc (below_alloc (Below.refl _ _) _) _⟩

set_option maxRecDepth 100000 in
set_option maxHeartbeats 4000000 in
theorem Rest_c (M : Mp) (z : Int) (v u : Value) (w : World) (hM : IsM w v M) (hz : IsN w u z) (h1 : 1 ≤ M.mod) (h2 : M.mod ≤ 2147483647) (sz : (dg B9 z).length ≤ 1000000000) :
    Calls Tryz.prog 87 #[v, u] w fun e w' => e = .returned (.int .i64 (z % M.mod)) ∧ Below w.heap.size w w' := by
  obtain ⟨md, A, n, c, A', n', c', rfl, HM⟩ := hM.form
  obtain ⟨nz, Az, mz, kz, rfl, HZ⟩ := hz.form
  have emd : md = M.mod := (VM.new w 0 HM.out).sl.1
  subst emd
  clear hM hz
  go_enter Tryz.func87, Tryz.ntmps87
  go_wp2_with fail
  generalize hW : (w.alloc (Obj.cells #[Value.int .i64 M.mod, Value.slice A n c, Value.slice A' n' c'] 24)).alloc (Obj.cells #[Value.bool nz, Value.slice Az mz kz] 37) = W at *
  obtain ⟨VM_, VZ, hs, HB⟩ := startM w _ _ W HM.out HZ.out hW
  clear hW
  (with_reducible refine (Part_c z M.mod _ _ VZ.iz.out h1 h2 sz).mono ?_)
  rintro e w1 ⟨v, rfl, hv, hb1⟩
  obtain ⟨n1, A1, m1, k1, rfl, H1⟩ := hv.form
  clear hv
  replace HB := below_step HB hb1
  obtain ⟨r, hr⟩ : ∃ r, z % M.mod = r := ⟨_, rfl⟩
  have HR := Lib.hid hr
  rw [hr]
  clear hr
  go_wp2
  go_ret
  exact ⟨by rw [HR.out] <;> rfl, below_alloc HB _⟩

/-- The number to which a number is mapped. -/
def stepZ (M : Mp) (z : Int) : Int := (gd M.mul (z % M.mod).toNat * z + gd M.add (z % M.mod).toNat) / M.mod
theorem len_small {z : Int} (h0 : -1000000000000000000 < z) (h1 : z < 1000000000000000000) : (dg B9 z).length ≤ 2 := len_int h0 h1
set_option maxRecDepth 100000 in
set_option maxHeartbeats 8000000 in
theorem Step_c (M : Mp) (z : Int) (v u : Value) (w : World) (hM : IsM w v M) (hz : IsN w u z) (hok : okM M) (sz : (dg B9 z).length ≤ 900000000) :
    Calls Tryz.prog 72 #[v, u] w fun e w' => ∃ v, e = .returned v ∧ IsN w' v (stepZ M z) ∧ Below w.heap.size w w' := by
  obtain ⟨md, A, n, c, A', n', c', rfl, HM⟩ := hM.form
  obtain ⟨nz, Az, mz, kz, rfl, HZ⟩ := hz.form
  obtain ⟨emd, en, en', s1, s2⟩ := HM.out.sl
  have hok' := hok
  obtain ⟨m2, m12, hl1, hl2, hrow⟩ := hok
  rw [← emd] at m2 m12 hl1 hl2 hrow
  obtain ⟨r, hr⟩ : ∃ r : Nat, z % md = r := ⟨(z % md).toNat, by have := Int.emod_nonneg z (show md ≠ 0 by omega); omega⟩
  have hrl : (r : Int) < md := by have := Int.emod_lt_of_pos z (show 0 < md by omega); omega
  have hrow := hrow r hrl
  obtain ⟨bA, oA, rfl, hlA, cA⟩ := s1.cell (j := r) (by omega)
  obtain ⟨bB, oB, rfl, hlB, cB⟩ := s2.cell (j := r) (by omega)
  have HST : Hid (stepZ M z = (gd M.mul r * z + gd M.add r) / md) := by show _ = _; unfold stepZ; rw [← emd, hr, Int.toNat_natCast]
  obtain ⟨x, hx⟩ : ∃ x, gd M.mul r = x := ⟨_, rfl⟩
  obtain ⟨y, hy⟩ : ∃ y, gd M.add r = y := ⟨_, rfl⟩
  obtain ⟨x1, x2, y1, y2, -⟩ := hrow
  rw [hx] at cA HST x1 x2
  rw [hy] at cB HST y1 y2
  have CA : CL w bA (oA + r) (.int .i64 x) := ⟨cA, hlA⟩
  have CB : CL w bB (oB + r) (.int .i64 y) := ⟨cB, hlB⟩
  have RC := Lib.hid (fun v u w hM hz => Rest_c M z v u w hM hz (by rw [← emd]; omega) (by rw [← emd]; omega) (by omega))
  have LX : Hid ((dg B9 x).length ≤ 2) := len_small (by omega) (by omega)
  have LY : Hid ((dg B9 y).length ≤ 2) := len_small (by omega) (by omega)
  have LXZ : Hid ((dg B9 (x * z)).length ≤ 900000002) := by have := len_mul B9two x z; have := LX.out; show _ ≤ _; omega
  have LS : Hid ((dg B9 (x * z + y)).length ≤ 1000000000) := by have := len_add B9two (x * z) y; have := LXZ.out; have := LY.out; show _ ≤ _; omega
  have LZ : Hid ((dg B9 z).length ≤ 900000000) := sz
  have hi0 : (0 : Int) ≤ (r : Int) := by omega
  have hrn : (r : Int) < (n : Int) := by omega
  have hrn' : (r : Int) < (n' : Int) := by omega
  have HRZ : Hid (z % M.mod = r) := by show _ = _; rw [← emd]; exact hr
  clear hx hy cA cB hM hz s1 s2 hlA hlB hl1 hl2 en en' emd hr sz hok' hrl
  go_enter Tryz.func72, Tryz.ntmps72
  go_wp2_with fail
  generalize hW : (w.alloc (Obj.cells #[Value.int .i64 md, Value.slice (some ⟨bA, oA, none⟩) n c, Value.slice (some ⟨bB, oB, none⟩) n' c'] 24)).alloc (Obj.cells #[Value.bool nz, Value.slice Az mz kz] 37) = W at *
  obtain ⟨VM_, VZ, hs, HB⟩ := startM w _ _ W HM.out HZ.out hW
  replace CA := CA.keep HB
  replace CB := CB.keep HB
  have RR := newRes W 37
  replace VM_ := VM_.keep (below_alloc (Below.refl W.heap.size W) (Obj.cells #[Value.bool false, Value.slice none 0 0] 37)); replace VZ := VZ.keep (below_alloc (Below.refl W.heap.size W) (Obj.cells #[Value.bool false, Value.slice none 0 0] 37)); replace CA := CA.keep (below_alloc (Below.refl W.heap.size W) (Obj.cells #[Value.bool false, Value.slice none 0 0] 37)); replace CB := CB.keep (below_alloc (Below.refl W.heap.size W) (Obj.cells #[Value.bool false, Value.slice none 0 0] 37))
  replace HB := below_alloc HB (Obj.cells #[Value.bool false, Value.slice none 0 0] 37)
  clear hW
  generalize hW : W.alloc (Obj.cells #[Value.bool false, Value.slice none 0 0] 37) = W1 at *
  clear hW HM HZ
  rw [show W.heap.size = w.heap.size + 1 + 1 from hs] at RR
  clear hs
  (with_reducible refine (RC.out _ _ _ VM_.im.out VZ.iz.out).mono ?_)
  rintro e w1 ⟨rfl, hb1⟩
  replace VM_ := VM_.keep hb1; replace VZ := VZ.keep hb1; replace CA := CA.keep hb1; replace CB := CB.keep hb1; replace RR := RR.keep hb1; replace HB := below_step HB hb1
  clear hb1
  rw [HRZ.out]
  go_wp2_with fail
  replace VM_ := VM_.drew; replace VZ := VZ.drew; replace CA := CA.drew; replace CB := CB.drew; replace RR := RR.drew
  replace HB := below_drew HB
  generalize hWd : w1.drew = wd at *
  refine wp_region_F (fun w' => w'.cell? ⟨w.heap.size, 0, none⟩ = some (.int .i64 md) ∧ w'.cell? ⟨w.heap.size, 1, none⟩ = some (.slice (some ⟨bA, oA, none⟩) n c) ∧ w'.cell? ⟨w.heap.size, 2, none⟩ = some (.slice (some ⟨bB, oB, none⟩) n' c') ∧ w'.cell? ⟨(w.heap.size + 1), 0, none⟩ = some (.bool nz) ∧ w'.cell? ⟨(w.heap.size + 1), 1, none⟩ = some (.slice Az mz kz) ∧ w'.cell? ⟨bA, oA + r, none⟩ = some (.int .i64 x) ∧ w'.cell? ⟨bB, oB + r, none⟩ = some (.int .i64 y)) [22, 23] (by kernel_rfl) (by rw [hWd]; exact ⟨VM_.c0, VM_.c1, VM_.c2, VZ.c0, VZ.c1, CA.c, CB.c⟩) (fun hHeld => ?_)
  rw [hWd] at hHeld ⊢
  refine wpF_t (i := 0) (oi := { dst := some 12, op := Go.Op.fieldAddr 24 (Go.Operand.tmp 2) 1, type := 0, pos := "ref.go:83", after := #[], guard := none }) (v := ?_) rfl (by kernel_rfl) (fun _ _ _ h => h) (Or.inl ⟨by rfl, ?_⟩) hHeld ?_; rotate_left
  · intro w_ hSw_; (try dsimp only at hSw_); go_simp; (try with_reducible rfl)
  try go_frame
  refine wpF_t (i := 1) (oi := { dst := some 13, op := Go.Op.load 22 (Go.Operand.tmp 12), type := 22, pos := "ref.go:83", after := #[{ on := 0, ground := Go.Ground.data }], guard := none }) (v := ?_) rfl (by kernel_rfl) (fun _ _ _ h => h) (Or.inl ⟨by rfl, ?_⟩) hHeld ?_; rotate_left
  · intro w_ hSw_; (try dsimp only at hSw_); go_simp; (try with_reducible rfl)
  try go_frame
  refine wpF_t (i := 2) (oi := { dst := some 14, op := Go.Op.move (Go.Operand.tmp 5), type := 3, pos := "ref.go:83", after := #[], guard := none }) (v := ?_) rfl (by kernel_rfl) (fun _ _ _ h => h) (Or.inl ⟨by rfl, ?_⟩) hHeld ?_; rotate_left
  · intro w_ hSw_; (try dsimp only at hSw_); go_simp; (try with_reducible rfl)
  try go_frame
  refine wpF_t (i := 3) (oi := { dst := some 15, op := Go.Op.indexAddr 22 (Go.Operand.tmp 13) (Go.Operand.tmp 14), type := 0, pos := "ref.go:83", after := #[{ on := 1, ground := Go.Ground.data }, { on := 2, ground := Go.Ground.data }], guard := none }) (v := ?_) rfl (by kernel_rfl) (fun _ _ _ h => h) (Or.inl ⟨by rfl, ?_⟩) hHeld ?_; rotate_left
  · intro w_ hSw_; (try dsimp only at hSw_); go_simp; (try with_reducible rfl)
  try go_frame
  refine wpF_t (i := 4) (oi := { dst := some 16, op := Go.Op.load 3 (Go.Operand.tmp 15), type := 3, pos := "ref.go:83", after := #[{ on := 3, ground := Go.Ground.data }], guard := none }) (v := ?_) rfl (by kernel_rfl) (fun _ _ _ h => h) (Or.inl ⟨by rfl, ?_⟩) hHeld ?_; rotate_left
  · intro w_ hSw_; (try dsimp only at hSw_); go_simp; (try with_reducible rfl)
  try go_frame
  refine wpF_t (i := 6) (oi := { dst := some 18, op := Go.Op.load 37 (Go.Operand.tmp 3), type := 37, pos := "ref.go:83", after := #[], guard := none }) (v := ?_) rfl (by kernel_rfl) (fun _ _ _ h => h) (Or.inl ⟨by rfl, ?_⟩) hHeld ?_; rotate_left
  · intro w_ hSw_; (try dsimp only at hSw_); go_simp; (try with_reducible rfl)
  try go_frame
  refine wpF_t (i := 8) (oi := { dst := some 20, op := Go.Op.fieldAddr 24 (Go.Operand.tmp 2) 2, type := 0, pos := "ref.go:83", after := #[], guard := none }) (v := ?_) rfl (by kernel_rfl) (fun _ _ _ h => h) (Or.inl ⟨by rfl, ?_⟩) hHeld ?_; rotate_left
  · intro w_ hSw_; (try dsimp only at hSw_); go_simp; (try with_reducible rfl)
  try go_frame
  refine wpF_t (i := 9) (oi := { dst := some 21, op := Go.Op.load 22 (Go.Operand.tmp 20), type := 22, pos := "ref.go:83", after := #[{ on := 8, ground := Go.Ground.data }], guard := none }) (v := ?_) rfl (by kernel_rfl) (fun _ _ _ h => h) (Or.inl ⟨by rfl, ?_⟩) hHeld ?_; rotate_left
  · intro w_ hSw_; (try dsimp only at hSw_); go_simp; (try with_reducible rfl)
  try go_frame
  refine wpF_t (i := 10) (oi := { dst := some 22, op := Go.Op.move (Go.Operand.tmp 5), type := 3, pos := "ref.go:83", after := #[], guard := none }) (v := ?_) rfl (by kernel_rfl) (fun _ _ _ h => h) (Or.inl ⟨by rfl, ?_⟩) hHeld ?_; rotate_left
  · intro w_ hSw_; (try dsimp only at hSw_); go_simp; (try with_reducible rfl)
  try go_frame
  refine wpF_t (i := 11) (oi := { dst := some 23, op := Go.Op.indexAddr 22 (Go.Operand.tmp 21) (Go.Operand.tmp 22), type := 0, pos := "ref.go:83", after := #[{ on := 9, ground := Go.Ground.data }, { on := 10, ground := Go.Ground.data }], guard := none }) (v := ?_) rfl (by kernel_rfl) (fun _ _ _ h => h) (Or.inl ⟨by rfl, ?_⟩) hHeld ?_; rotate_left
  · intro w_ hSw_; (try dsimp only at hSw_); go_simp; (try with_reducible rfl)
  try go_frame
  refine wpF_t (i := 12) (oi := { dst := some 24, op := Go.Op.load 3 (Go.Operand.tmp 23), type := 3, pos := "ref.go:83", after := #[{ on := 11, ground := Go.Ground.data }], guard := none }) (v := ?_) rfl (by kernel_rfl) (fun _ _ _ h => h) (Or.inl ⟨by rfl, ?_⟩) hHeld ?_; rotate_left
  · intro w_ hSw_; (try dsimp only at hSw_); go_simp; (try with_reducible rfl)
  try go_frame
  refine wpF_t (i := 15) (oi := { dst := some 27, op := Go.Op.fieldAddr 24 (Go.Operand.tmp 2) 0, type := 0, pos := "ref.go:83", after := #[], guard := none }) (v := ?_) rfl (by kernel_rfl) (fun _ _ _ h => h) (Or.inl ⟨by rfl, ?_⟩) hHeld ?_; rotate_left
  · intro w_ hSw_; (try dsimp only at hSw_); go_simp; (try with_reducible rfl)
  try go_frame
  refine wpF_t (i := 16) (oi := { dst := some 28, op := Go.Op.load 3 (Go.Operand.tmp 27), type := 3, pos := "ref.go:83", after := #[{ on := 15, ground := Go.Ground.data }], guard := none }) (v := ?_) rfl (by kernel_rfl) (fun _ _ _ h => h) (Or.inl ⟨by rfl, ?_⟩) hHeld ?_; rotate_left
  · intro w_ hSw_; (try dsimp only at hSw_); go_simp; (try with_reducible rfl)
  try go_frame
  refine wpAnyF_two (i := 5) (j := 21) (by kernel_rfl) rfl rfl (fun K hK => ?_) (fun K hK => ?_)
  · go_simp
    (go_at_call 15; (with_reducible refine (Of_c x _ (by omega) (by omega)).mono ?_); rintro e w5 ⟨v, rfl, hv, hb5⟩; obtain ⟨n5, A5, m5, k5, rfl, H5⟩ := hv.form; clear hv; replace VM_ := VM_.keep hb5; replace VZ := VZ.keep hb5; replace CA := CA.keep hb5; replace CB := CB.keep hb5; replace RR := RR.keep hb5; replace HB := below_step HB hb5)
    clear hb5
    refine hK.out _ _ (by exact ⟨VM_.c0, VM_.c1, VM_.c2, VZ.c0, VZ.c1, CA.c, CB.c⟩) (fun hHeld => ?_)
    clear hK K
    try go_frame
    refine wpAnyF_two (i := 7) (j := 21) (by kernel_rfl) rfl rfl (fun K hK => ?_) (fun K hK => ?_)
    · go_simp
      (go_at_call 89; (with_reducible refine (Mul_c x z _ _ _ H5.out (by exact VZ.iz.out) (by have := LX.out; omega) (by have := LZ.out; omega)).mono ?_); rintro e w7 ⟨v, rfl, hv, hb7⟩; obtain ⟨n7, A7, m7, k7, rfl, H7⟩ := hv.form; clear hv; replace VM_ := VM_.keep hb7; replace VZ := VZ.keep hb7; replace CA := CA.keep hb7; replace CB := CB.keep hb7; replace RR := RR.keep hb7; replace HB := below_step HB hb7)
      clear hb7
      refine hK.out _ _ (by exact ⟨VM_.c0, VM_.c1, VM_.c2, VZ.c0, VZ.c1, CA.c, CB.c⟩) (fun hHeld => ?_)
      clear hK K
      try go_frame
      refine wpAnyF_two (i := 13) (j := 21) (by kernel_rfl) rfl rfl (fun K hK => ?_) (fun K hK => ?_)
      · go_simp
        (go_at_call 15; (with_reducible refine (Of_c y _ (by omega) (by omega)).mono ?_); rintro e w13 ⟨v, rfl, hv, hb13⟩; obtain ⟨n13, A13, m13, k13, rfl, H13⟩ := hv.form; clear hv; replace VM_ := VM_.keep hb13; replace VZ := VZ.keep hb13; replace CA := CA.keep hb13; replace CB := CB.keep hb13; replace RR := RR.keep hb13; replace HB := below_step HB hb13; replace H7 := Lib.hid (H7.out.below hb13))
        clear hb13
        refine hK.out _ _ (by exact ⟨VM_.c0, VM_.c1, VM_.c2, VZ.c0, VZ.c1, CA.c, CB.c⟩) (fun hHeld => ?_)
        clear hK K
        try go_frame
        refine wpAnyF_two (i := 14) (j := 21) (by kernel_rfl) rfl rfl (fun K hK => ?_) (fun K hK => ?_)
        · go_simp
          (go_at_call 14; (with_reducible refine (Add_c (x * z) y _ _ _ H7.out H13.out (by have := LXZ.out; omega) (by have := LY.out; omega)).mono ?_); rintro e w14 ⟨v, rfl, hv, hb14⟩; obtain ⟨n14, A14, m14, k14, rfl, H14⟩ := hv.form; clear hv; replace VM_ := VM_.keep hb14; replace VZ := VZ.keep hb14; replace CA := CA.keep hb14; replace CB := CB.keep hb14; replace RR := RR.keep hb14; replace HB := below_step HB hb14)
          clear hb14
          refine hK.out _ _ (by exact ⟨VM_.c0, VM_.c1, VM_.c2, VZ.c0, VZ.c1, CA.c, CB.c⟩) (fun hHeld => ?_)
          clear hK K
          try go_frame
          refine wpAnyF_two (i := 17) (j := 21) (by kernel_rfl) rfl rfl (fun K hK => ?_) (fun K hK => ?_)
          · go_simp
            (go_at_call 88; (with_reducible refine (Part_c (x * z + y) md _ _ H14.out (by omega) (by omega) LS.out).mono ?_); rintro e w17 ⟨v, rfl, hv, hb17⟩; generalize (x * z + y) % md = rr at *; obtain ⟨n17, A17, m17, k17, rfl, H17⟩ := hv.form; clear hv; replace VM_ := VM_.keep hb17; replace VZ := VZ.keep hb17; replace CA := CA.keep hb17; replace CB := CB.keep hb17; replace RR := RR.keep hb17; replace HB := below_step HB hb17)
            clear hb17
            refine hK.out _ _ (by exact ⟨VM_.c0, VM_.c1, VM_.c2, VZ.c0, VZ.c1, CA.c, CB.c⟩) (fun hHeld => ?_)
            clear hK K
            try go_frame
            refine wpF_t (i := 18) (oi := opab1be682) (v := ?_) rfl (by kernel_rfl) (fun _ _ _ h => h) (Or.inl ⟨by rfl, ?_⟩) hHeld ?_; rotate_left
            · intro w_ hSw_; (try dsimp only at hSw_); go_simp; (try with_reducible rfl)
            try go_frame
            refine wpF_t (i := 19) (oi := op1fc1e3b9) (v := ?_) rfl (by kernel_rfl) (fun _ _ _ h => h) (Or.inl ⟨by rfl, ?_⟩) hHeld ?_; rotate_left
            · intro w_ hSw_; (try dsimp only at hSw_); go_simp; (try with_reducible rfl)
            try go_frame
            refine wpF_p (i := 20) (oi := op67affdec) (v := ?_) rfl (by kernel_rfl) (fun _ _ _ h => h) (Or.inl ⟨by rfl, ?_⟩) hHeld ?_; rotate_left
            · intro w_ hSw_; (try dsimp only at hSw_); go_simp; (try with_reducible rfl)
            try go_frame
            refine wpAnyF_one (i := 21) (by kernel_rfl) rfl (fun K hK => ?_)
            go_simp
            refine hK.out _ _ (by replace VM_ := VM_.keep (below_alloc (Below.refl w17.heap.size w17) (Obj.cells #[Value.bool false, Value.slice none 0 0] 37)); replace VZ := VZ.keep (below_alloc (Below.refl w17.heap.size w17) (Obj.cells #[Value.bool false, Value.slice none 0 0] 37)); replace CA := CA.keep (below_alloc (Below.refl w17.heap.size w17) (Obj.cells #[Value.bool false, Value.slice none 0 0] 37)); replace CB := CB.keep (below_alloc (Below.refl w17.heap.size w17) (Obj.cells #[Value.bool false, Value.slice none 0 0] 37)); replace RR := RR.keep (below_alloc (Below.refl w17.heap.size w17) (Obj.cells #[Value.bool false, Value.slice none 0 0] 37)); exact ⟨VM_.c0, VM_.c1, VM_.c2, VZ.c0, VZ.c1, CA.c, CB.c⟩) (fun hHeld => ?_)
            clear hK K
            try go_frame
            have hba1 := HB.size
            have ltVM_ := VM_.lt
            have ltVZ := VZ.lt
            have ltCA := CA.lt
            have ltCB := CB.lt
            have ltRR := RR.lt
            have RA := newRes w17 37
            replace VM_ := VM_.keep (below_alloc (Below.refl w17.heap.size w17) (Obj.cells #[Value.bool false, Value.slice none 0 0] 37)); replace VZ := VZ.keep (below_alloc (Below.refl w17.heap.size w17) (Obj.cells #[Value.bool false, Value.slice none 0 0] 37)); replace CA := CA.keep (below_alloc (Below.refl w17.heap.size w17) (Obj.cells #[Value.bool false, Value.slice none 0 0] 37)); replace CB := CB.keep (below_alloc (Below.refl w17.heap.size w17) (Obj.cells #[Value.bool false, Value.slice none 0 0] 37)); replace RR := RR.keep (below_alloc (Below.refl w17.heap.size w17) (Obj.cells #[Value.bool false, Value.slice none 0 0] 37))
            replace HB := below_alloc HB (Obj.cells #[Value.bool false, Value.slice none 0 0] 37)
            replace H17 := Lib.hid (H17.out.below (below_alloc (Below.refl w17.heap.size w17) (Obj.cells #[Value.bool false, Value.slice none 0 0] 37)))
            generalize hWa : w17.alloc (Obj.cells #[Value.bool false, Value.slice none 0 0] 37) = wa at *
            generalize hba : w17.heap.size = ba at *
            refine wpAnyF_st (i := 22) (by kernel_rfl) (by kernel_rfl) rfl (fun K hK => ?_)
            obtain ⟨⟨u1_, r1_⟩, ⟨u2_, u3_, u4_, r2_⟩, r3_, r4_, r5_⟩ := RA
            have RA : Res2 _ ba := ⟨⟨u1_, r1_⟩, ⟨u2_, u3_, u4_, r2_⟩, r3_, r4_, r5_⟩
            go_simp
            refine hK.out _ _ ?_
            clear hK K r1_ r2_ r3_ r4_ r5_
            try go_frame
            refine wpAnyF_st (i := 23) (by kernel_rfl) (by kernel_rfl) rfl (fun K hK => ?_)
            obtain ⟨⟨u1_, r1_⟩, ⟨u2_, u3_, u4_, r2_⟩, r3_, r4_, r5_⟩ := RA
            have RA : Res2 _ ba := ⟨⟨u1_, r1_⟩, ⟨u2_, u3_, u4_, r2_⟩, r3_, r4_, r5_⟩
            go_simp
            refine hK.out _ _ ?_
            clear hK K r1_ r2_ r3_ r4_ r5_
            try go_frame
            refine wpAnyF_done (by kernel_rfl) ?_ _
            clear hHeld
            have V6 := VX.store RA H17.out
            have hne : ba ≠ w.heap.size + 1 + 1 := by omega
            replace RR := RR.far (x := .bool n17) (y := .slice A17 m17 k17) hne
            replace HB := below_set2 (b := ba) HB (by omega) (.bool n17) (.slice A17 m17 k17)
            generalize hW9 : (wa.setCell ⟨ba, 0, none⟩ (.bool n17)).setCell ⟨ba, 1, none⟩ (.slice A17 m17 k17) = W9 at *
            clear hW9 RA CA CB VM_ VZ
            have vs0 := V6.c0; have vs1 := V6.c1; have vsf := V6.f0; have vsg := V6.f1; have vsl := V6.lt
            have RRh := RR
            obtain ⟨⟨u1, r1⟩, ⟨u2, u3, u4, r2⟩, r3, r4, r5⟩ := RR
            go_wp2
            refine bodyPost_ret (v := .agg #[.bool n17, .slice A17 m17 k17]) (by simp [results, Tryz.results72, go_sem, r1, r2, r5]) rfl ⟨_, rfl, by rw [HST.out]; exact V6.iz.out.res2 RRh _ _, below_set2 HB (by omega) _ _⟩
          · go_simp
            refine hK.out _ _ (by replace VM_ := VM_.keep (below_alloc (Below.refl w14.heap.size w14) (Obj.cells #[Value.bool false, Value.slice none 0 0] 37)); replace VZ := VZ.keep (below_alloc (Below.refl w14.heap.size w14) (Obj.cells #[Value.bool false, Value.slice none 0 0] 37)); replace CA := CA.keep (below_alloc (Below.refl w14.heap.size w14) (Obj.cells #[Value.bool false, Value.slice none 0 0] 37)); replace CB := CB.keep (below_alloc (Below.refl w14.heap.size w14) (Obj.cells #[Value.bool false, Value.slice none 0 0] 37)); replace RR := RR.keep (below_alloc (Below.refl w14.heap.size w14) (Obj.cells #[Value.bool false, Value.slice none 0 0] 37)); exact ⟨VM_.c0, VM_.c1, VM_.c2, VZ.c0, VZ.c1, CA.c, CB.c⟩) (fun hHeld => ?_)
            clear hK K
            try go_frame
            have hba1 := HB.size
            have ltVM_ := VM_.lt
            have ltVZ := VZ.lt
            have ltCA := CA.lt
            have ltCB := CB.lt
            have ltRR := RR.lt
            have RA := newRes w14 37
            replace VM_ := VM_.keep (below_alloc (Below.refl w14.heap.size w14) (Obj.cells #[Value.bool false, Value.slice none 0 0] 37)); replace VZ := VZ.keep (below_alloc (Below.refl w14.heap.size w14) (Obj.cells #[Value.bool false, Value.slice none 0 0] 37)); replace CA := CA.keep (below_alloc (Below.refl w14.heap.size w14) (Obj.cells #[Value.bool false, Value.slice none 0 0] 37)); replace CB := CB.keep (below_alloc (Below.refl w14.heap.size w14) (Obj.cells #[Value.bool false, Value.slice none 0 0] 37)); replace RR := RR.keep (below_alloc (Below.refl w14.heap.size w14) (Obj.cells #[Value.bool false, Value.slice none 0 0] 37))
            replace HB := below_alloc HB (Obj.cells #[Value.bool false, Value.slice none 0 0] 37)
            replace H14 := Lib.hid (H14.out.below (below_alloc (Below.refl w14.heap.size w14) (Obj.cells #[Value.bool false, Value.slice none 0 0] 37)))
            generalize hWa : w14.alloc (Obj.cells #[Value.bool false, Value.slice none 0 0] 37) = wa at *
            generalize hba : w14.heap.size = ba at *
            refine wpAnyF_one (i := 17) (by kernel_rfl) rfl (fun K hK => ?_)
            go_simp
            (go_at_call 88; (with_reducible refine (Part_c (x * z + y) md _ _ H14.out (by omega) (by omega) LS.out).mono ?_); rintro e w17 ⟨v, rfl, hv, hb17⟩; generalize (x * z + y) % md = rr at *; obtain ⟨n17, A17, m17, k17, rfl, H17⟩ := hv.form; clear hv; replace VM_ := VM_.keep hb17; replace VZ := VZ.keep hb17; replace CA := CA.keep hb17; replace CB := CB.keep hb17; replace RR := RR.keep hb17; replace HB := below_step HB hb17)
            replace RA := RA.keep hb17
            clear hb17
            refine hK.out _ _ (by exact ⟨VM_.c0, VM_.c1, VM_.c2, VZ.c0, VZ.c1, CA.c, CB.c⟩) (fun hHeld => ?_)
            clear hK K
            try go_frame
            refine wpF_t (i := 18) (oi := opab1be682) (v := ?_) rfl (by kernel_rfl) (fun _ _ _ h => h) (Or.inl ⟨by rfl, ?_⟩) hHeld ?_; rotate_left
            · intro w_ hSw_; (try dsimp only at hSw_); go_simp; (try with_reducible rfl)
            try go_frame
            refine wpF_t (i := 19) (oi := op1fc1e3b9) (v := ?_) rfl (by kernel_rfl) (fun _ _ _ h => h) (Or.inl ⟨by rfl, ?_⟩) hHeld ?_; rotate_left
            · intro w_ hSw_; (try dsimp only at hSw_); go_simp; (try with_reducible rfl)
            try go_frame
            refine wpF_p (i := 20) (oi := op67affdec) (v := ?_) rfl (by kernel_rfl) (fun _ _ _ h => h) (Or.inl ⟨by rfl, ?_⟩) hHeld ?_; rotate_left
            · intro w_ hSw_; (try dsimp only at hSw_); go_simp; (try with_reducible rfl)
            try go_frame
            refine wpAnyF_st (i := 22) (by kernel_rfl) (by kernel_rfl) rfl (fun K hK => ?_)
            obtain ⟨⟨u1_, r1_⟩, ⟨u2_, u3_, u4_, r2_⟩, r3_, r4_, r5_⟩ := RA
            have RA : Res2 _ ba := ⟨⟨u1_, r1_⟩, ⟨u2_, u3_, u4_, r2_⟩, r3_, r4_, r5_⟩
            go_simp
            refine hK.out _ _ ?_
            clear hK K r1_ r2_ r3_ r4_ r5_
            try go_frame
            refine wpAnyF_st (i := 23) (by kernel_rfl) (by kernel_rfl) rfl (fun K hK => ?_)
            obtain ⟨⟨u1_, r1_⟩, ⟨u2_, u3_, u4_, r2_⟩, r3_, r4_, r5_⟩ := RA
            have RA : Res2 _ ba := ⟨⟨u1_, r1_⟩, ⟨u2_, u3_, u4_, r2_⟩, r3_, r4_, r5_⟩
            go_simp
            refine hK.out _ _ ?_
            clear hK K r1_ r2_ r3_ r4_ r5_
            try go_frame
            refine wpAnyF_done (by kernel_rfl) ?_ _
            clear hHeld
            have V6 := VX.store RA H17.out
            have hne : ba ≠ w.heap.size + 1 + 1 := by omega
            replace RR := RR.far (x := .bool n17) (y := .slice A17 m17 k17) hne
            replace HB := below_set2 (b := ba) HB (by omega) (.bool n17) (.slice A17 m17 k17)
            generalize hW9 : (w17.setCell ⟨ba, 0, none⟩ (.bool n17)).setCell ⟨ba, 1, none⟩ (.slice A17 m17 k17) = W9 at *
            clear hW9 RA CA CB VM_ VZ
            have vs0 := V6.c0; have vs1 := V6.c1; have vsf := V6.f0; have vsg := V6.f1; have vsl := V6.lt
            have RRh := RR
            obtain ⟨⟨u1, r1⟩, ⟨u2, u3, u4, r2⟩, r3, r4, r5⟩ := RR
            go_wp2
            refine bodyPost_ret (v := .agg #[.bool n17, .slice A17 m17 k17]) (by simp [results, Tryz.results72, go_sem, r1, r2, r5]) rfl ⟨_, rfl, by rw [HST.out]; exact V6.iz.out.res2 RRh _ _, below_set2 HB (by omega) _ _⟩
        · go_simp
          refine hK.out _ _ (by replace VM_ := VM_.keep (below_alloc (Below.refl w13.heap.size w13) (Obj.cells #[Value.bool false, Value.slice none 0 0] 37)); replace VZ := VZ.keep (below_alloc (Below.refl w13.heap.size w13) (Obj.cells #[Value.bool false, Value.slice none 0 0] 37)); replace CA := CA.keep (below_alloc (Below.refl w13.heap.size w13) (Obj.cells #[Value.bool false, Value.slice none 0 0] 37)); replace CB := CB.keep (below_alloc (Below.refl w13.heap.size w13) (Obj.cells #[Value.bool false, Value.slice none 0 0] 37)); replace RR := RR.keep (below_alloc (Below.refl w13.heap.size w13) (Obj.cells #[Value.bool false, Value.slice none 0 0] 37)); exact ⟨VM_.c0, VM_.c1, VM_.c2, VZ.c0, VZ.c1, CA.c, CB.c⟩) (fun hHeld => ?_)
          clear hK K
          try go_frame
          have hba1 := HB.size
          have ltVM_ := VM_.lt
          have ltVZ := VZ.lt
          have ltCA := CA.lt
          have ltCB := CB.lt
          have ltRR := RR.lt
          have RA := newRes w13 37
          replace VM_ := VM_.keep (below_alloc (Below.refl w13.heap.size w13) (Obj.cells #[Value.bool false, Value.slice none 0 0] 37)); replace VZ := VZ.keep (below_alloc (Below.refl w13.heap.size w13) (Obj.cells #[Value.bool false, Value.slice none 0 0] 37)); replace CA := CA.keep (below_alloc (Below.refl w13.heap.size w13) (Obj.cells #[Value.bool false, Value.slice none 0 0] 37)); replace CB := CB.keep (below_alloc (Below.refl w13.heap.size w13) (Obj.cells #[Value.bool false, Value.slice none 0 0] 37)); replace RR := RR.keep (below_alloc (Below.refl w13.heap.size w13) (Obj.cells #[Value.bool false, Value.slice none 0 0] 37))
          replace HB := below_alloc HB (Obj.cells #[Value.bool false, Value.slice none 0 0] 37)
          replace H7 := Lib.hid (H7.out.below (below_alloc (Below.refl w13.heap.size w13) (Obj.cells #[Value.bool false, Value.slice none 0 0] 37)))
          replace H13 := Lib.hid (H13.out.below (below_alloc (Below.refl w13.heap.size w13) (Obj.cells #[Value.bool false, Value.slice none 0 0] 37)))
          generalize hWa : w13.alloc (Obj.cells #[Value.bool false, Value.slice none 0 0] 37) = wa at *
          generalize hba : w13.heap.size = ba at *
          refine wpAnyF_one (i := 14) (by kernel_rfl) rfl (fun K hK => ?_)
          go_simp
          (go_at_call 14; (with_reducible refine (Add_c (x * z) y _ _ _ H7.out H13.out (by have := LXZ.out; omega) (by have := LY.out; omega)).mono ?_); rintro e w14 ⟨v, rfl, hv, hb14⟩; obtain ⟨n14, A14, m14, k14, rfl, H14⟩ := hv.form; clear hv; replace VM_ := VM_.keep hb14; replace VZ := VZ.keep hb14; replace CA := CA.keep hb14; replace CB := CB.keep hb14; replace RR := RR.keep hb14; replace HB := below_step HB hb14)
          replace RA := RA.keep hb14
          clear hb14
          refine hK.out _ _ (by exact ⟨VM_.c0, VM_.c1, VM_.c2, VZ.c0, VZ.c1, CA.c, CB.c⟩) (fun hHeld => ?_)
          clear hK K
          try go_frame
          refine wpAnyF_one (i := 17) (by kernel_rfl) rfl (fun K hK => ?_)
          go_simp
          (go_at_call 88; (with_reducible refine (Part_c (x * z + y) md _ _ H14.out (by omega) (by omega) LS.out).mono ?_); rintro e w17 ⟨v, rfl, hv, hb17⟩; generalize (x * z + y) % md = rr at *; obtain ⟨n17, A17, m17, k17, rfl, H17⟩ := hv.form; clear hv; replace VM_ := VM_.keep hb17; replace VZ := VZ.keep hb17; replace CA := CA.keep hb17; replace CB := CB.keep hb17; replace RR := RR.keep hb17; replace HB := below_step HB hb17)
          replace RA := RA.keep hb17
          clear hb17
          refine hK.out _ _ (by exact ⟨VM_.c0, VM_.c1, VM_.c2, VZ.c0, VZ.c1, CA.c, CB.c⟩) (fun hHeld => ?_)
          clear hK K
          try go_frame
          refine wpF_t (i := 18) (oi := opab1be682) (v := ?_) rfl (by kernel_rfl) (fun _ _ _ h => h) (Or.inl ⟨by rfl, ?_⟩) hHeld ?_; rotate_left
          · intro w_ hSw_; (try dsimp only at hSw_); go_simp; (try with_reducible rfl)
          try go_frame
          refine wpF_t (i := 19) (oi := op1fc1e3b9) (v := ?_) rfl (by kernel_rfl) (fun _ _ _ h => h) (Or.inl ⟨by rfl, ?_⟩) hHeld ?_; rotate_left
          · intro w_ hSw_; (try dsimp only at hSw_); go_simp; (try with_reducible rfl)
          try go_frame
          refine wpF_p (i := 20) (oi := op67affdec) (v := ?_) rfl (by kernel_rfl) (fun _ _ _ h => h) (Or.inl ⟨by rfl, ?_⟩) hHeld ?_; rotate_left
          · intro w_ hSw_; (try dsimp only at hSw_); go_simp; (try with_reducible rfl)
          try go_frame
          refine wpAnyF_st (i := 22) (by kernel_rfl) (by kernel_rfl) rfl (fun K hK => ?_)
          obtain ⟨⟨u1_, r1_⟩, ⟨u2_, u3_, u4_, r2_⟩, r3_, r4_, r5_⟩ := RA
          have RA : Res2 _ ba := ⟨⟨u1_, r1_⟩, ⟨u2_, u3_, u4_, r2_⟩, r3_, r4_, r5_⟩
          go_simp
          refine hK.out _ _ ?_
          clear hK K r1_ r2_ r3_ r4_ r5_
          try go_frame
          refine wpAnyF_st (i := 23) (by kernel_rfl) (by kernel_rfl) rfl (fun K hK => ?_)
          obtain ⟨⟨u1_, r1_⟩, ⟨u2_, u3_, u4_, r2_⟩, r3_, r4_, r5_⟩ := RA
          have RA : Res2 _ ba := ⟨⟨u1_, r1_⟩, ⟨u2_, u3_, u4_, r2_⟩, r3_, r4_, r5_⟩
          go_simp
          refine hK.out _ _ ?_
          clear hK K r1_ r2_ r3_ r4_ r5_
          try go_frame
          refine wpAnyF_done (by kernel_rfl) ?_ _
          clear hHeld
          have V6 := VX.store RA H17.out
          have hne : ba ≠ w.heap.size + 1 + 1 := by omega
          replace RR := RR.far (x := .bool n17) (y := .slice A17 m17 k17) hne
          replace HB := below_set2 (b := ba) HB (by omega) (.bool n17) (.slice A17 m17 k17)
          generalize hW9 : (w17.setCell ⟨ba, 0, none⟩ (.bool n17)).setCell ⟨ba, 1, none⟩ (.slice A17 m17 k17) = W9 at *
          clear hW9 RA CA CB VM_ VZ
          have vs0 := V6.c0; have vs1 := V6.c1; have vsf := V6.f0; have vsg := V6.f1; have vsl := V6.lt
          have RRh := RR
          obtain ⟨⟨u1, r1⟩, ⟨u2, u3, u4, r2⟩, r3, r4, r5⟩ := RR
          go_wp2
          refine bodyPost_ret (v := .agg #[.bool n17, .slice A17 m17 k17]) (by simp [results, Tryz.results72, go_sem, r1, r2, r5]) rfl ⟨_, rfl, by rw [HST.out]; exact V6.iz.out.res2 RRh _ _, below_set2 HB (by omega) _ _⟩
      · go_simp
        refine hK.out _ _ (by replace VM_ := VM_.keep (below_alloc (Below.refl w7.heap.size w7) (Obj.cells #[Value.bool false, Value.slice none 0 0] 37)); replace VZ := VZ.keep (below_alloc (Below.refl w7.heap.size w7) (Obj.cells #[Value.bool false, Value.slice none 0 0] 37)); replace CA := CA.keep (below_alloc (Below.refl w7.heap.size w7) (Obj.cells #[Value.bool false, Value.slice none 0 0] 37)); replace CB := CB.keep (below_alloc (Below.refl w7.heap.size w7) (Obj.cells #[Value.bool false, Value.slice none 0 0] 37)); replace RR := RR.keep (below_alloc (Below.refl w7.heap.size w7) (Obj.cells #[Value.bool false, Value.slice none 0 0] 37)); exact ⟨VM_.c0, VM_.c1, VM_.c2, VZ.c0, VZ.c1, CA.c, CB.c⟩) (fun hHeld => ?_)
        clear hK K
        try go_frame
        have hba1 := HB.size
        have ltVM_ := VM_.lt
        have ltVZ := VZ.lt
        have ltCA := CA.lt
        have ltCB := CB.lt
        have ltRR := RR.lt
        have RA := newRes w7 37
        replace VM_ := VM_.keep (below_alloc (Below.refl w7.heap.size w7) (Obj.cells #[Value.bool false, Value.slice none 0 0] 37)); replace VZ := VZ.keep (below_alloc (Below.refl w7.heap.size w7) (Obj.cells #[Value.bool false, Value.slice none 0 0] 37)); replace CA := CA.keep (below_alloc (Below.refl w7.heap.size w7) (Obj.cells #[Value.bool false, Value.slice none 0 0] 37)); replace CB := CB.keep (below_alloc (Below.refl w7.heap.size w7) (Obj.cells #[Value.bool false, Value.slice none 0 0] 37)); replace RR := RR.keep (below_alloc (Below.refl w7.heap.size w7) (Obj.cells #[Value.bool false, Value.slice none 0 0] 37))
        replace HB := below_alloc HB (Obj.cells #[Value.bool false, Value.slice none 0 0] 37)
        replace H7 := Lib.hid (H7.out.below (below_alloc (Below.refl w7.heap.size w7) (Obj.cells #[Value.bool false, Value.slice none 0 0] 37)))
        generalize hWa : w7.alloc (Obj.cells #[Value.bool false, Value.slice none 0 0] 37) = wa at *
        generalize hba : w7.heap.size = ba at *
        refine wpAnyF_one (i := 13) (by kernel_rfl) rfl (fun K hK => ?_)
        go_simp
        (go_at_call 15; (with_reducible refine (Of_c y _ (by omega) (by omega)).mono ?_); rintro e w13 ⟨v, rfl, hv, hb13⟩; obtain ⟨n13, A13, m13, k13, rfl, H13⟩ := hv.form; clear hv; replace VM_ := VM_.keep hb13; replace VZ := VZ.keep hb13; replace CA := CA.keep hb13; replace CB := CB.keep hb13; replace RR := RR.keep hb13; replace HB := below_step HB hb13; replace H7 := Lib.hid (H7.out.below hb13))
        replace RA := RA.keep hb13
        clear hb13
        refine hK.out _ _ (by exact ⟨VM_.c0, VM_.c1, VM_.c2, VZ.c0, VZ.c1, CA.c, CB.c⟩) (fun hHeld => ?_)
        clear hK K
        try go_frame
        refine wpAnyF_one (i := 14) (by kernel_rfl) rfl (fun K hK => ?_)
        go_simp
        (go_at_call 14; (with_reducible refine (Add_c (x * z) y _ _ _ H7.out H13.out (by have := LXZ.out; omega) (by have := LY.out; omega)).mono ?_); rintro e w14 ⟨v, rfl, hv, hb14⟩; obtain ⟨n14, A14, m14, k14, rfl, H14⟩ := hv.form; clear hv; replace VM_ := VM_.keep hb14; replace VZ := VZ.keep hb14; replace CA := CA.keep hb14; replace CB := CB.keep hb14; replace RR := RR.keep hb14; replace HB := below_step HB hb14)
        replace RA := RA.keep hb14
        clear hb14
        refine hK.out _ _ (by exact ⟨VM_.c0, VM_.c1, VM_.c2, VZ.c0, VZ.c1, CA.c, CB.c⟩) (fun hHeld => ?_)
        clear hK K
        try go_frame
        refine wpAnyF_one (i := 17) (by kernel_rfl) rfl (fun K hK => ?_)
        go_simp
        (go_at_call 88; (with_reducible refine (Part_c (x * z + y) md _ _ H14.out (by omega) (by omega) LS.out).mono ?_); rintro e w17 ⟨v, rfl, hv, hb17⟩; generalize (x * z + y) % md = rr at *; obtain ⟨n17, A17, m17, k17, rfl, H17⟩ := hv.form; clear hv; replace VM_ := VM_.keep hb17; replace VZ := VZ.keep hb17; replace CA := CA.keep hb17; replace CB := CB.keep hb17; replace RR := RR.keep hb17; replace HB := below_step HB hb17)
        replace RA := RA.keep hb17
        clear hb17
        refine hK.out _ _ (by exact ⟨VM_.c0, VM_.c1, VM_.c2, VZ.c0, VZ.c1, CA.c, CB.c⟩) (fun hHeld => ?_)
        clear hK K
        try go_frame
        refine wpF_t (i := 18) (oi := opab1be682) (v := ?_) rfl (by kernel_rfl) (fun _ _ _ h => h) (Or.inl ⟨by rfl, ?_⟩) hHeld ?_; rotate_left
        · intro w_ hSw_; (try dsimp only at hSw_); go_simp; (try with_reducible rfl)
        try go_frame
        refine wpF_t (i := 19) (oi := op1fc1e3b9) (v := ?_) rfl (by kernel_rfl) (fun _ _ _ h => h) (Or.inl ⟨by rfl, ?_⟩) hHeld ?_; rotate_left
        · intro w_ hSw_; (try dsimp only at hSw_); go_simp; (try with_reducible rfl)
        try go_frame
        refine wpF_p (i := 20) (oi := op67affdec) (v := ?_) rfl (by kernel_rfl) (fun _ _ _ h => h) (Or.inl ⟨by rfl, ?_⟩) hHeld ?_; rotate_left
        · intro w_ hSw_; (try dsimp only at hSw_); go_simp; (try with_reducible rfl)
        try go_frame
        refine wpAnyF_st (i := 22) (by kernel_rfl) (by kernel_rfl) rfl (fun K hK => ?_)
        obtain ⟨⟨u1_, r1_⟩, ⟨u2_, u3_, u4_, r2_⟩, r3_, r4_, r5_⟩ := RA
        have RA : Res2 _ ba := ⟨⟨u1_, r1_⟩, ⟨u2_, u3_, u4_, r2_⟩, r3_, r4_, r5_⟩
        go_simp
        refine hK.out _ _ ?_
        clear hK K r1_ r2_ r3_ r4_ r5_
        try go_frame
        refine wpAnyF_st (i := 23) (by kernel_rfl) (by kernel_rfl) rfl (fun K hK => ?_)
        obtain ⟨⟨u1_, r1_⟩, ⟨u2_, u3_, u4_, r2_⟩, r3_, r4_, r5_⟩ := RA
        have RA : Res2 _ ba := ⟨⟨u1_, r1_⟩, ⟨u2_, u3_, u4_, r2_⟩, r3_, r4_, r5_⟩
        go_simp
        refine hK.out _ _ ?_
        clear hK K r1_ r2_ r3_ r4_ r5_
        try go_frame
        refine wpAnyF_done (by kernel_rfl) ?_ _
        clear hHeld
        have V6 := VX.store RA H17.out
        have hne : ba ≠ w.heap.size + 1 + 1 := by omega
        replace RR := RR.far (x := .bool n17) (y := .slice A17 m17 k17) hne
        replace HB := below_set2 (b := ba) HB (by omega) (.bool n17) (.slice A17 m17 k17)
        generalize hW9 : (w17.setCell ⟨ba, 0, none⟩ (.bool n17)).setCell ⟨ba, 1, none⟩ (.slice A17 m17 k17) = W9 at *
        clear hW9 RA CA CB VM_ VZ
        have vs0 := V6.c0; have vs1 := V6.c1; have vsf := V6.f0; have vsg := V6.f1; have vsl := V6.lt
        have RRh := RR
        obtain ⟨⟨u1, r1⟩, ⟨u2, u3, u4, r2⟩, r3, r4, r5⟩ := RR
        go_wp2
        refine bodyPost_ret (v := .agg #[.bool n17, .slice A17 m17 k17]) (by simp [results, Tryz.results72, go_sem, r1, r2, r5]) rfl ⟨_, rfl, by rw [HST.out]; exact V6.iz.out.res2 RRh _ _, below_set2 HB (by omega) _ _⟩
    · go_simp
      refine hK.out _ _ (by replace VM_ := VM_.keep (below_alloc (Below.refl w5.heap.size w5) (Obj.cells #[Value.bool false, Value.slice none 0 0] 37)); replace VZ := VZ.keep (below_alloc (Below.refl w5.heap.size w5) (Obj.cells #[Value.bool false, Value.slice none 0 0] 37)); replace CA := CA.keep (below_alloc (Below.refl w5.heap.size w5) (Obj.cells #[Value.bool false, Value.slice none 0 0] 37)); replace CB := CB.keep (below_alloc (Below.refl w5.heap.size w5) (Obj.cells #[Value.bool false, Value.slice none 0 0] 37)); replace RR := RR.keep (below_alloc (Below.refl w5.heap.size w5) (Obj.cells #[Value.bool false, Value.slice none 0 0] 37)); exact ⟨VM_.c0, VM_.c1, VM_.c2, VZ.c0, VZ.c1, CA.c, CB.c⟩) (fun hHeld => ?_)
      clear hK K
      try go_frame
      have hba1 := HB.size
      have ltVM_ := VM_.lt
      have ltVZ := VZ.lt
      have ltCA := CA.lt
      have ltCB := CB.lt
      have ltRR := RR.lt
      have RA := newRes w5 37
      replace VM_ := VM_.keep (below_alloc (Below.refl w5.heap.size w5) (Obj.cells #[Value.bool false, Value.slice none 0 0] 37)); replace VZ := VZ.keep (below_alloc (Below.refl w5.heap.size w5) (Obj.cells #[Value.bool false, Value.slice none 0 0] 37)); replace CA := CA.keep (below_alloc (Below.refl w5.heap.size w5) (Obj.cells #[Value.bool false, Value.slice none 0 0] 37)); replace CB := CB.keep (below_alloc (Below.refl w5.heap.size w5) (Obj.cells #[Value.bool false, Value.slice none 0 0] 37)); replace RR := RR.keep (below_alloc (Below.refl w5.heap.size w5) (Obj.cells #[Value.bool false, Value.slice none 0 0] 37))
      replace HB := below_alloc HB (Obj.cells #[Value.bool false, Value.slice none 0 0] 37)
      replace H5 := Lib.hid (H5.out.below (below_alloc (Below.refl w5.heap.size w5) (Obj.cells #[Value.bool false, Value.slice none 0 0] 37)))
      generalize hWa : w5.alloc (Obj.cells #[Value.bool false, Value.slice none 0 0] 37) = wa at *
      generalize hba : w5.heap.size = ba at *
      refine wpAnyF_one (i := 7) (by kernel_rfl) rfl (fun K hK => ?_)
      go_simp
      (go_at_call 89; (with_reducible refine (Mul_c x z _ _ _ H5.out (by exact VZ.iz.out) (by have := LX.out; omega) (by have := LZ.out; omega)).mono ?_); rintro e w7 ⟨v, rfl, hv, hb7⟩; obtain ⟨n7, A7, m7, k7, rfl, H7⟩ := hv.form; clear hv; replace VM_ := VM_.keep hb7; replace VZ := VZ.keep hb7; replace CA := CA.keep hb7; replace CB := CB.keep hb7; replace RR := RR.keep hb7; replace HB := below_step HB hb7)
      replace RA := RA.keep hb7
      clear hb7
      refine hK.out _ _ (by exact ⟨VM_.c0, VM_.c1, VM_.c2, VZ.c0, VZ.c1, CA.c, CB.c⟩) (fun hHeld => ?_)
      clear hK K
      try go_frame
      refine wpAnyF_one (i := 13) (by kernel_rfl) rfl (fun K hK => ?_)
      go_simp
      (go_at_call 15; (with_reducible refine (Of_c y _ (by omega) (by omega)).mono ?_); rintro e w13 ⟨v, rfl, hv, hb13⟩; obtain ⟨n13, A13, m13, k13, rfl, H13⟩ := hv.form; clear hv; replace VM_ := VM_.keep hb13; replace VZ := VZ.keep hb13; replace CA := CA.keep hb13; replace CB := CB.keep hb13; replace RR := RR.keep hb13; replace HB := below_step HB hb13; replace H7 := Lib.hid (H7.out.below hb13))
      replace RA := RA.keep hb13
      clear hb13
      refine hK.out _ _ (by exact ⟨VM_.c0, VM_.c1, VM_.c2, VZ.c0, VZ.c1, CA.c, CB.c⟩) (fun hHeld => ?_)
      clear hK K
      try go_frame
      refine wpAnyF_one (i := 14) (by kernel_rfl) rfl (fun K hK => ?_)
      go_simp
      (go_at_call 14; (with_reducible refine (Add_c (x * z) y _ _ _ H7.out H13.out (by have := LXZ.out; omega) (by have := LY.out; omega)).mono ?_); rintro e w14 ⟨v, rfl, hv, hb14⟩; obtain ⟨n14, A14, m14, k14, rfl, H14⟩ := hv.form; clear hv; replace VM_ := VM_.keep hb14; replace VZ := VZ.keep hb14; replace CA := CA.keep hb14; replace CB := CB.keep hb14; replace RR := RR.keep hb14; replace HB := below_step HB hb14)
      replace RA := RA.keep hb14
      clear hb14
      refine hK.out _ _ (by exact ⟨VM_.c0, VM_.c1, VM_.c2, VZ.c0, VZ.c1, CA.c, CB.c⟩) (fun hHeld => ?_)
      clear hK K
      try go_frame
      refine wpAnyF_one (i := 17) (by kernel_rfl) rfl (fun K hK => ?_)
      go_simp
      (go_at_call 88; (with_reducible refine (Part_c (x * z + y) md _ _ H14.out (by omega) (by omega) LS.out).mono ?_); rintro e w17 ⟨v, rfl, hv, hb17⟩; generalize (x * z + y) % md = rr at *; obtain ⟨n17, A17, m17, k17, rfl, H17⟩ := hv.form; clear hv; replace VM_ := VM_.keep hb17; replace VZ := VZ.keep hb17; replace CA := CA.keep hb17; replace CB := CB.keep hb17; replace RR := RR.keep hb17; replace HB := below_step HB hb17)
      replace RA := RA.keep hb17
      clear hb17
      refine hK.out _ _ (by exact ⟨VM_.c0, VM_.c1, VM_.c2, VZ.c0, VZ.c1, CA.c, CB.c⟩) (fun hHeld => ?_)
      clear hK K
      try go_frame
      refine wpF_t (i := 18) (oi := opab1be682) (v := ?_) rfl (by kernel_rfl) (fun _ _ _ h => h) (Or.inl ⟨by rfl, ?_⟩) hHeld ?_; rotate_left
      · intro w_ hSw_; (try dsimp only at hSw_); go_simp; (try with_reducible rfl)
      try go_frame
      refine wpF_t (i := 19) (oi := op1fc1e3b9) (v := ?_) rfl (by kernel_rfl) (fun _ _ _ h => h) (Or.inl ⟨by rfl, ?_⟩) hHeld ?_; rotate_left
      · intro w_ hSw_; (try dsimp only at hSw_); go_simp; (try with_reducible rfl)
      try go_frame
      refine wpF_p (i := 20) (oi := op67affdec) (v := ?_) rfl (by kernel_rfl) (fun _ _ _ h => h) (Or.inl ⟨by rfl, ?_⟩) hHeld ?_; rotate_left
      · intro w_ hSw_; (try dsimp only at hSw_); go_simp; (try with_reducible rfl)
      try go_frame
      refine wpAnyF_st (i := 22) (by kernel_rfl) (by kernel_rfl) rfl (fun K hK => ?_)
      obtain ⟨⟨u1_, r1_⟩, ⟨u2_, u3_, u4_, r2_⟩, r3_, r4_, r5_⟩ := RA
      have RA : Res2 _ ba := ⟨⟨u1_, r1_⟩, ⟨u2_, u3_, u4_, r2_⟩, r3_, r4_, r5_⟩
      go_simp
      refine hK.out _ _ ?_
      clear hK K r1_ r2_ r3_ r4_ r5_
      try go_frame
      refine wpAnyF_st (i := 23) (by kernel_rfl) (by kernel_rfl) rfl (fun K hK => ?_)
      obtain ⟨⟨u1_, r1_⟩, ⟨u2_, u3_, u4_, r2_⟩, r3_, r4_, r5_⟩ := RA
      have RA : Res2 _ ba := ⟨⟨u1_, r1_⟩, ⟨u2_, u3_, u4_, r2_⟩, r3_, r4_, r5_⟩
      go_simp
      refine hK.out _ _ ?_
      clear hK K r1_ r2_ r3_ r4_ r5_
      try go_frame
      refine wpAnyF_done (by kernel_rfl) ?_ _
      clear hHeld
      have V6 := VX.store RA H17.out
      have hne : ba ≠ w.heap.size + 1 + 1 := by omega
      replace RR := RR.far (x := .bool n17) (y := .slice A17 m17 k17) hne
      replace HB := below_set2 (b := ba) HB (by omega) (.bool n17) (.slice A17 m17 k17)
      generalize hW9 : (w17.setCell ⟨ba, 0, none⟩ (.bool n17)).setCell ⟨ba, 1, none⟩ (.slice A17 m17 k17) = W9 at *
      clear hW9 RA CA CB VM_ VZ
      have vs0 := V6.c0; have vs1 := V6.c1; have vsf := V6.f0; have vsg := V6.f1; have vsl := V6.lt
      have RRh := RR
      obtain ⟨⟨u1, r1⟩, ⟨u2, u3, u4, r2⟩, r3, r4, r5⟩ := RR
      go_wp2
      refine bodyPost_ret (v := .agg #[.bool n17, .slice A17 m17 k17]) (by simp [results, Tryz.results72, go_sem, r1, r2, r5]) rfl ⟨_, rfl, by rw [HST.out]; exact V6.iz.out.res2 RRh _ _, below_set2 HB (by omega) _ _⟩
  · go_simp
    refine hK.out _ _ (by replace VM_ := VM_.keep (below_alloc (Below.refl wd.heap.size wd) (Obj.cells #[Value.bool false, Value.slice none 0 0] 37)); replace VZ := VZ.keep (below_alloc (Below.refl wd.heap.size wd) (Obj.cells #[Value.bool false, Value.slice none 0 0] 37)); replace CA := CA.keep (below_alloc (Below.refl wd.heap.size wd) (Obj.cells #[Value.bool false, Value.slice none 0 0] 37)); replace CB := CB.keep (below_alloc (Below.refl wd.heap.size wd) (Obj.cells #[Value.bool false, Value.slice none 0 0] 37)); replace RR := RR.keep (below_alloc (Below.refl wd.heap.size wd) (Obj.cells #[Value.bool false, Value.slice none 0 0] 37)); exact ⟨VM_.c0, VM_.c1, VM_.c2, VZ.c0, VZ.c1, CA.c, CB.c⟩) (fun hHeld => ?_)
    clear hK K
    try go_frame
    have hba1 := HB.size
    have ltVM_ := VM_.lt
    have ltVZ := VZ.lt
    have ltCA := CA.lt
    have ltCB := CB.lt
    have ltRR := RR.lt
    have RA := newRes wd 37
    replace VM_ := VM_.keep (below_alloc (Below.refl wd.heap.size wd) (Obj.cells #[Value.bool false, Value.slice none 0 0] 37)); replace VZ := VZ.keep (below_alloc (Below.refl wd.heap.size wd) (Obj.cells #[Value.bool false, Value.slice none 0 0] 37)); replace CA := CA.keep (below_alloc (Below.refl wd.heap.size wd) (Obj.cells #[Value.bool false, Value.slice none 0 0] 37)); replace CB := CB.keep (below_alloc (Below.refl wd.heap.size wd) (Obj.cells #[Value.bool false, Value.slice none 0 0] 37)); replace RR := RR.keep (below_alloc (Below.refl wd.heap.size wd) (Obj.cells #[Value.bool false, Value.slice none 0 0] 37))
    replace HB := below_alloc HB (Obj.cells #[Value.bool false, Value.slice none 0 0] 37)
    generalize hWa : wd.alloc (Obj.cells #[Value.bool false, Value.slice none 0 0] 37) = wa at *
    generalize hba : wd.heap.size = ba at *
    refine wpAnyF_one (i := 5) (by kernel_rfl) rfl (fun K hK => ?_)
    go_simp
    (go_at_call 15; (with_reducible refine (Of_c x _ (by omega) (by omega)).mono ?_); rintro e w5 ⟨v, rfl, hv, hb5⟩; obtain ⟨n5, A5, m5, k5, rfl, H5⟩ := hv.form; clear hv; replace VM_ := VM_.keep hb5; replace VZ := VZ.keep hb5; replace CA := CA.keep hb5; replace CB := CB.keep hb5; replace RR := RR.keep hb5; replace HB := below_step HB hb5)
    replace RA := RA.keep hb5
    clear hb5
    refine hK.out _ _ (by exact ⟨VM_.c0, VM_.c1, VM_.c2, VZ.c0, VZ.c1, CA.c, CB.c⟩) (fun hHeld => ?_)
    clear hK K
    try go_frame
    refine wpAnyF_one (i := 7) (by kernel_rfl) rfl (fun K hK => ?_)
    go_simp
    (go_at_call 89; (with_reducible refine (Mul_c x z _ _ _ H5.out (by exact VZ.iz.out) (by have := LX.out; omega) (by have := LZ.out; omega)).mono ?_); rintro e w7 ⟨v, rfl, hv, hb7⟩; obtain ⟨n7, A7, m7, k7, rfl, H7⟩ := hv.form; clear hv; replace VM_ := VM_.keep hb7; replace VZ := VZ.keep hb7; replace CA := CA.keep hb7; replace CB := CB.keep hb7; replace RR := RR.keep hb7; replace HB := below_step HB hb7)
    replace RA := RA.keep hb7
    clear hb7
    refine hK.out _ _ (by exact ⟨VM_.c0, VM_.c1, VM_.c2, VZ.c0, VZ.c1, CA.c, CB.c⟩) (fun hHeld => ?_)
    clear hK K
    try go_frame
    refine wpAnyF_one (i := 13) (by kernel_rfl) rfl (fun K hK => ?_)
    go_simp
    (go_at_call 15; (with_reducible refine (Of_c y _ (by omega) (by omega)).mono ?_); rintro e w13 ⟨v, rfl, hv, hb13⟩; obtain ⟨n13, A13, m13, k13, rfl, H13⟩ := hv.form; clear hv; replace VM_ := VM_.keep hb13; replace VZ := VZ.keep hb13; replace CA := CA.keep hb13; replace CB := CB.keep hb13; replace RR := RR.keep hb13; replace HB := below_step HB hb13; replace H7 := Lib.hid (H7.out.below hb13))
    replace RA := RA.keep hb13
    clear hb13
    refine hK.out _ _ (by exact ⟨VM_.c0, VM_.c1, VM_.c2, VZ.c0, VZ.c1, CA.c, CB.c⟩) (fun hHeld => ?_)
    clear hK K
    try go_frame
    refine wpAnyF_one (i := 14) (by kernel_rfl) rfl (fun K hK => ?_)
    go_simp
    (go_at_call 14; (with_reducible refine (Add_c (x * z) y _ _ _ H7.out H13.out (by have := LXZ.out; omega) (by have := LY.out; omega)).mono ?_); rintro e w14 ⟨v, rfl, hv, hb14⟩; obtain ⟨n14, A14, m14, k14, rfl, H14⟩ := hv.form; clear hv; replace VM_ := VM_.keep hb14; replace VZ := VZ.keep hb14; replace CA := CA.keep hb14; replace CB := CB.keep hb14; replace RR := RR.keep hb14; replace HB := below_step HB hb14)
    replace RA := RA.keep hb14
    clear hb14
    refine hK.out _ _ (by exact ⟨VM_.c0, VM_.c1, VM_.c2, VZ.c0, VZ.c1, CA.c, CB.c⟩) (fun hHeld => ?_)
    clear hK K
    try go_frame
    refine wpAnyF_one (i := 17) (by kernel_rfl) rfl (fun K hK => ?_)
    go_simp
    (go_at_call 88; (with_reducible refine (Part_c (x * z + y) md _ _ H14.out (by omega) (by omega) LS.out).mono ?_); rintro e w17 ⟨v, rfl, hv, hb17⟩; generalize (x * z + y) % md = rr at *; obtain ⟨n17, A17, m17, k17, rfl, H17⟩ := hv.form; clear hv; replace VM_ := VM_.keep hb17; replace VZ := VZ.keep hb17; replace CA := CA.keep hb17; replace CB := CB.keep hb17; replace RR := RR.keep hb17; replace HB := below_step HB hb17)
    replace RA := RA.keep hb17
    clear hb17
    refine hK.out _ _ (by exact ⟨VM_.c0, VM_.c1, VM_.c2, VZ.c0, VZ.c1, CA.c, CB.c⟩) (fun hHeld => ?_)
    clear hK K
    try go_frame
    refine wpF_t (i := 18) (oi := opab1be682) (v := ?_) rfl (by kernel_rfl) (fun _ _ _ h => h) (Or.inl ⟨by rfl, ?_⟩) hHeld ?_; rotate_left
    · intro w_ hSw_; (try dsimp only at hSw_); go_simp; (try with_reducible rfl)
    try go_frame
    refine wpF_t (i := 19) (oi := op1fc1e3b9) (v := ?_) rfl (by kernel_rfl) (fun _ _ _ h => h) (Or.inl ⟨by rfl, ?_⟩) hHeld ?_; rotate_left
    · intro w_ hSw_; (try dsimp only at hSw_); go_simp; (try with_reducible rfl)
    try go_frame
    refine wpF_p (i := 20) (oi := op67affdec) (v := ?_) rfl (by kernel_rfl) (fun _ _ _ h => h) (Or.inl ⟨by rfl, ?_⟩) hHeld ?_; rotate_left
    · intro w_ hSw_; (try dsimp only at hSw_); go_simp; (try with_reducible rfl)
    try go_frame
    refine wpAnyF_st (i := 22) (by kernel_rfl) (by kernel_rfl) rfl (fun K hK => ?_)
    obtain ⟨⟨u1_, r1_⟩, ⟨u2_, u3_, u4_, r2_⟩, r3_, r4_, r5_⟩ := RA
    have RA : Res2 _ ba := ⟨⟨u1_, r1_⟩, ⟨u2_, u3_, u4_, r2_⟩, r3_, r4_, r5_⟩
    go_simp
    refine hK.out _ _ ?_
    clear hK K r1_ r2_ r3_ r4_ r5_
    try go_frame
    refine wpAnyF_st (i := 23) (by kernel_rfl) (by kernel_rfl) rfl (fun K hK => ?_)
    obtain ⟨⟨u1_, r1_⟩, ⟨u2_, u3_, u4_, r2_⟩, r3_, r4_, r5_⟩ := RA
    have RA : Res2 _ ba := ⟨⟨u1_, r1_⟩, ⟨u2_, u3_, u4_, r2_⟩, r3_, r4_, r5_⟩
    go_simp
    refine hK.out _ _ ?_
    clear hK K r1_ r2_ r3_ r4_ r5_
    try go_frame
    refine wpAnyF_done (by kernel_rfl) ?_ _
    clear hHeld
    have V6 := VX.store RA H17.out
    have hne : ba ≠ w.heap.size + 1 + 1 := by omega
    replace RR := RR.far (x := .bool n17) (y := .slice A17 m17 k17) hne
    replace HB := below_set2 (b := ba) HB (by omega) (.bool n17) (.slice A17 m17 k17)
    generalize hW9 : (w17.setCell ⟨ba, 0, none⟩ (.bool n17)).setCell ⟨ba, 1, none⟩ (.slice A17 m17 k17) = W9 at *
    clear hW9 RA CA CB VM_ VZ
    have vs0 := V6.c0; have vs1 := V6.c1; have vsf := V6.f0; have vsg := V6.f1; have vsl := V6.lt
    have RRh := RR
    obtain ⟨⟨u1, r1⟩, ⟨u2, u3, u4, r2⟩, r3, r4, r5⟩ := RR
    go_wp2
    refine bodyPost_ret (v := .agg #[.bool n17, .slice A17 m17 k17]) (by simp [results, Tryz.results72, go_sem, r1, r2, r5]) rfl ⟨_, rfl, by rw [HST.out]; exact V6.iz.out.res2 RRh _ _, below_set2 HB (by omega) _ _⟩
end Go.Proofs.YtiaeeclmlchpoaaGreatDoor

set_option linter.unusedVariables false
set_option linter.unusedSimpArgs false
namespace Go.Proofs.YtiaeeclmlchpoaaGreatDoor
open Go.RowKit

theorem info_N : (Tryz.prog.info? 37).map (fun i => (i.zero, i.size, i.bytes)) = some (some (.agg #[.bool false, .slice none 0 0]), 2, 32) := by kernel_rfl
theorem heap_set2 (w : World) (b g : Nat) (x y : Value) (h : g ≠ b) : ((w.setCell ⟨b, 0, none⟩ x).setCell ⟨b, 1, none⟩ y).heap[g]? = w.heap[g]? := by
  simp [World.setCell, Array.getElem?_modify, Ne.symm h]
theorem OwZ.res2 {B : Nat} {k : IntKind} {w : World} {base : Nat} {e : TypeId} {v : Value} {l : List Int} {b : Nat} (h : OwZ B k w base e v l) (hr : Res2 w b) (hb : b < base) (x y : Value) : OwZ B k ((w.setCell ⟨b, 0, none⟩ x).setCell ⟨b, 1, none⟩ y) base e v l := by
  obtain ⟨xs, ⟨h1, h2⟩, h3⟩ := h
  refine ⟨xs, ⟨⟨h1.1, ?_⟩, ?_⟩, h3.kp (Kp.res2 hr x y)⟩
  · rcases h1.2 with hn | ⟨g, cap, cur, rfl, hg, hgg, rest⟩
    · exact .inl hn
    · exact .inr ⟨g, cap, cur, rfl, hg, by rw [heap_set2 w b g x y (by omega)]; exact hgg, rest⟩
  · intro g cur e' fz hg hcur
    have hge := (h1.lt g hg).1
    rw [heap_set2 w b g x y (by omega)] at hcur
    exact h2 g cur e' fz hg hcur
theorem natAbs_div_le {a m : Int} (h : 1 ≤ m) : (a / m).natAbs ≤ a.natAbs := Int.natAbs_ediv_le_natAbs a m
theorem step_len {M : Mp} (hok : okM M) (z : Int) : (dg B9 (stepZ M z)).length ≤ (dg B9 z).length + 4 := by
  obtain ⟨m2, m12, hl1, hl2, hrow⟩ := hok
  have h0 := Int.emod_nonneg z (show M.mod ≠ 0 by omega)
  have h1 := Int.emod_lt_of_pos z (show 0 < M.mod by omega)
  have h2 := hrow (z % M.mod).toNat (by omega)
  obtain ⟨x1, x2, y1, y2, -⟩ := h2
  unfold stepZ
  generalize gd M.mul (z % M.mod).toNat = x at *
  generalize gd M.add (z % M.mod).toNat = y at *
  have e1 := len_mul B9two x z
  have e2 := len_add B9two (x * z) y
  have e3 : (dg B9 x).length ≤ 2 := len_small (by omega) (by omega)
  have e4 : (dg B9 y).length ≤ 2 := len_small (by omega) (by omega)
  have e5 : (dg B9 ((x * z + y) / M.mod)).length ≤ (dg B9 (x * z + y)).length := digs_len_mono B9two (natAbs_div_le (by omega))
  omega
/-- The first numbers of an orbit, up to one that is too long. -/
def orbL (M : Mp) : Int → Nat → List Int
  | z, 0 => [z]
  | z, k + 1 => if dl z ≤ 2000 then z :: orbL M (stepZ M z) k else [z]
theorem len_of_dl {z : Int} (h : dl z ≤ 2000) : (dg B9 z).length ≤ 2000 := by
  unfold dl at h
  rcases Nat.eq_zero_or_pos z.natAbs with h0 | h0
  · unfold dg; rw [h0, digs_zero]; simp
  · rw [if_neg (by omega)] at h
    have h1 := digs_len_lt (B := 10) (by omega) z.natAbs
    have h2 : (10 : Nat) ^ (digs 10 z.natAbs).length ≤ B9 ^ (digs 10 z.natAbs).length := Nat.pow_le_pow_left (by decide) _
    have := digs_len_le B9two (Nat.lt_of_lt_of_le h1 h2)
    unfold dg
    omega
set_option maxRecDepth 100000 in
set_option maxHeartbeats 8000000 in
theorem Orbit_c (M : Mp) (z : Int) (k : Nat) (v u : Value) (w : World) (hM : IsM w v M) (hz : IsN w u z) (hok : okM M) (sz : (dg B9 z).length ≤ 2100) (hk : k ≤ 1000000) :
    Calls Tryz.prog 54 #[v, u, .int .i64 k] w fun e w' => ∃ A c, e = .returned (.slice A (orbL M z k).length c) ∧ Hid (LsZ B9 .i64 w' A c (orbL M z k)) ∧ Below w.heap.size w w' := by
  obtain ⟨md, A, n, c, A', n', c', rfl, HM⟩ := hM.form
  obtain ⟨nz, Az, mz, kz, rfl, HZ⟩ := hz.form
  have HOK := Lib.hid hok
  have SZ : Hid ((dg B9 z).length ≤ 2100) := sz
  clear hM hz hok sz
  go_enter Tryz.func54, Tryz.ntmps54
  go_wp2_with fail
  generalize hW : (w.alloc (Obj.cells #[Value.int .i64 md, Value.slice A n c, Value.slice A' n' c'] 24)).alloc (Obj.cells #[Value.bool nz, Value.slice Az mz kz] 37) = W at *
  obtain ⟨VM_, VZ, hs, HB⟩ := startM w _ _ W HM.out HZ.out hW
  clear hW HM HZ
  have hs : W.heap.size = w.heap.size + 1 + 1 := hs
  have HO0 : Hid (OwZ B9 .i64 (W.alloc (Obj.cells #[Value.bool nz, Value.slice Az mz kz] 37)) (w.heap.size + 1 + 1) 37 (.slice (some ⟨w.heap.size + 1 + 1, 0, none⟩) 1 1) ([] ++ [z])) := by
    show OwZ _ _ _ _ _ _ _
    rw [← hs]; exact OwZ.one (Nat.le_refl _) VZ.iz.out
  have hsz := hs
  replace VM_ := VM_.keep (below_alloc (Below.refl W.heap.size W) (Obj.cells #[Value.bool nz, Value.slice Az mz kz] 37)); replace VZ := VZ.keep (below_alloc (Below.refl W.heap.size W) (Obj.cells #[Value.bool nz, Value.slice Az mz kz] 37))
  replace HB := below_alloc HB (Obj.cells #[Value.bool nz, Value.slice Az mz kz] 37)
  generalize hW : W.alloc (Obj.cells #[Value.bool nz, Value.slice Az mz kz] 37) = W1 at *
  clear hW
  generalize W.heap.size = bl at *
  go_loopg [7, 8] k (fun g lv iv wr => ∃ (i : Nat) (pre : List Int) (z' : Int) (nz : Bool) (Az : Option Addr) (mz kz : Nat), g = k - i ∧ iv = .int .i64 i ∧ i ≤ k ∧ Hid (OwZ B9 .i64 wr (w.heap.size + 1 + 1) 37 lv (pre ++ [z'])) ∧ VM wr w.heap.size md A n c A' n' c' M ∧ VN wr (w.heap.size + 1) nz Az mz kz (z') ∧ Below w.heap.size w wr ∧ pre.length ≤ i ∧ Hid (orbL M z k = pre ++ orbL M z' (k - i)) ∧ Hid ((dg B9 z').length ≤ 2100))
  case atStart => exact ⟨0, [], z, _, _, _, _, rfl, rfl, by omega, HO0, VM_, VZ, HB, by simp, by show _ = _; rw [List.nil_append, Nat.sub_zero], SZ⟩
  case round =>
    clear VM_ VZ HB HO0 SZ
    obtain ⟨i, pre, z', nz, Az, mz, kz, hgk, rfl, hi, HO, VM_, VZ, HB, hpl, HI, SZ'⟩ := hrel
    by_cases hik : i < k
    · cases hf : decide (dl z' ≤ 2000) with
      | false =>
        have HR : Hid (orbL M z k = pre ++ [z']) := by
          show _ = _
          rw [HI.out, show k - i = (k - (i + 1)) + 1 by omega, orbL, if_neg (of_decide_eq_false hf)]
        have HF := Lib.hid hf
        clear hf
        have vz0 := VZ.c0; have vz1 := VZ.c1; have vzf := VZ.f0; have vzg := VZ.f1; have vzl := VZ.lt
        go_wp2_with fail
        (with_reducible refine (Fits_c z' _ _ VZ.iz.out (by have := SZ'.out; omega)).mono ?_)
        rintro e w1 ⟨rfl, hb1⟩
        replace VM_ := VM_.keep hb1; replace VZ := VZ.keep hb1; replace HO := Lib.hid (HO.out.below hb1); replace HB := below_step HB hb1; clear hb1
        clear vz0 vz1 vzf vzg vzl
        rw [HF.out]
        obtain ⟨A2, c2, rfl, hs⟩ := HO.out.form
        have HS := Lib.hid hs
        clear HO hs
        go_wp2
        refine bodyPost_ret (v := .slice A2 (pre ++ [z']).length c2) (by simp [results, Tryz.results54, go_sem]) rfl ⟨A2, c2, by rw [HR.out], by rw [HR.out]; exact HS, HB⟩
      | true =>
        have HI2 : Hid (orbL M z k = (pre ++ [z']) ++ orbL M (stepZ M z') (k - (i + 1))) := by
          show _ = _
          rw [HI.out, show k - i = (k - (i + 1)) + 1 by omega, orbL, if_pos (of_decide_eq_true hf), List.append_assoc]; rfl
        have SZ2 : Hid ((dg B9 (stepZ M z')).length ≤ 2100) := by
          have h1 := step_len HOK.out z'
          have h2 := len_of_dl (of_decide_eq_true hf)
          show _ ≤ _; omega
        have HF := Lib.hid hf
        clear hf
        have vz0 := VZ.c0; have vz1 := VZ.c1; have vzf := VZ.f0; have vzg := VZ.f1; have vzl := VZ.lt
        go_wp2_with fail
        (with_reducible refine (Fits_c z' _ _ VZ.iz.out (by have := SZ'.out; omega)).mono ?_)
        rintro e w1 ⟨rfl, hb1⟩
        replace VM_ := VM_.keep hb1; replace VZ := VZ.keep hb1; replace HO := Lib.hid (HO.out.below hb1); replace HB := below_step HB hb1; clear hb1
        clear vz0 vz1 vzf vzg vzl
        rw [HF.out]
        have vm0 := VM_.c0; have vm1 := VM_.c1; have vm2 := VM_.c2
        have vz0 := VZ.c0; have vz1 := VZ.c1; have vzf := VZ.f0; have vzg := VZ.f1; have vzl := VZ.lt
        go_wp2_with fail
        (with_reducible refine (Step_c M z' _ _ _ VM_.im.out VZ.iz.out HOK.out (by have := SZ'.out; omega)).mono ?_)
        rintro e w2 ⟨v, rfl, hv, hb2⟩
        obtain ⟨n2, A2, m2, k2, rfl, H2⟩ := hv.form; clear hv
        replace VM_ := VM_.keep hb2; replace VZ := VZ.keep hb2; replace HO := Lib.hid (HO.out.below hb2); replace HB := below_step HB hb2; clear hb2
        clear vm0 vm1 vm2
        clear vz0 vz1 vzf vzg vzl
        have vz0 := VZ.c0; have vz1 := VZ.c1; have vzf := VZ.f0; have vzg := VZ.f1; have vzl := VZ.lt
        go_upto_region 6 with fail
        clear vz0 vz1 vzf vzg vzl
        have RZ := VZ.res
        replace HO := Lib.hid (HO.out.res2 RZ (by omega) (.bool n2) (.slice A2 m2 k2))
        replace VM_ := VM_.far (x := .bool n2) (y := .slice A2 m2 k2) RZ (by omega)
        replace VZ := VX.store RZ H2.out
        replace HB := below_set2 (b := w.heap.size + 1) HB (by omega) (.bool n2) (.slice A2 m2 k2)
        clear RZ H2
        generalize hW : (w2.setCell ⟨(w.heap.size + 1), 0, none⟩ (.bool n2)).setCell ⟨(w.heap.size + 1), 1, none⟩ (.slice A2 m2 k2) = W3 at *
        clear hW
        have hb3 : w.heap.size + 1 + 1 ≤ W3.heap.size := VZ.lt
        have vz0 := VZ.c0; have vz1 := VZ.c1; have vzf := VZ.f0; have vzg := VZ.f1; have vzl := VZ.lt
        go_wp2_with (at_builtin; refine app_Z (w.heap.size + 1 + 1) rfl _ _ 80 37 32 rfl Tryz.underlying80 info_N (by decide) _ (pre ++ [z']) _ _ _ _ (stepZ M z') HO.out VZ.iz.out rfl rfl hb3 (by rw [List.length_append, List.length_singleton]; omega) ?_; intro v1 w4 HO1 HBB HK hb4)
        clear hb3
        replace VM_ := VM_.keepB HBB (by omega) HK
        replace VZ := VZ.keepB HBB (by omega) HK
        replace HB := HB.trans (HBB.mono (by omega))
        clear HBB HK hb4
        clear vz0 vz1 vzf vzg vzl
        go_wp2
        go_roundg (k - (i + 1))
        case measure => omega
        case rel => exact ⟨i + 1, pre ++ [z'], stepZ M z', _, _, _, _, rfl, by go_num, by omega, HO1, VM_, VZ, HB, by rw [List.length_append, List.length_singleton]; omega, HI2, SZ2⟩
    · have HR : Hid (orbL M z k = pre ++ [z']) := by
        show _ = _
        rw [HI.out, show k - i = 0 by omega]; rfl
      obtain ⟨A2, c2, rfl, hs⟩ := HO.out.form
      have HS := Lib.hid hs
      clear HO hs
      go_wp2
      refine bodyPost_ret (v := .slice A2 (pre ++ [z']).length c2) (by simp [results, Tryz.results54, go_sem]) rfl ⟨A2, c2, by rw [HR.out], by rw [HR.out]; exact HS, HB⟩
end Go.Proofs.YtiaeeclmlchpoaaGreatDoor

set_option linter.unusedVariables false
set_option linter.unusedSimpArgs false
namespace Go.Proofs.YtiaeeclmlchpoaaGreatDoor
open Go.RowKit

/-- The iterator's own steps between two rounds: new blocks; of what lay, its own block alone is written; whole numbers lie as they lay. -/
def St (bn : Nat) (A B : World) : Prop := A.grownBy B (some bn) ∧ Kp A B
theorem St.trans {bn : Nat} {A B C : World} (h : St bn A B) (k : St bn B C) : St bn A C :=
  ⟨⟨k.1.os.trans h.1.os, k.1.tape.trans h.1.tape, k.1.output.trans h.1.output, Nat.le_trans h.1.size k.1.size, fun i hi hn => (k.1.block i (Nat.lt_of_lt_of_le hi h.1.size) hn).trans (h.1.block i hi hn)⟩, h.2.trans k.2⟩
theorem St.of {bn : Nat} {A B : World} (h : Below A.heap.size A B) : St bn A B := ⟨⟨h.os, h.tape, h.output, h.size, fun i hi _ => h.block i hi⟩, Kp.of h⟩
theorem St.set {bn : Nat} {A : World} (h : Res2 A bn) (x y : Value) : St bn A ((A.setCell ⟨bn, 0, none⟩ x).setCell ⟨bn, 1, none⟩ y) :=
  ⟨⟨rfl, rfl, rfl, by simp [World.setCell], fun i _ hn => heap_set2 A bn i x y (fun e => hn (by rw [e]))⟩, Kp.res2 h x y⟩

/-- The promise: whatever holds between two rounds and stands the iterator's own steps; what the iterator knows of its state (R) is kept by each round; the rounds end before there are N. -/
def SeqSt {α : Type} (F : Fence) (n : Nat) (P : Program) (g : Nat) (lb : Array Value) (encs : Nat → α → Array Value) (R : Nat → α → World → Prop) (bn N : Nat) : Prop :=
  ∀ (l : Nat) (J : Nat → World → Prop) (Jx : World → Prop) (W : World),
    (∀ k A B, J k A → St bn A B → J k B) →
    (∀ k x W1, J k W1 → R k x W1 → k < N → YieldAt F (n - 1) P l (encs k x) W1 fun e W' => (e = .returned (.bool true) ∧ J (k + 1) W' ∧ R k x W') ∨ (e = .returned (.bool false) ∧ Jx W')) →
    (∀ W1, ¬ J N W1) → J 0 W → (∃ x, R 0 x W) →
    CallsIn F n P g (#[.func (.yield l) #[] #[]] ++ lb) W fun e W' => (∃ v, e = .returned v) ∧ Jx W'

/-- How a round may be left. -/
def postSt (B : Nat) (R I : World → Prop) (Ix : Code → World → Prop) (W : World) : Exit → Act → World → Prop
  | .normal, _, W' => KeepsFrom B W W' ∧ R W' ∧ I W'
  | .ret, _, W' => KeepsFrom B W W' ∧ Ix .ret W'
  | .exit id, _, W' => KeepsFrom B W W' ∧ Ix (.exit id) W'
  | .goto t, _, W' => KeepsFrom B W W' ∧ Ix (.goto t) W'
  | .panic _, _, _ => False
  | .outgrown, _, _ => False

section
variable {F : Fence} {n : Nat} {P : Program}
/-- What the end of a round does, in whatever way it was left. -/
theorem round_end {B l : Nat} {rec : LoopState → Option Code → Loop} (hrec : ∃ fn tmps ps asg bd df, rec = fun st pe => { state := st, pending := pe, fn := fn, tmps := tmps, params := ps, assign := asg, body := bd, defers := df })
    {W3 : World} (j : Option Code) (hl : W3.heap[l]? = some (.loop (rec .busy none))) :
    (Instr.endRound l j).run P W3 = .ok (.bool j.isNone) (W3.putObj l (.loop (rec (if j.isNone then .ready else .done) j))) := by
  obtain ⟨fn, tmps, ps, asg, bd, df, rfl⟩ := hrec
  exact run_endRound (P := P) j hl

theorem wpIn_rangeFunc_St {α : Type} {g : Operand} {ps : Array Tmp} {assign body : Code} {Q : Exit → Act → World → Prop} {a : Act} {w : World}
    (hro : F.round = none) (h1 : 1 ≤ n) {gf : Nat} {lb : Array Value} (hg : a.eval g = .func (.func gf) #[] lb) (hFg : F.fn gf) (eg : ∀ args w, (callFunc gf args).run P w = .ok (.enter gf args) w)
    {encs : Nat → α → Array Value} {R : Nat → α → World → Prop} {bn N : Nat} (hbn : bn < w.heap.size) (hseq : SeqSt F (n - 1) P gf lb encs R bn N) (hps : ∀ k x, (encs k x).size = ps.size)
    (hR : ∀ k x, OwnFrom w.heap.size fun (_ : Unit) W => R k x W) (hR0 : ∃ x, R 0 x w)
    (I : Nat → World → Prop) (Ix : Code → World → Prop) (hI : OwnFrom w.heap.size I) (hIx : OwnFrom w.heap.size Ix)
    (hIs : ∀ k A B, I k A → St bn A B → I k B) (hN : ∀ W, ¬ I N W) (h0 : I 0 w)
    (Ax : Nat → α → Act → World → Prop) (hAx : ∀ k x a', OwnFrom w.heap.size fun (_ : Unit) W => Ax k x a' W)
    (hassign : ∀ (l k : Nat) (x : α) (W : World) (K : Act → World → Prop), I k W → R k x W → (∀ a' W', KeepsFrom w.heap.size W W' → R k x W' → I k W' → Ax k x a' W' → K a' W') →
      assign.wpIn (F.inRound l) (n - 1 - 1) P (Exit.then K (fun _ _ _ => False)) { tmps := (ps.zip (encs k x)).foldl (fun t (p, v) => t.setIfInBounds p v) a.tmps, defers := [] } W)
    (hbody : ∀ (l k : Nat) (x : α) (a' : Act) (W : World), I k W → R k x W → Ax k x a' W → k < N → body.wpIn (F.inRound l) (n - 1 - 1) P (postSt w.heap.size (R k x) (I (k + 1)) Ix W) a' W)
    (hstop : ∀ (D : Nat) (c : Code) (W : World), w.heap.size ≤ D → Ix c W → W.heap[D]? = some (.deferred (some [])) → c.wpIn F n P Q { a with defers := { target := .collected D, args := #[] } :: a.defers } W) :
    (Code.rangeFunc g ps assign body).wpIn F n P Q a w := by
  refine wpIn_rangeFunc fun fn hfn => ?_
  rw [hro]
  obtain ⟨rec, hrec⟩ : ∃ rec : LoopState → Option Code → Loop, rec = fun st pe => { state := st, pending := pe, fn := fn, tmps := a.tmps, params := ps, assign := assign, body := body, defers := w.heap.size } := ⟨_, rfl⟩
  have hrec' : ∃ fn tmps ps asg bd df, rec = fun st pe => { state := st, pending := pe, fn := fn, tmps := tmps, params := ps, assign := asg, body := bd, defers := df } := ⟨_, _, _, _, _, _, hrec⟩
  obtain ⟨D, hD⟩ : ∃ D, w.heap.size = D := ⟨_, rfl⟩
  obtain ⟨W1, hW1⟩ : ∃ W1, (w.alloc (.deferred (some []))).alloc (.loop (rec .ready none)) = W1 := ⟨_, rfl⟩
  have aD : W1.heap[D]? = some (.deferred (some [])) := by
    rw [← hW1, ← hD]; exact (Below.heap_alloc _ _ _ (by simp)).trans (World.alloc_heap_new w _)
  have aL : W1.heap[D + 1]? = some (.loop (rec .ready none)) := by
    rw [← hW1, ← hD]; have h := World.alloc_heap_new (w.alloc (.deferred (some []))) (.loop (rec .ready none)); rwa [World.size_alloc] at h
  have aI : I 0 W1 := by rw [← hW1]; exact hI.alloc _ (hI.alloc _ h0)
  have aR : ∃ x, R 0 x W1 := by
    obtain ⟨x, hx⟩ := hR0
    exact ⟨x, by rw [← hW1]; exact (hR 0 x).alloc (s := ()) _ ((hR 0 x).alloc (s := ()) _ hx)⟩
  have hen : (Instr.enterLoop fn a.tmps ps assign body none).run P w = .ok (D + 1, [{ target := .collected D, args := #[] }]) W1 := by
    rw [← hW1, hrec, ← hD]; exact run_enterLoop_outer _ _ _ _ _
  rw [hD] at hI hIx hR hAx hassign hbody hbn hstop
  refine ⟨D + 1, [{ target := .collected D, args := #[] }], W1, { target := .fn (.func gf) lb, args := #[.func (.yield (D + 1)) #[] #[]] }, W1, gf, #[.func (.yield (D + 1)) #[] #[]] ++ lb, W1, hen, ?_, ?_, ?_, fun _ => h1, ?_⟩
  · simp only [resolve, hg]
    simp [go_sem]
  · intro f' hf'; simp [Target.leads] at hf'; subst hf'; exact hFg
  · simp [invoke, go_sem, eg]
  refine (hseq (D + 1) (fun k W => I k W ∧ W.heap[D]? = some (.deferred (some [])) ∧ W.heap[D + 1]? = some (.loop (rec .ready none)))
    (fun W => ∃ c, Ix c W ∧ W.heap[D]? = some (.deferred (some [])) ∧ W.heap[D + 1]? = some (.loop (rec .done (some c)))) W1 ?_ ?_ ?_ ⟨aI, aD, aL⟩ aR).mono ?_
  · rintro k A B ⟨hi, hd, hl⟩ hst
    have e : ∀ j, bn < j → ∀ o, A.heap[j]? = some o → B.heap[j]? = some o := fun j hj o ho => (hst.1.block j (Array.getElem?_eq_some_iff.1 ho).1 (by intro he; injection he with he; omega)).trans ho
    exact ⟨hIs k A B hi hst, e _ hbn _ hd, e _ (by omega) _ hl⟩
  · rintro k x W ⟨hi, hd, hl⟩ hr hk
    have hy := run_yield (P := P) (args := encs k x) hl (by rw [hrec]; exact hps k x)
    rw [hrec] at hy
    refine ⟨fn, _, assign, body, hy, roundIn_of_wpIn hfn (hassign _ k x W _ hi hr ?_)⟩
    intro a' Wa hka hra hia hax
    replace hd := hka.same _ _ (Nat.le_refl _) hd rfl
    replace hl := hka.same _ _ (by omega) hl rfl
    refine ⟨_, run_beginRound hl (by rw [hrec]), ?_⟩
    have hbz : ({ rec .ready none with state := .busy } : Loop) = rec .busy none := by rw [hrec]
    rw [hbz]
    have put : ∀ o (W : World), D + 1 < W.heap.size → W.heap[D]? = some (.deferred (some [])) → (W.putObj (D + 1) o).heap[D + 1]? = some o ∧ (W.putObj (D + 1) o).heap[D]? = some (.deferred (some [])) :=
      fun o W h h' => ⟨World.putObj_heap_same h, (World.putObj_heap_other (by omega)).trans h'⟩
    obtain ⟨b2, b1⟩ := put (.loop (rec .busy none)) Wa (Array.getElem?_eq_some_iff.1 hl).1 hd
    refine wpIn_mono (hbody _ k x a' _ (hI.putObj _ hia (by omega) hl rfl) ((hR k x).putObj (s := ()) _ hra (by omega) hl rfl) ((hAx k x a').putObj (s := ()) _ hax (by omega) hl rfl) hk) ?_
    have jump : ∀ (c : Code) (W3 : World), KeepsFrom D (Wa.putObj (D + 1) (.loop (rec .busy none))) W3 → Ix c W3 →
        ∃ v w', (Instr.endRound (D + 1) (some c)).run P W3 = .ok v w' ∧ ((Ending.returned v = .returned (.bool true) ∧ (I (k + 1) w' ∧ w'.heap[D]? = some (.deferred (some [])) ∧ w'.heap[D + 1]? = some (.loop (rec .ready none))) ∧ R k x w') ∨ (Ending.returned v = .returned (.bool false) ∧ ∃ c, Ix c w' ∧ w'.heap[D]? = some (.deferred (some [])) ∧ w'.heap[D + 1]? = some (.loop (rec .done (some c))))) := by
      intro c W3 hk3 hx
      have c2 := hk3.same _ _ (by omega) b2 rfl
      have c1 := hk3.same _ _ (Nat.le_refl _) b1 rfl
      obtain ⟨d2, d1⟩ := put (.loop (rec .done (some c))) W3 (Array.getElem?_eq_some_iff.1 c2).1 c1
      exact ⟨_, _, round_end (B := D) hrec' (some c) c2, .inr ⟨rfl, c, hIx.putObj _ hx (by omega) c2 rfl, d1, d2⟩⟩
    rintro e a3 W3 hp
    cases e with
    | normal =>
      obtain ⟨hk3, hr3, hi3⟩ := hp
      have c2 := hk3.same _ _ (by omega) b2 rfl
      have c1 := hk3.same _ _ (Nat.le_refl _) b1 rfl
      obtain ⟨d2, d1⟩ := put (.loop (rec .ready none)) W3 (Array.getElem?_eq_some_iff.1 c2).1 c1
      exact ⟨_, _, round_end (B := D) hrec' none c2, .inl ⟨rfl, ⟨hI.putObj _ hi3 (by omega) c2 rfl, d1, d2⟩, (hR k x).putObj (s := ()) _ hr3 (by omega) c2 rfl⟩⟩
    | ret => exact jump _ _ hp.1 hp.2
    | exit id => exact jump _ _ hp.1 hp.2
    | goto t => exact jump _ _ hp.1 hp.2
    | panic ch => exact hp.elim
    | outgrown => exact hp.elim
  · exact fun W h => hN W h.1
  · rintro e W2 ⟨⟨v, rfl⟩, c, hx, hd, hl⟩
    have h := run_endLoop (P := P) hl (by rw [hrec]; simp)
    have hpe : (rec .done (some c)).pending = some c := by rw [hrec]
    rw [hpe] at h
    exact ⟨some c, _, h, hstop D c _ (Nat.le_refl _) (hIx.putObj _ hx (by omega) hl rfl) ((World.putObj_heap_other (by omega)).trans hd)⟩
end
end Go.Proofs.YtiaeeclmlchpoaaGreatDoor

set_option linter.unusedVariables false
set_option linter.unusedSimpArgs false
namespace Go.Proofs.YtiaeeclmlchpoaaGreatDoor
open Go.RowKit

abbrev op8264d99d : Oper := { dst := some 56, op := Go.Op.move (Go.Operand.tmp 9), type := 80, pos := "ref.go:28", after := #[], guard := none }
abbrev op77d82c5c : Oper := { dst := some 57, op := Go.Op.move (Go.Operand.tmp 13), type := 3, pos := "ref.go:28", after := #[], guard := none }
abbrev opc0b6bf0d : Oper := { dst := some 58, op := Go.Op.indexAddr 80 (Go.Operand.tmp 56) (Go.Operand.tmp 57), type := 0, pos := "ref.go:28", after := #[{ on := 0, ground := Go.Ground.data }, { on := 1, ground := Go.Ground.data }], guard := none }
abbrev op0f9d1b14 : Oper := { dst := some 59, op := Go.Op.load 37 (Go.Operand.tmp 58), type := 37, pos := "ref.go:28", after := #[{ on := 2, ground := Go.Ground.data }], guard := none }
abbrev op6c2c08ac : Oper := { dst := some 60, op := Go.Op.move (Go.Operand.tmp 9), type := 80, pos := "ref.go:28", after := #[], guard := none }
abbrev op2d8ac3b5 : Oper := { dst := some 61, op := Go.Op.move (Go.Operand.tmp 13), type := 3, pos := "ref.go:28", after := #[], guard := none }
abbrev op5b88cce7 : Oper := { dst := some 62, op := Go.Op.move (Go.Operand.tmp 11), type := 3, pos := "ref.go:28", after := #[], guard := none }
abbrev op9b3a6223 : Oper := { dst := some 63, op := Go.Op.binOp Go.BinOp.add 3 (Go.Operand.tmp 61) (Go.Operand.tmp 62) 3, type := 3, pos := "ref.go:28", after := #[{ on := 5, ground := Go.Ground.data }, { on := 6, ground := Go.Ground.data }], guard := none }
abbrev op7cbe3d66 : Oper := { dst := some 64, op := Go.Op.indexAddr 80 (Go.Operand.tmp 60) (Go.Operand.tmp 63), type := 0, pos := "ref.go:28", after := #[{ on := 4, ground := Go.Ground.data }, { on := 7, ground := Go.Ground.data }], guard := none }
abbrev ope2c8ab55 : Oper := { dst := some 65, op := Go.Op.load 37 (Go.Operand.tmp 64), type := 37, pos := "ref.go:28", after := #[{ on := 8, ground := Go.Ground.data }], guard := none }
abbrev op4ce53183 : Oper := { dst := some 67, op := Go.Op.binOp Go.BinOp.neq 3 (Go.Operand.tmp 66) (Go.Operand.const (Go.Value.int Go.IntKind.i64 0)) 3, type := 4, pos := "ref.go:28", after := #[{ on := 10, ground := Go.Ground.data }], guard := none }
abbrev op1ed191ff : Oper := { dst := some 79, op := Go.Op.move (Go.Operand.tmp 9), type := 80, pos := "ref.go:33", after := #[], guard := none }
abbrev op62319571 : Oper := { dst := some 80, op := Go.Op.move (Go.Operand.tmp 15), type := 3, pos := "ref.go:33", after := #[], guard := none }
abbrev op37a3813a : Oper := { dst := some 81, op := Go.Op.indexAddr 80 (Go.Operand.tmp 79) (Go.Operand.tmp 80), type := 0, pos := "ref.go:33", after := #[{ on := 0, ground := Go.Ground.data }, { on := 1, ground := Go.Ground.data }], guard := none }
abbrev op9a8086b1 : Oper := { dst := some 82, op := Go.Op.load 37 (Go.Operand.tmp 81), type := 37, pos := "ref.go:33", after := #[{ on := 2, ground := Go.Ground.data }], guard := none }
abbrev op120e7ad4 : Oper := { dst := some 83, op := Go.Op.move (Go.Operand.tmp 9), type := 80, pos := "ref.go:33", after := #[], guard := none }
abbrev op2b095a50 : Oper := { dst := some 84, op := Go.Op.move (Go.Operand.tmp 14), type := 3, pos := "ref.go:33", after := #[], guard := none }
abbrev op34d11622 : Oper := { dst := some 85, op := Go.Op.indexAddr 80 (Go.Operand.tmp 83) (Go.Operand.tmp 84), type := 0, pos := "ref.go:33", after := #[{ on := 4, ground := Go.Ground.data }, { on := 5, ground := Go.Ground.data }], guard := none }
abbrev opc640a30e : Oper := { dst := some 86, op := Go.Op.load 37 (Go.Operand.tmp 85), type := 37, pos := "ref.go:33", after := #[{ on := 6, ground := Go.Ground.data }], guard := none }
abbrev ope9444ae1 : Oper := { dst := some 88, op := Go.Op.binOp Go.BinOp.lss 3 (Go.Operand.tmp 87) (Go.Operand.const (Go.Value.int Go.IntKind.i64 0)) 3, type := 4, pos := "ref.go:33", after := #[{ on := 8, ground := Go.Ground.data }], guard := none }
attribute [local go_sem] op8264d99d op77d82c5c opc0b6bf0d op0f9d1b14 op6c2c08ac op2d8ac3b5 op5b88cce7 op9b3a6223 op7cbe3d66 ope2c8ab55 op4ce53183 op1ed191ff op62319571 op37a3813a op9a8086b1 op120e7ad4 op2b095a50 op34d11622 opc640a30e ope9444ae1
theorem orbL_len (M : Mp) (k : Nat) : ∀ z, 0 < (orbL M z k).length ∧ (orbL M z k).length ≤ k + 1 := by
  induction k with
  | zero => intro z; simp [orbL]
  | succ k ih =>
    intro z
    unfold orbL
    split
    · have := ih (stepZ M z); simp; omega
    · simp
theorem orbL_size (M : Mp) (hok : okM M) (k : Nat) : ∀ z, (dg B9 z).length ≤ 2100 → ∀ j, j < (orbL M z k).length → (dg B9 (gd (orbL M z k) j)).length ≤ 2100 := by
  induction k with
  | zero =>
    intro z hz j hj
    have : j = 0 := by simp [orbL] at hj; omega
    subst this
    simpa [orbL, gd] using hz
  | succ k ih =>
    intro z hz j hj
    unfold orbL at hj ⊢
    split at hj
    · rename_i hd
      rw [if_pos hd]
      cases j with
      | zero => simpa [gd] using hz
      | succ j =>
        have h1 := step_len hok z
        have h2 := len_of_dl hd
        have := ih (stepZ M z) (by omega) j (by simpa using hj)
        simpa [gd] using this
    · rename_i hd
      rw [if_neg hd]
      have : j = 0 := by simp at hj; omega
      subst this
      simpa [gd] using hz
theorem LsZ.el {B : Nat} {k : IntKind} {w : World} {b off c : Nat} {l : List Int} (h : LsZ B k w (some ⟨b, off, none⟩) c l) {j : Nat} (hj : j < l.length) :
    ∃ nv A' n' c', CL w b (off + j * 2) (.bool nv) ∧ CL w b (off + j * 2 + 1) (.slice A' n' c') ∧ Hid (IsZ B k w (.agg #[.bool nv, .slice A' n' c']) (gd l j)) := by
  obtain ⟨b', off', nv, A', n', c', e, hlt, h1, h2, h3⟩ := h.at hj
  injection e with e
  injection e with e1 e2
  subst e1 e2
  exact ⟨nv, A', n', c', ⟨h1, hlt⟩, ⟨h2, hlt⟩, h3⟩
theorem LsZ.keepB {B : Nat} {k : IntKind} {w w' : World} {b off c base : Nat} {l : List Int} (h : LsZ B k w (some ⟨b, off, none⟩) c l) (hb : Below base w w') (hlt : b < base) (hk : Kp w w') : LsZ B k w' (some ⟨b, off, none⟩) c l := by
  obtain ⟨xs, h1, h2, h3, h4⟩ := h
  refine ⟨xs, ⟨h1.1, fun hn => ?_⟩, h2, h3, h4.kp hk⟩
  obtain ⟨b', off', e, hl, hc⟩ := h1.2 hn
  injection e with e
  injection e with e1 e2
  subst e1 e2
  exact ⟨b, off, rfl, Nat.lt_of_lt_of_le hl hb.size, fun j u hu => kcellB hb hlt (hc j u hu)⟩

theorem LsZ.nil {B : Nat} {k : IntKind} (w : World) : LsZ B k w none 0 [] := ⟨[], Rd.nil, Nat.le_refl _, by omega, fun j z h => by simp at h⟩
theorem icmp_lt' (x y : Int) : icmp x y < 0 ↔ x < y := by unfold icmp; split <;> (try split) <;> omega
theorem icmp_eq (x y : Int) : icmp x y = 0 ↔ x = y := by unfold icmp; split <;> (try split) <;> omega
/-- The distance from the last number back to the same one; 0: there is none. -/
def perF (l : List Int) (last : Nat) : Nat → Nat
  | 0 => 0
  | i + 1 => if gd l i = gd l last then last - i else perF l last i
def atF (l : List Int) (len : Nat) : Nat → Nat → Nat
  | 0, a => a
  | f + 1, a => if gd l a = gd l (a + len) then a else atF l len f (a + 1)
def leastF (l : List Int) : Nat → Nat → Nat → Nat
  | 0, _, m => m
  | f + 1, i, m => leastF l f (i + 1) (if gd l i < gd l m then i else m)
theorem atF_stop {l : List Int} {len f a : Nat} (h : gd l a = gd l (a + len)) : atF l len f a = a := by
  cases f with
  | zero => rfl
  | succ f => unfold atF; rw [if_pos h]
/-- The error, the steps and the cycle. -/
def fateL (l : List Int) : Int × Nat × List Int :=
  if 2000 < dl (gd l (l.length - 1)) then (3, 0, [])
  else if perF l (l.length - 1) (l.length - 1) = 0 then (4, 0, [])
  else
    let len := perF l (l.length - 1) (l.length - 1)
    let at_ := atF l len (l.length - 1 - len) 0
    let m := leastF l len at_ at_
    (0, at_, (List.range len).map fun i => gd l (at_ + (m - at_ + i) % len))
theorem perF_le (l : List Int) (last : Nat) : ∀ i, i ≤ last → perF l last i ≤ last := by
  intro i
  induction i with
  | zero => intro _; exact Nat.zero_le _
  | succ i ih =>
    intro h
    unfold perF
    split
    · omega
    · exact ih (by omega)
theorem perF_eq {l : List Int} {last : Nat} : ∀ i, i ≤ last → 0 < perF l last i → gd l (last - perF l last i) = gd l last := by
  intro i
  induction i with
  | zero => intro _ h; exact absurd h (by simp [perF])
  | succ i ih =>
    intro h hp
    unfold perF at hp ⊢
    split
    · rename_i he
      rw [show last - (last - i) = i by omega]; exact he
    · rename_i he
      rw [if_neg he] at hp
      exact ih (by omega) hp
set_option maxRecDepth 100000 in
set_option maxHeartbeats 8000000 in
theorem Fate5_c (M : Mp) (z : Int) (k : Nat) (v u : Value) (w : World) (hM : IsM w v M) (hz : IsN w u z) (hok : okM M) (sz : (dg B9 z).length ≤ 2100) (hk : k ≤ 1000000) :
    Calls Tryz.prog 39 #[v, u, .int .i64 k] w fun e w' => ∃ A c, e = .returned (.tuple #[.int .i64 (fateL (orbL M z k)).2.1, .slice A (fateL (orbL M z k)).2.2.length c, .int .i64 (fateL (orbL M z k)).1]) ∧ Hid (LsZ B9 .i64 w' A c (fateL (orbL M z k)).2.2) ∧ Below w.heap.size w w' := by
  obtain ⟨md, A, n, c, A', n', c', rfl, HM⟩ := hM.form
  obtain ⟨nz, Az, mz, kz, rfl, HZ⟩ := hz.form
  have HOC := Lib.hid (fun v u w hM hz => Orbit_c M z k v u w hM hz hok sz hk)
  obtain ⟨ol1, ol2⟩ := orbL_len M k z
  have HSZ := Lib.hid (orbL_size M hok k z sz)
  clear hM hz hok sz
  go_enter Tryz.func39, Tryz.ntmps39
  go_wp2_with fail
  generalize hW : (w.alloc (Obj.cells #[Value.int .i64 md, Value.slice A n c, Value.slice A' n' c'] 24)).alloc (Obj.cells #[Value.bool nz, Value.slice Az mz kz] 37) = W at *
  obtain ⟨VM_, VZ, hs, HB⟩ := startM w _ _ W HM.out HZ.out hW
  clear hW HM HZ hs
  (with_reducible refine (HOC.out _ _ _ VM_.im.out VZ.iz.out).mono ?_)
  rintro e w1 ⟨AL, cL, rfl, LL, hb1⟩
  replace HB := below_step HB hb1
  clear hb1 VM_ VZ HOC
  generalize hl : orbL M z k = l at *
  generalize hN : l.length = N at *
  obtain ⟨last, hlast⟩ : ∃ last, N = last + 1 := ⟨N - 1, by omega⟩
  have hbl : ∃ bL oL, AL = some ⟨bL, oL, none⟩ := by
    obtain ⟨b, off, _, _, _, _, e, _⟩ := LL.out.at (j := 0) (by omega)
    exact ⟨b, off, e⟩
  obtain ⟨bL, oL, rfl⟩ := hbl
  have HLN := Lib.hid hN
  have HLL := Lib.hid hl
  subst hlast
  clear hN hl
  obtain ⟨nq, Aq, mq, kq, q0, q1, HQ⟩ := LL.out.el (j := last) (by have := HLN.out; omega)
  have qc0 := q0.c
  have qc1 := q1.c
  have hil : (last : Int) < (last : Int) + 1 := by omega
  have hil0 : (0 : Int) ≤ (last : Int) := by omega
  go_wp2_with fail
  (with_reducible refine (Fits_c (gd l last) _ _ HQ.out (by have := HSZ.out last (by omega); omega)).mono ?_)
  rintro e w2 ⟨rfl, hb2⟩
  replace LL := Lib.hid (LL.out.below hb2)
  replace HB := below_step HB hb2
  clear hb2 qc0 qc1 q0 q1 HQ
  cases hf : decide (dl (gd l last) ≤ 2000) with
  | false =>
    have HR : Hid (fateL l = (3, 0, [])) := by show _ = _; unfold fateL; rw [HLN.out, if_pos (by have := of_decide_eq_false hf; simp only [Nat.add_sub_cancel]; omega)]
    clear hf
    go_wp2
    refine bodyPost_ret (v := .tuple #[.int .i64 0, .slice none 0 0, .int .i64 3]) (by simp [results, Tryz.results39, go_sem]) rfl ⟨none, 0, by rw [HLL.out, HR.out] <;> rfl, by rw [HLL.out, HR.out]; exact LsZ.nil _, HB⟩
  | true =>
    have HF1 : Hid (∀ x y : Int × Nat × List Int, (if 2000 < dl (gd l (l.length - 1)) then x else y) = y) := fun x y => by rw [HLN.out, if_neg (by have := of_decide_eq_true hf; simp only [Nat.add_sub_cancel]; omega)]
    clear hf
    go_wp2_with fail
    go_loopg [11, 12] (last + 1) (fun g lv iv wr => ∃ (j v : Nat), lv = .int .i64 v ∧ iv = .int .i64 ((j : Int) - 1) ∧ j ≤ last ∧ g = (if v = 0 then j + 1 else 0) ∧ Hid (LsZ B9 .i64 wr (some ⟨bL, oL, none⟩) cL l) ∧ Below w.heap.size w wr ∧ Hid ((v = 0 ∧ perF l last last = perF l last j) ∨ (0 < v ∧ perF l last last = v)))
    case atStart => exact ⟨last, 0, rfl, rfl, by omega, rfl, LL, HB, .inl ⟨rfl, rfl⟩⟩
    case round =>
      clear LL HB
      obtain ⟨j, v, rfl, rfl, hj, hgk, LL, HB, HP0⟩ := hrel
      by_cases hv : v = 0
      · subst hv
        have hP : perF l last last = perF l last j := by
          rcases HP0.out with h | h
          · exact h.2
          · omega
        clear HP0
        cases j with
        | zero =>
          have HR : Hid (fateL l = (4, 0, [])) := by show _ = _; unfold fateL; rw [HF1.out, HLN.out, if_pos (by simp only [Nat.add_sub_cancel]; rw [hP]; rfl)]
          clear hP
          go_wp2
          refine bodyPost_ret (v := .tuple #[.int .i64 0, .slice none 0 0, .int .i64 4]) (by simp [results, Tryz.results39, go_sem]) rfl ⟨none, 0, by rw [HLL.out, HR.out] <;> rfl, by rw [HLL.out, HR.out]; exact LsZ.nil _, HB⟩
        | succ j =>
          have HPP := Lib.hid hP
          clear hP
          have hj0 : (0 : Int) ≤ (j : Int) := by omega
          have hjl : (j : Int) < (last : Int) + 1 := by omega
          rw [show (((j + 1 : Nat) : Int) - 1) = (j : Int) by omega]
          obtain ⟨np, Ap, mp, kp, p0, p1, HP⟩ := LL.out.el (j := j) (by have := HLN.out; omega)
          obtain ⟨nq, Aq, mq, kq, q0, q1, HQ⟩ := LL.out.el (j := last) (by have := HLN.out; omega)
          go_wp2_with fail
          replace p0 := p0.drew; replace p1 := p1.drew; replace q0 := q0.drew; replace q1 := q1.drew
          replace LL := Lib.hid (LL.out.below (below_drew (Below.refl _ _)))
          replace HP := Lib.hid (HP.out.below (below_drew (Below.refl _ _)))
          replace HQ := Lib.hid (HQ.out.below (below_drew (Below.refl _ _)))
          replace HB := below_drew HB
          generalize hWd : wr.drew = wd at *
          refine wp_region_F (fun w' => w'.cell? ⟨bL, oL + (j) * 2, none⟩ = some (.bool np) ∧ w'.cell? ⟨bL, oL + (j) * 2 + 1, none⟩ = some (.slice Ap mp kp) ∧ w'.cell? ⟨bL, oL + (last) * 2, none⟩ = some (.bool nq) ∧ w'.cell? ⟨bL, oL + (last) * 2 + 1, none⟩ = some (.slice Aq mq kq)) [] (by kernel_rfl) (by rw [hWd]; exact ⟨p0.c, p1.c, q0.c, q1.c⟩) (fun hHeld => ?_)
          rw [hWd] at hHeld ⊢
          refine wpF_t (i := 0) (oi := { dst := some 41, op := Go.Op.move (Go.Operand.tmp 9), type := 80, pos := "ref.go:20", after := #[], guard := none }) (v := ?_) rfl (by kernel_rfl) (fun _ _ _ h => h) (Or.inl ⟨by rfl, ?_⟩) hHeld ?_; rotate_left
          · intro w_ hSw_; (try dsimp only at hSw_); go_simp; (try with_reducible rfl)
          try go_frame
          refine wpF_t (i := 1) (oi := { dst := some 42, op := Go.Op.move (Go.Operand.tmp 12), type := 3, pos := "ref.go:20", after := #[], guard := none }) (v := ?_) rfl (by kernel_rfl) (fun _ _ _ h => h) (Or.inl ⟨by rfl, ?_⟩) hHeld ?_; rotate_left
          · intro w_ hSw_; (try dsimp only at hSw_); go_simp; (try with_reducible rfl)
          try go_frame
          refine wpF_t (i := 2) (oi := { dst := some 43, op := Go.Op.indexAddr 80 (Go.Operand.tmp 41) (Go.Operand.tmp 42), type := 0, pos := "ref.go:20", after := #[{ on := 0, ground := Go.Ground.data }, { on := 1, ground := Go.Ground.data }], guard := none }) (v := ?_) rfl (by kernel_rfl) (fun _ _ _ h => h) (Or.inl ⟨by rfl, ?_⟩) hHeld ?_; rotate_left
          · intro w_ hSw_; (try dsimp only at hSw_); go_simp; (try with_reducible rfl)
          try go_frame
          refine wpF_t (i := 3) (oi := { dst := some 44, op := Go.Op.load 37 (Go.Operand.tmp 43), type := 37, pos := "ref.go:20", after := #[{ on := 2, ground := Go.Ground.data }], guard := none }) (v := ?_) rfl (by kernel_rfl) (fun _ _ _ h => h) (Or.inl ⟨by rfl, ?_⟩) hHeld ?_; rotate_left
          · intro w_ hSw_; (try dsimp only at hSw_); go_simp; (try with_reducible rfl)
          try go_frame
          refine wpF_t (i := 4) (oi := { dst := some 45, op := Go.Op.move (Go.Operand.tmp 9), type := 80, pos := "ref.go:20", after := #[], guard := none }) (v := ?_) rfl (by kernel_rfl) (fun _ _ _ h => h) (Or.inl ⟨by rfl, ?_⟩) hHeld ?_; rotate_left
          · intro w_ hSw_; (try dsimp only at hSw_); go_simp; (try with_reducible rfl)
          try go_frame
          refine wpF_t (i := 5) (oi := { dst := some 46, op := Go.Op.move (Go.Operand.tmp 10), type := 3, pos := "ref.go:20", after := #[], guard := none }) (v := ?_) rfl (by kernel_rfl) (fun _ _ _ h => h) (Or.inl ⟨by rfl, ?_⟩) hHeld ?_; rotate_left
          · intro w_ hSw_; (try dsimp only at hSw_); go_simp; (try with_reducible rfl)
          try go_frame
          refine wpF_t (i := 6) (oi := { dst := some 47, op := Go.Op.indexAddr 80 (Go.Operand.tmp 45) (Go.Operand.tmp 46), type := 0, pos := "ref.go:20", after := #[{ on := 4, ground := Go.Ground.data }, { on := 5, ground := Go.Ground.data }], guard := none }) (v := ?_) rfl (by kernel_rfl) (fun _ _ _ h => h) (Or.inl ⟨by rfl, ?_⟩) hHeld ?_; rotate_left
          · intro w_ hSw_; (try dsimp only at hSw_); go_simp; (try with_reducible rfl)
          try go_frame
          refine wpF_t (i := 7) (oi := { dst := some 48, op := Go.Op.load 37 (Go.Operand.tmp 47), type := 37, pos := "ref.go:20", after := #[{ on := 6, ground := Go.Ground.data }], guard := none }) (v := ?_) rfl (by kernel_rfl) (fun _ _ _ h => h) (Or.inl ⟨by rfl, ?_⟩) hHeld ?_; rotate_left
          · intro w_ hSw_; (try dsimp only at hSw_); go_simp; (try with_reducible rfl)
          try go_frame
          refine wpAnyF_one (i := 8) (by kernel_rfl) rfl (fun K hK => ?_)
          go_simp
          (go_at_call 40; (with_reducible refine (Cmp_c (gd l (j)) (gd l (last)) _ _ _ HP.out HQ.out).mono ?_); rintro e w5 ⟨rfl, hb5⟩; replace LL := Lib.hid (LL.out.below hb5); replace p0 := p0.keep hb5; replace p1 := p1.keep hb5; replace q0 := q0.keep hb5; replace q1 := q1.keep hb5; replace HB := below_step HB hb5; clear hb5)
          refine hK.out _ _ (by exact ⟨p0.c, p1.c, q0.c, q1.c⟩) (fun hHeld => ?_)
          clear hK K
          try go_frame
          refine wpF_t (i := 9) (oi := { dst := some 50, op := Go.Op.binOp Go.BinOp.eql 3 (Go.Operand.tmp 49) (Go.Operand.const (Go.Value.int Go.IntKind.i64 0)) 3, type := 4, pos := "ref.go:20", after := #[{ on := 8, ground := Go.Ground.data }], guard := none }) (v := ?_) rfl (by kernel_rfl) (fun _ _ _ h => h) (Or.inl ⟨by rfl, ?_⟩) hHeld ?_; rotate_left
          · intro w_ hSw_; (try dsimp only at hSw_); go_simp; (try with_reducible rfl)
          try go_frame
          refine wpAnyF_done (by kernel_rfl) ?_ _
          clear hHeld hWd HP HQ p0 p1 q0 q1
          by_cases he : gd l j = gd l last
          · have HV : Hid (perF l last last = last - j) := by show _ = _; rw [HPP.out, perF, if_pos he]
            have hc : icmp (gd l j) (gd l last) = 0 := (icmp_eq _ _).2 he
            clear he
            go_wp2
            go_roundg 0
            case measure => rw [hgk]; simp
            case rel => exact ⟨j, last - j, by rw [Int.natCast_sub (by omega)], by go_num, by omega, by rw [if_neg (by omega)], LL, HB, .inr ⟨by omega, HV.out⟩⟩
          · have HV : Hid (perF l last last = perF l last j) := by show _ = _; rw [HPP.out, perF, if_neg he]
            have hc : (icmp (gd l j) (gd l last) == 0) = false := by
              have := mt (icmp_eq (gd l j) (gd l last)).1 he
              simpa using this
            clear he
            go_wp2
            go_roundg (j + 1)
            case measure => rw [hgk]; simp
            case rel => exact ⟨j, 0, rfl, by go_num, by omega, by simp, LL, HB, .inl ⟨rfl, HV.out⟩⟩
      · have hvp : perF l last last = v := by
          rcases HP0.out with h | h
          · omega
          · exact h.2
        have hvl : v ≤ last := by rw [← hvp]; exact perF_le l last last (Nat.le_refl _)
        have HEQ : Hid (gd l (last - v) = gd l last) := by show _ = _; rw [← hvp]; exact perF_eq last (Nat.le_refl _) (by omega)
        have HF2 : Hid (fateL l = (0, atF l v (last - v) 0, (List.range v).map fun i => gd l (atF l v (last - v) 0 + (leastF l v (atF l v (last - v) 0) (atF l v (last - v) 0) - atF l v (last - v) 0 + i) % v))) := by
          show _ = _; unfold fateL; rw [HF1.out, HLN.out]; simp only [Nat.add_sub_cancel]; rw [hvp, if_neg hv]
        have hvb : ((v : Int) == 0) = false := by simp; omega
        have hv1 : 0 < v := by omega
        clear HP0 hv hvp hgk HF1
        rcases (show j = 0 ∨ 0 < j by omega) with rfl | hj0
        · clear hj
          go_wp2_with fail
          go_loopg [13] last (fun g av wr => ∃ (a : Nat), av = .int .i64 a ∧ g = last - a ∧ a ≤ last - v ∧ Hid (LsZ B9 .i64 wr (some ⟨bL, oL, none⟩) cL l) ∧ Below w.heap.size w wr ∧ Hid (atF l v (last - v) 0 = atF l v (last - v - a) a))
          case atStart => exact ⟨0, rfl, rfl, by omega, LL, HB, rfl⟩
          case round =>
            clear LL HB
            obtain ⟨a, rfl, hgk, ha, LL, HB, HA⟩ := hrel
            have ha0 : (0 : Int) ≤ (a : Int) := by omega
            have hal : (a : Int) < (last : Int) + 1 := by omega
            have hav0 : (0 : Int) ≤ (a : Int) + (v : Int) := by omega
            have havl : (a : Int) + (v : Int) < (last : Int) + 1 := by omega
            have hav : ((a : Int) + (v : Int)).toNat = a + v := by omega
            have haw : IntKind.i64.wrap ((a : Int) + (v : Int)) = (a : Int) + (v : Int) := by rw [IntKind.wrap_i64]; omega
            obtain ⟨np, Ap, mp, kp, p0, p1, HP⟩ := LL.out.el (j := a) (by have := HLN.out; omega)
            obtain ⟨nq, Aq, mq, kq, q0, q1, HQ⟩ := LL.out.el (j := (a + v)) (by have := HLN.out; omega)
            go_wp2_with fail
            replace p0 := p0.drew; replace p1 := p1.drew; replace q0 := q0.drew; replace q1 := q1.drew
            replace LL := Lib.hid (LL.out.below (below_drew (Below.refl _ _)))
            replace HP := Lib.hid (HP.out.below (below_drew (Below.refl _ _)))
            replace HQ := Lib.hid (HQ.out.below (below_drew (Below.refl _ _)))
            replace HB := below_drew HB
            generalize hWd : wr.drew = wd at *
            refine wp_region_F (fun w' => w'.cell? ⟨bL, oL + (a) * 2, none⟩ = some (.bool np) ∧ w'.cell? ⟨bL, oL + (a) * 2 + 1, none⟩ = some (.slice Ap mp kp) ∧ w'.cell? ⟨bL, oL + ((a + v)) * 2, none⟩ = some (.bool nq) ∧ w'.cell? ⟨bL, oL + ((a + v)) * 2 + 1, none⟩ = some (.slice Aq mq kq)) [] (by kernel_rfl) (by rw [hWd]; exact ⟨p0.c, p1.c, q0.c, q1.c⟩) (fun hHeld => ?_)
            rw [hWd] at hHeld ⊢
            refine wpF_t (i := 0) (oi := op8264d99d) (v := ?_) rfl (by kernel_rfl) (fun _ _ _ h => h) (Or.inl ⟨by rfl, ?_⟩) hHeld ?_; rotate_left
            · intro w_ hSw_; (try dsimp only at hSw_); go_simp; (try with_reducible rfl)
            try go_frame
            refine wpF_t (i := 1) (oi := op77d82c5c) (v := ?_) rfl (by kernel_rfl) (fun _ _ _ h => h) (Or.inl ⟨by rfl, ?_⟩) hHeld ?_; rotate_left
            · intro w_ hSw_; (try dsimp only at hSw_); go_simp; (try with_reducible rfl)
            try go_frame
            refine wpF_t (i := 2) (oi := opc0b6bf0d) (v := ?_) rfl (by kernel_rfl) (fun _ _ _ h => h) (Or.inl ⟨by rfl, ?_⟩) hHeld ?_; rotate_left
            · intro w_ hSw_; (try dsimp only at hSw_); go_simp; (try with_reducible rfl)
            try go_frame
            refine wpF_t (i := 3) (oi := op0f9d1b14) (v := ?_) rfl (by kernel_rfl) (fun _ _ _ h => h) (Or.inl ⟨by rfl, ?_⟩) hHeld ?_; rotate_left
            · intro w_ hSw_; (try dsimp only at hSw_); go_simp; (try with_reducible rfl)
            try go_frame
            refine wpF_t (i := 4) (oi := op6c2c08ac) (v := ?_) rfl (by kernel_rfl) (fun _ _ _ h => h) (Or.inl ⟨by rfl, ?_⟩) hHeld ?_; rotate_left
            · intro w_ hSw_; (try dsimp only at hSw_); go_simp; (try with_reducible rfl)
            try go_frame
            refine wpF_t (i := 5) (oi := op2d8ac3b5) (v := ?_) rfl (by kernel_rfl) (fun _ _ _ h => h) (Or.inl ⟨by rfl, ?_⟩) hHeld ?_; rotate_left
            · intro w_ hSw_; (try dsimp only at hSw_); go_simp; (try with_reducible rfl)
            try go_frame
            refine wpF_t (i := 6) (oi := op5b88cce7) (v := ?_) rfl (by kernel_rfl) (fun _ _ _ h => h) (Or.inl ⟨by rfl, ?_⟩) hHeld ?_; rotate_left
            · intro w_ hSw_; (try dsimp only at hSw_); go_simp; (try with_reducible rfl)
            try go_frame
            refine wpF_t (i := 7) (oi := op9b3a6223) (v := ?_) rfl (by kernel_rfl) (fun _ _ _ h => h) (Or.inl ⟨by rfl, ?_⟩) hHeld ?_; rotate_left
            · intro w_ hSw_; (try dsimp only at hSw_); go_simp; (try with_reducible rfl)
            try go_frame
            refine wpF_t (i := 8) (oi := op7cbe3d66) (v := ?_) rfl (by kernel_rfl) (fun _ _ _ h => h) (Or.inl ⟨by rfl, ?_⟩) hHeld ?_; rotate_left
            · intro w_ hSw_; (try dsimp only at hSw_); go_simp; (try with_reducible rfl)
            try go_frame
            refine wpF_t (i := 9) (oi := ope2c8ab55) (v := ?_) rfl (by kernel_rfl) (fun _ _ _ h => h) (Or.inl ⟨by rfl, ?_⟩) hHeld ?_; rotate_left
            · intro w_ hSw_; (try dsimp only at hSw_); go_simp; (try with_reducible rfl)
            try go_frame
            refine wpAnyF_one (i := 10) (by kernel_rfl) rfl (fun K hK => ?_)
            go_simp
            (go_at_call 40; (with_reducible refine (Cmp_c (gd l (a)) (gd l ((a + v))) _ _ _ HP.out HQ.out).mono ?_); rintro e w5 ⟨rfl, hb5⟩; replace LL := Lib.hid (LL.out.below hb5); replace p0 := p0.keep hb5; replace p1 := p1.keep hb5; replace q0 := q0.keep hb5; replace q1 := q1.keep hb5; replace HB := below_step HB hb5; clear hb5)
            refine hK.out _ _ (by exact ⟨p0.c, p1.c, q0.c, q1.c⟩) (fun hHeld => ?_)
            clear hK K
            try go_frame
            refine wpF_t (i := 11) (oi := op4ce53183) (v := ?_) rfl (by kernel_rfl) (fun _ _ _ h => h) (Or.inl ⟨by rfl, ?_⟩) hHeld ?_; rotate_left
            · intro w_ hSw_; (try dsimp only at hSw_); go_simp; (try with_reducible rfl)
            try go_frame
            refine wpAnyF_done (by kernel_rfl) ?_ _
            clear hHeld hWd HP HQ p0 p1 q0 q1
            by_cases he : gd l a = gd l (a + v)
            · have HAT : Hid (atF l v (last - v) 0 = a) := by show _ = _; rw [HA.out]; exact atF_stop he
              have hc : icmp (gd l a) (gd l (a + v)) = 0 := (icmp_eq _ _).2 he
              clear he HA HEQ hgk
              rw [hc]
              clear hc
              go_wp2_with fail
              go_loopg [14, 15] v (fun g mv iv wr => ∃ (d m : Nat), mv = .int .i64 m ∧ iv = .int .i64 ((a + d : Nat) : Int) ∧ g = v - d ∧ d ≤ v ∧ a ≤ m ∧ m ≤ last ∧ Hid (LsZ B9 .i64 wr (some ⟨bL, oL, none⟩) cL l) ∧ Below w.heap.size w wr ∧ Hid (leastF l v a a = leastF l (v - d) (a + d) m))
              case atStart => exact ⟨0, a, rfl, rfl, by omega, by omega, by omega, by omega, LL, HB, rfl⟩
              case round =>
                clear LL HB
                obtain ⟨d, m, rfl, rfl, hgk, hd, hm0, hm1, LL, HB, HM⟩ := hrel
                obtain ⟨id, hid⟩ : ∃ id, a + d = id := ⟨_, rfl⟩
                rw [hid] at HM ⊢
                by_cases hdv : d < v
                · have hi0 : (0 : Int) ≤ (id : Int) := by omega
                  have hm2 : (0 : Int) ≤ (m : Int) := by omega
                  have hm3 : (m : Int) < (last : Int) + 1 := by omega
                  have hil2 : (id : Int) < (last : Int) + 1 := by omega
                  have hida : (id : Int) < (a : Int) + (v : Int) := by omega
                  obtain ⟨np, Ap, mp, kp, p0, p1, HP⟩ := LL.out.el (j := id) (by have := HLN.out; omega)
                  obtain ⟨nq, Aq, mq, kq, q0, q1, HQ⟩ := LL.out.el (j := m) (by have := HLN.out; omega)
                  go_wp2_with fail
                  replace p0 := p0.drew; replace p1 := p1.drew; replace q0 := q0.drew; replace q1 := q1.drew
                  replace LL := Lib.hid (LL.out.below (below_drew (Below.refl _ _)))
                  replace HP := Lib.hid (HP.out.below (below_drew (Below.refl _ _)))
                  replace HQ := Lib.hid (HQ.out.below (below_drew (Below.refl _ _)))
                  replace HB := below_drew HB
                  generalize hWd : wr.drew = wd at *
                  refine wp_region_F (fun w' => w'.cell? ⟨bL, oL + (id) * 2, none⟩ = some (.bool np) ∧ w'.cell? ⟨bL, oL + (id) * 2 + 1, none⟩ = some (.slice Ap mp kp) ∧ w'.cell? ⟨bL, oL + (m) * 2, none⟩ = some (.bool nq) ∧ w'.cell? ⟨bL, oL + (m) * 2 + 1, none⟩ = some (.slice Aq mq kq)) [] (by kernel_rfl) (by rw [hWd]; exact ⟨p0.c, p1.c, q0.c, q1.c⟩) (fun hHeld => ?_)
                  rw [hWd] at hHeld ⊢
                  refine wpF_t (i := 0) (oi := op1ed191ff) (v := ?_) rfl (by kernel_rfl) (fun _ _ _ h => h) (Or.inl ⟨by rfl, ?_⟩) hHeld ?_; rotate_left
                  · intro w_ hSw_; (try dsimp only at hSw_); go_simp; (try with_reducible rfl)
                  try go_frame
                  refine wpF_t (i := 1) (oi := op62319571) (v := ?_) rfl (by kernel_rfl) (fun _ _ _ h => h) (Or.inl ⟨by rfl, ?_⟩) hHeld ?_; rotate_left
                  · intro w_ hSw_; (try dsimp only at hSw_); go_simp; (try with_reducible rfl)
                  try go_frame
                  refine wpF_t (i := 2) (oi := op37a3813a) (v := ?_) rfl (by kernel_rfl) (fun _ _ _ h => h) (Or.inl ⟨by rfl, ?_⟩) hHeld ?_; rotate_left
                  · intro w_ hSw_; (try dsimp only at hSw_); go_simp; (try with_reducible rfl)
                  try go_frame
                  refine wpF_t (i := 3) (oi := op9a8086b1) (v := ?_) rfl (by kernel_rfl) (fun _ _ _ h => h) (Or.inl ⟨by rfl, ?_⟩) hHeld ?_; rotate_left
                  · intro w_ hSw_; (try dsimp only at hSw_); go_simp; (try with_reducible rfl)
                  try go_frame
                  refine wpF_t (i := 4) (oi := op120e7ad4) (v := ?_) rfl (by kernel_rfl) (fun _ _ _ h => h) (Or.inl ⟨by rfl, ?_⟩) hHeld ?_; rotate_left
                  · intro w_ hSw_; (try dsimp only at hSw_); go_simp; (try with_reducible rfl)
                  try go_frame
                  refine wpF_t (i := 5) (oi := op2b095a50) (v := ?_) rfl (by kernel_rfl) (fun _ _ _ h => h) (Or.inl ⟨by rfl, ?_⟩) hHeld ?_; rotate_left
                  · intro w_ hSw_; (try dsimp only at hSw_); go_simp; (try with_reducible rfl)
                  try go_frame
                  refine wpF_t (i := 6) (oi := op34d11622) (v := ?_) rfl (by kernel_rfl) (fun _ _ _ h => h) (Or.inl ⟨by rfl, ?_⟩) hHeld ?_; rotate_left
                  · intro w_ hSw_; (try dsimp only at hSw_); go_simp; (try with_reducible rfl)
                  try go_frame
                  refine wpF_t (i := 7) (oi := opc640a30e) (v := ?_) rfl (by kernel_rfl) (fun _ _ _ h => h) (Or.inl ⟨by rfl, ?_⟩) hHeld ?_; rotate_left
                  · intro w_ hSw_; (try dsimp only at hSw_); go_simp; (try with_reducible rfl)
                  try go_frame
                  refine wpAnyF_one (i := 8) (by kernel_rfl) rfl (fun K hK => ?_)
                  go_simp
                  (go_at_call 40; (with_reducible refine (Cmp_c (gd l (id)) (gd l (m)) _ _ _ HP.out HQ.out).mono ?_); rintro e w6 ⟨rfl, hb5⟩; replace LL := Lib.hid (LL.out.below hb5); replace p0 := p0.keep hb5; replace p1 := p1.keep hb5; replace q0 := q0.keep hb5; replace q1 := q1.keep hb5; replace HB := below_step HB hb5; clear hb5)
                  refine hK.out _ _ (by exact ⟨p0.c, p1.c, q0.c, q1.c⟩) (fun hHeld => ?_)
                  clear hK K
                  try go_frame
                  refine wpF_t (i := 9) (oi := ope9444ae1) (v := ?_) rfl (by kernel_rfl) (fun _ _ _ h => h) (Or.inl ⟨by rfl, ?_⟩) hHeld ?_; rotate_left
                  · intro w_ hSw_; (try dsimp only at hSw_); go_simp; (try with_reducible rfl)
                  try go_frame
                  refine wpAnyF_done (by kernel_rfl) ?_ _
                  clear hHeld hWd HP HQ p0 p1 q0 q1
                  by_cases hlt : gd l id < gd l m
                  · have HM2 : Hid (leastF l v a a = leastF l (v - (d + 1)) (a + (d + 1)) id) := by
                      show _ = _
                      rw [HM.out, show v - d = (v - (d + 1)) + 1 by omega, leastF, if_pos hlt, ← hid]; rfl
                    have hc : icmp (gd l id) (gd l m) < 0 := (icmp_lt' _ _).2 hlt
                    clear hlt HM
                    go_wp2
                    go_roundg (v - (d + 1))
                    case measure => omega
                    case rel => exact ⟨d + 1, id, rfl, by rw [← hid]; go_num, rfl, by omega, by omega, by omega, LL, HB, HM2⟩
                  · have HM2 : Hid (leastF l v a a = leastF l (v - (d + 1)) (a + (d + 1)) m) := by
                      show _ = _
                      rw [HM.out, show v - d = (v - (d + 1)) + 1 by omega, leastF, if_neg hlt, ← hid]; rfl
                    have hc : ¬ icmp (gd l id) (gd l m) < 0 := fun h => hlt ((icmp_lt' _ _).1 h)
                    clear hlt HM
                    go_wp2
                    go_roundg (v - (d + 1))
                    case measure => omega
                    case rel => exact ⟨d + 1, m, rfl, by rw [← hid]; go_num, rfl, by omega, by omega, by omega, LL, HB, HM2⟩
                · have hdv2 : d = v := by omega
                  subst hdv2
                  have hidg : ¬ (id : Int) < (a : Int) + (d : Int) := by omega
                  have HMM : Hid (leastF l d a a = m) := by show _ = _; rw [HM.out, Nat.sub_self]; rfl
                  clear HM hgk hd hdv
                  have HFF : Hid (fateL l = (0, a, (List.range d).map fun i => gd l (a + (m - a + i) % d))) := by show _ = _; rw [HF2.out, HAT.out, HMM.out]
                  clear HMM HF2 HAT hid
                  go_wp2_with fail
                  clear hidg
                  have HO0 : Hid (OwZ B9 .i64 wr wr.heap.size 37 (.slice none 0 0) ((List.range 0).map fun i => gd l (a + (m - a + i) % d))) := OwZ.nil _ _ _
                  have hbL : bL < wr.heap.size := by
                    obtain ⟨_, _, _, _, p0, _, _⟩ := LL.out.el (j := 0) (by have := HLN.out; omega)
                    exact p0.lt
                  have hbase : wr.heap.size ≤ wr.heap.size := Nat.le_refl _
                  have hwb : w.heap.size ≤ wr.heap.size := HB.size
                  obtain ⟨base, hbe⟩ : ∃ base, wr.heap.size = base := ⟨_, rfl⟩
                  obtain ⟨D, hD⟩ : ∃ D, m - a = D := ⟨_, rfl⟩
                  have hDi : (m : Int) - (a : Int) = (D : Int) := by omega
                  rw [hbe] at HO0 hbL hwb
                  have hb0 : base ≤ wr.heap.size := by omega
                  rw [hD] at HO0 HFF
                  clear hbe hbase hD
                  go_loopg [16, 17] d (fun g cv iv wr => ∃ (i : Nat), iv = .int .i64 i ∧ g = d - i ∧ i ≤ d ∧ Hid (LsZ B9 .i64 wr (some ⟨bL, oL, none⟩) cL l) ∧ Below w.heap.size w wr ∧ base ≤ wr.heap.size ∧ Hid (OwZ B9 .i64 wr base 37 cv ((List.range i).map fun i => gd l (a + (D + i) % d))))
                  case atStart => exact ⟨0, rfl, rfl, by omega, LL, HB, hb0, HO0⟩
                  case round =>
                    clear LL HB HO0 hb0
                    obtain ⟨i, rfl, hgk, hi, LL, HB, hb0, HO⟩ := hrel
                    by_cases hid : i < d
                    · have hX := Nat.mod_lt (D + i) (show 0 < d by omega)
                      have hq0 : (0 : Int) ≤ (D : Int) + (i : Int) := by omega
                      have hq1 : ((D : Int) + (i : Int)).tmod (d : Int) = (((D + i) % d : Nat) : Int) := by rw [Int.tmod_eq_emod_of_nonneg hq0, Int.natCast_emod, Int.natCast_add]
                      have hq2 : ((D : Int) + (i : Int)) % (d : Int) = (((D + i) % d : Nat) : Int) := by rw [Int.natCast_emod, Int.natCast_add]
                      have HO2 : Hid ((List.range (i + 1)).map (fun i => gd l (a + (D + i) % d)) = (List.range i).map (fun i => gd l (a + (D + i) % d)) ++ [gd l (a + (D + i) % d)]) := by show _ = _; rw [List.range_succ, List.map_append]; rfl
                      obtain ⟨X, hXe⟩ : ∃ X, (D + i) % d = X := ⟨_, rfl⟩
                      rw [hXe] at hX hq1 hq2 HO2
                      clear hXe
                      obtain ⟨np, Ap, mp, kp, p0, p1, HP⟩ := LL.out.el (j := a + X) (by have := HLN.out; omega)
                      have pc0 := p0.c
                      have pc1 := p1.c
                      have hai0 : (0 : Int) ≤ (a : Int) + (X : Int) := by omega
                      have hail : (a : Int) + (X : Int) < (last : Int) + 1 := by omega
                      have haX : ((a : Int) + (X : Int)).toNat = a + X := by omega
                      have hd0 : ((d : Int) == 0) = false := hvb
                      have hd1 : ¬ d = 0 := by omega
                      clear hq0
                      have hw1 : IntKind.i64.wrap ((m : Int) - (a : Int)) = (D : Int) := by rw [IntKind.wrap_i64]; omega
                      have hw2 : IntKind.i64.wrap ((D : Int) + (i : Int)) = (D : Int) + (i : Int) := by rw [IntKind.wrap_i64]; omega
                      have hw3 : IntKind.i64.wrap ((a : Int) + (X : Int)) = (a : Int) + (X : Int) := by rw [IntKind.wrap_i64]; omega
                      go_wp2_with (at_builtin; refine app_Z base rfl _ _ 80 37 32 rfl Tryz.underlying80 info_N (by decide) _ ((List.range i).map fun i => gd l (a + (D + i) % d)) _ _ _ _ (gd l (a + X)) HO.out HP.out rfl rfl hb0 (by rw [List.length_map, List.length_range]; omega) ?_; intro v1 w4 HO1 HBB HK hb4)
                      replace LL := Lib.hid (LL.out.keepB HBB hbL HK)
                      replace HB := HB.trans (HBB.mono hwb)
                      clear HBB HK pc0 pc1 p0 p1 HP
                      rw [← HO2.out] at HO1
                      go_wp2
                      go_roundg (d - (i + 1))
                      case measure => omega
                      case rel => exact ⟨i + 1, by go_num, rfl, by omega, LL, HB, hb4, HO1⟩
                    · have hid2 : i = d := by omega
                      subst hid2
                      obtain ⟨A2, c2, rfl, hs⟩ := HO.out.form
                      have HS := Lib.hid hs
                      clear HO hs hgk hid
                      rw [List.length_map, List.length_range] at *
                      go_wp2
                      refine bodyPost_ret (v := .tuple #[.int .i64 a, .slice A2 i c2, .int .i64 0]) (by simp [results, Tryz.results39, go_sem]) rfl ⟨A2, c2, by rw [HLL.out, HFF.out]; simp, by rw [HLL.out, HFF.out]; exact HS, HB⟩
            · have hav2 : a < last - v := by
                rcases Nat.lt_or_ge a (last - v) with h | h
                · exact h
                · exfalso
                  have h2 : a = last - v := by omega
                  apply he
                  rw [h2, HEQ.out, show last - v + v = last by omega]
              have HA2 : Hid (atF l v (last - v) 0 = atF l v (last - v - (a + 1)) (a + 1)) := by
                show _ = _
                rw [HA.out, show last - v - a = (last - v - (a + 1)) + 1 by omega, atF, if_neg he]
              have hc : (icmp (gd l a) (gd l (a + v)) == 0) = false := by
                have := mt (icmp_eq (gd l a) (gd l (a + v))).1 he
                simpa using this
              clear he HA
              go_wp2
              go_roundg (last - (a + 1))
              case measure => omega
              case rel => exact ⟨a + 1, by go_num, rfl, by omega, LL, HB, HA2⟩
        · have hj1 : 0 ≤ (j : Int) - 1 := by omega
          clear hj0
          generalize (j : Int) - 1 = jz at *
          go_wp2_with fail
          go_loopg [13] last (fun g av wr => ∃ (a : Nat), av = .int .i64 a ∧ g = last - a ∧ a ≤ last - v ∧ Hid (LsZ B9 .i64 wr (some ⟨bL, oL, none⟩) cL l) ∧ Below w.heap.size w wr ∧ Hid (atF l v (last - v) 0 = atF l v (last - v - a) a))
          case atStart => exact ⟨0, rfl, rfl, by omega, LL, HB, rfl⟩
          case round =>
            clear LL HB
            obtain ⟨a, rfl, hgk, ha, LL, HB, HA⟩ := hrel
            have ha0 : (0 : Int) ≤ (a : Int) := by omega
            have hal : (a : Int) < (last : Int) + 1 := by omega
            have hav0 : (0 : Int) ≤ (a : Int) + (v : Int) := by omega
            have havl : (a : Int) + (v : Int) < (last : Int) + 1 := by omega
            have hav : ((a : Int) + (v : Int)).toNat = a + v := by omega
            have haw : IntKind.i64.wrap ((a : Int) + (v : Int)) = (a : Int) + (v : Int) := by rw [IntKind.wrap_i64]; omega
            obtain ⟨np, Ap, mp, kp, p0, p1, HP⟩ := LL.out.el (j := a) (by have := HLN.out; omega)
            obtain ⟨nq, Aq, mq, kq, q0, q1, HQ⟩ := LL.out.el (j := (a + v)) (by have := HLN.out; omega)
            go_wp2_with fail
            replace p0 := p0.drew; replace p1 := p1.drew; replace q0 := q0.drew; replace q1 := q1.drew
            replace LL := Lib.hid (LL.out.below (below_drew (Below.refl _ _)))
            replace HP := Lib.hid (HP.out.below (below_drew (Below.refl _ _)))
            replace HQ := Lib.hid (HQ.out.below (below_drew (Below.refl _ _)))
            replace HB := below_drew HB
            generalize hWd : wr.drew = wd at *
            refine wp_region_F (fun w' => w'.cell? ⟨bL, oL + (a) * 2, none⟩ = some (.bool np) ∧ w'.cell? ⟨bL, oL + (a) * 2 + 1, none⟩ = some (.slice Ap mp kp) ∧ w'.cell? ⟨bL, oL + ((a + v)) * 2, none⟩ = some (.bool nq) ∧ w'.cell? ⟨bL, oL + ((a + v)) * 2 + 1, none⟩ = some (.slice Aq mq kq)) [] (by kernel_rfl) (by rw [hWd]; exact ⟨p0.c, p1.c, q0.c, q1.c⟩) (fun hHeld => ?_)
            rw [hWd] at hHeld ⊢
            refine wpF_t (i := 0) (oi := op8264d99d) (v := ?_) rfl (by kernel_rfl) (fun _ _ _ h => h) (Or.inl ⟨by rfl, ?_⟩) hHeld ?_; rotate_left
            · intro w_ hSw_; (try dsimp only at hSw_); go_simp; (try with_reducible rfl)
            try go_frame
            refine wpF_t (i := 1) (oi := op77d82c5c) (v := ?_) rfl (by kernel_rfl) (fun _ _ _ h => h) (Or.inl ⟨by rfl, ?_⟩) hHeld ?_; rotate_left
            · intro w_ hSw_; (try dsimp only at hSw_); go_simp; (try with_reducible rfl)
            try go_frame
            refine wpF_t (i := 2) (oi := opc0b6bf0d) (v := ?_) rfl (by kernel_rfl) (fun _ _ _ h => h) (Or.inl ⟨by rfl, ?_⟩) hHeld ?_; rotate_left
            · intro w_ hSw_; (try dsimp only at hSw_); go_simp; (try with_reducible rfl)
            try go_frame
            refine wpF_t (i := 3) (oi := op0f9d1b14) (v := ?_) rfl (by kernel_rfl) (fun _ _ _ h => h) (Or.inl ⟨by rfl, ?_⟩) hHeld ?_; rotate_left
            · intro w_ hSw_; (try dsimp only at hSw_); go_simp; (try with_reducible rfl)
            try go_frame
            refine wpF_t (i := 4) (oi := op6c2c08ac) (v := ?_) rfl (by kernel_rfl) (fun _ _ _ h => h) (Or.inl ⟨by rfl, ?_⟩) hHeld ?_; rotate_left
            · intro w_ hSw_; (try dsimp only at hSw_); go_simp; (try with_reducible rfl)
            try go_frame
            refine wpF_t (i := 5) (oi := op2d8ac3b5) (v := ?_) rfl (by kernel_rfl) (fun _ _ _ h => h) (Or.inl ⟨by rfl, ?_⟩) hHeld ?_; rotate_left
            · intro w_ hSw_; (try dsimp only at hSw_); go_simp; (try with_reducible rfl)
            try go_frame
            refine wpF_t (i := 6) (oi := op5b88cce7) (v := ?_) rfl (by kernel_rfl) (fun _ _ _ h => h) (Or.inl ⟨by rfl, ?_⟩) hHeld ?_; rotate_left
            · intro w_ hSw_; (try dsimp only at hSw_); go_simp; (try with_reducible rfl)
            try go_frame
            refine wpF_t (i := 7) (oi := op9b3a6223) (v := ?_) rfl (by kernel_rfl) (fun _ _ _ h => h) (Or.inl ⟨by rfl, ?_⟩) hHeld ?_; rotate_left
            · intro w_ hSw_; (try dsimp only at hSw_); go_simp; (try with_reducible rfl)
            try go_frame
            refine wpF_t (i := 8) (oi := op7cbe3d66) (v := ?_) rfl (by kernel_rfl) (fun _ _ _ h => h) (Or.inl ⟨by rfl, ?_⟩) hHeld ?_; rotate_left
            · intro w_ hSw_; (try dsimp only at hSw_); go_simp; (try with_reducible rfl)
            try go_frame
            refine wpF_t (i := 9) (oi := ope2c8ab55) (v := ?_) rfl (by kernel_rfl) (fun _ _ _ h => h) (Or.inl ⟨by rfl, ?_⟩) hHeld ?_; rotate_left
            · intro w_ hSw_; (try dsimp only at hSw_); go_simp; (try with_reducible rfl)
            try go_frame
            refine wpAnyF_one (i := 10) (by kernel_rfl) rfl (fun K hK => ?_)
            go_simp
            (go_at_call 40; (with_reducible refine (Cmp_c (gd l (a)) (gd l ((a + v))) _ _ _ HP.out HQ.out).mono ?_); rintro e w5 ⟨rfl, hb5⟩; replace LL := Lib.hid (LL.out.below hb5); replace p0 := p0.keep hb5; replace p1 := p1.keep hb5; replace q0 := q0.keep hb5; replace q1 := q1.keep hb5; replace HB := below_step HB hb5; clear hb5)
            refine hK.out _ _ (by exact ⟨p0.c, p1.c, q0.c, q1.c⟩) (fun hHeld => ?_)
            clear hK K
            try go_frame
            refine wpF_t (i := 11) (oi := op4ce53183) (v := ?_) rfl (by kernel_rfl) (fun _ _ _ h => h) (Or.inl ⟨by rfl, ?_⟩) hHeld ?_; rotate_left
            · intro w_ hSw_; (try dsimp only at hSw_); go_simp; (try with_reducible rfl)
            try go_frame
            refine wpAnyF_done (by kernel_rfl) ?_ _
            clear hHeld hWd HP HQ p0 p1 q0 q1
            by_cases he : gd l a = gd l (a + v)
            · have HAT : Hid (atF l v (last - v) 0 = a) := by show _ = _; rw [HA.out]; exact atF_stop he
              have hc : icmp (gd l a) (gd l (a + v)) = 0 := (icmp_eq _ _).2 he
              clear he HA HEQ hgk
              rw [hc]
              clear hc
              go_wp2_with fail
              go_loopg [14, 15] v (fun g mv iv wr => ∃ (d m : Nat), mv = .int .i64 m ∧ iv = .int .i64 ((a + d : Nat) : Int) ∧ g = v - d ∧ d ≤ v ∧ a ≤ m ∧ m ≤ last ∧ Hid (LsZ B9 .i64 wr (some ⟨bL, oL, none⟩) cL l) ∧ Below w.heap.size w wr ∧ Hid (leastF l v a a = leastF l (v - d) (a + d) m))
              case atStart => exact ⟨0, a, rfl, rfl, by omega, by omega, by omega, by omega, LL, HB, rfl⟩
              case round =>
                clear LL HB
                obtain ⟨d, m, rfl, rfl, hgk, hd, hm0, hm1, LL, HB, HM⟩ := hrel
                obtain ⟨id, hid⟩ : ∃ id, a + d = id := ⟨_, rfl⟩
                rw [hid] at HM ⊢
                by_cases hdv : d < v
                · have hi0 : (0 : Int) ≤ (id : Int) := by omega
                  have hm2 : (0 : Int) ≤ (m : Int) := by omega
                  have hm3 : (m : Int) < (last : Int) + 1 := by omega
                  have hil2 : (id : Int) < (last : Int) + 1 := by omega
                  have hida : (id : Int) < (a : Int) + (v : Int) := by omega
                  obtain ⟨np, Ap, mp, kp, p0, p1, HP⟩ := LL.out.el (j := id) (by have := HLN.out; omega)
                  obtain ⟨nq, Aq, mq, kq, q0, q1, HQ⟩ := LL.out.el (j := m) (by have := HLN.out; omega)
                  go_wp2_with fail
                  replace p0 := p0.drew; replace p1 := p1.drew; replace q0 := q0.drew; replace q1 := q1.drew
                  replace LL := Lib.hid (LL.out.below (below_drew (Below.refl _ _)))
                  replace HP := Lib.hid (HP.out.below (below_drew (Below.refl _ _)))
                  replace HQ := Lib.hid (HQ.out.below (below_drew (Below.refl _ _)))
                  replace HB := below_drew HB
                  generalize hWd : wr.drew = wd at *
                  refine wp_region_F (fun w' => w'.cell? ⟨bL, oL + (id) * 2, none⟩ = some (.bool np) ∧ w'.cell? ⟨bL, oL + (id) * 2 + 1, none⟩ = some (.slice Ap mp kp) ∧ w'.cell? ⟨bL, oL + (m) * 2, none⟩ = some (.bool nq) ∧ w'.cell? ⟨bL, oL + (m) * 2 + 1, none⟩ = some (.slice Aq mq kq)) [] (by kernel_rfl) (by rw [hWd]; exact ⟨p0.c, p1.c, q0.c, q1.c⟩) (fun hHeld => ?_)
                  rw [hWd] at hHeld ⊢
                  refine wpF_t (i := 0) (oi := op1ed191ff) (v := ?_) rfl (by kernel_rfl) (fun _ _ _ h => h) (Or.inl ⟨by rfl, ?_⟩) hHeld ?_; rotate_left
                  · intro w_ hSw_; (try dsimp only at hSw_); go_simp; (try with_reducible rfl)
                  try go_frame
                  refine wpF_t (i := 1) (oi := op62319571) (v := ?_) rfl (by kernel_rfl) (fun _ _ _ h => h) (Or.inl ⟨by rfl, ?_⟩) hHeld ?_; rotate_left
                  · intro w_ hSw_; (try dsimp only at hSw_); go_simp; (try with_reducible rfl)
                  try go_frame
                  refine wpF_t (i := 2) (oi := op37a3813a) (v := ?_) rfl (by kernel_rfl) (fun _ _ _ h => h) (Or.inl ⟨by rfl, ?_⟩) hHeld ?_; rotate_left
                  · intro w_ hSw_; (try dsimp only at hSw_); go_simp; (try with_reducible rfl)
                  try go_frame
                  refine wpF_t (i := 3) (oi := op9a8086b1) (v := ?_) rfl (by kernel_rfl) (fun _ _ _ h => h) (Or.inl ⟨by rfl, ?_⟩) hHeld ?_; rotate_left
                  · intro w_ hSw_; (try dsimp only at hSw_); go_simp; (try with_reducible rfl)
                  try go_frame
                  refine wpF_t (i := 4) (oi := op120e7ad4) (v := ?_) rfl (by kernel_rfl) (fun _ _ _ h => h) (Or.inl ⟨by rfl, ?_⟩) hHeld ?_; rotate_left
                  · intro w_ hSw_; (try dsimp only at hSw_); go_simp; (try with_reducible rfl)
                  try go_frame
                  refine wpF_t (i := 5) (oi := op2b095a50) (v := ?_) rfl (by kernel_rfl) (fun _ _ _ h => h) (Or.inl ⟨by rfl, ?_⟩) hHeld ?_; rotate_left
                  · intro w_ hSw_; (try dsimp only at hSw_); go_simp; (try with_reducible rfl)
                  try go_frame
                  refine wpF_t (i := 6) (oi := op34d11622) (v := ?_) rfl (by kernel_rfl) (fun _ _ _ h => h) (Or.inl ⟨by rfl, ?_⟩) hHeld ?_; rotate_left
                  · intro w_ hSw_; (try dsimp only at hSw_); go_simp; (try with_reducible rfl)
                  try go_frame
                  refine wpF_t (i := 7) (oi := opc640a30e) (v := ?_) rfl (by kernel_rfl) (fun _ _ _ h => h) (Or.inl ⟨by rfl, ?_⟩) hHeld ?_; rotate_left
                  · intro w_ hSw_; (try dsimp only at hSw_); go_simp; (try with_reducible rfl)
                  try go_frame
                  refine wpAnyF_one (i := 8) (by kernel_rfl) rfl (fun K hK => ?_)
                  go_simp
                  (go_at_call 40; (with_reducible refine (Cmp_c (gd l (id)) (gd l (m)) _ _ _ HP.out HQ.out).mono ?_); rintro e w6 ⟨rfl, hb5⟩; replace LL := Lib.hid (LL.out.below hb5); replace p0 := p0.keep hb5; replace p1 := p1.keep hb5; replace q0 := q0.keep hb5; replace q1 := q1.keep hb5; replace HB := below_step HB hb5; clear hb5)
                  refine hK.out _ _ (by exact ⟨p0.c, p1.c, q0.c, q1.c⟩) (fun hHeld => ?_)
                  clear hK K
                  try go_frame
                  refine wpF_t (i := 9) (oi := ope9444ae1) (v := ?_) rfl (by kernel_rfl) (fun _ _ _ h => h) (Or.inl ⟨by rfl, ?_⟩) hHeld ?_; rotate_left
                  · intro w_ hSw_; (try dsimp only at hSw_); go_simp; (try with_reducible rfl)
                  try go_frame
                  refine wpAnyF_done (by kernel_rfl) ?_ _
                  clear hHeld hWd HP HQ p0 p1 q0 q1
                  by_cases hlt : gd l id < gd l m
                  · have HM2 : Hid (leastF l v a a = leastF l (v - (d + 1)) (a + (d + 1)) id) := by
                      show _ = _
                      rw [HM.out, show v - d = (v - (d + 1)) + 1 by omega, leastF, if_pos hlt, ← hid]; rfl
                    have hc : icmp (gd l id) (gd l m) < 0 := (icmp_lt' _ _).2 hlt
                    clear hlt HM
                    go_wp2
                    go_roundg (v - (d + 1))
                    case measure => omega
                    case rel => exact ⟨d + 1, id, rfl, by rw [← hid]; go_num, rfl, by omega, by omega, by omega, LL, HB, HM2⟩
                  · have HM2 : Hid (leastF l v a a = leastF l (v - (d + 1)) (a + (d + 1)) m) := by
                      show _ = _
                      rw [HM.out, show v - d = (v - (d + 1)) + 1 by omega, leastF, if_neg hlt, ← hid]; rfl
                    have hc : ¬ icmp (gd l id) (gd l m) < 0 := fun h => hlt ((icmp_lt' _ _).1 h)
                    clear hlt HM
                    go_wp2
                    go_roundg (v - (d + 1))
                    case measure => omega
                    case rel => exact ⟨d + 1, m, rfl, by rw [← hid]; go_num, rfl, by omega, by omega, by omega, LL, HB, HM2⟩
                · have hdv2 : d = v := by omega
                  subst hdv2
                  have hidg : ¬ (id : Int) < (a : Int) + (d : Int) := by omega
                  have HMM : Hid (leastF l d a a = m) := by show _ = _; rw [HM.out, Nat.sub_self]; rfl
                  clear HM hgk hd hdv
                  have HFF : Hid (fateL l = (0, a, (List.range d).map fun i => gd l (a + (m - a + i) % d))) := by show _ = _; rw [HF2.out, HAT.out, HMM.out]
                  clear HMM HF2 HAT hid
                  go_wp2_with fail
                  clear hidg
                  have HO0 : Hid (OwZ B9 .i64 wr wr.heap.size 37 (.slice none 0 0) ((List.range 0).map fun i => gd l (a + (m - a + i) % d))) := OwZ.nil _ _ _
                  have hbL : bL < wr.heap.size := by
                    obtain ⟨_, _, _, _, p0, _, _⟩ := LL.out.el (j := 0) (by have := HLN.out; omega)
                    exact p0.lt
                  have hbase : wr.heap.size ≤ wr.heap.size := Nat.le_refl _
                  have hwb : w.heap.size ≤ wr.heap.size := HB.size
                  obtain ⟨base, hbe⟩ : ∃ base, wr.heap.size = base := ⟨_, rfl⟩
                  obtain ⟨D, hD⟩ : ∃ D, m - a = D := ⟨_, rfl⟩
                  have hDi : (m : Int) - (a : Int) = (D : Int) := by omega
                  rw [hbe] at HO0 hbL hwb
                  have hb0 : base ≤ wr.heap.size := by omega
                  rw [hD] at HO0 HFF
                  clear hbe hbase hD
                  go_loopg [16, 17] d (fun g cv iv wr => ∃ (i : Nat), iv = .int .i64 i ∧ g = d - i ∧ i ≤ d ∧ Hid (LsZ B9 .i64 wr (some ⟨bL, oL, none⟩) cL l) ∧ Below w.heap.size w wr ∧ base ≤ wr.heap.size ∧ Hid (OwZ B9 .i64 wr base 37 cv ((List.range i).map fun i => gd l (a + (D + i) % d))))
                  case atStart => exact ⟨0, rfl, rfl, by omega, LL, HB, hb0, HO0⟩
                  case round =>
                    clear LL HB HO0 hb0
                    obtain ⟨i, rfl, hgk, hi, LL, HB, hb0, HO⟩ := hrel
                    by_cases hid : i < d
                    · have hX := Nat.mod_lt (D + i) (show 0 < d by omega)
                      have hq0 : (0 : Int) ≤ (D : Int) + (i : Int) := by omega
                      have hq1 : ((D : Int) + (i : Int)).tmod (d : Int) = (((D + i) % d : Nat) : Int) := by rw [Int.tmod_eq_emod_of_nonneg hq0, Int.natCast_emod, Int.natCast_add]
                      have hq2 : ((D : Int) + (i : Int)) % (d : Int) = (((D + i) % d : Nat) : Int) := by rw [Int.natCast_emod, Int.natCast_add]
                      have HO2 : Hid ((List.range (i + 1)).map (fun i => gd l (a + (D + i) % d)) = (List.range i).map (fun i => gd l (a + (D + i) % d)) ++ [gd l (a + (D + i) % d)]) := by show _ = _; rw [List.range_succ, List.map_append]; rfl
                      obtain ⟨X, hXe⟩ : ∃ X, (D + i) % d = X := ⟨_, rfl⟩
                      rw [hXe] at hX hq1 hq2 HO2
                      clear hXe
                      obtain ⟨np, Ap, mp, kp, p0, p1, HP⟩ := LL.out.el (j := a + X) (by have := HLN.out; omega)
                      have pc0 := p0.c
                      have pc1 := p1.c
                      have hai0 : (0 : Int) ≤ (a : Int) + (X : Int) := by omega
                      have hail : (a : Int) + (X : Int) < (last : Int) + 1 := by omega
                      have haX : ((a : Int) + (X : Int)).toNat = a + X := by omega
                      have hd0 : ((d : Int) == 0) = false := hvb
                      have hd1 : ¬ d = 0 := by omega
                      clear hq0
                      have hw1 : IntKind.i64.wrap ((m : Int) - (a : Int)) = (D : Int) := by rw [IntKind.wrap_i64]; omega
                      have hw2 : IntKind.i64.wrap ((D : Int) + (i : Int)) = (D : Int) + (i : Int) := by rw [IntKind.wrap_i64]; omega
                      have hw3 : IntKind.i64.wrap ((a : Int) + (X : Int)) = (a : Int) + (X : Int) := by rw [IntKind.wrap_i64]; omega
                      go_wp2_with (at_builtin; refine app_Z base rfl _ _ 80 37 32 rfl Tryz.underlying80 info_N (by decide) _ ((List.range i).map fun i => gd l (a + (D + i) % d)) _ _ _ _ (gd l (a + X)) HO.out HP.out rfl rfl hb0 (by rw [List.length_map, List.length_range]; omega) ?_; intro v1 w4 HO1 HBB HK hb4)
                      replace LL := Lib.hid (LL.out.keepB HBB hbL HK)
                      replace HB := HB.trans (HBB.mono hwb)
                      clear HBB HK pc0 pc1 p0 p1 HP
                      rw [← HO2.out] at HO1
                      go_wp2
                      go_roundg (d - (i + 1))
                      case measure => omega
                      case rel => exact ⟨i + 1, by go_num, rfl, by omega, LL, HB, hb4, HO1⟩
                    · have hid2 : i = d := by omega
                      subst hid2
                      obtain ⟨A2, c2, rfl, hs⟩ := HO.out.form
                      have HS := Lib.hid hs
                      clear HO hs hgk hid
                      rw [List.length_map, List.length_range] at *
                      go_wp2
                      refine bodyPost_ret (v := .tuple #[.int .i64 a, .slice A2 i c2, .int .i64 0]) (by simp [results, Tryz.results39, go_sem]) rfl ⟨A2, c2, by rw [HLL.out, HFF.out]; simp, by rw [HLL.out, HFF.out]; exact HS, HB⟩
            · have hav2 : a < last - v := by
                rcases Nat.lt_or_ge a (last - v) with h | h
                · exact h
                · exfalso
                  have h2 : a = last - v := by omega
                  apply he
                  rw [h2, HEQ.out, show last - v + v = last by omega]
              have HA2 : Hid (atF l v (last - v) 0 = atF l v (last - v - (a + 1)) (a + 1)) := by
                show _ = _
                rw [HA.out, show last - v - a = (last - v - (a + 1)) + 1 by omega, atF, if_neg he]
              have hc : (icmp (gd l a) (gd l (a + v)) == 0) = false := by
                have := mt (icmp_eq (gd l a) (gd l (a + v))).1 he
                simpa using this
              clear he HA
              go_wp2
              go_roundg (last - (a + 1))
              case measure => omega
              case rel => exact ⟨a + 1, by go_num, rfl, by omega, LL, HB, HA2⟩
end Go.Proofs.YtiaeeclmlchpoaaGreatDoor

set_option linter.unusedVariables false
set_option linter.unusedSimpArgs false
namespace Go.Proofs.YtiaeeclmlchpoaaGreatDoor
open Go.RowKit

theorem Rl.cells {B : Nat} {k : IntKind} {w : World} {xs : List Value} {l : List Int} (h : Rl B k w xs l) (hl : xs.length = l.length * 2) : ∀ u ∈ xs, NoInt u ∧ u.oneCell' = true := by
  intro u hu
  obtain ⟨i, hi, rfl⟩ := List.getElem_of_mem hu
  have hj : i / 2 < l.length := by omega
  obtain ⟨nv, A, n, c, h1, h2, -⟩ := h (i / 2) l[i / 2] (List.getElem?_eq_getElem hj)
  have h3 := List.getElem?_eq_getElem hi
  generalize xs[i] = u at *
  rcases (show 2 * (i / 2) = i ∨ 2 * (i / 2) + 1 = i by omega) with e | e
  · rw [e, h3] at h1
    injection h1 with h1
    subst h1
    exact ⟨fun _ _ h => (by cases h), rfl⟩
  · rw [e, h3] at h2
    injection h2 with h2
    subst h2
    exact ⟨fun _ _ h => (by cases h), rfl⟩
theorem Rl.append {B : Nat} {k : IntKind} {w : World} {xs ys : List Value} {l m : List Int} (h : Rl B k w xs l) (hl : xs.length = l.length * 2) (h' : Rl B k w ys m) : Rl B k w (xs ++ ys) (l ++ m) := by
  intro j z hj
  rcases Nat.lt_or_ge j l.length with h1 | h1
  · rw [List.getElem?_append_left h1] at hj
    obtain ⟨nv, A, n, c, h2, h3, h4⟩ := h j z hj
    exact ⟨nv, A, n, c, by rw [List.getElem?_append_left (by omega)]; exact h2, by rw [List.getElem?_append_left (by omega)]; exact h3, h4⟩
  · rw [List.getElem?_append_right h1] at hj
    obtain ⟨nv, A, n, c, h2, h3, h4⟩ := h' _ z hj
    refine ⟨nv, A, n, c, ?_, ?_, h4⟩
    · rw [List.getElem?_append_right (by omega), show 2 * j - xs.length = 2 * (j - l.length) by omega]; exact h2
    · rw [List.getElem?_append_right (by omega), show 2 * j + 1 - xs.length = 2 * (j - l.length) + 1 by omega]; exact h3
theorem LsZ.take {B : Nat} {k : IntKind} {w : World} {A : Option Addr} {c : Nat} {l : List Int} (h : LsZ B k w A c l) {n : Nat} (hn : n ≤ l.length) : LsZ B k w A c (l.take n) := by
  obtain ⟨xs, h1, h2, h3, h4⟩ := h
  have hl : (l.take n).length = n := by rw [List.length_take, Nat.min_eq_left hn]
  refine ⟨xs.take (n * 2), ?_, by omega, h3, fun j z hj => ?_⟩
  · rw [hl]; exact h1.take hn
  · rw [List.getElem?_take] at hj
    split at hj
    · rename_i hjn
      obtain ⟨nv, A', n', c', h5, h6, h7⟩ := h4 j z hj
      exact ⟨nv, A', n', c', by rw [List.getElem?_take, if_pos (by omega)]; exact h5, by rw [List.getElem?_take, if_pos (by omega)]; exact h6, h7⟩
    · cases hj
theorem LsZ.drop {B : Nat} {k : IntKind} {w : World} {A : Option Addr} {c : Nat} {l : List Int} (h : LsZ B k w A c l) {n : Nat} (hn : n ≤ l.length) : LsZ B k w (if c = n then A else A.map (·.add (n * 2))) (c - n) (l.drop n) := by
  obtain ⟨xs, h1, h2, h3, h4⟩ := h
  refine ⟨xs.drop (n * 2), ?_, by rw [List.length_drop]; omega, by omega, fun j z hj => ?_⟩
  · rw [List.length_drop]; exact h1.drop hn h2
  · rw [List.getElem?_drop] at hj
    obtain ⟨nv, A', n', c', h5, h6, h7⟩ := h4 _ z hj
    exact ⟨nv, A', n', c', by rw [List.getElem?_drop, show n * 2 + 2 * j = 2 * (n + j) by omega]; exact h5, by rw [List.getElem?_drop, show n * 2 + (2 * j + 1) = 2 * (n + j) + 1 by omega]; exact h6, h7⟩
theorem OwZ.made0 {B : Nat} {k : IntKind} {w : World} {base : Nat} {e : TypeId} (hb : base ≤ w.heap.size) : OwZ B k (w.alloc (.cells #[] e)) base e (.slice (some ⟨w.heap.size, 0, none⟩) 0 0) [] :=
  ⟨[], ⟨⟨rfl, .inr ⟨w.heap.size, 0, #[], rfl, hb, heap_alloc_new w _, Nat.le_refl _, by simp [maxLen], rfl, rfl⟩⟩, noI_alloc rfl fun u hu => by simp at hu⟩, fun j z h => by simp at h⟩
theorem OwZ.ne {B : Nat} {k : IntKind} {w : World} {base : Nat} {e : TypeId} {v : Value} {l : List Int} (h : OwZ B k w base e v l) (hl : l ≠ []) : v ≠ .slice none 0 0 := by
  obtain ⟨A, c, rfl, -⟩ := h.form
  intro he
  injection he with _ h1 _
  exact hl (List.eq_nil_of_length_eq_zero h1)
section
variable {P : Program} {ops : Array Oper} {rest : List Oper} {o : Oper} {a : Act} {Q : Exit → Act → World → Prop}
/-- A list of numbers at the end of a list of the call's own. -/
theorem run_app_Zs {B : Nat} {k : IntKind} {W : World} (base : Nat) (t ty e : TypeId) (bytes : Nat)
    (ht : P.underlying t = some (.slice e)) (hinfo : (P.info? e).map (fun i => (i.zero, i.size, i.bytes)) = some (some (.agg #[.bool false, .slice none 0 0]), 2, bytes)) (hb0 : 0 < bytes)
    (v : Value) (l m : List Int) (A : Option Addr) (c : Nat) (HO : OwZ B k W base e v l) (HL : LsZ B k W A c m) (hv : v ≠ .slice none 0 0 ∨ m ≠ []) (hbase : base ≤ W.heap.size) (hl : (l.length + m.length) * bytes ≤ 140737488355328) :
    ∃ v1 w1, (Builtin.append_ #[t, t] ty #[v, .slice A m.length c]).run P W = .ok v1 w1 ∧ OwZ B k w1 base e v1 (l ++ m) ∧ Below base W w1 ∧ Kp W w1 ∧ base ≤ w1.heap.size := by
  obtain ⟨i0, hi, hzz⟩ := Option.map_eq_some_iff.1 hinfo
  simp only [Prod.mk.injEq] at hzz
  obtain ⟨hz0, hz1, hz2⟩ := hzz
  obtain ⟨xs, hP, hR⟩ := HO
  obtain ⟨ys, hY, hY2, hY3, hR2⟩ := HL
  have hlen : l.length + m.length ≤ 140737488355328 := Nat.le_trans (Nat.le_mul_of_pos_right _ hb0) hl
  have hcs := hR2.cells (by rw [hY.1])
  have hzn : ∀ u ∈ (Value.agg #[.bool false, .slice none 0 0]).cells.toList, NoInt u := by
    intro u hu
    simp [Value.cells] at hu
    rcases hu with rfl | rfl <;> exact fun _ _ h => by cases h
  rcases Nat.eq_zero_or_pos m.length with hm | hm
  · have hm0 : m = [] := List.eq_nil_of_length_eq_zero hm
    subst hm0
    rcases hP.1.2 with ⟨hv0, _⟩ | ⟨g, cap, cur, rfl, hbg, hg, hnc, hcm, hcs2, htake⟩
    · exact absurd hv0 (hv.resolve_right (by simp))
    · refine ⟨.slice (some ⟨g, 0, none⟩) l.length cap, W, ?_, ⟨xs, by rw [List.append_nil]; exact hP, by rw [List.append_nil]; exact hR⟩, Below.refl _ _, Kp.refl _, hbase⟩
      cases A <;> simp [Builtin.append_, run_underlying ht, sizeOf, typeInfo, hi, Builtin.lenOf, Builtin.firstCells, hnc, storeCells, loadCells, loadCellsFrom]
  · obtain ⟨b, off, rfl, hlt, hc⟩ := hY.2 hm
    obtain ⟨v1, w1, hr, hown, hg⟩ := run_append_P (P := P) W base t ty e i0 (.agg #[.bool false, .slice none 0 0]) 2 bytes ht hi hz0 hz1 hz2 rfl (by omega) hzn v l.length xs hP ⟨b, off, none⟩ m.length c ys hY.1
      (fun j u hj => by rw [plain_add]; exact hc j u hj) (fun u hu => (hcs u hu).2) (fun u hu => (hcs u hu).1) hm (by simp only [maxLen]; omega) hl hbase
    have hk : Kp W w1 := Kp.grown hg hP.2 (own_cells hP.1)
    refine ⟨v1, w1, hr, ⟨xs ++ ys, by rw [List.length_append]; exact hown, (hR.kp hk).append hP.1.1 (hR2.kp hk)⟩, (Below.refl base W).grown hg hbase (ownsRow_base hP.1), hk, Nat.le_trans hbase hg.size⟩
end
end Go.Proofs.YtiaeeclmlchpoaaGreatDoor

set_option linter.unusedVariables false
set_option linter.unusedSimpArgs false
namespace Go.Proofs.YtiaeeclmlchpoaaGreatDoor
open Go.RowKit

theorem list_gd {a b : List Int} (hl : a.length = b.length) (h : ∀ i, i < a.length → gd a i = gd b i) : a = b := by
  apply List.ext_getElem hl
  intro i h1 h2
  have := h i h1
  rw [gd_lt h1, gd_lt h2] at this; exact this
set_option maxRecDepth 100000 in
set_option maxHeartbeats 4000000 in
theorem Alike_c (A A' : Option Addr) (c c' : Nat) (a b : List Int) (w : World) (h : SlI w .i64 A c a) (h' : SlI w .i64 A' c' b) :
    Calls Tryz.prog 33 #[.slice A a.length c, .slice A' b.length c'] w fun e w' => e = .returned (.bool (decide (a = b))) ∧ Below w.heap.size w w' := by
  have HB : Below w.heap.size w w := Below.refl _ _
  have hcl := h.2
  by_cases hl : a.length = b.length
  · have hlb : ((a.length : Int) != (b.length : Int)) = false := by simp; omega
    have H1 := Lib.hid h
    have H2 := Lib.hid h'
    have HL := Lib.hid hl
    have hlen : a.length ≤ b.length := by omega
    clear h h' hl
    go_enter Tryz.func33, Tryz.ntmps33
    go_wp2_with fail
    go_loopg [5] a.length (fun g iv wr => ∃ (i : Nat), g = a.length - i ∧ iv = .int .i64 i ∧ i ≤ a.length ∧ Below w.heap.size w wr ∧ Hid (∀ j, j < i → gd a j = gd b j))
    case atStart => exact ⟨0, rfl, rfl, by omega, HB, fun j h => absurd h (by omega)⟩
    case round =>
      clear HB
      obtain ⟨i, hgk, rfl, hi, HB, HI⟩ := hrel
      by_cases hia : i < a.length
      · obtain ⟨b1, o1, rfl, l1, k1⟩ := (H1.out.below HB).cell (j := i) hia
        obtain ⟨b2, o2, rfl, l2, k2⟩ := (H2.out.below HB).cell (j := i) (by omega)
        have hi0 : (0 : Int) ≤ (i : Int) := by omega
        have hi1 : (i : Int) < (a.length : Int) := by omega
        have hi2 : (i : Int) < (b.length : Int) := by omega
        have q1 : wr.drew.cell? ⟨b1, o1 + i, none⟩ = some (.int .i64 (gd a i)) := k1
        have q2 : wr.drew.cell? ⟨b2, o2 + i, none⟩ = some (.int .i64 (gd b i)) := k2
        go_wp2_with fail
        replace HB := below_drew HB
        generalize hWd : wr.drew = wd at *
        refine wp_region_F (fun w' => w'.cell? ⟨b1, o1 + i, none⟩ = some (.int .i64 (gd a i)) ∧ w'.cell? ⟨b2, o2 + i, none⟩ = some (.int .i64 (gd b i))) [] (by kernel_rfl) (by rw [hWd]; exact ⟨q1, q2⟩) (fun hHeld => ?_)
        rw [hWd] at hHeld ⊢
        refine wpF_t (i := 0) (oi := { dst := some 17, op := Go.Op.move (Go.Operand.tmp 0), type := 22, pos := "ref.go:47", after := #[], guard := none }) (v := ?_) rfl (by kernel_rfl) (fun _ _ _ h => h) (Or.inl ⟨by rfl, ?_⟩) hHeld ?_; rotate_left
        · intro w_ hSw_; (try dsimp only at hSw_); go_simp; (try with_reducible rfl)
        try go_frame
        refine wpF_t (i := 1) (oi := { dst := some 18, op := Go.Op.move (Go.Operand.tmp 5), type := 3, pos := "ref.go:47", after := #[], guard := none }) (v := ?_) rfl (by kernel_rfl) (fun _ _ _ h => h) (Or.inl ⟨by rfl, ?_⟩) hHeld ?_; rotate_left
        · intro w_ hSw_; (try dsimp only at hSw_); go_simp; (try with_reducible rfl)
        try go_frame
        refine wpF_t (i := 2) (oi := { dst := some 19, op := Go.Op.indexAddr 22 (Go.Operand.tmp 17) (Go.Operand.tmp 18), type := 0, pos := "ref.go:47", after := #[{ on := 0, ground := Go.Ground.data }, { on := 1, ground := Go.Ground.data }], guard := none }) (v := ?_) rfl (by kernel_rfl) (fun _ _ _ h => h) (Or.inl ⟨by rfl, ?_⟩) hHeld ?_; rotate_left
        · intro w_ hSw_; (try dsimp only at hSw_); go_simp; (try with_reducible rfl)
        try go_frame
        refine wpF_t (i := 3) (oi := { dst := some 20, op := Go.Op.load 3 (Go.Operand.tmp 19), type := 3, pos := "ref.go:47", after := #[{ on := 2, ground := Go.Ground.data }], guard := none }) (v := ?_) rfl (by kernel_rfl) (fun _ _ _ h => h) (Or.inl ⟨by rfl, ?_⟩) hHeld ?_; rotate_left
        · intro w_ hSw_; (try dsimp only at hSw_); go_simp; (try with_reducible rfl)
        try go_frame
        refine wpF_t (i := 4) (oi := { dst := some 21, op := Go.Op.move (Go.Operand.tmp 1), type := 22, pos := "ref.go:47", after := #[], guard := none }) (v := ?_) rfl (by kernel_rfl) (fun _ _ _ h => h) (Or.inl ⟨by rfl, ?_⟩) hHeld ?_; rotate_left
        · intro w_ hSw_; (try dsimp only at hSw_); go_simp; (try with_reducible rfl)
        try go_frame
        refine wpF_t (i := 5) (oi := { dst := some 22, op := Go.Op.move (Go.Operand.tmp 5), type := 3, pos := "ref.go:47", after := #[], guard := none }) (v := ?_) rfl (by kernel_rfl) (fun _ _ _ h => h) (Or.inl ⟨by rfl, ?_⟩) hHeld ?_; rotate_left
        · intro w_ hSw_; (try dsimp only at hSw_); go_simp; (try with_reducible rfl)
        try go_frame
        refine wpF_t (i := 6) (oi := { dst := some 23, op := Go.Op.indexAddr 22 (Go.Operand.tmp 21) (Go.Operand.tmp 22), type := 0, pos := "ref.go:47", after := #[{ on := 4, ground := Go.Ground.data }, { on := 5, ground := Go.Ground.data }], guard := none }) (v := ?_) rfl (by kernel_rfl) (fun _ _ _ h => h) (Or.inl ⟨by rfl, ?_⟩) hHeld ?_; rotate_left
        · intro w_ hSw_; (try dsimp only at hSw_); go_simp; (try with_reducible rfl)
        try go_frame
        refine wpF_t (i := 7) (oi := { dst := some 24, op := Go.Op.load 3 (Go.Operand.tmp 23), type := 3, pos := "ref.go:47", after := #[{ on := 6, ground := Go.Ground.data }], guard := none }) (v := ?_) rfl (by kernel_rfl) (fun _ _ _ h => h) (Or.inl ⟨by rfl, ?_⟩) hHeld ?_; rotate_left
        · intro w_ hSw_; (try dsimp only at hSw_); go_simp; (try with_reducible rfl)
        try go_frame
        refine wpF_t (i := 8) (oi := { dst := some 25, op := Go.Op.binOp Go.BinOp.neq 3 (Go.Operand.tmp 20) (Go.Operand.tmp 24) 3, type := 4, pos := "ref.go:47", after := #[{ on := 3, ground := Go.Ground.data }, { on := 7, ground := Go.Ground.data }], guard := none }) (v := ?_) rfl (by kernel_rfl) (fun _ _ _ h => h) (Or.inl ⟨by rfl, ?_⟩) hHeld ?_; rotate_left
        · intro w_ hSw_; (try dsimp only at hSw_); go_simp; (try with_reducible rfl)
        try go_frame
        refine wpAnyF_done (by kernel_rfl) ?_ _
        clear hHeld
        by_cases he : gd a i = gd b i
        · have HI2 : Hid (∀ j, j < i + 1 → gd a j = gd b j) := fun j hj => by
            rcases Nat.lt_or_ge j i with h2 | h2
            · exact HI.out j h2
            · obtain rfl : j = i := by omega
              exact he
          have hb : (gd a i != gd b i) = false := by simpa using he
          clear he
          go_wp2
          go_roundg (a.length - (i + 1))
          case measure => omega
          case rel => exact ⟨i + 1, rfl, by go_num, by omega, HB, HI2⟩
        · have hb : (gd a i != gd b i) = true := by simpa using he
          have HR : Hid (decide (a = b) = false) := decide_eq_false fun h => he (by rw [h])
          clear he
          go_wp2
          go_ret
          exact ⟨by rw [HR.out] <;> rfl, HB⟩
      · have HR : Hid (decide (a = b) = true) := decide_eq_true (list_gd HL.out fun j hj => HI.out j (by omega))
        have hi1 : ¬ (i : Int) < (a.length : Int) := by omega
        go_wp2
        go_ret
        exact ⟨by rw [HR.out] <;> rfl, HB⟩
  · have hlb : ((a.length : Int) != (b.length : Int)) = true := by simp; omega
    have HR : Hid (decide (a = b) = false) := decide_eq_false fun h => hl (by rw [h])
    clear hl
    go_enter Tryz.func33, Tryz.ntmps33
    go_wp2
    go_ret
    exact ⟨by rw [HR.out] <;> rfl, HB⟩
end Go.Proofs.YtiaeeclmlchpoaaGreatDoor

set_option linter.unusedVariables false
set_option linter.unusedSimpArgs false
namespace Go.Proofs.YtiaeeclmlchpoaaGreatDoor
open Go.RowKit

def sameB (M M' : Mp) : Bool := decide (M.mod = M'.mod) && decide (M.mul = M'.mul) && decide (M.add = M'.add)
theorem sameB_self (M : Mp) : sameB M M = true := by simp [sameB]
theorem Alike_s {A A' : Option Addr} {c c' n n' : Nat} {a b : List Int} (hn : n = a.length) (hn' : n' = b.length) (w : World) (h : SlI w .i64 A c a) (h' : SlI w .i64 A' c' b) :
    Calls Tryz.prog 33 #[.slice A n c, .slice A' n' c'] w fun e w' => e = .returned (.bool (decide (a = b))) ∧ Below w.heap.size w w' := by
  subst hn hn'
  exact Alike_c A A' c c' a b w h h'
set_option maxRecDepth 100000 in
set_option maxHeartbeats 4000000 in
theorem Same_c (M M' : Mp) (v v' : Value) (w : World) (h : IsM w v M) (h' : IsM w v' M') :
    Calls Tryz.prog 11 #[v, v'] w fun e w' => e = .returned (.bool (sameB M M')) ∧ Below w.heap.size w w' := by
  obtain ⟨md, A1, n1, c1, A2, n2, c2, rfl, HM⟩ := h.form
  obtain ⟨md', B1, m1, d1, B2, m2, d2, rfl, HM'⟩ := h'.form
  clear h h'
  obtain ⟨e1, e2, e3, -, -⟩ := HM.out.sl
  obtain ⟨g1, g2, g3, -, -⟩ := HM'.out.sl
  have E2 := Lib.hid e2
  have E3 := Lib.hid e3
  have G2 := Lib.hid g2
  have G3 := Lib.hid g3
  have HS : Hid (sameB M M' = (decide (md = md') && decide (M.mul = M'.mul) && decide (M.add = M'.add))) := by show _ = _; rw [e1, g1]; rfl
  clear e1 e2 e3 g1 g2 g3
  by_cases h1 : md = md'
  · have h1b : (md == md') = true := by simpa using h1
    by_cases h2 : M.mul = M'.mul
    · have HQ1 : Hid (decide (M.mul = M'.mul) = true) := decide_eq_true h2
      by_cases h3 : M.add = M'.add
      · have HQ2 : Hid (decide (M.add = M'.add) = true) := decide_eq_true h3
        have HR : Hid (sameB M M' = true) := by show _ = _; rw [HS.out, HQ1.out, HQ2.out, decide_eq_true h1]; rfl
        clear h1 h2 h3
        go_enter Tryz.func11, Tryz.ntmps11
        go_upto_region 1 with fail
        have V2 := VM.new w 24 HM.out
        have V3 := VM.new (w.alloc (Obj.cells #[Value.int .i64 md, Value.slice A1 n1 c1, Value.slice A2 n2 c2] 24)) 24 (HM'.out.below (below_alloc (Below.refl _ _) _))
        have HB := below_alloc (below_alloc (Below.refl w.heap.size w) (Obj.cells #[Value.int .i64 md, Value.slice A1 n1 c1, Value.slice A2 n2 c2] 24)) (Obj.cells #[Value.int .i64 md', Value.slice B1 m1 d1, Value.slice B2 m2 d2] 24)
        replace V2 := V2.keep (below_alloc (Below.refl (w.alloc (Obj.cells #[Value.int .i64 md, Value.slice A1 n1 c1, Value.slice A2 n2 c2] 24)).heap.size _) (Obj.cells #[Value.int .i64 md', Value.slice B1 m1 d1, Value.slice B2 m2 d2] 24))
        rw [show (w.alloc (Obj.cells #[Value.int .i64 md, Value.slice A1 n1 c1, Value.slice A2 n2 c2] 24)).heap.size = w.heap.size + 1 by simp] at V3
        clear HM HM'
        generalize hW : (w.alloc (Obj.cells #[Value.int .i64 md, Value.slice A1 n1 c1, Value.slice A2 n2 c2] 24)).alloc (Obj.cells #[Value.int .i64 md', Value.slice B1 m1 d1, Value.slice B2 m2 d2] 24) = W at *
        clear hW
        have a0 := V2.c0; have a1 := V2.c1; have a2 := V2.c2; have b0 := V3.c0; have b1 := V3.c1; have b2 := V3.c2
        go_wp2_with fail
        (with_reducible refine (Alike_s E2.out G2.out _ V2.im.out.sl.2.2.2.1 V3.im.out.sl.2.2.2.1).mono ?_)
        rintro e w3 ⟨rfl, hb⟩
        replace V2 := V2.keep hb; replace V3 := V3.keep hb
        replace HB := below_step HB hb
        clear hb a0 a1 a2 b0 b1 b2
        have a0 := V2.c0; have a1 := V2.c1; have a2 := V2.c2; have b0 := V3.c0; have b1 := V3.c1; have b2 := V3.c2
        rw [HQ1.out]
        go_wp2_with fail
        (with_reducible refine (Alike_s E3.out G3.out _ V2.im.out.sl.2.2.2.2 V3.im.out.sl.2.2.2.2).mono ?_)
        rintro e w4 ⟨rfl, hb⟩
        replace V2 := V2.keep hb; replace V3 := V3.keep hb
        replace HB := below_step HB hb
        clear hb a0 a1 a2 b0 b1 b2
        have a0 := V2.c0; have a1 := V2.c1; have a2 := V2.c2; have b0 := V3.c0; have b1 := V3.c1; have b2 := V3.c2
        rw [HQ2.out]
        go_wp2
        go_ret
        exact ⟨by rw [HR.out] <;> rfl, HB⟩
      · have HQ2 : Hid (decide (M.add = M'.add) = false) := decide_eq_false h3
        have HR : Hid (sameB M M' = false) := by show _ = _; rw [HS.out, HQ1.out, HQ2.out, decide_eq_true h1]; rfl
        clear h1 h2 h3
        go_enter Tryz.func11, Tryz.ntmps11
        go_upto_region 1 with fail
        have V2 := VM.new w 24 HM.out
        have V3 := VM.new (w.alloc (Obj.cells #[Value.int .i64 md, Value.slice A1 n1 c1, Value.slice A2 n2 c2] 24)) 24 (HM'.out.below (below_alloc (Below.refl _ _) _))
        have HB := below_alloc (below_alloc (Below.refl w.heap.size w) (Obj.cells #[Value.int .i64 md, Value.slice A1 n1 c1, Value.slice A2 n2 c2] 24)) (Obj.cells #[Value.int .i64 md', Value.slice B1 m1 d1, Value.slice B2 m2 d2] 24)
        replace V2 := V2.keep (below_alloc (Below.refl (w.alloc (Obj.cells #[Value.int .i64 md, Value.slice A1 n1 c1, Value.slice A2 n2 c2] 24)).heap.size _) (Obj.cells #[Value.int .i64 md', Value.slice B1 m1 d1, Value.slice B2 m2 d2] 24))
        rw [show (w.alloc (Obj.cells #[Value.int .i64 md, Value.slice A1 n1 c1, Value.slice A2 n2 c2] 24)).heap.size = w.heap.size + 1 by simp] at V3
        clear HM HM'
        generalize hW : (w.alloc (Obj.cells #[Value.int .i64 md, Value.slice A1 n1 c1, Value.slice A2 n2 c2] 24)).alloc (Obj.cells #[Value.int .i64 md', Value.slice B1 m1 d1, Value.slice B2 m2 d2] 24) = W at *
        clear hW
        have a0 := V2.c0; have a1 := V2.c1; have a2 := V2.c2; have b0 := V3.c0; have b1 := V3.c1; have b2 := V3.c2
        go_wp2_with fail
        (with_reducible refine (Alike_s E2.out G2.out _ V2.im.out.sl.2.2.2.1 V3.im.out.sl.2.2.2.1).mono ?_)
        rintro e w3 ⟨rfl, hb⟩
        replace V2 := V2.keep hb; replace V3 := V3.keep hb
        replace HB := below_step HB hb
        clear hb a0 a1 a2 b0 b1 b2
        have a0 := V2.c0; have a1 := V2.c1; have a2 := V2.c2; have b0 := V3.c0; have b1 := V3.c1; have b2 := V3.c2
        rw [HQ1.out]
        go_wp2_with fail
        (with_reducible refine (Alike_s E3.out G3.out _ V2.im.out.sl.2.2.2.2 V3.im.out.sl.2.2.2.2).mono ?_)
        rintro e w4 ⟨rfl, hb⟩
        replace V2 := V2.keep hb; replace V3 := V3.keep hb
        replace HB := below_step HB hb
        clear hb a0 a1 a2 b0 b1 b2
        have a0 := V2.c0; have a1 := V2.c1; have a2 := V2.c2; have b0 := V3.c0; have b1 := V3.c1; have b2 := V3.c2
        rw [HQ2.out]
        go_wp2
        go_ret
        exact ⟨by rw [HR.out] <;> rfl, HB⟩
    · have HQ1 : Hid (decide (M.mul = M'.mul) = false) := decide_eq_false h2
      have HR : Hid (sameB M M' = false) := by show _ = _; rw [HS.out, HQ1.out, decide_eq_true h1]; rfl
      clear h1 h2
      go_enter Tryz.func11, Tryz.ntmps11
      go_upto_region 1 with fail
      have V2 := VM.new w 24 HM.out
      have V3 := VM.new (w.alloc (Obj.cells #[Value.int .i64 md, Value.slice A1 n1 c1, Value.slice A2 n2 c2] 24)) 24 (HM'.out.below (below_alloc (Below.refl _ _) _))
      have HB := below_alloc (below_alloc (Below.refl w.heap.size w) (Obj.cells #[Value.int .i64 md, Value.slice A1 n1 c1, Value.slice A2 n2 c2] 24)) (Obj.cells #[Value.int .i64 md', Value.slice B1 m1 d1, Value.slice B2 m2 d2] 24)
      replace V2 := V2.keep (below_alloc (Below.refl (w.alloc (Obj.cells #[Value.int .i64 md, Value.slice A1 n1 c1, Value.slice A2 n2 c2] 24)).heap.size _) (Obj.cells #[Value.int .i64 md', Value.slice B1 m1 d1, Value.slice B2 m2 d2] 24))
      rw [show (w.alloc (Obj.cells #[Value.int .i64 md, Value.slice A1 n1 c1, Value.slice A2 n2 c2] 24)).heap.size = w.heap.size + 1 by simp] at V3
      clear HM HM'
      generalize hW : (w.alloc (Obj.cells #[Value.int .i64 md, Value.slice A1 n1 c1, Value.slice A2 n2 c2] 24)).alloc (Obj.cells #[Value.int .i64 md', Value.slice B1 m1 d1, Value.slice B2 m2 d2] 24) = W at *
      clear hW
      have a0 := V2.c0; have a1 := V2.c1; have a2 := V2.c2; have b0 := V3.c0; have b1 := V3.c1; have b2 := V3.c2
      go_wp2_with fail
      (with_reducible refine (Alike_s E2.out G2.out _ V2.im.out.sl.2.2.2.1 V3.im.out.sl.2.2.2.1).mono ?_)
      rintro e w3 ⟨rfl, hb⟩
      replace V2 := V2.keep hb; replace V3 := V3.keep hb
      replace HB := below_step HB hb
      clear hb a0 a1 a2 b0 b1 b2
      have a0 := V2.c0; have a1 := V2.c1; have a2 := V2.c2; have b0 := V3.c0; have b1 := V3.c1; have b2 := V3.c2
      rw [HQ1.out]
      go_wp2
      go_ret
      exact ⟨by rw [HR.out] <;> rfl, HB⟩
  · have h1b : (md == md') = false := by simpa using h1
    have HR : Hid (sameB M M' = false) := by show _ = _; rw [HS.out, decide_eq_false h1]; rfl
    clear h1
    go_enter Tryz.func11, Tryz.ntmps11
    go_upto_region 1 with fail
    have V2 := VM.new w 24 HM.out
    have V3 := VM.new (w.alloc (Obj.cells #[Value.int .i64 md, Value.slice A1 n1 c1, Value.slice A2 n2 c2] 24)) 24 (HM'.out.below (below_alloc (Below.refl _ _) _))
    have HB := below_alloc (below_alloc (Below.refl w.heap.size w) (Obj.cells #[Value.int .i64 md, Value.slice A1 n1 c1, Value.slice A2 n2 c2] 24)) (Obj.cells #[Value.int .i64 md', Value.slice B1 m1 d1, Value.slice B2 m2 d2] 24)
    replace V2 := V2.keep (below_alloc (Below.refl (w.alloc (Obj.cells #[Value.int .i64 md, Value.slice A1 n1 c1, Value.slice A2 n2 c2] 24)).heap.size _) (Obj.cells #[Value.int .i64 md', Value.slice B1 m1 d1, Value.slice B2 m2 d2] 24))
    rw [show (w.alloc (Obj.cells #[Value.int .i64 md, Value.slice A1 n1 c1, Value.slice A2 n2 c2] 24)).heap.size = w.heap.size + 1 by simp] at V3
    clear HM HM'
    generalize hW : (w.alloc (Obj.cells #[Value.int .i64 md, Value.slice A1 n1 c1, Value.slice A2 n2 c2] 24)).alloc (Obj.cells #[Value.int .i64 md', Value.slice B1 m1 d1, Value.slice B2 m2 d2] 24) = W at *
    clear hW
    have a0 := V2.c0; have a1 := V2.c1; have a2 := V2.c2; have b0 := V3.c0; have b1 := V3.c1; have b2 := V3.c2
    go_wp2
    go_ret
    exact ⟨by rw [HR.out] <;> rfl, HB⟩
end Go.Proofs.YtiaeeclmlchpoaaGreatDoor

set_option linter.unusedVariables false
set_option linter.unusedSimpArgs false
namespace Go.Proofs.YtiaeeclmlchpoaaGreatDoor
open Go.RowKit

/-- Three cells for a map that is to be handed back. -/
def Res3 (W : World) (b : Nat) : Prop := ∃ (x : Int) (y z : Option Addr × Nat × Nat), W.cell? ⟨b, 0, none⟩ = some (.int .i64 x) ∧ W.cell? ⟨b, 1, none⟩ = some (.slice y.1 y.2.1 y.2.2) ∧ W.cell? ⟨b, 2, none⟩ = some (.slice z.1 z.2.1 z.2.2) ∧
  W.frozen? ⟨b, 0, none⟩ = false ∧ W.frozen? ⟨b, 1, none⟩ = false ∧ W.frozen? ⟨b, 2, none⟩ = false ∧ b < W.heap.size
theorem Res3.keep {W w1 : World} {b : Nat} (h : Res3 W b) (hb : Below W.heap.size W w1) : Res3 w1 b := by
  obtain ⟨x, y, z, h0, h1, h2, f0, f1, f2, hl⟩ := h
  exact ⟨x, y, z, kcell hb hl h0, kcell hb hl h1, kcell hb hl h2, kfroz hb hl f0, kfroz hb hl f1, kfroz hb hl f2, Nat.lt_of_lt_of_le hl hb.size⟩
theorem Res3.lt {W : World} {b : Nat} (h : Res3 W b) : b < W.heap.size := by obtain ⟨_, _, _, _, _, _, _, _, _, h⟩ := h; exact h
theorem new3m (w : World) (t : TypeId) : Res3 (w.alloc (.cells #[.int .i64 0, .slice none 0 0, .slice none 0 0] t)) w.heap.size :=
  ⟨0, (none, 0, 0), (none, 0, 0), by simp [go_sem], by simp [go_sem], by simp [go_sem], by simp [go_sem], by simp [go_sem], by simp [go_sem], by simp⟩
theorem below_set3 {w W : World} (h : Below w.heap.size w W) {b : Nat} (hb : w.heap.size ≤ b) (x y z : Value) : Below w.heap.size w (((W.setCell ⟨b, 0, none⟩ x).setCell ⟨b, 1, none⟩ y).setCell ⟨b, 2, none⟩ z) := below_set (below_set (below_set h hb x) hb y) hb z
/-- A slice of whole numbers that lies in another block than b. -/
def SlF (b : Nat) (w : World) (k : IntKind) (A : Option Addr) (c : Nat) (l : List Int) : Prop := SlI w k A c l ∧ (0 < l.length → ∃ g off, A = some ⟨g, off, none⟩ ∧ g ≠ b)
theorem SlF.below {b : Nat} {w w' : World} {k : IntKind} {A : Option Addr} {c : Nat} {l : List Int} (h : SlF b w k A c l) (hb : Below w.heap.size w w') : SlF b w' k A c l := ⟨h.1.below hb, h.2⟩
theorem SlF.set {b : Nat} {w : World} {k : IntKind} {A : Option Addr} {c : Nat} {l : List Int} (h : SlF b w k A c l) (o : Nat) (x : Value) : SlF b (w.setCell ⟨b, o, none⟩ x) k A c l := by
  refine ⟨⟨⟨h.1.1.1, fun hn => ?_⟩, h.1.2⟩, h.2⟩
  obtain ⟨b1, off, e, hl, hc⟩ := h.1.1.2 hn
  obtain ⟨g, off', e', hg⟩ := h.2 hn
  rw [e] at e'
  injection e' with e'
  injection e' with e1 e2
  subst e1 e2
  refine ⟨b1, off, e, by simpa [World.setCell] using hl, fun j v hv => ?_⟩
  rw [World.cell?_setCell_other _ _ _ _ (by intro he; injection he with he; exact hg he.symm)]
  exact hc j v hv
theorem SlF.set3 {b : Nat} {w : World} {k : IntKind} {A : Option Addr} {c : Nat} {l : List Int} (h : SlF b w k A c l) (x y z : Value) : SlI (((w.setCell ⟨b, 0, none⟩ x).setCell ⟨b, 1, none⟩ y).setCell ⟨b, 2, none⟩ z) k A c l := (((h.set 0 x).set 1 y).set 2 z).1
end Go.Proofs.YtiaeeclmlchpoaaGreatDoor

set_option linter.unusedVariables false
set_option linter.unusedSimpArgs false
namespace Go.Proofs.YtiaeeclmlchpoaaGreatDoor
open Go.RowKit

abbrev op6c8e74cb : Oper := { dst := some 13, op := Go.Op.build 24 #[(0, Go.Operand.tmp 4), (1, Go.Operand.tmp 8), (2, Go.Operand.tmp 12)], type := 24, pos := "ref.go:35", after := #[{ on := 1, ground := Go.Ground.data }, { on := 5, ground := Go.Ground.data }, { on := 9, ground := Go.Ground.data }], guard := none }
attribute [local go_sem] op6c8e74cb
/-- The form's own reach: how long a map's lists may be. -/
def Rch (M : Mp) : Prop := M.mul.length * 8 ≤ 140737488351232 ∧ M.add.length * 8 ≤ 140737488351232
section
variable {P : Program}
/-- A list of whole numbers behind an empty one that was just made. -/
theorem run_app0 (W : World) (t ty e : TypeId) (k : IntKind) (bytes g : Nat)
    (ht : P.underlying t = some (.slice e)) (hinfo : (P.info? e).map (fun i => (i.zero, i.size, i.bytes)) = some (some (.int k 0), 1, bytes)) (hb0 : 0 < bytes)
    (b0 : Nat) (hb0' : b0 < W.heap.size) (l : List Int) (A : Option Addr) (c : Nat) (HL : SlI W k A c l) (hl : l.length * bytes ≤ 140737488355328) :
    ∃ A' c' w1, (Builtin.append_ #[t, t] ty #[.slice (some ⟨g, 0, none⟩) 0 0, .slice A l.length c]).run P W = .ok (.slice A' l.length c') w1 ∧ SlF b0 w1 k A' c' l ∧ Below W.heap.size W w1 := by
  obtain ⟨i0, hi, hzz⟩ := Option.map_eq_some_iff.1 hinfo
  simp only [Prod.mk.injEq] at hzz
  obtain ⟨hz0, hz1, hz2⟩ := hzz
  have hlen : l.length ≤ 140737488355328 := Nat.le_trans (Nat.le_mul_of_pos_right _ hb0) hl
  rcases Nat.eq_zero_or_pos l.length with hm | hm
  · have hm0 : l = [] := List.eq_nil_of_length_eq_zero hm
    subst hm0
    refine ⟨some ⟨g, 0, none⟩, 0, W, ?_, ⟨⟨⟨by simp [ints], fun h => absurd h (by simp)⟩, Nat.le_refl _, by omega⟩, fun h => absurd h (by simp)⟩, Below.refl _ _⟩
    cases A <;> simp [Builtin.append_, run_underlying ht, sizeOf, typeInfo, hi, Builtin.lenOf, Builtin.firstCells, storeCells, loadCells, loadCellsFrom]
  · obtain ⟨b, off, rfl, hlt, hc⟩ := HL.1.2 hm
    have hr := run_append_grow (P := P) W t ty e i0 (.int k 0) ht hi hz0 ⟨g, 0, none⟩ 0 0 [] (by simp) (fun j v h => by simp at h) ⟨b, off, none⟩ l.length c (ints k l) (by rw [ints_length, hz1, Nat.mul_one])
      (fun j u hj => by rw [plain_add]; exact hc j u hj) (by omega) (by omega) (by
        rw [hz2]
        have hb2 : (0 + l.length) * bytes ≤ 140737488355328 := by rw [Nat.zero_add]; exact hl
        exact growslice_fits (by omega) hb2)
    rw [Nat.zero_add] at hr
    refine ⟨_, _, _, hr, ?_, below_alloc (below_drew (Below.refl _ _)) _⟩
    have hcap : l.length ≤ grownCap W l.length 0 e := by
      exact grownCap_ge W l.length 0 e
    have hcap2 : grownCap W l.length 0 e ≤ 9223372036854775807 := by
      have := grownCap_le_maxLen W l.length 0 e (by simp only [maxLen]; omega)
      simp only [maxLen] at this
      omega
    refine ⟨⟨⟨by simp [ints], fun _ => ⟨W.heap.size, 0, rfl, by simp, fun j u hj => ?_⟩⟩, hcap, hcap2⟩, fun _ => ⟨W.heap.size, 0, rfl, by omega⟩⟩
    have hjl : j < (ints k l).length := by
      rcases Nat.lt_or_ge j (ints k l).length with h | h
      · exact h
      · rw [List.getElem?_eq_none h] at hj; cases hj
    have hnew := heap_alloc_new W.drew (.cells ((#[] : Array Value) ++ (ints k l).toArray ++ Builtin.zeroCells (Value.int k 0).cells (grownCap W l.length 0 e - l.length)) e (0, 0))
    rw [World.cell?]
    have hnew' : (W.drew.alloc (.cells ((List.toArray []) ++ (ints k l).toArray ++ Builtin.zeroCells (Value.int k 0).cells (grownCap W l.length 0 e - l.length)) e (0, 0))).heap[W.heap.size]? = some (.cells ((#[] : Array Value) ++ (ints k l).toArray ++ Builtin.zeroCells (Value.int k 0).cells (grownCap W l.length 0 e - l.length)) e (0, 0)) := hnew
    simp only [Nat.zero_add, hnew']
    rw [Array.getElem?_append_left (by simpa using hjl)]
    simpa using hj
theorem op_app0 {ops : Array Oper} {o : Oper} {a : Act} {Q : Exit → Act → World → Prop} {K : Act → World → Prop} (W : World) (s x : Operand) (t e : TypeId) (k : IntKind) (bytes g : Nat)
    (ho : o.op = .call { callee := .builtin .append, args := #[s, x], argTypes := #[t, t] })
    (ht : P.underlying t = some (.slice e)) (hinfo : (P.info? e).map (fun i => (i.zero, i.size, i.bytes)) = some (some (.int k 0), 1, bytes)) (hb0 : 0 < bytes)
    (b0 : Nat) (hb0' : b0 < W.heap.size) (l : List Int) (A : Option Addr) (n c : Nat) (hn : n = l.length) (HL : SlI W k A c l) (hl : l.length * bytes ≤ 140737488355328) (hs : a.eval s = .slice (some ⟨g, 0, none⟩) 0 0) (hx : a.eval x = .slice A n c)
    (h : ∀ A' c' w1, Hid (SlF b0 w1 k A' c' l) → Below W.heap.size W w1 → K (a.put o.dst (.slice A' n c')) w1) : Oper.wp P o a W K Q := by
  subst hn
  obtain ⟨A', c', w1, hr, h1, h2⟩ := run_app0 (P := P) W t o.type e k bytes g ht hinfo hb0 b0 hb0' l A c HL hl
  unfold Oper.wp execOp
  simp only [ho, resolve, invoke, builtin, Sem.run_bind, Sem.run_pure, Result.andThen_ok, List.map_toArray, List.map_cons, List.map_nil, hs, hx, hr]
  exact h A' c' w1 h1 h2
end
theorem info_int : (Tryz.prog.info? 3).map (fun i => (i.zero, i.size, i.bytes)) = some (some (.int .i64 0), 1, 8) := by kernel_rfl
set_option maxRecDepth 100000 in
set_option maxHeartbeats 8000000 in
theorem Twin_c (M : Mp) (v : Value) (w : World) (h : IsM w v M) (hr : Rch M) :
    Calls Tryz.prog 9 #[v] w fun e w' => ∃ v', e = .returned v' ∧ IsM w' v' M ∧ Below w.heap.size w w' := by
  obtain ⟨md, A1, n1, c1, A2, n2, c2, rfl, HM⟩ := h.form
  clear h
  obtain ⟨e1, e2, e3, s1, s2⟩ := HM.out.sl
  have E1 := Lib.hid e1
  have E2 := Lib.hid e2
  have E3 := Lib.hid e3
  have SA := Lib.hid s1
  have SB := Lib.hid s2
  have RR := Lib.hid hr
  clear e1 e2 e3 s1 s2 hr
  go_enter Tryz.func9, Tryz.ntmps9
  go_wp2_with fail
  have V1 := VM.new w 24 HM.out
  have HB := below_alloc (Below.refl w.heap.size w) (Obj.cells #[Value.int .i64 md, Value.slice A1 n1 c1, Value.slice A2 n2 c2] 24)
  replace V1 := V1.keep (below_alloc (Below.refl (w.alloc (Obj.cells #[Value.int .i64 md, Value.slice A1 n1 c1, Value.slice A2 n2 c2] 24)).heap.size _) (Obj.cells #[Value.int .i64 0, Value.slice none 0 0, Value.slice none 0 0] 24))
  have R3 := new3m (w.alloc (Obj.cells #[Value.int .i64 md, Value.slice A1 n1 c1, Value.slice A2 n2 c2] 24)) 24
  have eb : (w.alloc (Obj.cells #[Value.int .i64 md, Value.slice A1 n1 c1, Value.slice A2 n2 c2] 24)).heap.size = w.heap.size + 1 := by simp
  replace HB := below_alloc HB (Obj.cells #[Value.int .i64 0, Value.slice none 0 0, Value.slice none 0 0] 24)
  rw [eb] at R3
  generalize hW : (w.alloc (Obj.cells #[Value.int .i64 md, Value.slice A1 n1 c1, Value.slice A2 n2 c2] 24)).alloc (Obj.cells #[Value.int .i64 0, Value.slice none 0 0, Value.slice none 0 0] 24) = W at *
  clear hW
  replace SA := Lib.hid (SA.out.below HB)
  replace SB := Lib.hid (SB.out.below HB)
  replace R3 := R3.keep (below_drew (Below.refl W.heap.size W))
  replace SA := Lib.hid (SA.out.below (below_drew (Below.refl W.heap.size W)))
  replace SB := Lib.hid (SB.out.below (below_drew (Below.refl W.heap.size W)))
  replace V1 := V1.drew
  replace HB := below_drew HB
  generalize hWd : W.drew = wd at *
  refine wp_region_F (fun w' => w'.cell? ⟨w.heap.size, 0, none⟩ = some (.int .i64 md) ∧ w'.cell? ⟨w.heap.size, 1, none⟩ = some (.slice A1 n1 c1) ∧ w'.cell? ⟨w.heap.size, 2, none⟩ = some (.slice A2 n2 c2)) [11] (by kernel_rfl) (by rw [hWd]; exact ⟨V1.c0, V1.c1, V1.c2⟩) (fun hHeld => ?_)
  rw [hWd] at hHeld ⊢
  refine wpF_t (i := 0) (oi := { dst := some 3, op := Go.Op.fieldAddr 24 (Go.Operand.tmp 1) 0, type := 0, pos := "ref.go:35", after := #[], guard := none }) (v := ?_) rfl (by kernel_rfl) (fun _ _ _ h => h) (Or.inl ⟨by rfl, ?_⟩) hHeld ?_; rotate_left
  · intro w_ hSw_; (try dsimp only at hSw_); go_simp; (try with_reducible rfl)
  try go_frame
  refine wpF_t (i := 1) (oi := { dst := some 4, op := Go.Op.load 3 (Go.Operand.tmp 3), type := 3, pos := "ref.go:35", after := #[{ on := 0, ground := Go.Ground.data }], guard := none }) (v := ?_) rfl (by kernel_rfl) (fun _ _ _ h => h) (Or.inl ⟨by rfl, ?_⟩) hHeld ?_; rotate_left
  · intro w_ hSw_; (try dsimp only at hSw_); go_simp; (try with_reducible rfl)
  try go_frame
  refine wpF_t (i := 3) (oi := { dst := some 6, op := Go.Op.fieldAddr 24 (Go.Operand.tmp 1) 1, type := 0, pos := "ref.go:35", after := #[], guard := none }) (v := ?_) rfl (by kernel_rfl) (fun _ _ _ h => h) (Or.inl ⟨by rfl, ?_⟩) hHeld ?_; rotate_left
  · intro w_ hSw_; (try dsimp only at hSw_); go_simp; (try with_reducible rfl)
  try go_frame
  refine wpF_t (i := 4) (oi := { dst := some 7, op := Go.Op.load 22 (Go.Operand.tmp 6), type := 22, pos := "ref.go:35", after := #[{ on := 3, ground := Go.Ground.data }], guard := none }) (v := ?_) rfl (by kernel_rfl) (fun _ _ _ h => h) (Or.inl ⟨by rfl, ?_⟩) hHeld ?_; rotate_left
  · intro w_ hSw_; (try dsimp only at hSw_); go_simp; (try with_reducible rfl)
  try go_frame
  refine wpF_t (i := 7) (oi := { dst := some 10, op := Go.Op.fieldAddr 24 (Go.Operand.tmp 1) 2, type := 0, pos := "ref.go:35", after := #[], guard := none }) (v := ?_) rfl (by kernel_rfl) (fun _ _ _ h => h) (Or.inl ⟨by rfl, ?_⟩) hHeld ?_; rotate_left
  · intro w_ hSw_; (try dsimp only at hSw_); go_simp; (try with_reducible rfl)
  try go_frame
  refine wpF_t (i := 8) (oi := { dst := some 11, op := Go.Op.load 22 (Go.Operand.tmp 10), type := 22, pos := "ref.go:35", after := #[{ on := 7, ground := Go.Ground.data }], guard := none }) (v := ?_) rfl (by kernel_rfl) (fun _ _ _ h => h) (Or.inl ⟨by rfl, ?_⟩) hHeld ?_; rotate_left
  · intro w_ hSw_; (try dsimp only at hSw_); go_simp; (try with_reducible rfl)
  try go_frame
  refine wpAnyF_two (i := 2) (j := 6) (by kernel_rfl) rfl rfl (fun K hK => ?_) (fun K hK => ?_)
  · go_simp
    have hba := below_alloc (Below.refl wd.heap.size wd) (Obj.cells #[] 3)
    refine hK.out _ _ (by have V1 := V1.keep hba; exact ⟨V1.c0, V1.c1, V1.c2⟩) (fun hHeld => ?_)
    clear hK K
    try go_frame
    replace V1 := V1.keep hba; replace R3 := R3.keep hba; replace HB := below_step HB hba; replace SA := Lib.hid (SA.out.below hba); replace SB := Lib.hid (SB.out.below hba)
    clear hba
    generalize hWwa2 : wd.alloc (Obj.cells #[] 3) = wa2 at *
    generalize hbwa2 : wd.heap.size = b2 at *
    clear hWwa2 hbwa2
    refine wpAnyF_two (i := 5) (j := 6) (by kernel_rfl) rfl rfl (fun K hK => ?_) (fun K hK => ?_)
    · rw [if_pos (show Region.wanted _ _ = true from rfl)]
      refine op_app0 (ops := #[]) wa2 _ _ 22 3 .i64 8 b2 rfl Tryz.underlying22 info_int (by decide) (w.heap.size + 1) R3.lt _ _ _ _ E2.out SA.out (by have := RR.out.1; omega) rfl rfl ?_
      intro B5 d5 wb5 SL5 hb
      replace V1 := V1.keep hb; replace R3 := R3.keep hb; replace HB := below_step HB hb; replace SA := Lib.hid (SA.out.below hb); replace SB := Lib.hid (SB.out.below hb)
      clear hb
      refine hK.out _ _ (by exact ⟨V1.c0, V1.c1, V1.c2⟩) (fun hHeld => ?_)
      clear hK K
      try go_frame
      refine wpAnyF_one (i := 6) (by kernel_rfl) rfl (fun K hK => ?_)
      go_simp
      have hba := below_alloc (Below.refl wb5.heap.size wb5) (Obj.cells #[] 3)
      refine hK.out _ _ (by have V1 := V1.keep hba; exact ⟨V1.c0, V1.c1, V1.c2⟩) (fun hHeld => ?_)
      clear hK K
      try go_frame
      replace V1 := V1.keep hba; replace R3 := R3.keep hba; replace HB := below_step HB hba; replace SA := Lib.hid (SA.out.below hba); replace SB := Lib.hid (SB.out.below hba); replace SL5 := Lib.hid (SL5.out.below hba)
      clear hba
      generalize hWwa6 : wb5.alloc (Obj.cells #[] 3) = wa6 at *
      generalize hbwa6 : wb5.heap.size = b6 at *
      clear hWwa6 hbwa6
      refine wpAnyF_one (i := 9) (by kernel_rfl) rfl (fun K hK => ?_)
      rw [if_pos (show Region.wanted _ _ = true from rfl)]
      refine op_app0 (ops := #[]) wa6 _ _ 22 3 .i64 8 b6 rfl Tryz.underlying22 info_int (by decide) (w.heap.size + 1) R3.lt _ _ _ _ E3.out SB.out (by have := RR.out.2; omega) rfl rfl ?_
      intro B9 d9 wb9 SL9 hb
      replace V1 := V1.keep hb; replace R3 := R3.keep hb; replace HB := below_step HB hb; replace SA := Lib.hid (SA.out.below hb); replace SB := Lib.hid (SB.out.below hb); replace SL5 := Lib.hid (SL5.out.below hb)
      clear hb
      refine hK.out _ _ (by exact ⟨V1.c0, V1.c1, V1.c2⟩) (fun hHeld => ?_)
      clear hK K
      try go_frame
      refine wpF_t (i := 10) (oi := op6c8e74cb) (v := ?_) rfl (by kernel_rfl) (fun _ _ _ h => h) (Or.inl ⟨by rfl, ?_⟩) hHeld ?_; rotate_left
      · intro w_ hSw_; (try dsimp only at hSw_); go_simp; (try with_reducible rfl)
      try go_frame
      refine wpAnyF_st (i := 11) (by kernel_rfl) (by kernel_rfl) rfl (fun K hK => ?_)
      obtain ⟨u1, ⟨u21, u22, u23⟩, ⟨u31, u32, u33⟩, r0, r1, r2, f0, f1, f2, rl⟩ := R3
      dsimp only at r1 r2
      go_simp
      refine hK.out _ _ ?_
      clear hK K
      try go_frame
      refine wpAnyF_done (by kernel_rfl) ?_ _
      clear hHeld
      go_wp2
      refine bodyPost_ret (v := .agg #[.int .i64 md, .slice B5 n1 d5, .slice B9 n2 d9]) (by simp [results, Tryz.results9, go_sem, r0, r1, r2, rl]) rfl ⟨_, rfl, ?_, below_set3 HB (by omega) _ _ _⟩
      refine ⟨B5, d5, B9, d9, by rw [E1.out, E2.out, E3.out], SL5.out.set3 _ _ _, SL9.out.set3 _ _ _⟩
    · go_simp
      have hba := below_alloc (Below.refl wa2.heap.size wa2) (Obj.cells #[] 3)
      refine hK.out _ _ (by have V1 := V1.keep hba; exact ⟨V1.c0, V1.c1, V1.c2⟩) (fun hHeld => ?_)
      clear hK K
      try go_frame
      replace V1 := V1.keep hba; replace R3 := R3.keep hba; replace HB := below_step HB hba; replace SA := Lib.hid (SA.out.below hba); replace SB := Lib.hid (SB.out.below hba)
      clear hba
      generalize hWwa6 : wa2.alloc (Obj.cells #[] 3) = wa6 at *
      generalize hbwa6 : wa2.heap.size = b6 at *
      clear hWwa6 hbwa6
      refine wpAnyF_one (i := 5) (by kernel_rfl) rfl (fun K hK => ?_)
      rw [if_pos (show Region.wanted _ _ = true from rfl)]
      refine op_app0 (ops := #[]) wa6 _ _ 22 3 .i64 8 b2 rfl Tryz.underlying22 info_int (by decide) (w.heap.size + 1) R3.lt _ _ _ _ E2.out SA.out (by have := RR.out.1; omega) rfl rfl ?_
      intro B5 d5 wb5 SL5 hb
      replace V1 := V1.keep hb; replace R3 := R3.keep hb; replace HB := below_step HB hb; replace SA := Lib.hid (SA.out.below hb); replace SB := Lib.hid (SB.out.below hb)
      clear hb
      refine hK.out _ _ (by exact ⟨V1.c0, V1.c1, V1.c2⟩) (fun hHeld => ?_)
      clear hK K
      try go_frame
      refine wpAnyF_one (i := 9) (by kernel_rfl) rfl (fun K hK => ?_)
      rw [if_pos (show Region.wanted _ _ = true from rfl)]
      refine op_app0 (ops := #[]) wb5 _ _ 22 3 .i64 8 b6 rfl Tryz.underlying22 info_int (by decide) (w.heap.size + 1) R3.lt _ _ _ _ E3.out SB.out (by have := RR.out.2; omega) rfl rfl ?_
      intro B9 d9 wb9 SL9 hb
      replace V1 := V1.keep hb; replace R3 := R3.keep hb; replace HB := below_step HB hb; replace SA := Lib.hid (SA.out.below hb); replace SB := Lib.hid (SB.out.below hb); replace SL5 := Lib.hid (SL5.out.below hb)
      clear hb
      refine hK.out _ _ (by exact ⟨V1.c0, V1.c1, V1.c2⟩) (fun hHeld => ?_)
      clear hK K
      try go_frame
      refine wpF_t (i := 10) (oi := op6c8e74cb) (v := ?_) rfl (by kernel_rfl) (fun _ _ _ h => h) (Or.inl ⟨by rfl, ?_⟩) hHeld ?_; rotate_left
      · intro w_ hSw_; (try dsimp only at hSw_); go_simp; (try with_reducible rfl)
      try go_frame
      refine wpAnyF_st (i := 11) (by kernel_rfl) (by kernel_rfl) rfl (fun K hK => ?_)
      obtain ⟨u1, ⟨u21, u22, u23⟩, ⟨u31, u32, u33⟩, r0, r1, r2, f0, f1, f2, rl⟩ := R3
      dsimp only at r1 r2
      go_simp
      refine hK.out _ _ ?_
      clear hK K
      try go_frame
      refine wpAnyF_done (by kernel_rfl) ?_ _
      clear hHeld
      go_wp2
      refine bodyPost_ret (v := .agg #[.int .i64 md, .slice B5 n1 d5, .slice B9 n2 d9]) (by simp [results, Tryz.results9, go_sem, r0, r1, r2, rl]) rfl ⟨_, rfl, ?_, below_set3 HB (by omega) _ _ _⟩
      refine ⟨B5, d5, B9, d9, by rw [E1.out, E2.out, E3.out], SL5.out.set3 _ _ _, SL9.out.set3 _ _ _⟩
  · go_simp
    have hba := below_alloc (Below.refl wd.heap.size wd) (Obj.cells #[] 3)
    refine hK.out _ _ (by have V1 := V1.keep hba; exact ⟨V1.c0, V1.c1, V1.c2⟩) (fun hHeld => ?_)
    clear hK K
    try go_frame
    replace V1 := V1.keep hba; replace R3 := R3.keep hba; replace HB := below_step HB hba; replace SA := Lib.hid (SA.out.below hba); replace SB := Lib.hid (SB.out.below hba)
    clear hba
    generalize hWwa6 : wd.alloc (Obj.cells #[] 3) = wa6 at *
    generalize hbwa6 : wd.heap.size = b6 at *
    clear hWwa6 hbwa6
    refine wpAnyF_one (i := 2) (by kernel_rfl) rfl (fun K hK => ?_)
    go_simp
    have hba := below_alloc (Below.refl wa6.heap.size wa6) (Obj.cells #[] 3)
    refine hK.out _ _ (by have V1 := V1.keep hba; exact ⟨V1.c0, V1.c1, V1.c2⟩) (fun hHeld => ?_)
    clear hK K
    try go_frame
    replace V1 := V1.keep hba; replace R3 := R3.keep hba; replace HB := below_step HB hba; replace SA := Lib.hid (SA.out.below hba); replace SB := Lib.hid (SB.out.below hba)
    clear hba
    generalize hWwa2 : wa6.alloc (Obj.cells #[] 3) = wa2 at *
    generalize hbwa2 : wa6.heap.size = b2 at *
    clear hWwa2 hbwa2
    refine wpAnyF_one (i := 5) (by kernel_rfl) rfl (fun K hK => ?_)
    rw [if_pos (show Region.wanted _ _ = true from rfl)]
    refine op_app0 (ops := #[]) wa2 _ _ 22 3 .i64 8 b2 rfl Tryz.underlying22 info_int (by decide) (w.heap.size + 1) R3.lt _ _ _ _ E2.out SA.out (by have := RR.out.1; omega) rfl rfl ?_
    intro B5 d5 wb5 SL5 hb
    replace V1 := V1.keep hb; replace R3 := R3.keep hb; replace HB := below_step HB hb; replace SA := Lib.hid (SA.out.below hb); replace SB := Lib.hid (SB.out.below hb)
    clear hb
    refine hK.out _ _ (by exact ⟨V1.c0, V1.c1, V1.c2⟩) (fun hHeld => ?_)
    clear hK K
    try go_frame
    refine wpAnyF_one (i := 9) (by kernel_rfl) rfl (fun K hK => ?_)
    rw [if_pos (show Region.wanted _ _ = true from rfl)]
    refine op_app0 (ops := #[]) wb5 _ _ 22 3 .i64 8 b6 rfl Tryz.underlying22 info_int (by decide) (w.heap.size + 1) R3.lt _ _ _ _ E3.out SB.out (by have := RR.out.2; omega) rfl rfl ?_
    intro B9 d9 wb9 SL9 hb
    replace V1 := V1.keep hb; replace R3 := R3.keep hb; replace HB := below_step HB hb; replace SA := Lib.hid (SA.out.below hb); replace SB := Lib.hid (SB.out.below hb); replace SL5 := Lib.hid (SL5.out.below hb)
    clear hb
    refine hK.out _ _ (by exact ⟨V1.c0, V1.c1, V1.c2⟩) (fun hHeld => ?_)
    clear hK K
    try go_frame
    refine wpF_t (i := 10) (oi := op6c8e74cb) (v := ?_) rfl (by kernel_rfl) (fun _ _ _ h => h) (Or.inl ⟨by rfl, ?_⟩) hHeld ?_; rotate_left
    · intro w_ hSw_; (try dsimp only at hSw_); go_simp; (try with_reducible rfl)
    try go_frame
    refine wpAnyF_st (i := 11) (by kernel_rfl) (by kernel_rfl) rfl (fun K hK => ?_)
    obtain ⟨u1, ⟨u21, u22, u23⟩, ⟨u31, u32, u33⟩, r0, r1, r2, f0, f1, f2, rl⟩ := R3
    dsimp only at r1 r2
    go_simp
    refine hK.out _ _ ?_
    clear hK K
    try go_frame
    refine wpAnyF_done (by kernel_rfl) ?_ _
    clear hHeld
    go_wp2
    refine bodyPost_ret (v := .agg #[.int .i64 md, .slice B5 n1 d5, .slice B9 n2 d9]) (by simp [results, Tryz.results9, go_sem, r0, r1, r2, rl]) rfl ⟨_, rfl, ?_, below_set3 HB (by omega) _ _ _⟩
    refine ⟨B5, d5, B9, d9, by rw [E1.out, E2.out, E3.out], SL5.out.set3 _ _ _, SL9.out.set3 _ _ _⟩
end Go.Proofs.YtiaeeclmlchpoaaGreatDoor
