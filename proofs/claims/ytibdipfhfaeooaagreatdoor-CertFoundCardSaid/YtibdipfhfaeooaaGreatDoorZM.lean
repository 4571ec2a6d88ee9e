/- slices.SortFunc of a certificate's loops: the same loops, their least numbers rising. No condition but where the row lies. -/
import Derived.Test.YtibdipfhfaeooaaGreatDoorZK
import Derived.Test.YtibdipfhfaeooaaGreatDoorZL
import Derived.Shelf.SlSortCmp.WholeK
import Derived.Shelf.SlSortCmp.NoneTotal
import Derived.Lib.OwnBridge
import Derived.Maps.RangeWalk
import Derived.Test.YtibdipfhfaeooaaGreatDoorZG
import Derived.Test.YtibdipfhfaeooaaGreatDoorZD
set_option linter.unusedVariables false
set_option linter.unusedSimpArgs false
namespace Go.Proofs.YtibdipfhfaeooaaGreatDoor
open Go.RowKit Go.Shelf Go.Lib Go.Sort

theorem flat_len {α : Type} (enc : α → List Value) (k : Nat) (hk : ∀ x, (enc x).length = k) : ∀ l : List α, (l.flatMap enc).length = l.length * k
 | [] => by simp
 | a :: l => by rw [List.flatMap_cons, List.length_append, flat_len enc k hk l, hk, List.length_cons, Nat.add_mul, Nat.one_mul, Nat.add_comm]
section
variable {α : Type} [Inhabited α]
theorem flat_get (enc : α → List Value) (k : Nat) (hk : ∀ x, (enc x).length = k) : ∀ (l : List α) (t : Nat), t < l.length * k → (l.flatMap enc)[t]? = some (enc l[t / k]!)[t % k]!
 | [], t, h => by simp at h
 | a :: l, t, h => by
  have k0 : 0 < k := by
   rcases Nat.eq_zero_or_pos k with e | e
   ·subst e; simp at h
   ·exact e
  rw [List.flatMap_cons]
  rcases Nat.lt_or_ge t k with h1 | h1
  ·rw [List.getElem?_append_left (by rw [hk]; exact h1), Nat.div_eq_of_lt h1, Nat.mod_eq_of_lt h1]
   have h2 : t < (enc a).length := by rw [hk]; exact h1
   simp [h2]
  ·obtain ⟨u, rfl⟩ : ∃ u, t = u + k := ⟨t - k, by omega⟩
   rw [List.getElem?_append_right (by rw [hk]; omega), hk, Nat.add_sub_cancel, Nat.add_div_right _ k0, Nat.add_mod_right]
   rw [flat_get enc k hk l u (by rw [List.length_cons, Nat.add_mul, Nat.one_mul] at h; omega)]
   simp
theorem flat_eq (enc : α → List Value) (k : Nat) (hk : ∀ x, (enc x).length = k) (d : Array α) : (flatK enc k d).toList = d.toList.flatMap enc := by
 have hl := flat_len enc k hk d.toList
 apply List.ext_getElem?
 intro t
 by_cases h : t < d.size * k
 ·rw [flat_get enc k hk d.toList t (by simpa using h), Array.getElem?_toList, Array.getElem?_eq_getElem (by simpa using h)]
  have h2 := get_flatK enc k d t h
  rw [getElem!_pos (flatK enc k d) t (by simpa using h)] at h2
  have e : d.toList[t / k]! = d[t / k]! := by simp [Array.getElem!_eq_getD, Array.getD_eq_getD_getElem?]
  rw [h2, e]
 ·rw [List.getElem?_eq_none (by simpa using h), List.getElem?_eq_none (by rw [hl]; simpa using h)]
/-- A row that the cells hold. -/
theorem holdsK_cells {w : World} {g : Nat} {cur : Array Value} {e : TypeId} (enc : α → List Value) (k : Nat) (hk : ∀ x, (enc x).length = k) (d : Array α) (hb : w.heap[g]? = some (.cells cur e (0, 0))) (ht : cur.toList.take (d.size * k) = d.toList.flatMap enc) : HoldsK enc k w g 0 d := by
 intro j hj
 have hj' : j < d.size * k := by simpa using hj
 refine ⟨?_, by simp [World.frozen?, hb]⟩
 have h1 : (cur.toList.take (d.size * k))[j]? = (flatK enc k d).toList[j]? := by rw [ht, flat_eq enc k hk]
 rw [List.getElem?_take_of_lt hj'] at h1
 simp only [World.cell?, hb, Nat.zero_add]
 simp only [Option.isSome_none, Bool.false_eq_true, if_false]
 rw [← Array.getElem?_toList, h1, Array.getElem?_toList, Array.getElem?_eq_getElem hj, getElem!_pos _ j hj]
 rfl
theorem heap_sortedK {w : World} {g n : Nat} {os : Array Obj} {cur : Array Value} {e : TypeId} {fr : Nat × Nat} (enc : α → List Value) (k : Nat) (d : Array α) (hb : w.heap[g]? = some (.cells cur e fr)) :
  (sortWorldK enc k w g 0 n d os).heap[g]? = some (.cells (putCells id 0 (flatK enc k d) cur) e fr) := by
 have hg : g < w.heap.size := (Array.getElem?_eq_some_iff.1 hb).1
 unfold sortWorldK
 rw [Go.Sort.heap_grow_old _ _ (by simpa [putRowK, putRow, mapBlock, Sort.ahead] using hg)]
 simp [putRowK, putRow, mapBlock, Sort.ahead, Array.getElem?_modify, hb, onCells]
theorem below_sortedK {B : Nat} {w : World} {g n : Nat} {os : Array Obj} (enc : α → List Value) (k : Nat) (d : Array α) (hg : B ≤ g) (hB : B ≤ w.heap.size) : Below B w (sortWorldK enc k w g 0 n d os) := by
 refine ⟨rfl, rfl, rfl, by simp [sortWorldK, putRowK, putRow, mapBlock, Sort.ahead, grow], fun i hi => ?_⟩
 unfold sortWorldK
 rw [Go.Sort.heap_grow_old _ _ (by simp [putRowK, putRow, mapBlock, Sort.ahead]; omega)]
 have : g ≠ i := by omega
 simp [putRowK, putRow, mapBlock, Sort.ahead, Array.getElem?_modify, this]
theorem take_sortedK (cur : Array Value) (enc : α → List Value) (k : Nat) (hk : ∀ x, (enc x).length = k) (d : Array α) (h : d.size * k ≤ cur.size) : (putCells id 0 (flatK enc k d) cur).toList.take (d.size * k) = d.toList.flatMap enc := by
 rw [← flat_eq enc k hk]
 apply List.ext_getElem?
 intro j
 by_cases hj : j < d.size * k
 ·rw [List.getElem?_take_of_lt hj, Array.getElem?_toList, Array.getElem?_toList, Array.getElem?_eq_getElem (xs := flatK enc k d) (by simpa using hj), Array.getElem?_eq_getElem (xs := putCells id 0 (flatK enc k d) cur) (by simp [putCells]; omega)]
  have h3 : (flatK enc k d)[j]! = (flatK enc k d)[j]'(by simpa using hj) := getElem!_pos _ j (by simpa using hj)
  simp [putCells, hj, show j < cur.size by omega, h3]
 ·rw [List.getElem?_take_eq_none (by omega), List.getElem?_eq_none (by simp; omega)]
end

theorem perm_mapK {α β : Type} [Inhabited α] {d d' : Array α} (h : PermIn 0 d.size d d') (f : α → β) : (d.toList.map f).Perm (d'.toList.map f) := by
 have h1 := h.2.2
 rw [Array.extract_size, ← h.1, Array.extract_size] at h1
 exact (h1.map f).symm
theorem heap_sorted_ne {α : Type} [Inhabited α] {w : World} {g n : Nat} {os : Array Obj} (enc : α → List Value) (k : Nat) (d : Array α) {i : Nat} (hi : i < w.heap.size) (hne : i ≠ g) : (sortWorldK enc k w g 0 n d os).heap[i]? = w.heap[i]? := by
 unfold sortWorldK
 rw [Go.Sort.heap_grow_old _ _ (by simp [putRowK, putRow, mapBlock, Sort.ahead]; omega)]
 have : g ≠ i := fun e => hne e.symm
 simp [putRowK, putRow, mapBlock, Sort.ahead, Array.getElem?_modify, this]
theorem lsS_sorted {α : Type} [Inhabited α] {w : World} {g n : Nat} {os : Array Obj} (enc : α → List Value) (k : Nat) (d : Array α) {A : Option Addr} {c : Nat} {l : List ByteArray} (h : LsS w A c l) (hg : g < w.heap.size) (ho : ∀ b o q, A = some ⟨b, o, q⟩ → b ≠ g) : LsS (sortWorldK enc k w g 0 n d os) A c l := by
 obtain ⟨⟨h0, h1⟩, h2⟩ := h
 refine ⟨⟨h0, fun hn => ?_⟩, h2⟩
 obtain ⟨b, off, e, hl, hc⟩ := h1 hn
 have hs := (below_sortedK (B := 0) (w := w) (g := g) (n := n) (os := os) enc k d (Nat.zero_le _) (Nat.zero_le _)).size
 exact ⟨b, off, e, Nat.lt_of_lt_of_le hl hs, fun j u hu => (World.cell?_of_block (heap_sorted_ne enc k d hl (ho b off none e))).trans (hc j u hu)⟩
set_option maxRecDepth 100000 in
set_option maxHeartbeats 4000000 in
/-- How loops are compared. -/
theorem loopCmp_c (x y : List Int) (A1 A2 : Option Addr) (c1 c2 : Nat) (w : World) (h1 : LsS w A1 c1 (x.map tS)) (h2 : LsS w A2 c2 (y.map tS)) (l1 : 0 < x.length) (l2 : 0 < y.length) (d1 : dlN (gd x 0).natAbs ≤ 2000) (d2 : dlN (gd y 0).natAbs ≤ 2000) :
  Calls Tryz.prog 110 #[.agg #[.slice A1 x.length c1], .agg #[.slice A2 y.length c2]] w fun e w' => e = .returned (.int .i64 (icmp (gd x 0) (gd y 0))) ∧ E.Below w.heap.size w w' := by
 obtain ⟨b1, o1, rfl, C1⟩ := h1.head l1
 obtain ⟨b2, o2, rfl, C2⟩ := h2.head l2
 have D1 := Lib.hid d1
 have D2 := Lib.hid d2
 have l1' : (0 : Int) < (x.length : Int) := by omega
 have l2' : (0 : Int) < (y.length : Int) := by omega
 clear h1 h2 d1 d2
 go_enter Tryz.func110, Tryz.ntmps110
 go_wp2_with fail
 generalize hW : (w.alloc (Obj.cells #[Value.slice (some ⟨b1, o1, none⟩) x.length c1] 45)).alloc _ = W
 have HBW : E.Below w.heap.size w W := by subst hW; exact E.below_alloc (E.below_alloc (E.Below.refl _ _) _) _
 have C3 : CL W w.heap.size 0 (.slice (some ⟨b1, o1, none⟩) x.length c1) := by subst hW; exact (CL.new1 w 45 _).keep (below_alloc (Below.refl _ _) _)
 have C4 : CL W (w.heap.size + 1) 0 (.slice (some ⟨b2, o2, none⟩) y.length c2) := by
  subst hW
  have := CL.new1 (w.alloc (Obj.cells #[Value.slice (some ⟨b1, o1, none⟩) x.length c1] 45)) 45 (.slice (some ⟨b2, o2, none⟩) y.length c2)
  rwa [show (w.alloc (Obj.cells #[Value.slice (some ⟨b1, o1, none⟩) x.length c1] 45)).heap.size = w.heap.size + 1 by simp] at this
 clear hW
 replace C1 := (C1.keep HBW.toBelow).drew
 replace C2 := (C2.keep HBW.toBelow).drew
 replace C3 := C3.drew
 replace C4 := C4.drew
 replace HBW := E.below_drew HBW
 generalize hWd : W.drew = wd at *
 refine wp_region_F (fun w' => w'.cell? ⟨w.heap.size, 0, none⟩ = some (.slice (some ⟨b1, o1, none⟩) x.length c1) ∧ w'.cell? ⟨w.heap.size + 1, 0, none⟩ = some (.slice (some ⟨b2, o2, none⟩) y.length c2) ∧ w'.cell? ⟨b1, o1, none⟩ = some (.string (tS (gd x 0))) ∧ w'.cell? ⟨b2, o2, none⟩ = some (.string (tS (gd y 0)))) [] (by kernel_rfl) (by rw [hWd]; exact ⟨C3.c, C4.c, C1.c, C2.c⟩) (fun hHeld => ?_)
 rw [hWd] at hHeld ⊢
 refine tF 0 ({ dst := some 5, op := Go.Op.fieldAddr 45 (Go.Operand.tmp 2) 0, type := 0, pos := "cert.go:97", after := #[], guard := none }) hHeld ?_; try go_frame
 refine tF 1 ({ dst := some 6, op := Go.Op.load 43 (Go.Operand.tmp 5), type := 43, pos := "cert.go:97", after := #[{ on := 0, ground := Go.Ground.data }], guard := none }) hHeld ?_; try go_frame
 refine tF 2 ({ dst := some 7, op := Go.Op.indexAddr 43 (Go.Operand.tmp 6) (Go.Operand.const (Go.Value.int Go.IntKind.i64 0)), type := 0, pos := "cert.go:97", after := #[{ on := 1, ground := Go.Ground.data }], guard := none }) hHeld ?_; try go_frame
 refine tF 3 ({ dst := some 8, op := Go.Op.load 9 (Go.Operand.tmp 7), type := 9, pos := "cert.go:97", after := #[{ on := 2, ground := Go.Ground.data }], guard := none }) hHeld ?_; try go_frame
 refine tF 4 ({ dst := some 9, op := Go.Op.fieldAddr 45 (Go.Operand.tmp 3) 0, type := 0, pos := "cert.go:97", after := #[], guard := none }) hHeld ?_; try go_frame
 refine tF 5 ({ dst := some 10, op := Go.Op.load 43 (Go.Operand.tmp 9), type := 43, pos := "cert.go:97", after := #[{ on := 4, ground := Go.Ground.data }], guard := none }) hHeld ?_; try go_frame
 refine tF 6 ({ dst := some 11, op := Go.Op.indexAddr 43 (Go.Operand.tmp 10) (Go.Operand.const (Go.Value.int Go.IntKind.i64 0)), type := 0, pos := "cert.go:97", after := #[{ on := 5, ground := Go.Ground.data }], guard := none }) hHeld ?_; try go_frame
 refine tF 7 ({ dst := some 12, op := Go.Op.load 9 (Go.Operand.tmp 11), type := 9, pos := "cert.go:97", after := #[{ on := 6, ground := Go.Ground.data }], guard := none }) hHeld ?_; try go_frame
 refine wpAnyF_one (i := 8) (by kernel_rfl) rfl (fun K hK => ?_)
 go_simp
 (go_at_call 111; (with_reducible refine (E.compare9_c (gd x 0) (gd y 0) _ D1.out D2.out).mono ?_); rintro e w5 ⟨rfl, hb⟩; replace C1 := C1.keep hb.toBelow; replace C2 := C2.keep hb.toBelow; replace C3 := C3.keep hb.toBelow; replace C4 := C4.keep hb.toBelow; replace HBW := E.below_step HBW hb; clear hb)
 refine hK.out _ _ (by exact ⟨C3.c, C4.c, C1.c, C2.c⟩) (fun hHeld => ?_)
 clear hK K
 try go_frame
 refine tF 9 ({ dst := some 4, op := Go.Op.assign (Go.Operand.tmp 13), type := 3, pos := "cert.go:97", after := #[{ on := 8, ground := Go.Ground.data }, { on := 8, ground := Go.Ground.chain }, { on := 0, ground := Go.Ground.phase }, { on := 1, ground := Go.Ground.phase }, { on := 2, ground := Go.Ground.phase }, { on := 3, ground := Go.Ground.phase }, { on := 4, ground := Go.Ground.phase }, { on := 5, ground := Go.Ground.phase }, { on := 6, ground := Go.Ground.phase }, { on := 7, ground := Go.Ground.phase }, { on := 8, ground := Go.Ground.phase }], guard := none }) hHeld ?_; try go_frame
 refine wpAnyF_done (by kernel_rfl) ?_ _
 clear hHeld hWd
 go_wp2
 go_ret
 exact ⟨rfl, HBW⟩
/-- A loop whose strings read as they should. -/
abbrev LTI (w0 : World) (g : Nat) := {x : LT // LsS w0 x.1 x.2.1 (x.2.2.map tS) ∧ (∀ b o q, x.1 = some ⟨b, o, q⟩ → b ≠ g) ∧ 0 < x.2.2.length ∧ dlN (gd x.2.2 0).natAbs ≤ 2000}
def lpE {w0 : World} {g : Nat} (x : LTI w0 g) : List Value := [.slice x.1.1 x.1.2.2.length x.1.2.1]
def lpC {w0 : World} {g : Nat} (x y : LTI w0 g) : Int := icmp (gd x.1.2.2 0) (gd y.1.2.2 0)
theorem lpC_lt {w0 : World} {g : Nat} (x y : LTI w0 g) : ltOf lpC x y = decide (gd x.1.2.2 0 < gd y.1.2.2 0) := by
 unfold ltOf lpC icmp
 by_cases h1 : gd x.1.2.2 0 < gd y.1.2.2 0
 ·simp [h1]
 ·by_cases h2 : gd y.1.2.2 0 < gd x.1.2.2 0 <;> simp [h1, h2]
theorem lpC_swo (w0 : World) (g : Nat) : SWO (ltOf (lpC (w0 := w0) (g := g))) where
 irrefl x := by rw [lpC_lt]; simp
 trans x y z h1 h2 := by rw [lpC_lt] at *; simp at *; omega
 ntrans x y z h1 h2 := by rw [lpC_lt] at *; simp at *; omega
theorem sorted_pairL {w0 : World} {g : Nat} [Inhabited (LTI w0 g)] {d : Array (LTI w0 g)} {n : Nat} (hn : d.size = n) (h : SortedIn (ltOf lpC) 0 n d) : (d.toList.map fun x => x.1).Pairwise (fun p q => gd p.2.2 0 ≤ gd q.2.2 0) := by
 rw [List.pairwise_map, List.pairwise_iff_getElem]
 intro i j hi hj hij
 have h1 := h i j (Nat.zero_le _) hij (by simpa [hn] using hj)
 rw [lpC_lt, getElem!_pos d j (by simpa using hj), getElem!_pos d i (by simpa using hi)] at h1
 simp at h1 ⊢
 omega
theorem flat_ltsC {w0 : World} {g : Nat} : ∀ l : List (LTI w0 g), l.flatMap lpE = ltsC (l.map fun x => x.1)
 | [] => rfl
 | a :: l => by rw [List.flatMap_cons, flat_ltsC l]; rfl
theorem sortL_c (W : World) (base : Nat) (v : Value) (L : List LT) (HO : LpR W base v L) (hbase : base ≤ W.heap.size)
  (hI : ∀ x, x ∈ L → 0 < x.2.2.length ∧ dlN (gd x.2.2 0).natAbs ≤ 2000) (hn : L.length < 4611686018427387904) :
  Calls Tryz.prog 109 #[v, .func (.func 110) #[] #[]] W fun e w' => e = .returned (.tuple #[]) ∧ ∃ L' : List LT, L.Perm L' ∧ L'.Pairwise (fun p q => gd p.2.2 0 ≤ gd q.2.2 0) ∧ (∃ A c, v = .slice A L'.length c ∧ LsL w' A c (L'.map fun x => x.2.2)) ∧ Below base W w' := by
 have HO1 : W.ownsRow base 45 1 v L.length (ltsC L) := HO.own.1
 by_cases h0 : L = []
 ·subst h0
  obtain ⟨A, c, e, hl⟩ := HO.form
  subst e
  have hcon := AnyF.slices_SortFunc_none Tryz.srtF A c (.func (.func 110) #[] #[]) W
  refine (show Calls Tryz.prog 109 _ _ _ from hcon).mono ?_
  rintro e w' ⟨rfl, rfl⟩
  exact ⟨rfl, [], .refl _, .nil, ⟨A, c, rfl, hl⟩, .refl _ _⟩
 ·rcases HO1.2 with ⟨-, h1⟩ | ⟨g, cap, cur, rfl, hb, hg, hnc, hm, hs, ht⟩
  ·exact absurd (List.eq_nil_of_length_eq_zero h1) h0
  ·have hkc : ∀ x : LTI W g, (lpE x).length = 1 := fun _ => rfl
   have hI2 : ∀ x, x ∈ L → LsS W x.1 x.2.1 (x.2.2.map tS) ∧ (∀ b o q, x.1 = some ⟨b, o, q⟩ → b ≠ g) ∧ 0 < x.2.2.length ∧ dlN (gd x.2.2 0).natAbs ≤ 2000 := fun x hx =>
    ⟨(HO.el x hx).1, fun b o q e e2 => ((HO.el x hx).2 b o q e).1 g rfl e2.symm, hI x hx⟩
   obtain ⟨x0, hx0⟩ := List.exists_mem_of_ne_nil L h0
   haveI : Inhabited (LTI W g) := ⟨⟨x0, hI2 x0 hx0⟩⟩
   obtain ⟨l, hl⟩ : ∃ l : List (LTI W g), l.map (fun x => x.1) = L := ⟨L.attach.map fun x => ⟨x.1, hI2 x.1 x.2⟩, by rw [List.map_map]; exact List.attach_map_subtype_val L⟩
   have hll : l.length = L.length := by rw [← hl, List.length_map]
   have hds : l.toArray.size = L.length := by simpa using hll
   have hgl : g < W.heap.size := (Array.getElem?_eq_some_iff.1 hg).1
   have hH : HoldsK (lpE (w0 := W) (g := g)) 1 W g 0 l.toArray := holdsK_cells (lpE (w0 := W) (g := g)) 1 hkc l.toArray hg (by rw [hds, ht]; show _ = l.flatMap lpE; rw [flat_ltsC, hl])
   have hone : ∀ x : LTI W g, ∀ u ∈ lpE x, u.oneCell' = true := fun x u hu => by
    simp [lpE] at hu
    subst hu
    rfl
   have hcmp : CmpLays Tryz.prog 110 #[] (lpE (w0 := W) (g := g)) 1 lpC g 0 l.toArray.size W := fun m os dk hdk x y => by
    have h1 := lsS_sorted (n := m) (os := os) (lpE (w0 := W) (g := g)) 1 dk x.2.1 hgl x.2.2.1
    have h2 := lsS_sorted (n := m) (os := os) (lpE (w0 := W) (g := g)) 1 dk y.2.1 hgl y.2.2.1
    exact (loopCmp_c _ _ _ _ _ _ _ h1 h2 x.2.2.2.1 y.2.2.2.1 x.2.2.2.2 y.2.2.2.2).mono fun e w' ⟨he, hb⟩ => ⟨he, hb.grow⟩
   have eg : ∀ args w, (callFunc 110 args).run Tryz.prog w = .ok (.enter 110 args) w := enters_of Tryz.func110 (by kernel_rfl) rfl
   have hcon := AnyQ.slices_SortFunc Tryz.srtF 1 (fun w => by kernel_rfl) (fun w => by kernel_rfl) lpE hkc hone lpC (lpC_swo W g) 110 #[] g 0 cap l.toArray W eg hcmp hH hgl (by rw [hds]; exact hn)
   rw [hds] at hcon
   refine (show Calls Tryz.prog 109 _ _ _ from hcon).mono ?_
   rintro e w' ⟨rfl, d', n, os, hp, hsd, rfl⟩
   have hd' : d'.size = L.length := by rw [hp.1, hds]
   have hperm : L.Perm (d'.toList.map fun x => x.1) := by
    have := perm_mapK (hds ▸ hp) (fun x : LTI W g => x.1)
    rw [← hl]
    simpa using this
   refine ⟨rfl, d'.toList.map (fun x => x.1), hperm, sorted_pairL (w0 := W) (g := g) (d := d') hd' hsd, ⟨some ⟨g, 0, none⟩, cap, by simp [hd'], ?_⟩, below_sortedK (lpE (w0 := W) (g := g)) 1 d' hb hbase⟩
   have hcur := heap_sortedK (n := n) (os := os) (lpE (w0 := W) (g := g)) 1 d' hg
   have hsz := (below_sortedK (B := 0) (w := W) (g := g) (n := n) (os := os) (lpE (w0 := W) (g := g)) 1 d' (Nat.zero_le _) (Nat.zero_le _)).size
   refine lsl_of (W := sortWorldK (lpE (w0 := W) (g := g)) 1 W g 0 n d' os) (L := d'.toList.map fun x => x.1) ⟨by rw [List.length_map, Array.length_toList, hd']; exact hnc, by simp only [maxLen] at hm; omega⟩ (Nat.lt_of_lt_of_le hgl hsz) (fun j u hu => ?_) fun x hx => ?_
   ·have htk := take_sortedK cur (lpE (w0 := W) (g := g)) 1 hkc d' (by rw [hd', hs]; exact Nat.mul_le_mul_right 1 hnc)
    rw [flat_ltsC] at htk
    rw [← htk] at hu
    obtain ⟨h3, h4⟩ := List.getElem?_eq_some_iff.1 hu
    have h5 : (putCells id 0 (flatK (lpE (w0 := W) (g := g)) 1 d') cur)[j]? = some u := by
     rw [List.getElem?_take_of_lt (by rw [List.length_take] at h3; omega)] at hu
     rwa [Array.getElem?_toList] at hu
    simp only [World.cell?, hcur, Nat.zero_add]
    simpa using h5
   ·obtain ⟨y, hy, rfl⟩ := List.mem_map.1 hx
    exact lsS_sorted (lpE (w0 := W) (g := g)) 1 d' y.2.1 hgl y.2.2.1
end Go.Proofs.YtibdipfhfaeooaaGreatDoor


set_option linter.unusedVariables false
set_option linter.unusedSimpArgs false
namespace Go.Proofs.YtibdipfhfaeooaaGreatDoor

/-- The cycles to which the numbers up to a bound come, the least numbers rising. -/
structure FoundL (M : Mp) (T : Int) (ls : List (List Int)) : Prop where
 each : ∀ i, i < ls.length → ∃ n : Nat, (n : Int) ≤ T ∧ lpi ls i = (flwA M 20001 [] (n : Int)).2.2
 all : ∀ n : Nat, (n : Int) ≤ T → ∃ i, i < ls.length ∧ gd (lpi ls i) 0 = gd (flwA M 20001 [] (n : Int)).2.2 0
 incr : ∀ i, i + 1 < ls.length → gd (lpi ls i) 0 < gd (lpi ls (i + 1)) 0
section
variable {M : Mp} {z : Int} {t L : Nat}
theorem per_low (hL : 0 < L) (h : itZ M z (t + L) = itZ M z t) {j : Nat} (hj : t ≤ j) : itZ M z j = itZ M z (t + (j - t) % L) := by
 have := per_mod (f := itZ M z) hL (it_per h) (j - t)
 rw [show t + (j - t) = j by omega] at this
 exact this.symm
/-- Less than a period apart the numbers differ. -/
theorem per_dist (hL : 0 < L) (h : itZ M z (t + L) = itZ M z t) (hd : ∀ i j, i < j → j < t + L → itZ M z i ≠ itZ M z j) {a b : Nat} (ha : t ≤ a) (hab : a < b) (hb : b < a + L) : itZ M z a ≠ itZ M z b := by
 rw [per_low hL h ha, per_low hL h (show t ≤ b by omega)]
 have h1 := Nat.mod_lt (a - t) hL
 have h2 := Nat.mod_lt (b - t) hL
 have hne : (a - t) % L ≠ (b - t) % L := by
  intro e
  have h3 := Nat.div_add_mod (a - t) L
  have h4 := Nat.div_add_mod (b - t) L
  rw [e] at h3
  have h5 : L * ((b - t) / L) = L * ((a - t) / L) + (b - a) := by omega
  have h6 : L * ((a - t) / L) < L * ((b - t) / L) := by omega
  have h7 : (a - t) / L < (b - t) / L := Nat.lt_of_mul_lt_mul_left h6
  have h8 : L * ((a - t) / L + 1) ≤ L * ((b - t) / L) := Nat.mul_le_mul_left L h7
  rw [Nat.mul_add, Nat.mul_one] at h8
  omega
 rcases Nat.lt_or_gt_of_ne hne with h3 | h3
 ·exact hd _ _ (by omega) (by omega)
 ·exact fun e => hd _ _ (show t + (b - t) % L < t + (a - t) % L by omega) (by omega) e.symm
end
section
variable {M : Mp} {K : Nat} {B : Int} {ls : List (List Int)}
/-- The cycle of a number that is not negative is a loop, if it is not too long. -/
theorem loop_of_flw (hok : okM M) (hr : Rise M) {n : Nat} {most : Nat} (h : (flwA M (most + 1) [] (n : Int)).1 = 0) (hl : (flwA M (most + 1) [] (n : Int)).2.2.length ≤ 1000) : LoopOK M (flwA M (most + 1) [] (n : Int)).2.2 := by
 obtain ⟨t, s, L, e, hL, hm, hs1, hs2, hf, hp, hd, hle⟩ := flw_orbit h
 rw [e] at hl ⊢
 dsimp only at hl ⊢
 have hlen : ((List.range L).map fun i => itZ M (n : Int) (s + i)).length = L := by simp
 have hg : ∀ i, i < L → gd ((List.range L).map fun i => itZ M (n : Int) (s + i)) i = itZ M (n : Int) (s + i) := fun i hi => gd_range _ _ hi
 refine ⟨by rw [hlen]; exact hL, hl, ?_, fun i hi => ?_, fun i hi => ?_, fun i j hij hj => ?_, fun i hi => ?_⟩
 ·rw [hg 0 hL]; exact it_nn hok hr (by omega) _
 ·rw [hlen] at hi; rw [hg i hi]; exact hf _
 ·rw [hlen] at hi ⊢
  rw [hg i hi, hg _ (Nat.mod_lt _ hL)]
  show itZ M (n : Int) (s + i + 1) = _
  rw [per_low hL hp (show t ≤ s + i + 1 by omega), per_low hL hp (show t ≤ s + (i + 1) % L by omega)]
  congr 2
  rw [show s + i + 1 - t = (s - t) + (i + 1) by omega, show s + (i + 1) % L - t = (s - t) + (i + 1) % L by omega, Nat.add_mod_mod]
 ·rw [hlen] at hj
  rw [hg i (by omega), hg j hj]
  exact per_dist hL hp hd (by omega) (by omega) (by omega)
 ·rw [hlen] at hi
  rw [hg 0 hL, hg i hi, Nat.add_zero]
  exact hle _ (by omega)
/-- The cycles are no longer than the loops of the certificate. -/
theorem Acc.len (h : Acc M K B ls) (hok : okM M) {n : Nat} (hn : (n : Int) ≤ B) : (flwA M 20001 [] (n : Int)).2.2.length ≤ 1000 := by
 obtain ⟨h1, i, hi, h2⟩ := h.come n hn
 obtain ⟨t, s, L, e, hL, hm, hs1, hs2, -, hp, hd, -⟩ := flw_orbit (most := 20000) h1
 rw [e] at h2 ⊢
 dsimp only at h2 ⊢
 rw [gd_range _ _ hL, Nat.add_zero] at h2
 have hl := h.loops.1 i hi
 have h3 := hl.it hl.len0 (lpi ls i).length
 rw [Nat.zero_add, Nat.mod_self, h2, itZ_add] at h3
 have h4 : L ≤ (lpi ls i).length := by
  rcases Nat.lt_or_ge (lpi ls i).length L with h5 | h5
  ·exact absurd h3.symm (per_dist hL hp hd hs1 (by have := hl.len0; omega) (by omega))
  ·exact h5
 have := hl.len1
 simp
 omega
end
end Go.Proofs.YtibdipfhfaeooaaGreatDoor


set_option linter.unusedVariables false
set_option linter.unusedSimpArgs false
namespace Go.Proofs.YtibdipfhfaeooaaGreatDoor

/-- A number comes to a cycle that is not too long. -/
def Fine (M : Mp) (k : Nat) : Prop := (flwA M 20001 [] (k : Int)).1 = 0 ∧ (flwA M 20001 [] (k : Int)).2.2.length ≤ 1000
def cyc (M : Mp) (k : Nat) : List Int := (flwA M 20001 [] (k : Int)).2.2
theorem Fine.pos {M : Mp} {k : Nat} (h : Fine M k) : 0 < (cyc M k).length ∧ ∀ x, x ∈ cyc M k → dl x ≤ 2000 := by
 unfold cyc
 obtain ⟨t, s, L, e, hL, -, -, -, hf, -⟩ := flw_orbit (n := (k : Int)) (most := 20000) h.1
 rw [e]
 refine ⟨by simpa using hL, fun x hx => ?_⟩
 obtain ⟨i, -, rfl⟩ := List.mem_map.1 hx
 exact hf _
/-- The cycles of the numbers less than n. -/
structure InvC (M : Mp) (n : Nat) (cs : List (List Int)) : Prop where
 fine : ∀ k, k < n → Fine M k
 each : ∀ x, x ∈ cs → ∃ k, k < n ∧ x = cyc M k
 all : ∀ k, k < n → ∃ x, x ∈ cs ∧ gd x 0 = gd (cyc M k) 0
 nodup : (cs.map fun x => gd x 0).Nodup
section
variable {M : Mp} {n T : Nat} {cs ls : List (List Int)}
theorem InvC.nil (M : Mp) : InvC M 0 [] := ⟨fun k h => absurd h (by omega), fun x h => (by cases h), fun k h => absurd h (by omega), List.nodup_nil⟩
theorem InvC.old (h : InvC M n cs) (hf : Fine M n) (hm : gd (cyc M n) 0 ∈ cs.map fun x => gd x 0) : InvC M (n + 1) cs :=
 ⟨fun k hk => by
  rcases Nat.lt_or_ge k n with h1 | h1
  ·exact h.fine k h1
  ·obtain rfl : k = n := by omega
   exact hf, fun x hx => by
  obtain ⟨k, h1, h2⟩ := h.each x hx
  exact ⟨k, by omega, h2⟩, fun k hk => by
  rcases Nat.lt_or_ge k n with h1 | h1
  ·exact h.all k h1
  ·obtain rfl : k = n := by omega
   exact List.mem_map.1 hm, h.nodup⟩
theorem InvC.new (h : InvC M n cs) (hf : Fine M n) (hm : gd (cyc M n) 0 ∉ cs.map fun x => gd x 0) : InvC M (n + 1) (cs ++ [cyc M n]) :=
 ⟨fun k hk => by
  rcases Nat.lt_or_ge k n with h1 | h1
  ·exact h.fine k h1
  ·obtain rfl : k = n := by omega
   exact hf, fun x hx => by
  rcases List.mem_append.1 hx with hx | hx
  ·obtain ⟨k, h1, h2⟩ := h.each x hx
   exact ⟨k, by omega, h2⟩
  ·simp at hx
   exact ⟨n, by omega, hx⟩, fun k hk => by
  rcases Nat.lt_or_ge k n with h1 | h1
  ·obtain ⟨x, h2, h3⟩ := h.all k h1
   exact ⟨x, List.mem_append.2 (.inl h2), h3⟩
  ·obtain rfl : k = n := by omega
   exact ⟨_, List.mem_append.2 (.inr (List.mem_singleton.2 rfl)), rfl⟩, by
  rw [List.map_append, List.nodup_append]
  refine ⟨h.nodup, by simp, fun a ha b hb e => ?_⟩
  simp at hb
  subst hb
  rw [e] at ha
  exact hm ha⟩
theorem InvC.len (h : InvC M n cs) : cs.length ≤ n := by
 have h1 : ∀ x, x ∈ cs.map (fun x => gd x 0) → x ∈ (List.range n).map fun k => gd (cyc M k) 0 := fun x hx => by
  obtain ⟨y, hy, rfl⟩ := List.mem_map.1 hx
  obtain ⟨k, hk, rfl⟩ := h.each y hy
  exact List.mem_map.2 ⟨k, List.mem_range.2 hk, rfl⟩
 have h2 : ∀ (l cs : List Int), l.Nodup → (∀ x, x ∈ l → x ∈ cs) → l.length ≤ cs.length := by
  intro l
  induction l with
  | nil => intro _ _ _; exact Nat.zero_le _
  | cons a l ih =>
   intro cs hn hx
   rw [List.nodup_cons] at hn
   have h1 := ih (cs.erase a) hn.2 fun x h3 => (List.mem_erase_of_ne (fun e => hn.1 (by rw [← e]; exact h3))).2 (hx x (.tail _ h3))
   have h2 := hx a (.head _)
   rw [List.length_erase_of_mem h2] at h1
   have := List.length_pos_of_mem h2
   rw [List.length_cons]; omega
 have := h2 _ _ h.nodup h1
 simpa using this
/-- Sorted, they are what is found. -/
theorem InvC.found (h : InvC M (T + 1) cs) (hp : cs.Perm ls) (hs : ls.Pairwise (fun p q => gd p 0 ≤ gd q 0)) : FoundL M (T : Int) ls := by
 have hl : ∀ i (hi : i < ls.length), lpi ls i = ls[i] := fun i hi => by simp [lpi, hi]
 refine ⟨fun i hi => ?_, fun n hn => ?_, fun i hi => ?_⟩
 ·obtain ⟨k, hk, e⟩ := h.each (lpi ls i) (hp.mem_iff.2 (by rw [hl i hi]; exact List.getElem_mem hi))
  exact ⟨k, by omega, e⟩
 ·obtain ⟨x, hx, e⟩ := h.all n (by omega)
  obtain ⟨i, hi, rfl⟩ := List.mem_iff_getElem.1 (hp.mem_iff.1 hx)
  exact ⟨i, hi, by rw [hl i hi]; exact e⟩
 ·have hn : (ls.map fun x => gd x 0).Nodup := (hp.map _).nodup_iff.1 h.nodup
  rw [List.Nodup, List.pairwise_map] at hn
  have h1 := (List.pairwise_iff_getElem.1 hs) i (i + 1) (by omega) hi (by omega)
  have h2 := (List.pairwise_iff_getElem.1 hn) i (i + 1) (by omega) hi (by omega)
  rw [hl i (by omega), hl (i + 1) hi]
  omega
end
end Go.Proofs.YtibdipfhfaeooaaGreatDoor


set_option linter.unusedVariables false
set_option linter.unusedSimpArgs false
namespace Go.Proofs.YtibdipfhfaeooaaGreatDoor
open Go.RowKit

theorem OwS.new {w : World} {base : Nat} {e : TypeId} {A : Option Addr} {n c : Nat} {l : List ByteArray} (h : OwS w base e (.slice A n c) l) : ∀ b o q, A = some ⟨b, o, q⟩ → base ≤ b ∧ b < w.heap.size := by
 intro b o q e1
 subst e1
 exact h.1.lt b rfl
set_option maxRecDepth 100000 in
set_option maxHeartbeats 8000000 in
theorem Fate_own (M : Mp) (z : Int) (most : Nat) (v : Value) (w : World) (hM : IsM w v M) (hok : okM M) (hz : dlN z.natAbs ≤ 2000) (hmo : most ≤ 20000) (ht : Tb w) :
  Calls Tryz.prog 38 #[v, .string (tS z), .int .i64 most] w fun e w' => ∃ A c, e = .returned (.tuple #[.int .i64 (flwA M (most + 1) [] z).2.1, .slice A (flwA M (most + 1) [] z).2.2.length c, .int .i64 (flwA M (most + 1) [] z).1]) ∧ Hid (LsS w' A c ((flwA M (most + 1) [] z).2.2.map tS)) ∧ (∀ b o q, A = some ⟨b, o, q⟩ → w.heap.size ≤ b ∧ b < w'.heap.size) ∧ Below w.heap.size w w' := by
 obtain ⟨md, A, n, c, A', n', c', rfl, HM⟩ := hM.form
 have V3 := VM.new w 24 HM.out
 have HB := below_alloc (Below.refl w.heap.size w) (Obj.cells #[Value.int .i64 md, Value.slice A n c, Value.slice A' n' c'] 24)
 have HOK : Hid (okB M = true) := okB_iff.2 hok
 have HV := Lib.hid (vld_tS hz)
 have hs := Lib.hid (tS_sz hz)
 have HT := Lib.hid ht
 have HOKM := Lib.hid hok
 have HZ := Lib.hid hz
 have HLZ := Lib.hid (len_dlN hz)
 have hm0 : (0 : Int) ≤ (most : Int) := by omega
 have hm1 : (most : Int) ≤ 20000 := by omega
 obtain ⟨Rr, hRr⟩ : ∃ R, flwA M (most + 1) [] z = R := ⟨_, rfl⟩
 have HC : Hid (Rr = (3, 0, []) ∨ Rr = (4, 0, []) ∨ ∃ t l, Rr = (0, t, l) ∧ 0 < l.length ∧ l.length ≤ most ∧ t + l.length ≤ most ∧ ∀ x, x ∈ l → dl x ≤ 2000) := by have := flw_cases M z most; rw [hRr] at this; exact this
 have HF : Hid (∀ (u : Value) (W : World) (v : Value), IsM W v M → IsH W u z → Tb W → Calls Tryz.prog 83 #[v, u, .int .i64 most] W fun e w' => ∃ A c, e = .returned (.tuple #[.int .i64 Rr.2.1, .slice A Rr.2.2.length c, .int .i64 Rr.1]) ∧ Hid (LsZ B9 .u32 w' A c Rr.2.2) ∧ Below W.heap.size W w') :=
  fun u W v h1 h2 h3 => by have := follow_c M z most v u W h1 h2 hok (by have := HLZ.out; omega) (by omega) h3; rw [hRr] at this; exact this
 rw [hRr]
 clear hRr hok hM hz ht
 go_enter Tryz.func38, Tryz.ntmps38
 go_wp2_with fail
 (with_reducible refine (SValid_c M _ _ V3.im.out).mono ?_)
 rintro e w4 ⟨he, hb⟩
 replace HB := below_step HB hb
 replace V3 := V3.keep hb
 clear hb
 obtain rfl : e = .returned (.bool true) := by rw [he, HOK.out] <;> rfl
 clear he

 go_wp2_with fail
 (with_reducible refine (nValid_c (tS z) _ hs.out).mono ?_)
 rintro e w5 ⟨he, hb⟩
 replace HB := below_step HB hb
 replace V3 := V3.keep hb
 clear hb
 obtain rfl : e = .returned (.bool true) := by rw [he, HV.out] <;> rfl
 clear he

 have m0 := V3.c0; have m1 := V3.c1; have m2 := V3.c2
 go_wp2_with fail
 clear m0 m1 m2
 replace V3 := V3.drew
 replace HB := below_drew HB
 generalize hWd : w5.drew = wd at *

 refine wp_region_F (fun w' => w'.cell? ⟨w.heap.size, 0, none⟩ = some (.int .i64 md) ∧ w'.cell? ⟨w.heap.size, 1, none⟩ = some (.slice A n c) ∧ w'.cell? ⟨w.heap.size, 2, none⟩ = some (.slice A' n' c')) [] (by kernel_rfl) (by rw [hWd]; exact ⟨V3.c0, V3.c1, V3.c2⟩) (fun hHeld => ?_)
 rw [hWd] at hHeld ⊢
 refine tF 0 ({ dst := some 32, op := Go.Op.load 24 (Go.Operand.tmp 3), type := 24, pos := "fate.go:56", after := #[], guard := none }) hHeld ?_; try go_frame
 refine tF 1 ({ dst := some 33, op := Go.Op.move (Go.Operand.tmp 1), type := 9, pos := "fate.go:56", after := #[], guard := none }) hHeld ?_; try go_frame
 refine tF 3 ({ dst := some 35, op := Go.Op.move (Go.Operand.tmp 2), type := 3, pos := "fate.go:56", after := #[], guard := none }) hHeld ?_; try go_frame
 refine wpAnyF_one (i := 2) (by kernel_rfl) rfl (fun K hK => ?_)
 go_simp
 (go_at_call 81; (with_reducible refine (hParse_c z _ (by have := HZ.out; omega)).mono ?_); rintro e w6 ⟨v, rfl, hv, hb⟩; obtain ⟨n6, A6, m6, k6, rfl, H6⟩ := hv.form; clear hv; replace V3 := V3.keep hb; replace HB := below_step HB hb; clear hb)
 refine hK.out _ _ (by exact ⟨V3.c0, V3.c1, V3.c2⟩) (fun hHeld => ?_)
 clear hK K
 try go_frame
 refine wpAnyF_one (i := 4) (by kernel_rfl) rfl (fun K hK => ?_)
 go_simp
 (go_at_call 83; (with_reducible refine (HF.out _ _ _ V3.im.out H6.out (HT.out.below HB)).mono ?_); rintro e w7 ⟨A7, c7, rfl, HL, hb⟩; replace V3 := V3.keep hb; replace HB := below_step HB hb; clear hb)
 refine hK.out _ _ (by exact ⟨V3.c0, V3.c1, V3.c2⟩) (fun hHeld => ?_)
 clear hK K
 try go_frame
 refine tF 5 ({ dst := some 31, op := Go.Op.move (Go.Operand.tmp 36), type := 124, pos := "fate.go:56", after := #[{ on := 4, ground := Go.Ground.data }], guard := none }) hHeld ?_; try go_frame
 refine tF 6 ({ dst := some 37, op := Go.Op.extract (Go.Operand.tmp 31) 0, type := 3, pos := "fate.go:56", after := #[{ on := 5, ground := Go.Ground.data }], guard := none }) hHeld ?_; try go_frame
 refine tF 7 ({ dst := some 38, op := Go.Op.extract (Go.Operand.tmp 31) 1, type := 123, pos := "fate.go:56", after := #[{ on := 5, ground := Go.Ground.data }, { on := 9, ground := Go.Ground.gcOnly Go.Departure.lateStores }], guard := none }) hHeld ?_; try go_frame
 refine tF 8 ({ dst := some 39, op := Go.Op.extract (Go.Operand.tmp 31) 2, type := 31, pos := "fate.go:56", after := #[{ on := 5, ground := Go.Ground.data }, { on := 10, ground := Go.Ground.gcOnly Go.Departure.lateStores }], guard := none }) hHeld ?_; try go_frame
 refine tF 9 ({ dst := some 9, op := Go.Op.assign (Go.Operand.tmp 37), type := 3, pos := "fate.go:56", after := #[{ on := 6, ground := Go.Ground.data }, { on := 4, ground := Go.Ground.chain }, { on := 0, ground := Go.Ground.phase }, { on := 1, ground := Go.Ground.phase }, { on := 2, ground := Go.Ground.phase }, { on := 3, ground := Go.Ground.phase }, { on := 4, ground := Go.Ground.phase }, { on := 5, ground := Go.Ground.phase }, { on := 6, ground := Go.Ground.phase }, { on := 7, ground := Go.Ground.textOnly Go.Departure.lateStores }, { on := 8, ground := Go.Ground.textOnly Go.Departure.lateStores }], guard := none }) hHeld ?_; try go_frame
 refine tF 10 ({ dst := some 10, op := Go.Op.assign (Go.Operand.tmp 38), type := 123, pos := "fate.go:56", after := #[{ on := 7, ground := Go.Ground.data }, { on := 9, ground := Go.Ground.chain }, { on := 0, ground := Go.Ground.phase }, { on := 1, ground := Go.Ground.phase }, { on := 2, ground := Go.Ground.phase }, { on := 3, ground := Go.Ground.phase }, { on := 4, ground := Go.Ground.phase }, { on := 5, ground := Go.Ground.phase }, { on := 6, ground := Go.Ground.phase }, { on := 7, ground := Go.Ground.phase }, { on := 8, ground := Go.Ground.textOnly Go.Departure.lateStores }, { on := 9, ground := Go.Ground.phase }], guard := none }) hHeld ?_; try go_frame
 refine tF 11 ({ dst := some 11, op := Go.Op.assign (Go.Operand.tmp 39), type := 31, pos := "fate.go:56", after := #[{ on := 8, ground := Go.Ground.data }, { on := 10, ground := Go.Ground.chain }, { on := 0, ground := Go.Ground.phase }, { on := 1, ground := Go.Ground.phase }, { on := 2, ground := Go.Ground.phase }, { on := 3, ground := Go.Ground.phase }, { on := 4, ground := Go.Ground.phase }, { on := 5, ground := Go.Ground.phase }, { on := 6, ground := Go.Ground.phase }, { on := 7, ground := Go.Ground.phase }, { on := 8, ground := Go.Ground.phase }, { on := 9, ground := Go.Ground.phase }, { on := 10, ground := Go.Ground.phase }], guard := none }) hHeld ?_; try go_frame
 refine wpAnyF_done (by kernel_rfl) ?_ _
 clear hHeld hWd HF
 rcases HC.out with h | h | ⟨t, l, h, h1, h2, h3, h4⟩
 ·subst h
  clear HC
  go_wp2
  go_ret3
  exact ⟨none, 0, rfl, LsS.nil _, fun _ _ _ h => (by cases h), HB⟩
 ·subst h
  clear HC
  go_wp2
  go_ret3
  exact ⟨none, 0, rfl, LsS.nil _, fun _ _ _ h => (by cases h), HB⟩
 ·subst h
  clear HC
  dsimp only at HL ⊢
  obtain ⟨bl, ol, _, _, _, _, rfl, _⟩ := HL.out.at (j := 0) h1
  have H4 := Lib.hid h4
  have HLL : Hid ((l.length + 1) * 16 ≤ 140737488355328) := by show _ ≤ _; omega
  clear h3 h4
  have hll : (0 : Int) < (l.length : Int) := by omega
  go_wp2_with fail
  have HLL0 := Lib.hid HT.out
  have HB7 := HB
  have HT7 := Lib.hid (HT.out.below HB)
  clear HB V3 H6
  go_loopg [45, 12] l.length (fun g iv ov wr => ∃ (i : Nat), g = l.length - i ∧ iv = .int .i64 i ∧ i ≤ l.length ∧ Hid (OwS wr w7.heap.size 9 ov ((l.take i).map tS)) ∧ Below w7.heap.size w7 wr)
  case atStart => exact ⟨0, rfl, rfl, Nat.zero_le _, OwS.nil _ _ _, Below.refl _ _⟩
  case round =>
   obtain ⟨i, hgk, rfl, hi, HO, HB⟩ := hrel
   by_cases hil : i < l.length
   ·obtain ⟨nv, A8, n8, c8, c0, c1, hz8⟩ := (HL.out.below HB).el hil
    have hi0 : (0 : Int) ≤ (i : Int) := by omega
    have hi1 : (i : Int) < (l.length : Int) := by omega
    have hd8 := H4.out _ (gd_mem hil)
    have HTK := Lib.hid (take_snoc_gd hil)
    have q0 := c0.c
    have q1 := c1.c
    go_upto_region 12 with fail
    clear q0 q1
    have hba := below_alloc (Below.refl wr.heap.size wr) (Obj.cells #[Value.bool nv, Value.slice A8 n8 c8] 118)
    have V14 := VX.new wr 118 hz8.out
    replace HO := Lib.hid (HO.out.below hba)
    replace HB := below_step HB hba
    generalize hW : wr.alloc (Obj.cells #[Value.bool nv, Value.slice A8 n8 c8] 118) = W14 at *
    clear hW c0 c1 hz8 hba
    have m0 := V14.c0; have m1 := V14.c1
    go_wp2_with fail
    (with_reducible refine (hStr_c (gd l i) _ _ V14.iz.out (HT7.out.below HB) (by have := len_of_dl hd8; omega)).mono ?_)
    rintro e w15 ⟨rfl, hb⟩
    replace HO := Lib.hid (HO.out.below hb)
    replace HB := below_step HB hb
    clear hb m0 m1 V14
    have hbs := HB.size
    have hlt : ((List.map tS (List.take i l)).length + 1) * 16 ≤ 140737488355328 := by rw [List.length_map, List.length_take]; have := HLL.out; omega
    go_wp2_with (at_builtin; refine app_T w7.heap.size rfl _ _ 43 9 16 rfl Tryz.underlying43 info_S (by decide) _ _ (tS (gd l i)) HO.out rfl rfl hbs hlt ?_; intro v1 w1 HO1 HB1 HK1 hb1)
    replace HO1 := Lib.hid HO1
    rw [← HTK.out] at HO1
    go_roundg (l.length - (i + 1))
    case measure => omega
    case rel => exact ⟨i + 1, rfl, by go_num, by omega, HO1, HB.trans HB1⟩
   ·obtain rfl : i = l.length := by omega
    rw [List.take_length] at HO
    obtain ⟨A9, c9, rfl, hs9⟩ := HO.out.form
    have HNW := Lib.hid HO.out.new
    rw [List.length_map] at *
    have HS9 := Lib.hid hs9
    clear hs9 HO
    go_wp2
    go_ret3
    exact ⟨A9, c9, rfl, HS9, fun b o q e => ⟨Nat.le_trans HB7.size (HNW.out b o q e).1, (HNW.out b o q e).2⟩, HB7.trans (HB.mono HB7.size)⟩
end Go.Proofs.YtibdipfhfaeooaaGreatDoor

