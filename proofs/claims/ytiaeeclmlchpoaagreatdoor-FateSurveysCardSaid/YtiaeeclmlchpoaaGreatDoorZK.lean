/- slices.SortFunc of Survey's names: the same names, rising. No condition but where the row lies. -/
import Derived.Test.YtiaeeclmlchpoaaGreatDoorZI
import Derived.Test.YtiaeeclmlchpoaaGreatDoorZJ
import Derived.Shelf.SlSortCmp.WholeK
import Derived.Shelf.SlSortCmp.NoneTotal
import Derived.Lib.OwnBridge
import Derived.Maps.RangeWalk
set_option linter.unusedVariables false
set_option linter.unusedSimpArgs false
namespace Go.Proofs.YtiaeeclmlchpoaaGreatDoor
open Go.RowKit Go.Shelf Go.Lib Go.Sort

theorem flat_len {α : Type} (enc : α → List Value) (k : Nat) (hk : ∀ x, (enc x).length = k) : ∀ l : List α, (l.flatMap enc).length = l.length * k
  | [] => by simp
  | a :: l => by rw [List.flatMap_cons, List.length_append, flat_len enc k hk l, hk, List.length_cons, Nat.add_mul, Nat.one_mul, Nat.add_comm]
section
variable {α : Type} [Inhabited α]
theorem flat_get (enc : α → List Value) (k : Nat) (hk : ∀ x, (enc x).length = k) : ∀ (l : List α) (t : Nat), t < l.length * k → (l.flatMap enc)[t]? = some (enc l[t / k]!)[t % k]!
  | [], t, h => by simp at h
  | a :: l, t, h => by
    have k0 : 0 < k := by
      rcases Nat.eq_zero_or_pos k with e | e
      · subst e; simp at h
      · exact e
    rw [List.flatMap_cons]
    rcases Nat.lt_or_ge t k with h1 | h1
    · rw [List.getElem?_append_left (by rw [hk]; exact h1), Nat.div_eq_of_lt h1, Nat.mod_eq_of_lt h1]
      have h2 : t < (enc a).length := by rw [hk]; exact h1
      simp [h2]
    · obtain ⟨u, rfl⟩ : ∃ u, t = u + k := ⟨t - k, by omega⟩
      rw [List.getElem?_append_right (by rw [hk]; omega), hk, Nat.add_sub_cancel, Nat.add_div_right _ k0, Nat.add_mod_right]
      rw [flat_get enc k hk l u (by rw [List.length_cons, Nat.add_mul, Nat.one_mul] at h; omega)]
      simp
theorem flat_eq (enc : α → List Value) (k : Nat) (hk : ∀ x, (enc x).length = k) (d : Array α) : (flatK enc k d).toList = d.toList.flatMap enc := by
  have hl := flat_len enc k hk d.toList
  apply List.ext_getElem?
  intro t
  by_cases h : t < d.size * k
  · rw [flat_get enc k hk d.toList t (by simpa using h), Array.getElem?_toList, Array.getElem?_eq_getElem (by simpa using h)]
    have h2 := get_flatK enc k d t h
    rw [getElem!_pos (flatK enc k d) t (by simpa using h)] at h2
    have e : d.toList[t / k]! = d[t / k]! := by simp [Array.getElem!_eq_getD, Array.getD_eq_getD_getElem?]
    rw [h2, e]
  · rw [List.getElem?_eq_none (by simpa using h), List.getElem?_eq_none (by rw [hl]; simpa using h)]
/-- A row that the cells hold. -/
theorem holdsK_cells {w : World} {g : Nat} {cur : Array Value} {e : TypeId} (enc : α → List Value) (k : Nat) (hk : ∀ x, (enc x).length = k) (d : Array α) (hb : w.heap[g]? = some (.cells cur e (0, 0))) (ht : cur.toList.take (d.size * k) = d.toList.flatMap enc) : HoldsK enc k w g 0 d := by
  intro j hj
  have hj' : j < d.size * k := by simpa using hj
  refine ⟨?_, by simp [World.frozen?, hb]⟩
  have h1 : (cur.toList.take (d.size * k))[j]? = (flatK enc k d).toList[j]? := by rw [ht, flat_eq enc k hk]
  rw [List.getElem?_take_of_lt hj'] at h1
  simp only [World.cell?, hb, Nat.zero_add]
  simp only [Option.isSome_none, Bool.false_eq_true, if_false]
  rw [← Array.getElem?_toList, h1, Array.getElem?_toList, Array.getElem?_eq_getElem hj, getElem!_pos _ j hj]
  rfl
theorem heap_sortedK {w : World} {g n : Nat} {os : Array Obj} {cur : Array Value} {e : TypeId} {fr : Nat × Nat} (enc : α → List Value) (k : Nat) (d : Array α) (hb : w.heap[g]? = some (.cells cur e fr)) :
    (sortWorldK enc k w g 0 n d os).heap[g]? = some (.cells (putCells id 0 (flatK enc k d) cur) e fr) := by
  have hg : g < w.heap.size := (Array.getElem?_eq_some_iff.1 hb).1
  unfold sortWorldK
  rw [Go.Sort.heap_grow_old _ _ (by simpa [putRowK, putRow, mapBlock, Sort.ahead] using hg)]
  simp [putRowK, putRow, mapBlock, Sort.ahead, Array.getElem?_modify, hb, onCells]
theorem below_sortedK {B : Nat} {w : World} {g n : Nat} {os : Array Obj} (enc : α → List Value) (k : Nat) (d : Array α) (hg : B ≤ g) (hB : B ≤ w.heap.size) : Below B w (sortWorldK enc k w g 0 n d os) := by
  refine ⟨rfl, rfl, rfl, by simp [sortWorldK, putRowK, putRow, mapBlock, Sort.ahead, grow], fun i hi => ?_⟩
  unfold sortWorldK
  rw [Go.Sort.heap_grow_old _ _ (by simp [putRowK, putRow, mapBlock, Sort.ahead]; omega)]
  have : g ≠ i := by omega
  simp [putRowK, putRow, mapBlock, Sort.ahead, Array.getElem?_modify, this]
theorem take_sortedK (cur : Array Value) (enc : α → List Value) (k : Nat) (hk : ∀ x, (enc x).length = k) (d : Array α) (h : d.size * k ≤ cur.size) : (putCells id 0 (flatK enc k d) cur).toList.take (d.size * k) = d.toList.flatMap enc := by
  rw [← flat_eq enc k hk]
  apply List.ext_getElem?
  intro j
  by_cases hj : j < d.size * k
  · rw [List.getElem?_take_of_lt hj, Array.getElem?_toList, Array.getElem?_toList, Array.getElem?_eq_getElem (xs := flatK enc k d) (by simpa using hj), Array.getElem?_eq_getElem (xs := putCells id 0 (flatK enc k d) cur) (by simp [putCells]; omega)]
    have h3 : (flatK enc k d)[j]! = (flatK enc k d)[j]'(by simpa using hj) := getElem!_pos _ j (by simpa using hj)
    simp [putCells, hj, show j < cur.size by omega, h3]
  · rw [List.getElem?_take_eq_none (by omega), List.getElem?_eq_none (by simp; omega)]
end

/-- A name whose number reads as it should. -/
abbrev NTI (w0 : World) := {x : NT // IsH w0 (.agg #[.bool x.1, .slice x.2.1 x.2.2.1 x.2.2.2.1]) x.2.2.2.2.2}
def nmE {w0 : World} (x : NTI w0) : List Value := ntC x.1
def nmC {w0 : World} (x y : NTI w0) : Int := icmp x.1.2.2.2.2.2 y.1.2.2.2.2.2
theorem nmC_lt {w0 : World} (x y : NTI w0) : ltOf nmC x y = decide (x.1.2.2.2.2.2 < y.1.2.2.2.2.2) := by
  unfold ltOf nmC icmp
  by_cases h1 : x.1.2.2.2.2.2 < y.1.2.2.2.2.2
  · simp [h1]
  · by_cases h2 : y.1.2.2.2.2.2 < x.1.2.2.2.2.2 <;> simp [h1, h2]
theorem nmC_swo (w0 : World) : SWO (ltOf (nmC (w0 := w0))) where
  irrefl x := by rw [nmC_lt]; simp
  trans x y z h1 h2 := by rw [nmC_lt] at *; simp at *; omega
  ntrans x y z h1 h2 := by rw [nmC_lt] at *; simp at *; omega
theorem perm_mapK {α β : Type} [Inhabited α] {d d' : Array α} (h : PermIn 0 d.size d d') (f : α → β) : (d.toList.map f).Perm (d'.toList.map f) := by
  have h1 := h.2.2
  rw [Array.extract_size, ← h.1, Array.extract_size] at h1
  exact (h1.map f).symm
theorem sorted_pair {w0 : World} [Inhabited (NTI w0)] {d : Array (NTI w0)} {n : Nat} (hn : d.size = n) (h : SortedIn (ltOf nmC) 0 n d) : (d.toList.map fun x => x.1).Pairwise (fun p q => p.2.2.2.2.2 ≤ q.2.2.2.2.2) := by
  rw [List.pairwise_map, List.pairwise_iff_getElem]
  intro i j hi hj hij
  have h1 := h i j (Nat.zero_le _) hij (by simpa [hn] using hj)
  rw [nmC_lt, getElem!_pos d j (by simpa using hj), getElem!_pos d i (by simpa using hi)] at h1
  simp at h1 ⊢
  omega

theorem sort_c (w0 W : World) (B0 : Nat) (hB0 : w0.heap.size = B0) (hK : KB B0 w0 W) (v : Value) (L : List NT) (HO : OwN W B0 v L)
    (hI : ∀ x, x ∈ L → IsH w0 (.agg #[.bool x.1, .slice x.2.1 x.2.2.1 x.2.2.2.1]) x.2.2.2.2.2) (hn : L.length < 4611686018427387904) :
    Calls Tryz.prog 30 #[v, .func (.func 31) #[] #[]] W fun e w' => e = .returned (.tuple #[]) ∧ ∃ L' : List NT, L.Perm L' ∧ L'.Pairwise (fun p q => p.2.2.2.2.2 ≤ q.2.2.2.2.2) ∧ OwN w' B0 v L' ∧ Below B0 W w' := by
  have HO1 : W.ownsRow B0 68 3 v L.length (ntsC L) := HO
  by_cases h0 : L = []
  · subst h0
    obtain ⟨p, c, rfl⟩ : ∃ p c, v = .slice p 0 c := by
      rcases HO1.2 with ⟨rfl, _⟩ | ⟨g, cap, cur, rfl, _⟩
      · exact ⟨_, _, rfl⟩
      · exact ⟨_, _, rfl⟩
    have hcon := AnyF.slices_SortFunc_none Tryz.srtF p c (.func (.func 31) #[] #[]) W
    refine (show Calls Tryz.prog 30 _ _ _ from hcon).mono ?_
    rintro e w' ⟨rfl, rfl⟩
    exact ⟨rfl, [], .refl _, .nil, HO, .refl _ _⟩
  · rcases HO1.2 with ⟨-, h1⟩ | ⟨g, cap, cur, rfl, hb, hg, hnc, hm, hs, ht⟩
    · exact absurd (List.eq_nil_of_length_eq_zero h1) h0
    · have hkc : ∀ x : NTI w0, (nmE x).length = 3 := fun _ => rfl
      obtain ⟨x0, hx0⟩ := List.exists_mem_of_ne_nil L h0
      haveI : Inhabited (NTI w0) := ⟨⟨x0, hI x0 hx0⟩⟩
      obtain ⟨l, hl⟩ : ∃ l : List (NTI w0), l.map (fun x => x.1) = L := ⟨L.attach.map fun x => ⟨x.1, hI x.1 x.2⟩, by rw [List.map_map]; exact List.attach_map_subtype_val L⟩
      have hll : l.length = L.length := by rw [← hl, List.length_map]
      have hds : l.toArray.size = L.length := by simpa using hll
      have hfl : ∀ l' : List (NTI w0), l'.flatMap nmE = ntsC (l'.map fun x => x.1) := fun l' => by
        unfold ntsC nmE
        rw [List.flatMap_map]
      have hgl : g < W.heap.size := (Array.getElem?_eq_some_iff.1 hg).1
      have hH : HoldsK (nmE (w0 := w0)) 3 W g 0 l.toArray := holdsK_cells (nmE (w0 := w0)) 3 hkc l.toArray hg (by rw [hds, ht]; show _ = l.flatMap nmE; rw [hfl, hl])
      have hone : ∀ x : NTI w0, ∀ u ∈ nmE x, u.oneCell' = true := fun x u hu => by
        simp [nmE, ntC] at hu
        rcases hu with rfl | rfl | rfl <;> rfl
      have hBW : B0 ≤ W.heap.size := by omega
      have hcmp : CmpLays Tryz.prog 31 #[] (nmE (w0 := w0)) 3 nmC g 0 l.toArray.size W := fun m os dk hdk x y => by
        have hk2 : KB B0 w0 (sortWorldK (nmE (w0 := w0)) 3 W g 0 m dk os) := hK.below (below_sortedK (nmE (w0 := w0)) 3 dk hb hBW)
        have h1 := hk2.isH (Nat.le_of_eq hB0) x.2
        have h2 := hk2.isH (Nat.le_of_eq hB0) y.2
        exact (nameCmp_c _ _ _ _ _ _ _ _ _ _ (x.1.2.2.2.2.1 : Int) (y.1.2.2.2.2.1 : Int) _ h1 h2).mono fun e w' ⟨he, hb⟩ => ⟨he, hb.grow⟩
      have eg : ∀ args w, (callFunc 31 args).run Tryz.prog w = .ok (.enter 31 args) w := enters_of Tryz.func31 (by kernel_rfl) rfl
      have hcon := AnyQ.slices_SortFunc Tryz.srtF 3 (fun w => by kernel_rfl) (fun w => by kernel_rfl) nmE hkc hone nmC (nmC_swo w0) 31 #[] g 0 cap l.toArray W eg hcmp hH hgl (by rw [hds]; exact hn)
      rw [hds] at hcon
      refine (show Calls Tryz.prog 30 _ _ _ from hcon).mono ?_
      rintro e w' ⟨rfl, d', n, os, hp, hsd, rfl⟩
      have hd' : d'.size = L.length := by rw [hp.1, hds]
      refine ⟨rfl, d'.toList.map (fun x => x.1), ?_, sorted_pair (w0 := w0) (d := d') hd' hsd, ⟨?_, .inr ⟨g, cap, _, ?_, hb, heap_sortedK (nmE (w0 := w0)) 3 d' hg, ?_, hm, ?_, ?_⟩⟩, below_sortedK (nmE (w0 := w0)) 3 d' hb hBW⟩
      · have := perm_mapK (hds ▸ hp) (fun x : NTI w0 => x.1)
        rw [← hl]
        simpa using this
      · rw [← hfl, flat_len nmE 3 hkc]; simp
      · simp [hd']
      · rw [List.length_map, Array.length_toList, hd']; exact hnc
      · simpa [putCells] using hs
      · rw [List.length_map, Array.length_toList, ← hfl]
        exact take_sortedK cur nmE 3 hkc d' (by rw [hd', hs]; exact Nat.mul_le_mul_right 3 hnc)
end Go.Proofs.YtiaeeclmlchpoaaGreatDoor

set_option linter.unusedVariables false
set_option linter.unusedSimpArgs false
namespace Go.Proofs.YtiaeeclmlchpoaaGreatDoor
open Go.RowKit Go.Shelf Go.Maps

/-- What holds between two rounds of Survey's first loop. -/
structure SuS (w W : World) (md : Int) (A : Option Addr) (n c : Nat) (A' : Option Addr) (n' c' : Nat) (M : Mp) (ba : Nat) (n4 : Bool) (A4 : Option Addr) (m4 k4 : Nat) (z : Int) (bM N : Nat) (D : DataW Value) (cs : List Int) : Prop where
  hb : Below w.heap.size w W
  vm : VM W w.heap.size md A n c A' n' c' M
  va : VX B9 .u32 W ba n4 A4 m4 k4 z
  mp : W.ownsMap Tryz.prog 9 nmR bM N D
  nm : NmM W D cs
section
variable {w W W' : World} {md : Int} {A : Option Addr} {n c : Nat} {A' : Option Addr} {n' c' : Nat} {M : Mp} {ba : Nat} {n4 : Bool} {A4 : Option Addr} {m4 k4 : Nat} {z : Int} {bM N : Nat} {D : DataW Value} {cs : List Int}
theorem SuS.keep (h : SuS w W md A n c A' n' c' M ba n4 A4 m4 k4 z bM N D cs) (hb : Below W.heap.size W W') : SuS w W' md A n c A' n' c' M ba n4 A4 m4 k4 z bM N D cs :=
  ⟨below_step h.hb hb, h.vm.keep hb, h.va.keep hb, h.mp.kept (row := none) ⟨hb.os, hb.tape, hb.output, hb.size, fun i hi _ => hb.block i hi⟩ (by simp), h.nm.kp (Kp.of hb)⟩
theorem SuS.drew (h : SuS w W md A n c A' n' c' M ba n4 A4 m4 k4 z bM N D cs) : SuS w W.drew md A n c A' n' c' M ba n4 A4 m4 k4 z bM N D cs := h.keep (below_drew (Below.refl _ _))
end
set_option maxRecDepth 100000 in
set_option maxHeartbeats 8000000 in
theorem Srv_ok (M : Mp) (z : Int) (count most : Nat) (v : Value) (w : World) (hM : IsM w v M) (hok : okM M) (hz : dlN z.natAbs ≤ 2000) (hc : count ≤ 20000) (hm : most ≤ 20000) (ht : Tb w) (hfit : ¬ 2000 < dl (z + (count : Int))) :
    Calls Tryz.prog 10 #[v, .string (tS z), .int .i64 count, .int .i64 most] w fun e w' => ∃ (L : List (Int × Nat)) (q : Nat) (A : Option Addr) (c : Nat), e = .returned (.tuple #[.slice A (cnL L q).length c, .int .i64 0]) ∧ q + (lsts M most z count).length = count ∧ SrvOK (lsts M most z count) L ∧ Hid (LsC w' A c (cnL L q)) ∧ Below w.heap.size w w' := by
  obtain ⟨md, A, n, c, A', n', c', rfl, HM⟩ := hM.form
  have V3 := VM.new w 24 HM.out
  have HB := below_alloc (Below.refl w.heap.size w) (Obj.cells #[Value.int .i64 md, Value.slice A n c, Value.slice A' n' c'] 24)
  have HOK : Hid (okB M = true) := okB_iff.2 hok
  have HOKM := Lib.hid hok
  have HV := Lib.hid (vld_tS hz)
  have hs := tS_sz hz
  have HZ := Lib.hid hz
  have HT := Lib.hid ht
  have HL4 : Hid ((dg B9 z).length ≤ 2000) := by have := len_dlN hz; show _ ≤ _; omega
  have hlc : (dg B9 (count : Int)).length ≤ 2 := len_small (by omega) (by omega)
  have HLC : Hid ((dg B9 (count : Int)).length ≤ 1000000000000) := by show _ ≤ _; omega
  have HLS : Hid ((dg B9 (z + (count : Int))).length ≤ 1000000000) := by
    have h1 := len_add B9two z (count : Int)
    have h2 := HL4.out
    show _ ≤ _
    omega
  have hb1 : decide (2000 < dl (z + (count : Int))) = false := decide_eq_false hfit
  have hb2 : ¬ (2000 : Int) < (dl (z + (count : Int)) : Int) := by omega
  have hc0 : (0 : Int) ≤ (count : Int) := by omega
  have hc1 : (count : Int) ≤ 20000 := by omega
  have hm0 : (0 : Int) ≤ (most : Int) := by omega
  have hm1 : (most : Int) ≤ 20000 := by omega
  clear hok hM hz ht hfit hlc
  go_enter Tryz.func10, Tryz.ntmps10
  go_wp2_with fail
  (with_reducible refine (SValid_c M _ _ V3.im.out).mono ?_)
  rintro e w4 ⟨he, hb⟩
  replace HB := below_step HB hb
  replace V3 := V3.keep hb
  clear hb
  obtain rfl : e = .returned (.bool true) := by rw [he, HOK.out] <;> rfl
  clear he
  go_wp2_with fail
  (with_reducible refine (nValid_c (tS z) _ hs).mono ?_)
  rintro e w5 ⟨he, hb⟩
  replace HB := below_step HB hb
  replace V3 := V3.keep hb
  clear hb
  obtain rfl : e = .returned (.bool true) := by rw [he, HV.out] <;> rfl
  clear he
  go_wp2_with fail
  (with_reducible refine (hParse_c z _ (by have := HZ.out; omega)).mono ?_)
  rintro e w6 ⟨v, rfl, hv, hb⟩
  obtain ⟨n4, A4, m4, k4, rfl, H4⟩ := hv.form; clear hv
  replace V3 := V3.keep hb
  replace HB := below_step HB hb
  clear hb
  go_wp2_with fail
  have VA := VX.new w6 57 H4.out
  have hb := below_alloc (Below.refl w6.heap.size w6) (Obj.cells #[Value.bool n4, Value.slice A4 m4 k4] 57)
  replace V3 := V3.keep hb
  replace HB := below_step HB hb
  clear hb H4
  generalize hba : w6.heap.size = ba at *
  generalize hwa : w6.alloc (Obj.cells #[Value.bool n4, Value.slice A4 m4 k4] 57) = wa at *
  replace V3 := V3.drew; replace VA := VA.drew; replace HB := below_drew HB
  generalize hWd : wa.drew = wd at *
  clear hwa
  refine wp_region_F (fun w' => w'.cell? ⟨ba, 0, none⟩ = some (.bool n4) ∧ w'.cell? ⟨ba, 1, none⟩ = some (.slice A4 m4 k4)) [] (by kernel_rfl) (by rw [hWd]; exact ⟨VA.c0, VA.c1⟩) (fun hHeld => ?_)
  rw [hWd] at hHeld ⊢
  refine wpF_t (i := 0) (oi := { dst := some 50, op := Go.Op.load 57 (Go.Operand.tmp 10), type := 57, pos := "fate.go:82", after := #[], guard := none }) (v := ?_) rfl (by kernel_rfl) (fun _ _ _ h => h) (Or.inl ⟨by rfl, ?_⟩) hHeld ?_; rotate_left
  · intro w_ hSw_; (try dsimp only at hSw_); go_simp; (try with_reducible rfl)
  try go_frame
  refine wpF_t (i := 1) (oi := { dst := some 51, op := Go.Op.move (Go.Operand.tmp 2), type := 3, pos := "fate.go:82", after := #[], guard := none }) (v := ?_) rfl (by kernel_rfl) (fun _ _ _ h => h) (Or.inl ⟨by rfl, ?_⟩) hHeld ?_; rotate_left
  · intro w_ hSw_; (try dsimp only at hSw_); go_simp; (try with_reducible rfl)
  try go_frame
  refine wpAnyF_one (i := 2) (by kernel_rfl) rfl (fun K hK => ?_)
  go_simp
  (go_at_call 26; (with_reducible refine (hOf_c (count : Int) _ (by omega) (by omega)).mono ?_); rintro e w7 ⟨v, rfl, hv, hb⟩; obtain ⟨n7, A7, m7, k7, rfl, H7⟩ := hv.form; clear hv; replace V3 := V3.keep hb; replace VA := VA.keep hb; replace HB := below_step HB hb; clear hb)
  refine hK.out _ _ (by exact ⟨VA.c0, VA.c1⟩) (fun hHeld => ?_)
  clear hK K
  try go_frame
  refine wpAnyF_one (i := 3) (by kernel_rfl) rfl (fun K hK => ?_)
  go_simp
  (go_at_call 25; (with_reducible refine (hAdd_c z (count : Int) _ _ _ VA.iz.out H7.out (by have := HL4.out; omega) HLC.out).mono ?_); rintro e w8 ⟨v, rfl, hv, hb⟩; obtain ⟨n8, A8, m8, k8, rfl, H8⟩ := hv.form; clear hv; replace V3 := V3.keep hb; replace VA := VA.keep hb; replace HB := below_step HB hb; clear hb)
  refine hK.out _ _ (by exact ⟨VA.c0, VA.c1⟩) (fun hHeld => ?_)
  clear hK K
  try go_frame
  refine wpAnyF_one (i := 4) (by kernel_rfl) rfl (fun K hK => ?_)
  go_simp
  (go_at_call 27; (with_reducible refine (hDigits_c (z + (count : Int)) _ _ H8.out (HT.out.below HB) HLS.out).mono ?_); rintro e w9 ⟨rfl, hb⟩; replace V3 := V3.keep hb; replace VA := VA.keep hb; replace HB := below_step HB hb; clear hb)
  refine hK.out _ _ (by exact ⟨VA.c0, VA.c1⟩) (fun hHeld => ?_)
  clear hK K
  try go_frame
  refine wpF_t (i := 5) (oi := { dst := some 55, op := Go.Op.binOp Go.BinOp.gtr 3 (Go.Operand.tmp 54) (Go.Operand.const (Go.Value.int Go.IntKind.i64 2000)) 3, type := 4, pos := "fate.go:82", after := #[{ on := 4, ground := Go.Ground.data }], guard := none }) (v := ?_) rfl (by kernel_rfl) (fun _ _ _ h => h) (Or.inl ⟨by rfl, ?_⟩) hHeld ?_; rotate_left
  · intro w_ hSw_; (try dsimp only at hSw_); go_simp; (try with_reducible rfl)
  try go_frame
  refine wpAnyF_done (by kernel_rfl) ?_ _
  clear hHeld hWd
  have hmm := @run_makeMap Tryz.prog
  go_wp2_with fail
  clear hmm hb1 hb2
  have hbm := below_alloc (Below.refl w9.heap.size w9) (Obj.map #[] 0)
  have S0 : SuS w (w9.alloc (Obj.map #[] 0)) md A n c A' n' c' M ba n4 A4 m4 k4 z w9.heap.size 0 (.map []) [] := ⟨below_step HB hbm, V3.keep hbm, VA.keep hbm, World.ownsMap_made _ _ _ _, NmM.nil _⟩
  have hbM : w.heap.size ≤ w9.heap.size := HB.size
  generalize w9.alloc (Obj.map #[] 0) = wM at *
  generalize w9.heap.size = bM at *
  clear HB V3 VA hbm
  go_loopg [12, 58] count (fun g qv iv wr => ∃ (i q : Nat) (D : DataW Value), g = count - i ∧ qv = .int .i64 q ∧ iv = .int .i64 i ∧ i ≤ count ∧ q + (lsts M most z i).length = i ∧ SuS w wr md A n c A' n' c' M ba n4 A4 m4 k4 z bM i D (lsts M most z i))
  case atStart => exact ⟨0, 0, _, rfl, rfl, rfl, Nat.zero_le _, rfl, S0⟩
  case round =>
    clear S0
    obtain ⟨i, q, D, hgk, rfl, rfl, hi, hql, S_⟩ := hrel
    have hi0 : (0 : Int) ≤ (i : Int) := by omega
    have hq0 : (0 : Int) ≤ (q : Int) := by omega
    by_cases hic : i < count
    · have hi1 : (i : Int) < (count : Int) := by omega
      have HLI : Hid ((dg B9 (z + (i : Int))).length ≤ 2100) := by
        have h1 := len_add B9two z (i : Int)
        have h2 := HL4.out
        have h3 : (dg B9 (i : Int)).length ≤ 2 := len_small (by omega) (by omega)
        show _ ≤ _
        omega
      have HLi : Hid ((dg B9 (i : Int)).length ≤ 1000000000000) := by
        have h3 : (dg B9 (i : Int)).length ≤ 2 := len_small (by omega) (by omega)
        show _ ≤ _
        omega
      obtain ⟨Rr, hRr⟩ : ∃ R, flwA M (most + 1) [] (z + (i : Int)) = R := ⟨_, rfl⟩
      have HC : Hid (Rr = (3, 0, []) ∨ Rr = (4, 0, []) ∨ ∃ t l, Rr = (0, t, l) ∧ 0 < l.length ∧ l.length ≤ most ∧ t + l.length ≤ most ∧ ∀ x, x ∈ l → dl x ≤ 2000) := by have := flw_cases M (z + (i : Int)) most; rw [hRr] at this; exact this
      have HLS2 : Hid (lsts M most z (i + 1) = lsts M most z i ++ (if Rr.1 = 0 then some (gd Rr.2.2 0) else none).toList) := by show _ = _; rw [lsts_succ]; unfold lstO; rw [hRr]
      have HFL : Hid (∀ (W : World) (v u : Value), IsM W v M → IsH W u (z + (i : Int)) → Tb W → Calls Tryz.prog 28 #[v, u, .int .i64 most] W fun e w' => ∃ A c, e = .returned (.tuple #[.int .i64 Rr.2.1, .slice A Rr.2.2.length c, .int .i64 Rr.1]) ∧ Hid (LsZ B9 .u32 w' A c Rr.2.2) ∧ Below W.heap.size W w') := fun W v u h1 h2 h3 => by
        rw [← hRr]; exact follow_c M (z + (i : Int)) most v u W h1 h2 HOKM.out HLI.out (by omega) h3
      clear hRr
      go_wp2_with fail
      replace S_ := S_.drew
      generalize hWd : wr.drew = wd at *
      refine wp_region_F (fun w' => (w'.cell? ⟨w.heap.size, 0, none⟩ = some (.int .i64 md) ∧ w'.cell? ⟨w.heap.size, 1, none⟩ = some (.slice A n c) ∧ w'.cell? ⟨w.heap.size, 2, none⟩ = some (.slice A' n' c')) ∧ w'.cell? ⟨ba, 0, none⟩ = some (.bool n4) ∧ w'.cell? ⟨ba, 1, none⟩ = some (.slice A4 m4 k4)) [] (by kernel_rfl) (by rw [hWd]; exact ⟨⟨S_.vm.c0, S_.vm.c1, S_.vm.c2⟩, S_.va.c0, S_.va.c1⟩) (fun hHeld => ?_)
      rw [hWd] at hHeld ⊢
      refine wpF_t (i := 0) (oi := { dst := some 62, op := Go.Op.load 24 (Go.Operand.tmp 4), type := 24, pos := "fate.go:88", after := #[], guard := none }) (v := ?_) rfl (by kernel_rfl) (fun _ _ _ h => h) (Or.inl ⟨by rfl, ?_⟩) hHeld ?_; rotate_left
      · intro w_ hSw_; (try dsimp only at hSw_); go_simp; (try with_reducible rfl)
      try go_frame
      refine wpF_t (i := 1) (oi := { dst := some 63, op := Go.Op.load 57 (Go.Operand.tmp 10), type := 57, pos := "fate.go:88", after := #[], guard := none }) (v := ?_) rfl (by kernel_rfl) (fun _ _ _ h => h) (Or.inl ⟨by rfl, ?_⟩) hHeld ?_; rotate_left
      · intro w_ hSw_; (try dsimp only at hSw_); go_simp; (try with_reducible rfl)
      try go_frame
      refine wpF_t (i := 2) (oi := { dst := some 64, op := Go.Op.move (Go.Operand.tmp 13), type := 3, pos := "fate.go:88", after := #[], guard := none }) (v := ?_) rfl (by kernel_rfl) (fun _ _ _ h => h) (Or.inl ⟨by rfl, ?_⟩) hHeld ?_; rotate_left
      · intro w_ hSw_; (try dsimp only at hSw_); go_simp; (try with_reducible rfl)
      try go_frame
      refine wpF_t (i := 5) (oi := { dst := some 67, op := Go.Op.move (Go.Operand.tmp 3), type := 3, pos := "fate.go:88", after := #[], guard := none }) (v := ?_) rfl (by kernel_rfl) (fun _ _ _ h => h) (Or.inl ⟨by rfl, ?_⟩) hHeld ?_; rotate_left
      · intro w_ hSw_; (try dsimp only at hSw_); go_simp; (try with_reducible rfl)
      try go_frame
      refine wpAnyF_one (i := 3) (by kernel_rfl) rfl (fun K hK => ?_)
      go_simp
      (go_at_call 26; (with_reducible refine (hOf_c (i : Int) _ (by omega) (by omega)).mono ?_); rintro e w11 ⟨v, rfl, hv, hb⟩; obtain ⟨n11, A11, m11, k11, rfl, H11⟩ := hv.form; clear hv; replace S_ := S_.keep hb; clear hb)
      refine hK.out _ _ (by exact ⟨⟨S_.vm.c0, S_.vm.c1, S_.vm.c2⟩, S_.va.c0, S_.va.c1⟩) (fun hHeld => ?_)
      clear hK K
      try go_frame
      refine wpAnyF_one (i := 4) (by kernel_rfl) rfl (fun K hK => ?_)
      go_simp
      (go_at_call 25; (with_reducible refine (hAdd_c z (i : Int) _ _ _ S_.va.iz.out H11.out (by have := HL4.out; omega) HLi.out).mono ?_); rintro e w12 ⟨v, rfl, hv, hb⟩; obtain ⟨n12, A12, m12, k12, rfl, H12⟩ := hv.form; clear hv; replace S_ := S_.keep hb; clear hb)
      refine hK.out _ _ (by exact ⟨⟨S_.vm.c0, S_.vm.c1, S_.vm.c2⟩, S_.va.c0, S_.va.c1⟩) (fun hHeld => ?_)
      clear hK K
      try go_frame
      refine wpAnyF_one (i := 6) (by kernel_rfl) rfl (fun K hK => ?_)
      go_simp
      (go_at_call 28; (with_reducible refine (HFL.out _ _ _ S_.vm.im.out H12.out (HT.out.below S_.hb)).mono ?_); rintro e w13 ⟨A13, c13, rfl, HL13, hb⟩; replace S_ := S_.keep hb; clear hb)
      refine hK.out _ _ (by exact ⟨⟨S_.vm.c0, S_.vm.c1, S_.vm.c2⟩, S_.va.c0, S_.va.c1⟩) (fun hHeld => ?_)
      clear hK K
      try go_frame
      refine wpF_t (i := 7) (oi := { dst := some 61, op := Go.Op.move (Go.Operand.tmp 68), type := 64, pos := "fate.go:88", after := #[{ on := 6, ground := Go.Ground.data }], guard := none }) (v := ?_) rfl (by kernel_rfl) (fun _ _ _ h => h) (Or.inl ⟨by rfl, ?_⟩) hHeld ?_; rotate_left
      · intro w_ hSw_; (try dsimp only at hSw_); go_simp; (try with_reducible rfl)
      try go_frame
      refine wpF_t (i := 8) (oi := { dst := some 69, op := Go.Op.extract (Go.Operand.tmp 61) 0, type := 3, pos := "fate.go:88", after := #[{ on := 7, ground := Go.Ground.data }], guard := none }) (v := ?_) rfl (by kernel_rfl) (fun _ _ _ h => h) (Or.inl ⟨by rfl, ?_⟩) hHeld ?_; rotate_left
      · intro w_ hSw_; (try dsimp only at hSw_); go_simp; (try with_reducible rfl)
      try go_frame
      refine wpF_t (i := 9) (oi := { dst := some 70, op := Go.Op.extract (Go.Operand.tmp 61) 1, type := 63, pos := "fate.go:88", after := #[{ on := 7, ground := Go.Ground.data }, { on := 11, ground := Go.Ground.gcOnly Go.Departure.lateStores }], guard := none }) (v := ?_) rfl (by kernel_rfl) (fun _ _ _ h => h) (Or.inl ⟨by rfl, ?_⟩) hHeld ?_; rotate_left
      · intro w_ hSw_; (try dsimp only at hSw_); go_simp; (try with_reducible rfl)
      try go_frame
      refine wpF_t (i := 10) (oi := { dst := some 71, op := Go.Op.extract (Go.Operand.tmp 61) 2, type := 32, pos := "fate.go:88", after := #[{ on := 7, ground := Go.Ground.data }, { on := 12, ground := Go.Ground.gcOnly Go.Departure.lateStores }], guard := none }) (v := ?_) rfl (by kernel_rfl) (fun _ _ _ h => h) (Or.inl ⟨by rfl, ?_⟩) hHeld ?_; rotate_left
      · intro w_ hSw_; (try dsimp only at hSw_); go_simp; (try with_reducible rfl)
      try go_frame
      refine wpF_t (i := 11) (oi := { dst := some 14, op := Go.Op.assign (Go.Operand.tmp 69), type := 3, pos := "fate.go:88", after := #[{ on := 8, ground := Go.Ground.data }, { on := 6, ground := Go.Ground.chain }, { on := 0, ground := Go.Ground.phase }, { on := 1, ground := Go.Ground.phase }, { on := 2, ground := Go.Ground.phase }, { on := 3, ground := Go.Ground.phase }, { on := 4, ground := Go.Ground.phase }, { on := 5, ground := Go.Ground.phase }, { on := 6, ground := Go.Ground.phase }, { on := 7, ground := Go.Ground.phase }, { on := 8, ground := Go.Ground.phase }, { on := 9, ground := Go.Ground.textOnly Go.Departure.lateStores }, { on := 10, ground := Go.Ground.textOnly Go.Departure.lateStores }], guard := none }) (v := ?_) rfl (by kernel_rfl) (fun _ _ _ h => h) (Or.inl ⟨by rfl, ?_⟩) hHeld ?_; rotate_left
      · intro w_ hSw_; (try dsimp only at hSw_); go_simp; (try with_reducible rfl)
      try go_frame
      refine wpF_t (i := 12) (oi := { dst := some 15, op := Go.Op.assign (Go.Operand.tmp 70), type := 63, pos := "fate.go:88", after := #[{ on := 9, ground := Go.Ground.data }, { on := 11, ground := Go.Ground.chain }, { on := 0, ground := Go.Ground.phase }, { on := 1, ground := Go.Ground.phase }, { on := 2, ground := Go.Ground.phase }, { on := 3, ground := Go.Ground.phase }, { on := 4, ground := Go.Ground.phase }, { on := 5, ground := Go.Ground.phase }, { on := 6, ground := Go.Ground.phase }, { on := 7, ground := Go.Ground.phase }, { on := 8, ground := Go.Ground.phase }, { on := 9, ground := Go.Ground.phase }, { on := 10, ground := Go.Ground.textOnly Go.Departure.lateStores }, { on := 11, ground := Go.Ground.phase }], guard := none }) (v := ?_) rfl (by kernel_rfl) (fun _ _ _ h => h) (Or.inl ⟨by rfl, ?_⟩) hHeld ?_; rotate_left
      · intro w_ hSw_; (try dsimp only at hSw_); go_simp; (try with_reducible rfl)
      try go_frame
      refine wpF_t (i := 13) (oi := { dst := some 16, op := Go.Op.assign (Go.Operand.tmp 71), type := 32, pos := "fate.go:88", after := #[{ on := 10, ground := Go.Ground.data }, { on := 12, ground := Go.Ground.chain }, { on := 0, ground := Go.Ground.phase }, { on := 1, ground := Go.Ground.phase }, { on := 2, ground := Go.Ground.phase }, { on := 3, ground := Go.Ground.phase }, { on := 4, ground := Go.Ground.phase }, { on := 5, ground := Go.Ground.phase }, { on := 6, ground := Go.Ground.phase }, { on := 7, ground := Go.Ground.phase }, { on := 8, ground := Go.Ground.phase }, { on := 9, ground := Go.Ground.phase }, { on := 10, ground := Go.Ground.phase }, { on := 11, ground := Go.Ground.phase }, { on := 12, ground := Go.Ground.phase }], guard := none }) (v := ?_) rfl (by kernel_rfl) (fun _ _ _ h => h) (Or.inl ⟨by rfl, ?_⟩) hHeld ?_; rotate_left
      · intro w_ hSw_; (try dsimp only at hSw_); go_simp; (try with_reducible rfl)
      try go_frame
      refine wpAnyF_done (by kernel_rfl) ?_ _
      clear hHeld hWd
      have hqw : IntKind.i64.wrap ((q : Int) + 1) = (q : Int) + 1 := by rw [IntKind.wrap_i64]; omega
      rcases HC.out with h | h | ⟨t, l, h, hl1, -, -, hl4⟩
      · subst h
        dsimp only
        go_wp2
        go_roundg (count - (i + 1))
        case measure => omega
        case rel => exact ⟨i + 1, q + 1, D, rfl, by go_num, by go_num, by omega, by rw [HLS2.out]; simp; omega, by rw [HLS2.out]; simp; exact ⟨S_.hb, S_.vm, S_.va, S_.mp.mono (by omega), S_.nm⟩⟩
      · subst h
        dsimp only
        go_wp2
        go_roundg (count - (i + 1))
        case measure => omega
        case rel => exact ⟨i + 1, q + 1, D, rfl, by go_num, by go_num, by omega, by rw [HLS2.out]; simp; omega, by rw [HLS2.out]; simp; exact ⟨S_.hb, S_.vm, S_.va, S_.mp.mono (by omega), S_.nm⟩⟩
      · subst h
        dsimp only at HL13 HLS2 ⊢
        have hd0 := hl4 (gd l 0) (gd_mem hl1)
        obtain ⟨bl, ol, n0, A0, m0, k0, rfl, hbl, g0, g1, gi⟩ := HL13.out.at (j := 0) hl1
        replace g0 : w13.cell? ⟨bl, ol, none⟩ = some (.bool n0) := g0
        replace g1 : w13.cell? ⟨bl, ol + 1, none⟩ = some (.slice A0 m0 k0) := g1
        have hll : (0 : Int) < (l.length : Int) := by omega
        generalize hyy : gd l 0 = y at *
        clear hyy
        generalize l.length = ll at *
        go_wp2_with fail
        (with_reducible refine (hStr_c y _ _ gi.out (HT.out.below S_.hb) (by have := len_of_dl hd0; omega)).mono ?_)
        rintro e w14 ⟨rfl, hb⟩
        replace S_ := S_.keep hb
        have g2 := (hb.cell (p := ⟨bl, ol, none⟩) hbl).trans g0
        have g3 := (hb.cell (p := ⟨bl, ol + 1, none⟩) hbl).trans g1
        have gj := gi.below hb
        clear hb g0 g1 gi
        go_wp2_with fail
        replace S_ := S_.drew
        replace g2 : w14.drew.cell? ⟨bl, ol, none⟩ = some (.bool n0) := g2
        replace g3 : w14.drew.cell? ⟨bl, ol + 1, none⟩ = some (.slice A0 m0 k0) := g3
        replace gj := gj.below (below_drew (Below.refl w14.heap.size w14))
        generalize hWd : w14.drew = wd at *
        have hsz : (tS y).size ≤ maxLen := by unfold maxLen; exact tS_sz (by rw [← dl_dlN]; exact hd0)
        obtain ⟨nb, Ab, mb, kb, hlook⟩ := S_.nm.look S_.mp hsz
        obtain ⟨W', D', hupd, hmp, hgr, hnm⟩ := S_.nm.upd S_.mp (by unfold maxLen; omega) hsz (n := n0) (A := A0) (m := m0) (k := k0) gj
        have hcy0 : (0 : Int) ≤ ((lsts M most z i).count y : Int) := by omega
        have hcy1 : ((lsts M most z i).count y : Int) ≤ 20000 := by have := List.count_le_length (l := lsts M most z i) (a := y); omega
        generalize hcy : ((lsts M most z i).count y : Int) = cy at *
        have hcw : IntKind.i64.wrap (cy + 1) = cy + 1 := by rw [IntKind.wrap_i64]; omega
        generalize tS y = sy at *
        unfold nmV at hlook hupd
        have hfld : ∀ w_, (Instr.field 68 (.agg #[.bool nb, .slice Ab mb kb, .int .i64 cy]) 1).run Tryz.prog w_ = .ok (.int .i64 cy) w_ := fun w_ => by kernel_rfl
        refine wp_region_F (fun w' => (w'.cell? ⟨bl, ol, none⟩ = some (.bool n0) ∧ w'.cell? ⟨bl, ol + 1, none⟩ = some (.slice A0 m0 k0)) ∧ (Instr.lookup 62 (.map (some bM)) (.string sy) false).run Tryz.prog w' = .ok (.agg #[.bool nb, .slice Ab mb kb, .int .i64 cy]) w') [11] (by kernel_rfl) (by rw [hWd]; exact ⟨⟨g2, g3⟩, hlook⟩) (fun hHeld => ?_)
        rw [hWd] at hHeld ⊢
        refine wpF_t (i := 0) (oi := { dst := some 80, op := Go.Op.move (Go.Operand.tmp 11), type := 62, pos := "fate.go:94", after := #[], guard := none }) (v := ?_) rfl (by kernel_rfl) (fun _ _ _ h => h) (Or.inl ⟨by rfl, ?_⟩) hHeld ?_; rotate_left
        · intro w_ hSw_; (try dsimp only at hSw_); go_simp; (try with_reducible rfl)
        try go_frame
        refine wpF_t (i := 1) (oi := { dst := some 81, op := Go.Op.move (Go.Operand.tmp 17), type := 9, pos := "fate.go:94", after := #[], guard := none }) (v := ?_) rfl (by kernel_rfl) (fun _ _ _ h => h) (Or.inl ⟨by rfl, ?_⟩) hHeld ?_; rotate_left
        · intro w_ hSw_; (try dsimp only at hSw_); go_simp; (try with_reducible rfl)
        try go_frame
        refine wpF_t (i := 2) (oi := { dst := some 82, op := Go.Op.move (Go.Operand.tmp 15), type := 63, pos := "fate.go:94", after := #[], guard := none }) (v := ?_) rfl (by kernel_rfl) (fun _ _ _ h => h) (Or.inl ⟨by rfl, ?_⟩) hHeld ?_; rotate_left
        · intro w_ hSw_; (try dsimp only at hSw_); go_simp; (try with_reducible rfl)
        try go_frame
        refine wpF_t (i := 3) (oi := { dst := some 83, op := Go.Op.indexAddr 63 (Go.Operand.tmp 82) (Go.Operand.const (Go.Value.int Go.IntKind.i64 0)), type := 0, pos := "fate.go:94", after := #[{ on := 2, ground := Go.Ground.data }], guard := none }) (v := ?_) rfl (by kernel_rfl) (fun _ _ _ h => h) (Or.inl ⟨by rfl, ?_⟩) hHeld ?_; rotate_left
        · intro w_ hSw_; (try dsimp only at hSw_); go_simp; (try with_reducible rfl)
        try go_frame
        refine wpF_t (i := 4) (oi := { dst := some 84, op := Go.Op.load 57 (Go.Operand.tmp 83), type := 57, pos := "fate.go:94", after := #[{ on := 3, ground := Go.Ground.data }], guard := none }) (v := ?_) rfl (by kernel_rfl) (fun _ _ _ h => h) (Or.inl ⟨by rfl, ?_⟩) hHeld ?_; rotate_left
        · intro w_ hSw_; (try dsimp only at hSw_); go_simp; (try with_reducible rfl)
        try go_frame
        refine wpF_t (i := 5) (oi := { dst := some 85, op := Go.Op.move (Go.Operand.tmp 11), type := 62, pos := "fate.go:94", after := #[], guard := none }) (v := ?_) rfl (by kernel_rfl) (fun _ _ _ h => h) (Or.inl ⟨by rfl, ?_⟩) hHeld ?_; rotate_left
        · intro w_ hSw_; (try dsimp only at hSw_); go_simp; (try with_reducible rfl)
        try go_frame
        refine wpF_t (i := 6) (oi := { dst := some 86, op := Go.Op.move (Go.Operand.tmp 17), type := 9, pos := "fate.go:94", after := #[], guard := none }) (v := ?_) rfl (by kernel_rfl) (fun _ _ _ h => h) (Or.inl ⟨by rfl, ?_⟩) hHeld ?_; rotate_left
        · intro w_ hSw_; (try dsimp only at hSw_); go_simp; (try with_reducible rfl)
        try go_frame
        refine wpF_t (i := 7) (oi := { dst := some 87, op := Go.Op.lookup 62 (Go.Operand.tmp 85) (Go.Operand.tmp 86) false, type := 68, pos := "fate.go:94", after := #[{ on := 5, ground := Go.Ground.data }, { on := 6, ground := Go.Ground.data }], guard := none }) (v := ?_) rfl (by kernel_rfl) (fun _ _ _ h => h) (Or.inl ⟨by rfl, ?_⟩) hHeld ?_; rotate_left
        · intro w_ hSw_; (try dsimp only at hSw_); go_simp; (try with_reducible rfl)
        try go_frame
        refine wpF_t (i := 8) (oi := { dst := some 88, op := Go.Op.field 68 (Go.Operand.tmp 87) 1, type := 3, pos := "fate.go:94", after := #[{ on := 7, ground := Go.Ground.data }], guard := none }) (v := ?_) rfl (by kernel_rfl) (fun _ _ _ h => h) (Or.inl ⟨by rfl, ?_⟩) hHeld ?_; rotate_left
        · intro w_ hSw_; (try dsimp only at hSw_); go_simp; (try with_reducible rfl)
        try go_frame
        refine wpF_t (i := 9) (oi := { dst := some 89, op := Go.Op.binOp Go.BinOp.add 3 (Go.Operand.tmp 88) (Go.Operand.const (Go.Value.int Go.IntKind.i64 1)) 3, type := 3, pos := "fate.go:94", after := #[{ on := 8, ground := Go.Ground.data }], guard := none }) (v := ?_) rfl (by kernel_rfl) (fun _ _ _ h => h) (Or.inl ⟨by rfl, ?_⟩) hHeld ?_; rotate_left
        · intro w_ hSw_; (try dsimp only at hSw_); go_simp; (try with_reducible rfl)
        try go_frame
        refine wpF_t (i := 10) (oi := { dst := some 90, op := Go.Op.build 68 #[(0, Go.Operand.tmp 84), (1, Go.Operand.tmp 89)], type := 68, pos := "fate.go:94", after := #[{ on := 4, ground := Go.Ground.data }, { on := 9, ground := Go.Ground.data }], guard := none }) (v := ?_) rfl (by kernel_rfl) (fun _ _ _ h => h) (Or.inl ⟨by rfl, ?_⟩) hHeld ?_; rotate_left
        · intro w_ hSw_; (try dsimp only at hSw_); go_simp; (try with_reducible rfl)
        try go_frame
        refine wpAnyF_st (i := 11) (by kernel_rfl) (by kernel_rfl) rfl (fun K hK => ?_)
        go_simp
        refine hK.out _ _ ?_
        clear hK K
        try go_frame
        refine wpAnyF_done (by kernel_rfl) ?_ _
        clear hHeld hWd
        have hr2 : ∀ r, some bM = some r → ∃ o : Obj, wd.heap[r]? = some o ∧ o.isCells = false := fun r e => by
          cases e
          obtain ⟨es, clock, hb, -⟩ := S_.mp
          exact ⟨_, hb, rfl⟩
        have hk2 := Kp.own hgr hr2
        have S1 : SuS w W' md A n c A' n' c' M ba n4 A4 m4 k4 z bM (i + 1) D' (lsts M most z i ++ [y]) :=
          ⟨S_.hb.grown hgr S_.hb.size (fun r e => by cases e; exact hbM), S_.vm.grown hgr (ne_of_cell S_.vm.c0 hr2) hk2, S_.va.grown hgr (ne_of_cell S_.va.c0 hr2) hk2, hmp, hnm⟩
        clear S_ hmp hnm hgr hupd hlook hfld g2 g3 gj hcy hr2 hk2
        go_wp2
        go_roundg (count - (i + 1))
        case measure => omega
        case rel => exact ⟨i + 1, q, D', rfl, rfl, by go_num, by omega, by rw [HLS2.out]; simp; omega, by rw [HLS2.out]; exact S1⟩
    · have hi1 : ¬ (i : Int) < (count : Int) := by omega
      obtain rfl : i = count := by omega
      have hmp := S_.mp
      go_wp2_with (at_range; refine wpList_range_own _ rfl _ 62 rfl 9 68 (string_keyed Tryz.underlying9) Tryz.underlying62 nmR bM _ D rfl hmp ?_; intro w0 hrg0 hg0 hs0)
      try go_frame
      have HBw := S_.hb.grown hg0 S_.hb.size (fun r e => by cases e)
      have hnm0 := S_.nm.kp (Kp.own hg0 (fun r e => by cases e))
      obtain ⟨rb, hrb⟩ : ∃ r, wr.heap.size = r := ⟨_, rfl⟩
      rw [hrb] at hrg0 ⊢
      obtain ⟨B0, hB0⟩ : ∃ B, w0.heap.size = B := ⟨_, rfl⟩
      have hbr : rb < B0 := by omega
      have hwr : w.heap.size ≤ rb := by rw [← hrb]; exact S_.hb.size
      clear S_ hmp hg0 hs0 hrb
      have hbMB : bM < B0 := by rw [← hB0]; exact hrg0.owns.lt
      go_loopg [18] (size D) (fun g lv wr2 => ∃ (left : Lit → Bool) (L : List NT), wr2.ranges Tryz.prog 9 nmR bM rb i D left g ∧ Below w.heap.size w wr2 ∧ OwN wr2 B0 lv L ∧ B0 ≤ wr2.heap.size ∧ KB B0 w0 wr2 ∧ NL w0 (lsts M most z i) left L)
      case atStart => exact ⟨_, [], hrg0, HBw, OwN.nil _ _, by omega, KB.refl _ _, NL.start _ _ _ (fun y hy => by rw [hnm0.has_]; exact decide_eq_true hy)⟩
      case round =>
        clear hrg0 HBw
        obtain ⟨left, L, hrg, HBr, HOr, hB0r, hKr, hNL⟩ := hrel
        go_wp2_with (at_next; refine wpList_next_ranges _ rfl _ rfl 9 (string_keyed Tryz.underlying9) nmR (fun s : ByteArray => .string s) (fun b : NmB => nmV b.b b.A b.m b.k b.c) (fun _ _ h => key_string h) (fun _ _ h => by obtain ⟨n, A, m, k, c, e, -⟩ := nmR_inv h; exact ⟨⟨n, A, m, k, c⟩, e⟩) bM rb _ D left _ rfl hrg ?_ ?_)
        · intro hc0 hl0
          have HMEM := Lib.hid (hNL.done hl0)
          have HIS : Hid (∀ x, x ∈ L → IsH w0 (.agg #[.bool x.1, .slice x.2.1 x.2.2.1 x.2.2.2.1]) x.2.2.2.2.2) := fun x hx => (hNL.mem x hx).2.2.2
          have HDL : Hid (∀ x, x ∈ L → dl x.2.2.2.2.2 ≤ 2000) := fun x hx => lsts_dl (hNL.mem x hx).1
          have HND := Lib.hid hNL.nodup
          have hlen : L.length ≤ 20000 := by have h8 := hNL.len; have h9 := lsts_len M most z i; omega
          have HQL := Lib.hid hql
          have HSO := Lib.hid (sort_c w0 wr B0 hB0 hKr _ L HOr HIS.out (by omega))
          have HK0 := Lib.hid hKr
          have HB0 := Lib.hid hB0
          have hwB : w.heap.size ≤ B0 := by omega
          clear hrg hNL hKr HOr hc0 hl0 hql hnm0 hB0
          go_wp2_with (go_at_call 30; (with_reducible refine HSO.out.mono ?_); rintro e w3 ⟨rfl, L', hp, hs, HO3, HB3⟩)
          have HSV : Hid (SrvOK (lsts M most z i) (L'.map fun x => (x.2.2.2.2.2, x.2.2.2.2.1))) := SrvOK.of_perm HMEM.out (hp.map _) (strict_pair hs ((hp.map (fun x => x.2.2.2.2.2)).nodup_iff.1 HND.out))
          have HKW := HK0.out.below HB3
          have HI3 : Hid (∀ x, x ∈ L' → IsH w3 (.agg #[.bool x.1, .slice x.2.1 x.2.2.1 x.2.2.2.1]) x.2.2.2.2.2) := fun x hx => HKW.isH (Nat.le_of_eq HB0.out) (HIS.out x (hp.mem_iff.2 hx))
          have HD3 : Hid (∀ x, x ∈ L' → dl x.2.2.2.2.2 ≤ 2000) := fun x hx => HDL.out x (hp.mem_iff.2 hx)
          have hlen3 : L'.length ≤ 20000 := by rw [← hp.length_eq]; exact hlen
          have HBw3 := HBr.trans (HB3.mono hwB)
          obtain ⟨A3, c3, rfl, hl3⟩ := HO3.form
          have HL3 := Lib.hid hl3
          have HT3 := Lib.hid (HT.out.below HBw3)
          clear HMEM HIS HDL HND hlen HSO HK0 HKW HB0 hp hs HO3 HB3 HBr hl3 L hB0r hbr hwr hbMB hwB
          go_wp2_with fail
          go_simp
          go_wp2_with fail
          obtain ⟨B3, hB3⟩ : ∃ B, w3.heap.size = B := ⟨_, rfl⟩
          go_loopg [21, 106] L'.length (fun g ov iv wr3 => ∃ j : Nat, g = L'.length - j ∧ iv = .int .i64 j ∧ j ≤ L'.length ∧ Hid (OwC wr3 B3 ov ((L'.take j).map nmF)) ∧ Below B3 w3 wr3)
          case atStart => exact ⟨0, rfl, rfl, Nat.zero_le _, OwC.nil _ _, Below.refl _ _⟩
          case round =>
            obtain ⟨j, hgj, rfl, hj, HO, HB⟩ := hrel
            have hj0 : (0 : Int) ≤ (j : Int) := by omega
            have hbs := HB.size
            by_cases hjL : j < L'.length
            · have hj1 : (j : Int) < (L'.length : Int) := by omega
              have hb3 : Below w3.heap.size w3 wr := by rw [hB3]; exact HB
              obtain ⟨b9, o9, rfl, g0, g1, g2⟩ := (HL3.out.below hb3).el (j := j) hjL
              have hmem : gN L' j ∈ L' := by rw [gN_lt hjL]; exact List.getElem_mem hjL
              have HY := Lib.hid ((HI3.out _ hmem).below hb3)
              have hd5 := HD3.out _ hmem
              have HTK := Lib.hid (take_nmF hjL)
              have hlt : (((L'.take j).map nmF).length + 1) * 24 ≤ 140737488355328 := by rw [List.length_map, List.length_take]; omega
              clear hmem hb3
              generalize gN L' j = x5 at *
              obtain ⟨n5, A5, m5, k5, q5, y5⟩ := x5
              dsimp only at g0 g1 g2 HY hd5
              have p0 := g0.c; have p1 := g1.c; have p2 := g2.c
              go_upto_region 29 with fail
              clear p0 p1 p2 g0 g1 g2
              have hne : Hid (Value.ownBlock u21 ≠ some wr.heap.size) := fun e => by have := (World.ownsRow.lt HO.out _ e).2; omega
              have hba := below_alloc (Below.refl wr.heap.size wr) (Obj.cells #[Value.bool n5, Value.slice A5 m5 k5, Value.int .i64 (q5 : Int)] 68)
              replace HO := Lib.hid (HO.out.below hba)
              replace HY := Lib.hid (HY.out.below hba)
              replace HB := HB.trans (hba.mono (by omega))
              have g0 : CL (wr.alloc (Obj.cells #[Value.bool n5, Value.slice A5 m5 k5, Value.int .i64 (q5 : Int)] 68)) wr.heap.size 0 (.bool n5) := ⟨by simp [go_sem], by simp⟩
              have g1 : CL (wr.alloc (Obj.cells #[Value.bool n5, Value.slice A5 m5 k5, Value.int .i64 (q5 : Int)] 68)) wr.heap.size 1 (.slice A5 m5 k5) := ⟨by simp [go_sem], by simp⟩
              have g2 : CL (wr.alloc (Obj.cells #[Value.bool n5, Value.slice A5 m5 k5, Value.int .i64 (q5 : Int)] 68)) wr.heap.size 2 (.int .i64 (q5 : Int)) := ⟨by simp [go_sem], by simp⟩
              have hbs2 : B3 ≤ (wr.alloc (Obj.cells #[Value.bool n5, Value.slice A5 m5 k5, Value.int .i64 (q5 : Int)] 68)).heap.size := by have := hba.size; omega
              clear hba hbs
              generalize hWa : wr.alloc (Obj.cells #[Value.bool n5, Value.slice A5 m5 k5, Value.int .i64 (q5 : Int)] 68) = W5 at *
              generalize wr.heap.size = bv at *
              clear hWa
              have p0 := g0.c; have p1 := g1.c; have p2 := g2.c
              go_wp2_with fail
              clear p0 p1 p2
              replace g0 := g0.drew; replace g1 := g1.drew; replace g2 := g2.drew
              replace HO := Lib.hid (HO.out.below (below_drew (Below.refl _ _)))
              replace HY := Lib.hid (HY.out.below (below_drew (Below.refl _ _)))
              replace HB := below_drew HB
              replace hbs2 : B3 ≤ W5.drew.heap.size := hbs2
              generalize hWd : W5.drew = wd at *
              refine wp_region_F (fun w' => w'.cell? ⟨bv, 0, none⟩ = some (.bool n5) ∧ w'.cell? ⟨bv, 1, none⟩ = some (.slice A5 m5 k5) ∧ w'.cell? ⟨bv, 2, none⟩ = some (.int .i64 (q5 : Int))) [] (by kernel_rfl) (by rw [hWd]; exact ⟨g0.c, g1.c, g2.c⟩) (fun hHeld => ?_)
              rw [hWd] at hHeld ⊢
              refine wpF_t (i := 0) (oi := { dst := some 110, op := Go.Op.move (Go.Operand.tmp 21), type := 31, pos := "fate.go:103", after := #[], guard := none }) (v := ?_) rfl (by kernel_rfl) (fun _ _ _ h => h) (Or.inl ⟨by rfl, ?_⟩) hHeld ?_; rotate_left
              · intro w_ hSw_; (try dsimp only at hSw_); go_simp; (try with_reducible rfl)
              try go_frame
              refine wpF_t (i := 1) (oi := { dst := some 111, op := Go.Op.fieldAddr 68 (Go.Operand.tmp 23) 0, type := 0, pos := "fate.go:103", after := #[], guard := none }) (v := ?_) rfl (by kernel_rfl) (fun _ _ _ h => h) (Or.inl ⟨by rfl, ?_⟩) hHeld ?_; rotate_left
              · intro w_ hSw_; (try dsimp only at hSw_); go_simp; (try with_reducible rfl)
              try go_frame
              refine wpF_t (i := 2) (oi := { dst := some 112, op := Go.Op.load 57 (Go.Operand.tmp 111), type := 57, pos := "fate.go:103", after := #[{ on := 1, ground := Go.Ground.data }], guard := none }) (v := ?_) rfl (by kernel_rfl) (fun _ _ _ h => h) (Or.inl ⟨by rfl, ?_⟩) hHeld ?_; rotate_left
              · intro w_ hSw_; (try dsimp only at hSw_); go_simp; (try with_reducible rfl)
              try go_frame
              refine wpF_t (i := 4) (oi := { dst := some 114, op := Go.Op.fieldAddr 68 (Go.Operand.tmp 23) 1, type := 0, pos := "fate.go:103", after := #[], guard := none }) (v := ?_) rfl (by kernel_rfl) (fun _ _ _ h => h) (Or.inl ⟨by rfl, ?_⟩) hHeld ?_; rotate_left
              · intro w_ hSw_; (try dsimp only at hSw_); go_simp; (try with_reducible rfl)
              try go_frame
              refine wpF_t (i := 5) (oi := { dst := some 115, op := Go.Op.load 3 (Go.Operand.tmp 114), type := 3, pos := "fate.go:103", after := #[{ on := 4, ground := Go.Ground.data }], guard := none }) (v := ?_) rfl (by kernel_rfl) (fun _ _ _ h => h) (Or.inl ⟨by rfl, ?_⟩) hHeld ?_; rotate_left
              · intro w_ hSw_; (try dsimp only at hSw_); go_simp; (try with_reducible rfl)
              try go_frame
              refine wpAnyF_one (i := 3) (by kernel_rfl) rfl (fun K hK => ?_)
              go_simp
              (go_at_call 29; (with_reducible refine (hStr_c y5 _ _ HY.out (HT3.out.below (by rw [hB3]; exact HB)) (by have := len_of_dl hd5; omega)).mono ?_); rintro e w15 ⟨rfl, hb⟩; replace g0 := g0.keep hb; replace g1 := g1.keep hb; replace g2 := g2.keep hb; replace HO := Lib.hid (HO.out.below hb); replace HB := HB.trans (hb.mono (by omega)); have hbs3 : B3 ≤ w15.heap.size := (by have := hb.size; omega); clear hb)
              refine hK.out _ _ (by exact ⟨g0.c, g1.c, g2.c⟩) (fun hHeld => ?_)
              clear hK K
              try go_frame
              refine wpF_t (i := 6) (oi := { dst := some 116, op := Go.Op.build 74 #[(0, Go.Operand.tmp 113), (1, Go.Operand.tmp 115)], type := 74, pos := "fate.go:103", after := #[{ on := 3, ground := Go.Ground.data }, { on := 5, ground := Go.Ground.data }], guard := none }) (v := ?_) rfl (by kernel_rfl) (fun _ _ _ h => h) (Or.inl ⟨by rfl, ?_⟩) hHeld ?_; rotate_left
              · intro w_ hSw_; (try dsimp only at hSw_); go_simp; (try with_reducible rfl)
              try go_frame
              refine wpAnyF_one (i := 7) (by kernel_rfl) rfl (fun K hK => ?_)
              go_simp
              have hbA := below_alloc (Below.refl w15.heap.size w15) (Obj.cells #[Value.string (tS y5), Value.int .i64 (q5 : Int)] 74)
              refine hK.out _ _ (by exact ⟨(g0.keep hbA).c, (g1.keep hbA).c, (g2.keep hbA).c⟩) (fun hHeld => ?_)
              clear hK K
              try go_frame
              refine wpAnyF_one (i := 8) (by kernel_rfl) rfl (fun K hK => ?_)
              rw [if_pos (show Region.wanted _ _ = true from rfl)]
              clear hbA; refine app_RW B3 _ _ 31 74 (.agg #[.string ByteArray.empty, .int .i64 0]) 2 24 [.string (tS y5), .int .i64 (q5 : Int)] ((L'.take j).map nmF).length (cns ((L'.take j).map nmF)) rfl Tryz.underlying31 info_C rfl (by decide) (by decide) rfl (by simp [Value.oneCell']) _ HO.out rfl rfl HB hbs3 hlt (fun v1 w1 HO1 HB1 hb1 hfar => ?_)
              refine hK.out _ _ (by exact ⟨(World.cell?_of_block (hfar _ g0.lt hne.out)).trans g0.c, (World.cell?_of_block (hfar _ g1.lt hne.out)).trans g1.c, (World.cell?_of_block (hfar _ g2.lt hne.out)).trans g2.c⟩) (fun hHeld => ?_)
              clear hK K
              try go_frame
              refine wpF_t (i := 9) (oi := { dst := some 21, op := Go.Op.assign (Go.Operand.tmp 118), type := 31, pos := "fate.go:103", after := #[{ on := 8, ground := Go.Ground.data }, { on := 8, ground := Go.Ground.chain }, { on := 0, ground := Go.Ground.phase }, { on := 1, ground := Go.Ground.phase }, { on := 2, ground := Go.Ground.phase }, { on := 3, ground := Go.Ground.phase }, { on := 4, ground := Go.Ground.phase }, { on := 5, ground := Go.Ground.phase }, { on := 6, ground := Go.Ground.phase }, { on := 7, ground := Go.Ground.phase }, { on := 8, ground := Go.Ground.phase }], guard := none }) (v := ?_) rfl (by kernel_rfl) (fun _ _ _ h => h) (Or.inl ⟨by rfl, ?_⟩) hHeld ?_; rotate_left
              · intro w_ hSw_; (try dsimp only at hSw_); go_simp; (try with_reducible rfl)
              try go_frame
              refine wpAnyF_done (by kernel_rfl) ?_ _
              clear hHeld hWd
              have HO3 : Hid (OwC w1 B3 v1 ((L'.take (j + 1)).map nmF)) := by
                show OwC _ _ _ _
                rw [HTK.out]
                unfold OwC
                rw [cns_snoc, List.length_append]
                exact HO1
              go_wp2
              go_roundg (L'.length - (j + 1))
              case measure => omega
              case rel => exact ⟨j + 1, rfl, by go_num, by omega, HO3, HB1⟩
            · obtain rfl : j = L'.length := by omega
              have hj1 : ¬ ((L'.length : Nat) : Int) < (L'.length : Int) := by omega
              rw [List.take_length] at HO
              have hb3 : w.heap.size ≤ B3 := by rw [← hB3]; exact HBw3.size
              have HB4 := HBw3.trans (HB.mono hb3)
              by_cases hq : q = 0
              · subst hq
                have hq1 : ¬ (0 : Int) < ((0 : Nat) : Int) := by omega
                obtain ⟨A9, c9, rfl, hs9⟩ := HO.out.form
                have HS9 := Lib.hid hs9
                have HCN : Hid (cnL (L'.map (fun x => (x.2.2.2.2.2, x.2.2.2.2.1))) 0 = L'.map nmF) := by show _ = _; unfold cnL; rw [if_pos rfl, List.append_nil, List.map_map]; rfl
                clear hs9 HO
                go_wp2
                go_ret2
                exact ⟨_, 0, A9, c9, by rw [HCN.out, List.length_map]; rfl, HQL.out, HSV.out, by show LsC _ _ _ _; rw [HCN.out]; exact HS9.out, HB4⟩
              · have hq1 : (0 : Int) < (q : Int) := by omega
                have HCN : Hid (cnL (L'.map (fun x => (x.2.2.2.2.2, x.2.2.2.2.1))) q = L'.map nmF ++ [(ByteArray.empty, q)]) := by show _ = _; unfold cnL; rw [if_neg hq, List.map_map]; rfl
                have hlt : ((L'.map nmF).length + 1) * 24 ≤ 140737488355328 := by rw [List.length_map]; omega
                have hbs4 : B3 ≤ wr.heap.size := by omega
                go_wp2_with (at_builtin; refine app_R B3 rfl _ _ 31 74 (.agg #[.string ByteArray.empty, .int .i64 0]) 2 24 [.string ByteArray.empty, .int .i64 (q : Int)] (L'.map nmF).length (cns (L'.map nmF)) rfl Tryz.underlying31 info_C rfl (by decide) (by decide) rfl (by simp [Value.oneCell']) _ HO.out rfl rfl HB hbs4 hlt ?_; intro v1 w1 HO1 HB1 hb1)
                have HO3 : OwC w1 B3 v1 (L'.map nmF ++ [(ByteArray.empty, q)]) := by
                  unfold OwC
                  rw [cns_snoc, List.length_append]
                  exact HO1
                obtain ⟨A9, c9, rfl, hs9⟩ := HO3.form
                have HS9 := Lib.hid hs9
                have HB5 := HBw3.trans (HB1.mono hb3)
                clear hs9 HO3 HO1 HO
                go_wp2
                go_ret2
                exact ⟨_, q, A9, c9, by rw [HCN.out]; rfl, HQL.out, HSV.out, by show LsC _ _ _ _; rw [HCN.out]; exact HS9.out, HB5⟩
        · rintro x ⟨nb, Ab, mb, kb, cb⟩ kl y ps w1 cnt1 hkey hlk hv hat hrg1 hlt hg1 hs1 hen
          try dsimp only at hv hen
          rw [nmR_V] at hv
          cases hv
          obtain ⟨yy, hyc, rfl, n5, A5, m5, k5, he5, hi5⟩ := hnm0.entry hat
          unfold nmV at he5 hen
          simp only [Value.agg.injEq, Array.mk.injEq, List.cons.injEq, Value.bool.injEq, Value.slice.injEq, Value.int.injEq, and_true, true_and] at he5
          obtain ⟨rfl, ⟨rfl, rfl, rfl⟩, rfl⟩ := he5
          have hK1 := hKr.own hg1 (ranges_iter hrg)
          have HO1 := HOr.own hg1 hbr
          have HB1 := HBr.grown hg1 HBr.size (fun r e => by cases e; exact hwr)
          have hNL1 := hNL.step (x := (nb, Ab, mb, kb, (lsts M most z i).count yy, yy)) hyc hlk rfl hi5
          have hbs0 : B0 ≤ w1.heap.size := by omega
          clear hrg HBr HOr hKr hNL hat hkey hg1 hs1
          have hl16 : (L.length + 1) * 40 ≤ 140737488355328 := by have h8 := hNL1.len; have h9 := lsts_len M most z i; rw [List.length_append] at h8; simp at h8; omega
          go_upto_region 23 with fail
          have hba := below_alloc (Below.refl w1.heap.size w1) (Obj.cells #[Value.bool nb, Value.slice Ab mb kb, Value.int .i64 ((lsts M most z i).count yy : Int)] 68)
          replace HO1 := HO1.below hba
          replace HB1 := below_step HB1 hba
          replace hK1 := hK1.below (hba.mono (by omega))
          replace hrg1 := hrg1.alloc (Obj.cells #[Value.bool nb, Value.slice Ab mb kb, Value.int .i64 ((lsts M most z i).count yy : Int)] 68)
          have hbs : B0 ≤ (w1.alloc (Obj.cells #[Value.bool nb, Value.slice Ab mb kb, Value.int .i64 ((lsts M most z i).count yy : Int)] 68)).heap.size := by have := hba.size; omega
          have g0 : (w1.alloc (Obj.cells #[Value.bool nb, Value.slice Ab mb kb, Value.int .i64 ((lsts M most z i).count yy : Int)] 68)).cell? ⟨w1.heap.size, 0, none⟩ = some (.bool nb) := by simp [go_sem]
          have g1 : (w1.alloc (Obj.cells #[Value.bool nb, Value.slice Ab mb kb, Value.int .i64 ((lsts M most z i).count yy : Int)] 68)).cell? ⟨w1.heap.size, 1, none⟩ = some (.slice Ab mb kb) := by simp [go_sem]
          have g2 : (w1.alloc (Obj.cells #[Value.bool nb, Value.slice Ab mb kb, Value.int .i64 ((lsts M most z i).count yy : Int)] 68)).cell? ⟨w1.heap.size, 2, none⟩ = some (.int .i64 ((lsts M most z i).count yy : Int)) := by simp [go_sem]
          clear hba hen hi5
          generalize hWa : w1.alloc (Obj.cells #[Value.bool nb, Value.slice Ab mb kb, Value.int .i64 ((lsts M most z i).count yy : Int)] 68) = W2 at *
          generalize w1.heap.size = b2 at *
          clear hWa
          go_wp2_with (at_builtin; refine app_R B0 rfl _ _ 69 68 (.agg #[.bool false, .slice none 0 0, .int .i64 0]) 3 40 [.bool nb, .slice Ab mb kb, .int .i64 ((lsts M most z i).count yy : Int)] L.length (ntsC L) rfl Tryz.underlying69 info_Nm rfl (by decide) (by decide) rfl (by simp [Value.oneCell']) _ HO1 rfl rfl (Below.refl _ _) hbs hl16 ?_; intro v1 w2 HO2 HB2 hb2)
          have HO3 : OwN w2 B0 v1 (L ++ [(nb, Ab, mb, kb, (lsts M most z i).count yy, yy)]) := by
            unfold OwN
            rw [ntsC_snoc, List.length_append]
            exact HO2
          go_roundg cnt1
          case measure => omega
          case rel => exact ⟨_, _, ranges_below hrg1 HB2 hbMB hbr, HB1.trans (HB2.mono (by omega)), HO3, hb2, hK1.below HB2, hNL1⟩
end Go.Proofs.YtiaeeclmlchpoaaGreatDoor
