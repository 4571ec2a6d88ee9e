/- Tables of strings by strings (map[string]string) of the call's own; the numbers of loops by their least ones. No condition. -/
import Derived.Test.YtibdipfhfaeooaaGreatDoorZU
import Derived.Maps.OwnSet
import Derived.Maps.StringElems
import Derived.Test.YtibdipfhfaeooaaGreatDoorZV
import Derived.Test.YtibdipfhfaeooaaGreatDoorZE
set_option linter.unusedVariables false
set_option linter.unusedSimpArgs false
namespace Go.Proofs.YtibdipfhfaeooaaGreatDoor
open Go.RowKit Go.Shelf Go.Maps

abbrev SP := ByteArray × ByteArray
def strD (l : List SP) : DataW Unit := l.foldl (fun D p => D.put (kB p.1) (.lit (.string p.2.data.toList))) (.map [])
theorem strD_snoc (l : List SP) (p : SP) : strD (l ++ [p]) = (strD l).put (kB p.1) (.lit (.string p.2.data.toList)) := by unfold strD; rw [List.foldl_append]; rfl
theorem strD_map (l : List SP) : IsMap (strD l) := by
 refine snocIndB (P := fun l => IsMap (strD l)) ⟨[], rfl⟩ (fun l z ih => ?_) l
 rw [strD_snoc]; exact ih.put _ _
/-- What stands behind a key: the last that was put there. -/
def lkp (l : List SP) (s : ByteArray) : Option ByteArray := l.foldl (fun o p => if p.1 = s then some p.2 else o) none
theorem lkp_snoc (l : List SP) (p : SP) (s : ByteArray) : lkp (l ++ [p]) s = if p.1 = s then some p.2 else lkp l s := by unfold lkp; rw [List.foldl_append]; rfl
theorem strD_has (l : List SP) (s : ByteArray) : Maps.has (strD l) (kB s) = (lkp l s).isSome := by
 refine snocIndB (P := fun l => Maps.has (strD l) (kB s) = (lkp l s).isSome) rfl (fun l y ih => ?_) l
 rw [strD_snoc, lkp_snoc]
 by_cases h : y.1 = s
 ·rw [if_pos h, ← h, has_put_same (strD_map l) (kB_key _)]; rfl
 ·rw [if_neg h, has_put_other (fun e => h (kB_inj e).symm), ih]
theorem strD_at (l : List SP) (s : ByteArray) : (strD l).atKey (kB s) (.lit (.string [])) = .lit (.string ((lkp l s).getD ⟨#[]⟩).data.toList) := by
 refine snocIndB (P := fun l => (strD l).atKey (kB s) (.lit (.string [])) = .lit (.string ((lkp l s).getD ⟨#[]⟩).data.toList)) rfl (fun l y ih => ?_) l
 rw [strD_snoc, lkp_snoc]
 by_cases h : y.1 = s
 ·rw [if_pos h, ← h, atKey_put_same (strD_map l) (kB_key _)]; rfl
 ·rw [if_neg h, atKey_put_other (fun e => h (kB_inj e).symm), ih]
/-- Block b holds a table of the call's own. -/
def OwnStr (W : World) (b n : Nat) (l : List SP) : Prop := W.ownsMap Tryz.prog 9 (plainElem (H := Unit) Tryz.prog 9) b n (strD l)
theorem zeroS_ (w : World) : (zeroValue 9).run Tryz.prog w = .ok (.string ⟨#[]⟩) w := by kernel_rfl
theorem bytes_inj {a b : ByteArray} (h : a.data.toList = b.data.toList) : a = b := by
 have e : a.data = b.data := by rw [← Array.toList_inj]; exact h
 cases a; cases b; simp only at e; rw [e]
section
variable {W W' : World} {b n : Nat} {l : List SP} {s : ByteArray}
theorem OwnStr.made (W : World) : OwnStr (W.alloc (.map #[] 0)) W.heap.size 0 [] := World.ownsMap_made _ _ _ _
theorem OwnStr.kept {row : Option Nat} (h : OwnStr W b n l) (hg : W.grownBy W' row) (hne : some b ≠ row) : OwnStr W' b n l := World.ownsMap.kept h hg hne
theorem OwnStr.below (h : OwnStr W b n l) (hb : Below W.heap.size W W') : OwnStr W' b n l := h.kept (row := none) ⟨hb.os, hb.tape, hb.output, hb.size, fun i hi _ => hb.block i hi⟩ (by simp)
theorem OwnStr.nocells (h : OwnStr W b n l) : ∀ r, some b = some r → ∃ o : Obj, W.heap[r]? = some o ∧ o.isCells = false := fun r e => by
 cases e
 obtain ⟨es, ck, hh, -⟩ := h
 exact ⟨_, hh, rfl⟩
theorem OwnStr.look (h : OwnStr W b n l) (hs : s.size ≤ maxLen) : (Instr.lookup 115 (.map (some b)) (.string s) true).run Tryz.prog W = .ok (.tuple #[.string ((lkp l s).getD ⟨#[]⟩), .bool (lkp l s).isSome]) W := by
 obtain ⟨v, ps, hrun, hv⟩ := World.ownsMap.look_ok h (string_keyed Tryz.underlying9) Tryz.underlying115 (zeroS_ W) (plainElem_string Tryz.underlying9 (s := ⟨#[]⟩) (by decide)) (WideMaps.keyOf_string_mk Tryz.underlying9 hs)
 obtain ⟨x, rfl, hx⟩ := plainElem_string_inv Tryz.underlying9 hv
 have h2 := strD_at l s
 have h1 : (strD l).atKey (kB s) (.lit (.string [])) = .lit (.string x.data.toList) := congrArg Prod.fst hx.1
 have h4 : ((lkp l s).getD ⟨#[]⟩).data.toList = x.data.toList := congrArg (fun d : DataW Unit => match d with | .lit (.string b) => b | _ => []) (h2.symm.trans h1)
 rw [bytes_inj h4, ← strD_has]
 exact hrun
end
section
variable {ops : Array Oper} {rest : List Oper} {o : Oper} {a : Act} {Q : Exit → Act → World → Prop}
/-- One entry more in a table of the call's own. -/
theorem upd_str {w : World} (hg : o.guard = none) (m x v : Operand) (hop : o.op = Op.mapUpdate 115 m x v) (b n : Nat) (l : List SP) (s t : ByteArray)
  (hm : a.eval m = .map (some b)) (hown : OwnStr w b n l) (hn : n < maxLen) (hs : s.size ≤ maxLen) (ht : t.size ≤ maxLen) (hx : a.eval x = .string s) (hv : a.eval v = .string t)
  (hK : ∀ w', OwnStr w' b (n + 1) (l ++ [(s, t)]) → w.grownBy w' (some b) → Kp w w' → wpList Tryz.prog ops Q rest (a.put o.dst undef) w') : wpList Tryz.prog ops Q (o :: rest) a w := by
 refine wpList_mapUpdate_own w hg m x v _ hop 9 9 (string_keyed Tryz.underlying9) Tryz.underlying115 _ b n (strD l) hm hown hn _ _ (kB s) hx hv (WideMaps.keyOf_string_mk Tryz.underlying9 hs) _ [] (plainElem_string Tryz.underlying9 ht) ?_
 intro w' h1 h2
 refine hK w' ?_ h2 (Kp.own h2 (OwnStr.nocells hown))
 unfold OwnStr
 rw [strD_snoc]
 exact h1
end
theorem lkp_mem {l : List SP} {s t : ByteArray} (h : lkp l s = some t) : (s, t) ∈ l := by
 revert h
 refine snocIndB (P := fun l => lkp l s = some t → (s, t) ∈ l) (fun h => by cases h) (fun l y ih h => ?_) l
 rw [lkp_snoc] at h
 by_cases e : y.1 = s
 ·rw [if_pos e] at h
  injection h with h
  rw [← e, ← h]
  simp
 ·rw [if_neg e] at h
  exact List.mem_append.2 (.inl (ih h))
theorem lkp_some {l : List SP} {s t : ByteArray} (h : (s, t) ∈ l) : (lkp l s).isSome = true := by
 revert h
 refine snocIndB (P := fun l => (s, t) ∈ l → (lkp l s).isSome = true) (fun h => by cases h) (fun l y ih h => ?_) l
 rw [lkp_snoc]
 by_cases e : y.1 = s
 ·rw [if_pos e]; rfl
 ·rw [if_neg e]
  rcases List.mem_append.1 h with h | h
  ·exact ih h
  ·simp at h
   subst h
   exact absurd rfl e
/-- One loop's entries; those of all loops. -/
def ent (l : List Int) : List SP := l.map fun z => (tS z, tS (gd l 0))
def ents (ls : List (List Int)) : List SP := ls.flatMap ent
theorem ents_mem {ls : List (List Int)} {z : Int} {t : ByteArray} : (tS z, t) ∈ ents ls ↔ ∃ l, l ∈ ls ∧ z ∈ l ∧ t = tS (gd l 0) := by
 unfold ents ent
 rw [List.mem_flatMap]
 constructor
 ·rintro ⟨l, hl, h⟩
  obtain ⟨y, hy, e⟩ := List.mem_map.1 h
  injection e with e1 e2
  rw [← tS_inj e1]
  exact ⟨l, hl, hy, e2.symm⟩
 ·rintro ⟨l, hl, hz, rfl⟩
  exact ⟨l, hl, List.mem_map.2 ⟨z, hz, rfl⟩⟩
theorem ents_none {ls : List (List Int)} {z : Int} (h : ∀ i, i < ls.length → z ∉ lpi ls i) : lkp (ents ls) (tS z) = none := by
 cases e : lkp (ents ls) (tS z) with
 | none => rfl
 | some t =>
  obtain ⟨l, hl, hz, -⟩ := ents_mem.1 (lkp_mem e)
  obtain ⟨i, hi, rfl⟩ := List.mem_iff_getElem.1 hl
  exact absurd (by rw [lpi_lt hi]; exact hz) (h i hi)
theorem ents_some {M : Mp} {ls : List (List Int)} (hl : LoopsOK M ls) {z : Int} {i : Nat} (hi : i < ls.length) (hz : z ∈ lpi ls i) : lkp (ents ls) (tS z) = some (tS (gd (lpi ls i) 0)) := by
 have h1 := lkp_some (ents_mem.2 ⟨lpi ls i, lpi_mem hi, hz, rfl⟩)
 cases e : lkp (ents ls) (tS z) with
 | none => rw [e] at h1; cases h1
 | some t =>
  obtain ⟨l, hl2, hz2, rfl⟩ := ents_mem.1 (lkp_mem e)
  obtain ⟨j, hj, rfl⟩ := List.mem_iff_getElem.1 hl2
  rw [← lpi_lt hj] at hz2 ⊢
  rw [loops_least (hl.1 i hi) (hl.1 j hj) hz hz2]
theorem ents_take {ls : List (List Int)} {i : Nat} (hi : i < ls.length) : ents (ls.take (i + 1)) = ents (ls.take i) ++ ent (lpi ls i) := by
 unfold ents
 rw [List.take_succ_eq_append_getElem hi, List.flatMap_append, lpi_lt hi]
 simp
theorem ent_take {l : List Int} {k : Nat} (hk : k < l.length) : (ent l).take (k + 1) = (ent l).take k ++ [(tS (gd l k), tS (gd l 0))] := by
 have h : k < (ent l).length := by unfold ent; rw [List.length_map]; exact hk
 rw [List.take_succ_eq_append_getElem h, gd_lt hk]
 simp [ent]
theorem ent_all (l : List Int) : (ent l).take l.length = ent l := List.take_of_length_le (by simp [ent])
/-- An accepted certificate has few loops. -/
theorem Acc.count {M : Mp} {Kn : Nat} {B : Int} {ls : List (List Int)} (h : Acc M Kn B ls) (hok : okM M) : ls.length ≤ 20001 := by
 have h1 : ∀ i, i < ls.length → (i : Int) ≤ gd (lpi ls i) 0 := by
  intro i
  induction i with
  | zero => intro hi; exact (h.loops.1 0 hi).nn
  | succ i ih =>
   intro hi
   have h2 := ih (by omega)
   have h3 := h.loops.2 i hi
   omega
 apply Classical.byContradiction
 intro hc
 have h2 := h1 20001 (by omega)
 have hl := h.loops.1 20001 (by omega)
 have hb := h.b1
 obtain ⟨i, -, -, h5⟩ := h.falls hok (n := gd (lpi ls 20001) 0) (by omega)
 have := (hl.reach (x := gd (lpi ls 20001) 0) (by rw [gd_lt hl.len0]; exact List.getElem_mem hl.len0)).2 i
 omega
end Go.Proofs.YtibdipfhfaeooaaGreatDoor


set_option linter.unusedVariables false
set_option linter.unusedSimpArgs false
namespace Go.Proofs.YtibdipfhfaeooaaGreatDoor
open Go.RowKit

/-- What End tells of a number where a certificate is accepted. -/
def EndR (M : Mp) (ls : List (List Int)) (n : Int) (e : Ending) : Prop :=
 (∃ t i : Nat, t ≤ 20000 ∧ i < ls.length ∧ itZ M n t ∈ lpi ls i ∧ (∀ j, j < t → ∀ q, q < ls.length → itZ M n j ∉ lpi ls q) ∧ (∀ j, j ≤ t → dl (itZ M n j) ≤ 2000) ∧ e = .returned (.tuple #[.string (tS (gd (lpi ls i) 0)), .int .i64 0])) ∨
 (∃ t : Nat, t ≤ 20001 ∧ (∀ j, j < t → ∀ q, q < ls.length → itZ M n j ∉ lpi ls q) ∧ (∀ j, j < t → dl (itZ M n j) ≤ 2000) ∧ (t = 20001 ∨ 2000 < dl (itZ M n t)) ∧ e = .returned (.tuple #[.string { data := #[] }, .int .i64 3]))
set_option maxRecDepth 100000 in
set_option maxHeartbeats 16000000 in
/-- Where the certificate is not accepted. -/
theorem End_not (M : Mp) (Kz Bz n : Int) (ls : List (List Int)) (v : Value) (A : Option Addr) (c : Nat) (w : World) (hM : IsM w v M) (hok : okM M) (hBz : dlN Bz.natAbs ≤ 2000) (hL : LsL w A c ls) (hz : ∀ l ∈ ls, ∀ z ∈ l, dlN z.natAbs ≤ 2000) (ht : Tb w) (hn : dlN n.natAbs ≤ 2000) (h0 : 0 ≤ n) (hac : ¬ (1 ≤ Kz ∧ Acc M Kz.toNat Bz ls)) :
  Calls Tryz.prog 34 #[v, .agg #[.int .i64 Kz, .string (tS Bz), .slice A ls.length c], .string (tS n)] w fun e w' => e = .returned (.tuple #[.string { data := #[] }, .int .i64 4]) ∧ Below w.heap.size w w' := by
 obtain ⟨md, Am, nm, cm, A', n', c', rfl, HM⟩ := hM.form
 have HOM := Lib.hid hok
 have HOK : Hid (okB M = true) := okB_iff.2 hok
 have HFO := Lib.hid (formB_ok hBz hz)
 have HL := Lib.hid hL
 have HTB := Lib.hid ht
 have HNZ := Lib.hid hn
 have HN0 := Lib.hid h0
 have HV := Lib.hid (vld_tS hn)
 have HZ := Lib.hid hz
 have HBZ := Lib.hid hBz
 have hns := tS_sz hn
 have hsz0 := tS_max hBz
 have hsz : ∀ l ∈ ls.map (fun l => l.map tS), ∀ s ∈ l, s.size ≤ 9223372036854775807 := fun l hl s hs => by
  obtain ⟨l2, h2, rfl⟩ := List.mem_map.1 hl
  obtain ⟨q, hq, rfl⟩ := List.mem_map.1 hs
  exact tS_max (hz l2 h2 q hq)
 obtain ⟨nl, hnl⟩ : ∃ nl, ls.length = nl := ⟨_, rfl⟩
 have HNL := Lib.hid hnl
 have HFC : Hid (∀ (W : World), LsL W A c ls → Calls Tryz.prog 48 #[.agg #[.int .i64 Kz, .string (tS Bz), .slice A nl c]] W fun e w' => e = .returned (.bool true) ∧ Below W.heap.size W w') := fun W h1 => by
  have h2 := form_c Kz (tS Bz) (ls.map fun l => l.map tS) A c W hsz0 h1 hsz
  rw [List.length_map, hnl, HFO.out] at h2
  exact h2
 have HACC : Hid (∀ (u : Value) {W : World} (B : Bool) (hB : B = true ↔ (1 ≤ Kz ∧ Acc M Kz.toNat Bz ls)), IsM W u M → LsL W A c ls → Tb W → Calls Tryz.prog 49 #[u, .agg #[.int .i64 Kz, .string (tS Bz), .slice A nl c]] W fun e w' => e = .returned (.bool B) ∧ Below W.heap.size W w') := fun u W B hB h1 h2 h3 => by
  rw [← hnl]
  exact accepted_c M Kz Bz ls u A c W h1 hok hBz h2 hz h3 B hB
 have hlc : nl ≤ 9223372036854775807 := by
  have := hL.1
  rw [List.length_map] at this
  omega
 rw [hnl]
 clear hok hL hz hBz ht hn h0 hsz hsz0 hnl HFO
 go_enter Tryz.func34, Tryz.ntmps34
 go_upto_region 1 with fail
 generalize hW : (w.alloc (Obj.cells #[Value.int .i64 md, Value.slice Am nm cm, Value.slice A' n' c'] 24)).alloc _ = W
 have HB : Below w.heap.size w W := by subst hW; exact below_alloc (below_alloc (Below.refl _ _) _) _
 have V3 : VM W w.heap.size md Am nm cm A' n' c' M := by subst hW; exact (VM.new w 24 HM.out).keep (below_alloc (Below.refl _ _) _)
 have VP : VQ W (w.heap.size + 1) (.int .i64 Kz) (.string (tS Bz)) (.slice A nl c) := by
  subst hW
  have := VQ.new (x := .int .i64 Kz) (y := .string (tS Bz)) (z := .slice A nl c) (w.alloc (Obj.cells #[Value.int .i64 md, Value.slice Am nm cm, Value.slice A' n' c'] 24)) 27
  rwa [show (w.alloc (Obj.cells #[Value.int .i64 md, Value.slice Am nm cm, Value.slice A' n' c'] 24)).heap.size = w.heap.size + 1 by simp] at this
 clear hW HM
 have HAC := Lib.hid hac
 clear hac
 have m0 := V3.c0; have m1 := V3.c1; have m2 := V3.c2
 go_wp2_with fail
 (with_reducible refine (SValid_c M _ _ V3.im.out).mono ?_)
 rintro e w2 ⟨he, hb⟩
 obtain rfl : e = .returned (.bool true) := by rw [he, HOK.out]
 clear he
 replace V3 := V3.keep hb; replace VP := VP.keep hb; replace HB := below_step HB hb
 clear hb
 clear m0 m1 m2
 have p0 := VP.c0; have p1 := VP.c1; have p2 := VP.c2
 go_wp2_with fail
 (with_reducible refine (HFC.out _ (HL.out.below HB)).mono ?_)
 rintro e w3 ⟨he, hb⟩
 obtain rfl : e = .returned (.bool true) := by rw [he]
 clear he
 replace V3 := V3.keep hb; replace VP := VP.keep hb; replace HB := below_step HB hb
 clear hb
 clear p0 p1 p2
 go_wp2_with fail
 (with_reducible refine (nValid_c (tS n) _ hns).mono ?_)
 rintro e w4 ⟨he, hb⟩
 obtain rfl : e = .returned (.bool true) := by rw [he, HV.out]
 clear he
 replace V3 := V3.keep hb; replace VP := VP.keep hb; replace HB := below_step HB hb
 clear hb
 go_wp2_with fail
 (with_reducible refine (wParse_c n _ (by have := HNZ.out; omega)).mono ?_)
 rintro e w5 ⟨v, rfl, hv, hb⟩
 obtain ⟨n5, A5, m5, k5, rfl, H5⟩ := hv.form; clear hv
 replace V3 := V3.keep hb; replace VP := VP.keep hb; replace HB := below_step HB hb
 clear hb
 go_wp2_with fail
 (with_reducible refine (wNeg_c n _ _ H5.out).mono ?_)
 rintro e w6 ⟨he, hb⟩
 obtain rfl : e = .returned (.bool false) := by rw [he, decide_eq_false (show ¬ n < 0 by have := HN0.out; omega)]
 clear he H5
 replace V3 := V3.keep hb; replace VP := VP.keep hb; replace HB := below_step HB hb
 clear hb
 have m0 := V3.c0; have m1 := V3.c1; have m2 := V3.c2
 have p0 := VP.c0; have p1 := VP.c1; have p2 := VP.c2
 go_wp2_with fail
 (with_reducible refine (HACC.out _ false ⟨fun h => (by cases h), fun h => absurd h HAC.out⟩ V3.im.out (HL.out.below HB) (HTB.out.below HB)).mono ?_)
 rintro e w7 ⟨rfl, hb⟩
 clear m0 m1 m2
 clear p0 p1 p2
 replace V3 := V3.keep hb; replace VP := VP.keep hb; replace HB := below_step HB hb
 clear hb
 go_wp2
 go_ret2
 exact ⟨rfl, HB⟩
set_option maxRecDepth 100000 in
set_option maxHeartbeats 16000000 in
/-- Where it is. -/
theorem End_acc (M : Mp) (Kz Bz n : Int) (ls : List (List Int)) (v : Value) (A : Option Addr) (c : Nat) (w : World) (hM : IsM w v M) (hok : okM M) (hBz : dlN Bz.natAbs ≤ 2000) (hL : LsL w A c ls) (hz : ∀ l ∈ ls, ∀ z ∈ l, dlN z.natAbs ≤ 2000) (ht : Tb w) (hn : dlN n.natAbs ≤ 2000) (h0 : 0 ≤ n) (hac : 1 ≤ Kz ∧ Acc M Kz.toNat Bz ls) :
  Calls Tryz.prog 34 #[v, .agg #[.int .i64 Kz, .string (tS Bz), .slice A ls.length c], .string (tS n)] w fun e w' => EndR M ls n e ∧ Below w.heap.size w w' := by
 obtain ⟨md, Am, nm, cm, A', n', c', rfl, HM⟩ := hM.form
 have HOM := Lib.hid hok
 have HOK : Hid (okB M = true) := okB_iff.2 hok
 have HFO := Lib.hid (formB_ok hBz hz)
 have HL := Lib.hid hL
 have HTB := Lib.hid ht
 have HNZ := Lib.hid hn
 have HN0 := Lib.hid h0
 have HV := Lib.hid (vld_tS hn)
 have HZ := Lib.hid hz
 have HBZ := Lib.hid hBz
 have hns := tS_sz hn
 have hsz0 := tS_max hBz
 have hsz : ∀ l ∈ ls.map (fun l => l.map tS), ∀ s ∈ l, s.size ≤ 9223372036854775807 := fun l hl s hs => by
  obtain ⟨l2, h2, rfl⟩ := List.mem_map.1 hl
  obtain ⟨q, hq, rfl⟩ := List.mem_map.1 hs
  exact tS_max (hz l2 h2 q hq)
 obtain ⟨nl, hnl⟩ : ∃ nl, ls.length = nl := ⟨_, rfl⟩
 have HNL := Lib.hid hnl
 have HFC : Hid (∀ (W : World), LsL W A c ls → Calls Tryz.prog 48 #[.agg #[.int .i64 Kz, .string (tS Bz), .slice A nl c]] W fun e w' => e = .returned (.bool true) ∧ Below W.heap.size W w') := fun W h1 => by
  have h2 := form_c Kz (tS Bz) (ls.map fun l => l.map tS) A c W hsz0 h1 hsz
  rw [List.length_map, hnl, HFO.out] at h2
  exact h2
 have HACC : Hid (∀ (u : Value) {W : World} (B : Bool) (hB : B = true ↔ (1 ≤ Kz ∧ Acc M Kz.toNat Bz ls)), IsM W u M → LsL W A c ls → Tb W → Calls Tryz.prog 49 #[u, .agg #[.int .i64 Kz, .string (tS Bz), .slice A nl c]] W fun e w' => e = .returned (.bool B) ∧ Below W.heap.size W w') := fun u W B hB h1 h2 h3 => by
  rw [← hnl]
  exact accepted_c M Kz Bz ls u A c W h1 hok hBz h2 hz h3 B hB
 have hlc : nl ≤ 9223372036854775807 := by
  have := hL.1
  rw [List.length_map] at this
  omega
 rw [hnl]
 clear hok hL hz hBz ht hn h0 hsz hsz0 hnl HFO
 go_enter Tryz.func34, Tryz.ntmps34
 go_upto_region 1 with fail
 generalize hW : (w.alloc (Obj.cells #[Value.int .i64 md, Value.slice Am nm cm, Value.slice A' n' c'] 24)).alloc _ = W
 have HB : Below w.heap.size w W := by subst hW; exact below_alloc (below_alloc (Below.refl _ _) _) _
 have V3 : VM W w.heap.size md Am nm cm A' n' c' M := by subst hW; exact (VM.new w 24 HM.out).keep (below_alloc (Below.refl _ _) _)
 have VP : VQ W (w.heap.size + 1) (.int .i64 Kz) (.string (tS Bz)) (.slice A nl c) := by
  subst hW
  have := VQ.new (x := .int .i64 Kz) (y := .string (tS Bz)) (z := .slice A nl c) (w.alloc (Obj.cells #[Value.int .i64 md, Value.slice Am nm cm, Value.slice A' n' c'] 24)) 27
  rwa [show (w.alloc (Obj.cells #[Value.int .i64 md, Value.slice Am nm cm, Value.slice A' n' c'] 24)).heap.size = w.heap.size + 1 by simp] at this
 clear hW HM
 have HAC := Lib.hid hac
 clear hac
 have m0 := V3.c0; have m1 := V3.c1; have m2 := V3.c2
 go_wp2_with fail
 (with_reducible refine (SValid_c M _ _ V3.im.out).mono ?_)
 rintro e w2 ⟨he, hb⟩
 obtain rfl : e = .returned (.bool true) := by rw [he, HOK.out]
 clear he
 replace V3 := V3.keep hb; replace VP := VP.keep hb; replace HB := below_step HB hb
 clear hb
 clear m0 m1 m2
 have p0 := VP.c0; have p1 := VP.c1; have p2 := VP.c2
 go_wp2_with fail
 (with_reducible refine (HFC.out _ (HL.out.below HB)).mono ?_)
 rintro e w3 ⟨he, hb⟩
 obtain rfl : e = .returned (.bool true) := by rw [he]
 clear he
 replace V3 := V3.keep hb; replace VP := VP.keep hb; replace HB := below_step HB hb
 clear hb
 clear p0 p1 p2
 go_wp2_with fail
 (with_reducible refine (nValid_c (tS n) _ hns).mono ?_)
 rintro e w4 ⟨he, hb⟩
 obtain rfl : e = .returned (.bool true) := by rw [he, HV.out]
 clear he
 replace V3 := V3.keep hb; replace VP := VP.keep hb; replace HB := below_step HB hb
 clear hb
 go_wp2_with fail
 (with_reducible refine (wParse_c n _ (by have := HNZ.out; omega)).mono ?_)
 rintro e w5 ⟨v, rfl, hv, hb⟩
 obtain ⟨n5, A5, m5, k5, rfl, H5⟩ := hv.form; clear hv
 replace V3 := V3.keep hb; replace VP := VP.keep hb; replace HB := below_step HB hb
 clear hb
 go_wp2_with fail
 (with_reducible refine (wNeg_c n _ _ H5.out).mono ?_)
 rintro e w6 ⟨he, hb⟩
 obtain rfl : e = .returned (.bool false) := by rw [he, decide_eq_false (show ¬ n < 0 by have := HN0.out; omega)]
 clear he H5
 replace V3 := V3.keep hb; replace VP := VP.keep hb; replace HB := below_step HB hb
 clear hb
 have m0 := V3.c0; have m1 := V3.c1; have m2 := V3.c2
 have p0 := VP.c0; have p1 := VP.c1; have p2 := VP.c2
 go_wp2_with fail
 (with_reducible refine (HACC.out _ true ⟨fun _ => HAC.out, fun _ => rfl⟩ V3.im.out (HL.out.below HB) (HTB.out.below HB)).mono ?_)
 rintro e w7 ⟨rfl, hb⟩
 clear m0 m1 m2
 clear p0 p1 p2
 replace V3 := V3.keep hb; replace VP := VP.keep hb; replace HB := below_step HB hb
 clear hb
 have HLS := Lib.hid HAC.out.2.loops
 have hcnt : nl ≤ 20001 := by rw [← HNL.out]; exact HAC.out.2.count HOM.out
 clear HACC HFC
 have hmm := @run_makeMap Tryz.prog
 go_upto_region 8 with fail
 have HS := Lib.hid (OwnStr.made w7)
 have hba := below_alloc (Below.refl w7.heap.size w7) (Obj.map #[] 0)
 have hbM := HB.size
 replace HB := below_step HB hba
 replace V3 := V3.keep hba; replace VP := VP.keep hba
 generalize hW : w7.alloc (Obj.map #[] 0) = W8 at *
 obtain ⟨bM, hbm⟩ : ∃ bM, w7.heap.size = bM := ⟨_, rfl⟩
 rw [hbm] at HS hbM ⊢
 clear hW hba hbm hmm
 have p2 := VP.c2
 go_wp2_with fail
 clear p2
 go_loopg [41] nl (fun g iv wr => ∃ (i c : Nat), g = nl - i ∧ iv = .int .i64 i ∧ i ≤ nl ∧ VM wr w.heap.size md Am nm cm A' n' c' M ∧ c ≤ i * 1000 ∧ Hid (OwnStr wr bM c (ents (ls.take i))) ∧ Below w.heap.size w wr)
 case atStart => exact ⟨0, 0, rfl, rfl, Nat.zero_le _, V3, by omega, HS, HB⟩
 case round =>
  clear V3 VP HS HB
  obtain ⟨i, cn, hgi, rfl, hi, V3, hcn, HS, HB⟩ := hrel
  have hi0 : (0 : Int) ≤ (i : Int) := by omega
  by_cases hin : i < nl
  ·have hi1 : (i : Int) < (nl : Int) := by omega
   have HIL : Hid (i < ls.length) := by show _ < _; rw [HNL.out]; exact hin
   have HLK := Lib.hid (HLS.out.1 i HIL.out)
   obtain ⟨bA, oA, rfl⟩ := HL.out.ptr (by rw [List.length_map]; have := HIL.out; omega)
   obtain ⟨A1, c1, CC, hs1⟩ := (HL.out.below HB).atL (j := i) HIL.out
   obtain ⟨x, hx⟩ : ∃ x, lpi ls i = x := ⟨_, rfl⟩
   have HTK := Lib.hid (ents_take HIL.out)
   have HZX : Hid (∀ z ∈ lpi ls i, dlN z.natAbs ≤ 2000) := HZ.out _ (lpi_mem HIL.out)
   rw [hx] at CC hs1 HLK HTK HZX
   have HX := Lib.hid hx
   obtain ⟨n1, hn1⟩ : ∃ n1, x.length = n1 := ⟨_, rfl⟩
   have HN1 := Lib.hid hn1
   have hn10 : (0 : Int) < (n1 : Int) := by have := HLK.out.len0; omega
   have hn11 : 0 < n1 := by omega
   have hn12 : n1 ≤ 1000 := by have := HLK.out.len1; omega
   obtain ⟨b1, o1, rfl, C1⟩ := hs1.head HLK.out.len0
   have HS1 := Lib.hid hs1
   rw [hn1] at CC
   clear hx hn1 hs1
   have x0 := CC.c
   go_upto_region 11 with fail
   have CX := CL.new1 wr 45 (.slice (some ⟨b1, o1, none⟩) n1 c1)
   have hbx := below_alloc (Below.refl wr.heap.size wr) (Obj.cells #[Value.slice (some ⟨b1, o1, none⟩) n1 c1] 45)
   replace V3 := V3.keep hbx; replace C1 := C1.keep hbx; replace HS1 := Lib.hid (HS1.out.below hbx); replace HS := Lib.hid (HS.out.below hbx); replace HB := below_step HB hbx
   generalize hW : wr.alloc (Obj.cells #[Value.slice (some ⟨b1, o1, none⟩) n1 c1] 45) = wx at *
   obtain ⟨bx, hbx2⟩ : ∃ bx, wr.heap.size = bx := ⟨_, rfl⟩
   rw [hbx2] at CX ⊢
   clear hW x0 hbx hbx2 CC
   have x0 := CX.c
   have HS0 : Hid (OwnStr wx bM cn (ents (ls.take i) ++ (ent x).take 0)) := by rw [List.take_zero, List.append_nil]; exact HS
   clear HS
   go_wp2_with fail
   clear x0
   go_loopg [48] n1 (fun g kv wz => ∃ (k c : Nat), g = n1 - k ∧ kv = .int .i64 k ∧ k ≤ n1 ∧ VM wz w.heap.size md Am nm cm A' n' c' M ∧ c ≤ i * 1000 + k ∧ CL wz bx 0 (.slice (some ⟨b1, o1, none⟩) n1 c1) ∧ CL wz b1 o1 (.string (tS (gd x 0))) ∧ Hid (LsS wz (some ⟨b1, o1, none⟩) c1 (x.map tS)) ∧ Hid (OwnStr wz bM c (ents (ls.take i) ++ (ent x).take k)) ∧ Below w.heap.size w wz)
   case atStart => exact ⟨0, cn, rfl, rfl, Nat.zero_le _, V3, by omega, CX, C1, HS1, HS0, HB⟩
   case round =>
    clear V3 CX C1 HS1 HS0 HB hcn
    obtain ⟨k, cn, hgk, rfl, hk, V3, hcn, CX, C1, HS1, HS, HB⟩ := hrel
    have hk0 : (0 : Int) ≤ (k : Int) := by omega
    have x0 := CX.c; have x1 := C1.c
    by_cases hkn : k < n1
    ·have hk1 : (k : Int) < (n1 : Int) := by omega
     have HKL : Hid (k < x.length) := by show k < _; rw [HN1.out]; exact hkn
     have xk : wr.cell? ⟨b1, o1 + k, none⟩ = some (.string (tS (gd x k))) := by rw [HS1.out.at (j := k) (by rw [List.length_map]; exact HKL.out), gsm _ HKL.out]
     have HZK : Hid (dlN (gd x k).natAbs ≤ 2000) := HZX.out _ (by rw [gd_lt HKL.out]; exact List.getElem_mem HKL.out)
     have HZ0 : Hid (dlN (gd x 0).natAbs ≤ 2000) := HZX.out _ (by rw [gd_lt HLK.out.len0]; exact List.getElem_mem HLK.out.len0)
     have hsk := tS_maxLen HZK.out
     have hs0 := tS_maxLen HZ0.out
     have hcm : cn < maxLen := by simp only [maxLen]; omega
     have HEK := Lib.hid (ent_take HKL.out)
     go_wp2_with (at_mapUpdate; refine upd_str rfl _ _ _ rfl bM cn (ents (ls.take i) ++ (ent x).take k) (tS (gd x k)) (tS (gd x 0)) rfl HS.out hcm hsk hs0 rfl rfl ?_; intro wv HS7 hg7 hk7)
     have hnc := HS.out.nocells
     replace V3 := V3.grown hg7 (ne_of_cell V3.c0 hnc) hk7
     replace CX := CX.grown hg7 hnc
     replace C1 := C1.grown hg7 hnc
     replace HS1 := Lib.hid (HS1.out.own hg7 hnc)
     replace HB := HB.grown hg7 HB.size (fun r e => by cases e; exact hbM)
     replace HS : Hid (OwnStr wv bM (cn + 1) (ents (ls.take i) ++ (ent x).take (k + 1))) := by show OwnStr _ _ _ _; rw [HEK.out, ← List.append_assoc]; exact HS7
     clear HS7 hg7 hk7 hnc hsk hs0 x0 x1 xk HEK
     go_wp2
     go_roundg (n1 - (k + 1))
     case measure => omega
     case rel => exact ⟨k + 1, cn + 1, rfl, by go_num, by omega, V3, by omega, CX, C1, HS1, HS, HB⟩
    ·obtain rfl : k = n1 := by omega
     have hk1 : ¬ (k : Int) < (k : Int) := by omega
     replace HS : Hid (OwnStr wr bM cn (ents (ls.take (i + 1)))) := by
      show OwnStr _ _ _ _
      rw [HTK.out]
      have h1 := HS.out
      rw [← HN1.out, ent_all] at h1
      exact h1
     clear x0 x1
     go_wp2
     go_roundg (nl - (i + 1))
     case measure => omega
     case rel => exact ⟨i + 1, cn, rfl, by go_num, by omega, V3, by omega, HS, HB⟩
  ·obtain rfl : i = nl := by omega
   have hi1 : ¬ (i : Int) < (i : Int) := by omega
   have HS2 : Hid (OwnStr wr bM cn (ents ls)) := by
    have h1 := HS.out
    rw [← HNL.out, List.take_length] at h1
    exact h1
   have HDZ : Hid (∀ j, j ≤ 0 → dl (itZ M n j) ≤ 2000) := fun j h => by
    have e : j = 0 := by omega
    rw [e]
    show dl n ≤ 2000
    rw [dl_dlN]
    exact HNZ.out
   clear HS hgi hi1 hcn
   go_wp2_with fail
   go_loopg [60, 2] 20001 (fun g kv nv wr => ∃ (k : Nat) (X : Int), g = 20001 - k ∧ kv = .int .i64 k ∧ nv = .string (tS X) ∧ k ≤ 20001 ∧ VM wr w.heap.size md Am nm cm A' n' c' M ∧ Hid (OwnStr wr bM cn (ents ls)) ∧ Below w.heap.size w wr ∧ Hid (X = itZ M n k) ∧ Hid (∀ j, j < k → ∀ q, q < ls.length → itZ M n j ∉ lpi ls q) ∧ Hid (∀ j, j ≤ k → dl (itZ M n j) ≤ 2000))
   case atStart => exact ⟨0, n, rfl, rfl, rfl, Nat.zero_le _, V3, HS2, HB, rfl, fun j h => absurd h (by omega), HDZ.out⟩
   case round =>
    clear V3 HS2 HB
    obtain ⟨k, X, hgk, rfl, rfl, hk, V3, HS, HB, HX, HI, HD⟩ := hrel
    have hk0 : (0 : Int) ≤ (k : Int) := by omega
    by_cases hkn : k < 20001
    ·have hk1 : (k : Int) < 20001 := by omega
     have HXZ : Hid (dlN X.natAbs ≤ 2000) := by show _ ≤ _; rw [← dl_dlN, HX.out]; exact HD.out k (Nat.le_refl _)
     have hlk := HS.out.look (s := tS X) (tS_maxLen HXZ.out)
     by_cases hmem : ∃ q, q < ls.length ∧ X ∈ lpi ls q
     ·obtain ⟨q, hq, hxq⟩ := hmem
      rw [ents_some HLS.out hq hxq] at hlk
      have HR : Hid (EndR M ls n (.returned (.tuple #[.string (tS (gd (lpi ls q) 0)), .int .i64 0]))) := .inl ⟨k, q, by omega, hq, by rw [← HX.out]; exact hxq, HI.out, HD.out, rfl⟩
      generalize tS (gd (lpi ls q) 0) = nm2 at *
      clear hxq HI HD
      go_wp2
      go_ret2
      exact ⟨HR.out, HB⟩
     ·rw [ents_none (fun q hq hx => hmem ⟨q, hq, hx⟩)] at hlk
      have HNM := Lib.hid hmem
      clear hmem
      have HI2 : Hid (∀ j, j < k + 1 → ∀ q, q < ls.length → itZ M n j ∉ lpi ls q) := fun j hj q hq => by
       rcases Nat.lt_or_ge j k with h | h
       ·exact HI.out j h q hq
       ·obtain rfl : j = k := by omega
        rw [← HX.out]
        exact fun h2 => HNM.out ⟨q, hq, h2⟩
      have m0 := V3.c0; have m1 := V3.c1; have m2 := V3.c2
      go_wp2_with fail
      (with_reducible refine (Stp_ok M X _ _ V3.im.out HOM.out HXZ.out (HTB.out.below HB)).mono ?_)
      rintro e w9 ⟨rfl, hb⟩
      replace V3 := V3.keep hb; replace HS := Lib.hid (HS.out.below hb); replace HB := below_step HB hb
      clear hb m0 m1 m2 hlk
      by_cases hbig : 2000 < dl (stepZ M X)
      ·have hE : toldE (stepZ M X) = 3 := by unfold toldE; rw [if_pos hbig]
       rw [hE]
       have HR : Hid (EndR M ls n (.returned (.tuple #[.string { data := #[] }, .int .i64 3]))) := .inr ⟨k + 1, by omega, HI2.out, fun j hj => HD.out j (by omega), .inr (by rw [HX.out] at hbig; exact hbig), rfl⟩
       clear hE hbig HI HD HI2
       go_wp2
       go_ret2
       exact ⟨HR.out, HB⟩
      ·have hE : toldE (stepZ M X) = 0 := by unfold toldE; rw [if_neg hbig]
       have hS : toldS (stepZ M X) = tS (stepZ M X) := by unfold toldS; rw [if_neg hbig]
       rw [hE, hS]
       have HX2 : Hid (stepZ M X = itZ M n (k + 1)) := by show _ = _; rw [HX.out]; rfl
       have HD2 : Hid (∀ j, j ≤ k + 1 → dl (itZ M n j) ≤ 2000) := fun j hj => by
        rcases Nat.lt_or_ge j (k + 1) with h | h
        ·exact HD.out j (by omega)
        ·obtain rfl : j = k + 1 := by omega
         rw [← HX2.out]
         omega
       clear hE hS hbig HI HD HX
       generalize stepZ M X = Y at *
       go_wp2
       go_roundg (20001 - (k + 1))
       case measure => omega
       case rel => exact ⟨k + 1, Y, rfl, by go_num, rfl, by omega, V3, HS, HB, HX2, HI2, HD2⟩
    ·obtain rfl : k = 20001 := by omega
     have HR : Hid (EndR M ls n (.returned (.tuple #[.string { data := #[] }, .int .i64 3]))) := .inr ⟨20001, Nat.le_refl _, HI.out, fun j hj => HD.out j (by omega), .inl rfl, rfl⟩
     clear HI HD
     go_wp2
     go_ret2
     exact ⟨HR.out, HB⟩
end Go.Proofs.YtibdipfhfaeooaaGreatDoor

