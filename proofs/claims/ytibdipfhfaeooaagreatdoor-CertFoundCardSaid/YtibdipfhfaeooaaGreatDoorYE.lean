/- ref09's Same and SameLoops where the certificates are the same; Form, Numbers; law09's long, quick. No condition. -/
import Derived.Test.YtibdipfhfaeooaaGreatDoorZV
import Derived.Test.YtibdipfhfaeooaaGreatDoorZR
import Derived.Maps.RangeWalk
import Derived.Test.YtibdipfhfaeooaaGreatDoorZ4
set_option linter.unusedVariables false
set_option linter.unusedSimpArgs false
namespace Go.Proofs.YtibdipfhfaeooaaGreatDoor
open Go.RowKit

set_option maxRecDepth 100000 in
set_option maxHeartbeats 8000000 in
theorem SameLoops_c (L : List (List ByteArray)) (A A' : Option Addr) (c c' : Nat) (w : World) (hL : LsB w A c L) (hL' : LsB w A' c' L) :
  Calls Tryz.prog 39 #[.slice A L.length c, .slice A' L.length c'] w fun e w' => e = .returned (.bool true) ∧ Below w.heap.size w w' := by
 have HB : Below w.heap.size w w := Below.refl _ _
 have HL := Lib.hid hL
 have HL' := Lib.hid hL'
 have hlc : L.length ≤ 9223372036854775807 := by have := hL.1; omega
 obtain ⟨n, hn⟩ : ∃ n, L.length = n := ⟨_, rfl⟩
 have HN := Lib.hid hn
 rw [hn] at hlc ⊢
 clear hL hL' hn
 go_enter Tryz.func39, Tryz.ntmps39
 go_wp2_with fail
 go_loopg [5] n (fun g iv wr => ∃ i : Nat, g = n - i ∧ iv = .int .i64 i ∧ i ≤ n ∧ Below w.heap.size w wr)
 case atStart => exact ⟨0, rfl, rfl, Nat.zero_le _, HB⟩
 case round =>
  clear HB
  obtain ⟨i, hgi, rfl, hi, HB⟩ := hrel
  have hi0 : (0 : Int) ≤ (i : Int) := by omega
  by_cases hin : i < n
  ·have hi1 : (i : Int) < (n : Int) := by omega
   have HIL : Hid (i < L.length) := by show _ < _; rw [HN.out]; exact hin
   obtain ⟨bA, oA, A1, c1, rfl, CA, hs1⟩ := (HL.out.below HB).2 i HIL.out
   obtain ⟨bB, oB, A2, c2, rfl, CB, hs2⟩ := (HL'.out.below HB).2 i HIL.out
   obtain ⟨x, hx⟩ : ∃ x, lsi L i = x := ⟨_, rfl⟩
   rw [hx] at CA CB hs1 hs2
   obtain ⟨n1, hn1⟩ : ∃ n1, x.length = n1 := ⟨_, rfl⟩
   rw [hn1] at CA CB
   have HN1 := Lib.hid hn1
   have hl1 : n1 ≤ 9223372036854775807 := by have := hs1.2; omega
   have HS1 := Lib.hid (hs1.below (below_drew (Below.refl _ _)))
   have HS2 := Lib.hid (hs2.below (below_drew (Below.refl _ _)))
   clear hx hn1 hs1 hs2
   go_upto_region 6 with fail
   replace CA := CA.drew; replace CB := CB.drew; replace HB := below_drew HB
   generalize hWd : wr.drew = wd at *
   refine wp_region_F (fun w' => w'.cell? ⟨bA, oA + i, none⟩ = some (.slice A1 n1 c1) ∧ w'.cell? ⟨bB, oB + i, none⟩ = some (.slice A2 n1 c2)) [] (by kernel_rfl) (by rw [hWd]; exact ⟨CA.c, CB.c⟩) (fun hHeld => ?_)
   rw [hWd] at hHeld ⊢
   refine tF 0 ({ dst := some 18, op := Go.Op.move (Go.Operand.tmp 0), type := 25, pos := "ref.go:239", after := #[], guard := none }) hHeld ?_; try go_frame
   refine tF 1 ({ dst := some 19, op := Go.Op.move (Go.Operand.tmp 5), type := 3, pos := "ref.go:239", after := #[], guard := none }) hHeld ?_; try go_frame
   refine tF 2 ({ dst := some 20, op := Go.Op.indexAddr 25 (Go.Operand.tmp 18) (Go.Operand.tmp 19), type := 0, pos := "ref.go:239", after := #[{ on := 0, ground := Go.Ground.data }, { on := 1, ground := Go.Ground.data }], guard := none }) hHeld ?_; try go_frame
   refine tF 3 ({ dst := some 21, op := Go.Op.fieldAddr 45 (Go.Operand.tmp 20) 0, type := 0, pos := "ref.go:239", after := #[{ on := 2, ground := Go.Ground.data }], guard := none }) hHeld ?_; try go_frame
   refine tF 4 ({ dst := some 22, op := Go.Op.load 43 (Go.Operand.tmp 21), type := 43, pos := "ref.go:239", after := #[{ on := 3, ground := Go.Ground.data }], guard := none }) hHeld ?_; try go_frame
   refine tF 5 ({ dst := some 23, op := Go.Op.call { callee := Go.Callee.builtin Go.Builtin.len, args := #[Go.Operand.tmp 22], argTypes := #[43] }, type := 3, pos := "ref.go:239", after := #[{ on := 4, ground := Go.Ground.data }], guard := none }) hHeld ?_; try go_frame
   refine tF 6 ({ dst := some 24, op := Go.Op.move (Go.Operand.tmp 1), type := 25, pos := "ref.go:239", after := #[], guard := none }) hHeld ?_; try go_frame
   refine tF 7 ({ dst := some 25, op := Go.Op.move (Go.Operand.tmp 5), type := 3, pos := "ref.go:239", after := #[], guard := none }) hHeld ?_; try go_frame
   refine tF 8 ({ dst := some 26, op := Go.Op.indexAddr 25 (Go.Operand.tmp 24) (Go.Operand.tmp 25), type := 0, pos := "ref.go:239", after := #[{ on := 6, ground := Go.Ground.data }, { on := 7, ground := Go.Ground.data }], guard := none }) hHeld ?_; try go_frame
   refine tF 9 ({ dst := some 27, op := Go.Op.fieldAddr 45 (Go.Operand.tmp 26) 0, type := 0, pos := "ref.go:239", after := #[{ on := 8, ground := Go.Ground.data }], guard := none }) hHeld ?_; try go_frame
   refine tF 10 ({ dst := some 28, op := Go.Op.load 43 (Go.Operand.tmp 27), type := 43, pos := "ref.go:239", after := #[{ on := 9, ground := Go.Ground.data }], guard := none }) hHeld ?_; try go_frame
   refine tF 11 ({ dst := some 29, op := Go.Op.call { callee := Go.Callee.builtin Go.Builtin.len, args := #[Go.Operand.tmp 28], argTypes := #[43] }, type := 3, pos := "ref.go:239", after := #[{ on := 10, ground := Go.Ground.data }], guard := none }) hHeld ?_; try go_frame
   refine tF 12 ({ dst := some 30, op := Go.Op.binOp Go.BinOp.neq 3 (Go.Operand.tmp 23) (Go.Operand.tmp 29) 3, type := 4, pos := "ref.go:239", after := #[{ on := 5, ground := Go.Ground.data }, { on := 11, ground := Go.Ground.data }], guard := none }) hHeld ?_; try go_frame
   refine wpAnyF_done (by kernel_rfl) ?_ _
   clear hHeld hWd
   go_wp2_with fail
   go_loopg [6] n1 (fun g kv wz => ∃ k : Nat, g = n1 - k ∧ kv = .int .i64 k ∧ k ≤ n1 ∧ CL wz bA (oA + i) (.slice A1 n1 c1) ∧ CL wz bB (oB + i) (.slice A2 n1 c2) ∧ Hid (LsS wz A1 c1 x) ∧ Hid (LsS wz A2 c2 x) ∧ Below w.heap.size w wz)
   case atStart => exact ⟨0, rfl, rfl, Nat.zero_le _, CA, CB, HS1, HS2, HB⟩
   case round =>
    clear CA CB HS1 HS2 HB
    obtain ⟨k, hgk, rfl, hk, CA, CB, HS1, HS2, HB⟩ := hrel
    have hk0 : (0 : Int) ≤ (k : Int) := by omega
    have q0 := CA.c
    by_cases hkn : k < n1
    ·have hk1 : (k : Int) < (n1 : Int) := by omega
     have HKL : Hid (k < x.length) := by show _ < _; rw [HN1.out]; exact hkn
     obtain ⟨b1, o1, rfl, hlt1, hc1⟩ := HS1.out.cell (j := k) HKL.out
     obtain ⟨b2, o2, rfl, hlt2, hc2⟩ := HS2.out.cell (j := k) HKL.out
     have C1 : CL wr b1 (o1 + k) (.string (gs x k)) := ⟨hc1, hlt1⟩
     have C2 : CL wr b2 (o2 + k) (.string (gs x k)) := ⟨hc2, hlt2⟩
     generalize gs x k = s at *
     replace HS1 := Lib.hid (HS1.out.below (below_drew (Below.refl _ _)))
     replace HS2 := Lib.hid (HS2.out.below (below_drew (Below.refl _ _)))
     clear hc1 hc2 hlt1 hlt2
     go_upto_region 11 with fail
     clear q0
     replace CA := CA.drew; replace CB := CB.drew; replace C1 := C1.drew; replace C2 := C2.drew; replace HB := below_drew HB
     generalize hWd : wr.drew = wd at *
     refine wp_region_F (fun w' => w'.cell? ⟨bA, oA + i, none⟩ = some (.slice (some ⟨b1, o1, none⟩) n1 c1) ∧ w'.cell? ⟨bB, oB + i, none⟩ = some (.slice (some ⟨b2, o2, none⟩) n1 c2) ∧ w'.cell? ⟨b1, o1 + k, none⟩ = some (.string s) ∧ w'.cell? ⟨b2, o2 + k, none⟩ = some (.string s)) [] (by kernel_rfl) (by rw [hWd]; exact ⟨CA.c, CB.c, C1.c, C2.c⟩) (fun hHeld => ?_)
     rw [hWd] at hHeld ⊢
     refine tF 0 ({ dst := some 41, op := Go.Op.move (Go.Operand.tmp 0), type := 25, pos := "ref.go:243", after := #[], guard := none }) hHeld ?_; try go_frame
     refine tF 1 ({ dst := some 42, op := Go.Op.move (Go.Operand.tmp 5), type := 3, pos := "ref.go:243", after := #[], guard := none }) hHeld ?_; try go_frame
     refine tF 2 ({ dst := some 43, op := Go.Op.indexAddr 25 (Go.Operand.tmp 41) (Go.Operand.tmp 42), type := 0, pos := "ref.go:243", after := #[{ on := 0, ground := Go.Ground.data }, { on := 1, ground := Go.Ground.data }], guard := none }) hHeld ?_; try go_frame
     refine tF 3 ({ dst := some 44, op := Go.Op.fieldAddr 45 (Go.Operand.tmp 43) 0, type := 0, pos := "ref.go:243", after := #[{ on := 2, ground := Go.Ground.data }], guard := none }) hHeld ?_; try go_frame
     refine tF 4 ({ dst := some 45, op := Go.Op.load 43 (Go.Operand.tmp 44), type := 43, pos := "ref.go:243", after := #[{ on := 3, ground := Go.Ground.data }], guard := none }) hHeld ?_; try go_frame
     refine tF 5 ({ dst := some 46, op := Go.Op.move (Go.Operand.tmp 6), type := 3, pos := "ref.go:243", after := #[], guard := none }) hHeld ?_; try go_frame
     refine tF 6 ({ dst := some 47, op := Go.Op.indexAddr 43 (Go.Operand.tmp 45) (Go.Operand.tmp 46), type := 0, pos := "ref.go:243", after := #[{ on := 4, ground := Go.Ground.data }, { on := 5, ground := Go.Ground.data }], guard := none }) hHeld ?_; try go_frame
     refine tF 7 ({ dst := some 48, op := Go.Op.load 9 (Go.Operand.tmp 47), type := 9, pos := "ref.go:243", after := #[{ on := 6, ground := Go.Ground.data }], guard := none }) hHeld ?_; try go_frame
     refine tF 8 ({ dst := some 49, op := Go.Op.move (Go.Operand.tmp 1), type := 25, pos := "ref.go:243", after := #[], guard := none }) hHeld ?_; try go_frame
     refine tF 9 ({ dst := some 50, op := Go.Op.move (Go.Operand.tmp 5), type := 3, pos := "ref.go:243", after := #[], guard := none }) hHeld ?_; try go_frame
     refine tF 10 ({ dst := some 51, op := Go.Op.indexAddr 25 (Go.Operand.tmp 49) (Go.Operand.tmp 50), type := 0, pos := "ref.go:243", after := #[{ on := 8, ground := Go.Ground.data }, { on := 9, ground := Go.Ground.data }], guard := none }) hHeld ?_; try go_frame
     refine tF 11 ({ dst := some 52, op := Go.Op.fieldAddr 45 (Go.Operand.tmp 51) 0, type := 0, pos := "ref.go:243", after := #[{ on := 10, ground := Go.Ground.data }], guard := none }) hHeld ?_; try go_frame
     refine tF 12 ({ dst := some 53, op := Go.Op.load 43 (Go.Operand.tmp 52), type := 43, pos := "ref.go:243", after := #[{ on := 11, ground := Go.Ground.data }], guard := none }) hHeld ?_; try go_frame
     refine tF 13 ({ dst := some 54, op := Go.Op.move (Go.Operand.tmp 6), type := 3, pos := "ref.go:243", after := #[], guard := none }) hHeld ?_; try go_frame
     refine tF 14 ({ dst := some 55, op := Go.Op.indexAddr 43 (Go.Operand.tmp 53) (Go.Operand.tmp 54), type := 0, pos := "ref.go:243", after := #[{ on := 12, ground := Go.Ground.data }, { on := 13, ground := Go.Ground.data }], guard := none }) hHeld ?_; try go_frame
     refine tF 15 ({ dst := some 56, op := Go.Op.load 9 (Go.Operand.tmp 55), type := 9, pos := "ref.go:243", after := #[{ on := 14, ground := Go.Ground.data }], guard := none }) hHeld ?_; try go_frame
     refine tF 16 ({ dst := some 57, op := Go.Op.binOp Go.BinOp.neq 9 (Go.Operand.tmp 48) (Go.Operand.tmp 56) 9, type := 4, pos := "ref.go:243", after := #[{ on := 7, ground := Go.Ground.data }, { on := 15, ground := Go.Ground.data }], guard := none }) hHeld ?_; try go_frame
     refine wpAnyF_done (by kernel_rfl) ?_ _
     clear hHeld hWd
     have hbb : (s.toList == s.toList) = true := by simp
     clear C1 C2
     go_wp2
     go_roundg (n1 - (k + 1))
     case measure => omega
     case rel => exact ⟨k + 1, rfl, by go_num, by omega, CA, CB, HS1, HS2, HB⟩
    ·obtain rfl : k = n1 := by omega
     have hk1 : ¬ (k : Int) < (k : Int) := by omega
     go_wp2
     go_roundg (n - (i + 1))
     case measure => omega
     case rel => exact ⟨i + 1, rfl, by go_num, by omega, HB⟩
  ·obtain rfl : i = n := by omega
   have hi1 : ¬ (i : Int) < (i : Int) := by omega
   go_wp2
   go_ret
   exact ⟨rfl, HB⟩
set_option maxRecDepth 100000 in
set_option maxHeartbeats 8000000 in
theorem Same9_c (K : Int) (S : ByteArray) (L : List (List ByteArray)) (A A' : Option Addr) (c c' : Nat) (w : World) (hL : LsB w A c L) (hL' : LsB w A' c' L) :
  Calls Tryz.prog 27 #[.agg #[.int .i64 K, .string S, .slice A L.length c], .agg #[.int .i64 K, .string S, .slice A' L.length c']] w fun e w' => e = .returned (.bool true) ∧ Below w.heap.size w w' := by
 have HL := Lib.hid hL
 have HL' := Lib.hid hL'
 obtain ⟨n, hn⟩ : ∃ n, L.length = n := ⟨_, rfl⟩
 have HSL : Hid (∀ W, LsB W A c L → LsB W A' c' L → Calls Tryz.prog 39 #[.slice A n c, .slice A' n c'] W fun e w' => e = .returned (.bool true) ∧ Below W.heap.size W w') := fun W h1 h2 => by
  rw [← hn]
  exact SameLoops_c L A A' c c' W h1 h2
 rw [hn]
 clear hL hL' hn
 go_enter Tryz.func27, Tryz.ntmps27
 go_upto_region 1 with fail
 generalize hW : (w.alloc (Obj.cells #[Value.int .i64 K, Value.string S, Value.slice A n c] 27)).alloc _ = W
 have HB : Below w.heap.size w W := by subst hW; exact below_alloc (below_alloc (Below.refl _ _) _) _
 have VA : VQ W w.heap.size (.int .i64 K) (.string S) (.slice A n c) := by subst hW; exact (VQ.new w 27).keep (below_alloc (Below.refl _ _) _)
 have VB : VQ W (w.heap.size + 1) (.int .i64 K) (.string S) (.slice A' n c') := by
  subst hW
  have := VQ.new (x := .int .i64 K) (y := .string S) (z := .slice A' n c') (w.alloc (Obj.cells #[Value.int .i64 K, Value.string S, Value.slice A n c] 27)) 27
  rwa [show (w.alloc (Obj.cells #[Value.int .i64 K, Value.string S, Value.slice A n c] 27)).heap.size = w.heap.size + 1 by simp] at this
 clear hW
 have p0 := VA.c0; have p1 := VA.c1; have p2 := VA.c2; have q0 := VB.c0; have q1 := VB.c1; have q2 := VB.c2
 have hbb : (S.toList == S.toList) = true := by simp
 have hkk : (K == K) = true := by simp
 go_wp2_with fail
 (with_reducible refine (HSL.out _ (HL.out.below HB) (HL'.out.below HB)).mono ?_)
 rintro e w2 ⟨rfl, hb⟩
 replace HB := below_step HB hb
 clear p0 p1 p2 q0 q1 q2 hb
 go_wp2
 go_ret
 exact ⟨rfl, HB⟩
end Go.Proofs.YtibdipfhfaeooaaGreatDoor


set_option linter.unusedVariables false
set_option linter.unusedSimpArgs false
namespace Go.Proofs.YtibdipfhfaeooaaGreatDoor
open Go.RowKit

/-- One of the two. -/
def someB (e : Ending) : Prop := ∃ b : Bool, e = .returned (.bool b)
/-- What quick tells. -/
def QuickR (M : Mp) (S : ByteArray) (L : List (List ByteArray)) (e : Ending) : Prop := ∃ b : Bool, e = .returned (.bool b) ∧ (b = true → okB M = true ∧ formB S L = true)
set_option maxRecDepth 100000 in
set_option maxHeartbeats 8000000 in
theorem Numbers_c (L : List (List ByteArray)) (A : Option Addr) (c : Nat) (w : World) (hL : LsB w A c L) (hsz : ∀ l ∈ L, ∀ s ∈ l, s.size ≤ 9223372036854775807) :
  Calls Tryz.prog 63 #[.slice A L.length c] w fun e w' => e = .returned (.bool (!L.any badL)) ∧ Below w.heap.size w w' := by
 have HB : Below w.heap.size w w := Below.refl _ _
 have HL := Lib.hid hL
 have hlc : L.length ≤ 9223372036854775807 := by have := hL.1; omega
 obtain ⟨n, hn⟩ : ∃ n, L.length = n := ⟨_, rfl⟩
 have HN := Lib.hid hn
 rw [hn] at hlc ⊢
 have HSZ : Hid (∀ i k, i < L.length → k < (lsi L i).length → (gs (lsi L i) k).size ≤ 9223372036854775807) := fun i k hi hk => by
  rw [gs_lt hk]
  exact hsz (lsi L i) (by rw [lsi_lt hi]; exact List.getElem_mem hi) _ (List.getElem_mem hk)
 have HLA : Hid (L.any badL = true ↔ ∃ j, j < L.length ∧ badL (lsi L j) = true) := lany
 generalize L.any badL = R at *
 clear hL hn hsz
 go_enter Tryz.func63, Tryz.ntmps63
 go_wp2_with fail
 go_loopg [3] n (fun g iv wr => ∃ i : Nat, g = n - i ∧ iv = .int .i64 i ∧ i ≤ n ∧ Below w.heap.size w wr ∧ Hid (∀ j, j < i → badL (lsi L j) = false))
 case atStart => exact ⟨0, rfl, rfl, Nat.zero_le _, HB , fun j h => absurd h (by omega)⟩
 case round =>
  clear HB
  obtain ⟨i, hgi, rfl, hi, HB , HI⟩ := hrel
  have hi0 : (0 : Int) ≤ (i : Int) := by omega
  by_cases hin : i < n
  ·have hi1 : (i : Int) < (n : Int) := by omega
   have HIL : Hid (i < L.length) := by show _ < _; rw [HN.out]; exact hin
   obtain ⟨bA, oA, A1, c1, rfl, CA, hs1⟩ := (HL.out.below HB).2 i HIL.out
   obtain ⟨x, hx⟩ : ∃ x, lsi L i = x := ⟨_, rfl⟩
   rw [hx] at CA hs1
   have HX := Lib.hid hx
   obtain ⟨n1, hn1⟩ : ∃ n1, x.length = n1 := ⟨_, rfl⟩
   rw [hn1] at CA
   have HN1 := Lib.hid hn1
   have hl1 : n1 ≤ 9223372036854775807 := by have := hs1.2; omega
   have HS1 := Lib.hid hs1
   clear hx hn1 hs1
   have q0 := CA.c
   go_wp2_with fail
   clear q0
   go_loopg [4] n1 (fun g kv wz => ∃ k : Nat, g = n1 - k ∧ kv = .int .i64 k ∧ k ≤ n1 ∧ CL wz bA (oA + i) (.slice A1 n1 c1) ∧ Hid (LsS wz A1 c1 x) ∧ Below w.heap.size w wz ∧ Hid (∀ j, j < k → vldL (codes (gs x j)) = true))
   case atStart => exact ⟨0, rfl, rfl, Nat.zero_le _, CA, HS1, HB, fun j h => absurd h (by omega)⟩
   case round =>
    clear CA HS1 HB
    obtain ⟨k, hgk, rfl, hk, CA, HS1, HB, HK⟩ := hrel
    have hk0 : (0 : Int) ≤ (k : Int) := by omega
    have q0 := CA.c
    by_cases hkn : k < n1
    ·have hk1 : (k : Int) < (n1 : Int) := by omega
     have HKL : Hid (k < x.length) := by show _ < _; rw [HN1.out]; exact hkn
     obtain ⟨b1, o1, rfl, hlt1, hc1⟩ := HS1.out.cell (j := k) HKL.out
     have hs63 : (gs x k).size ≤ 9223372036854775807 := by have := HSZ.out i k HIL.out (by rw [HX.out]; exact HKL.out); rw [HX.out] at this; exact this
     obtain ⟨s, hs⟩ : ∃ s, gs x k = s := ⟨_, rfl⟩
     rw [hs] at hc1 hs63
     have HSS := Lib.hid hs
     clear hs hlt1
     cases hv : vldL (codes s) with
     | false =>
      have HV := Lib.hid hv
      have HR : Hid (R = true) := HLA.out.2 ⟨i, HIL.out, by rw [HX.out]; exact badL_iff.2 ⟨k, HKL.out, by rw [HSS.out, HV.out]; rfl⟩⟩
      clear hv HI HK
      go_wp2_with fail
      (with_reducible refine (Valid_c s _ hs63).mono ?_)
      rintro e w4 ⟨he, rfl⟩
      obtain rfl : e = .returned (.bool false) := by rw [he, HV.out]
      clear he
      go_wp2
      go_ret
      exact ⟨by rw [HR.out] <;> rfl, HB⟩
     | true =>
      have HV := Lib.hid hv
      have HK2 : Hid (∀ j, j < k + 1 → vldL (codes (gs x j)) = true) := fun j hj => by
       rcases Nat.lt_or_ge j k with h | h
       ·exact HK.out j h
       ·obtain rfl : j = k := by omega
        rw [HSS.out]; exact HV.out
      clear hv HK
      go_wp2_with fail
      (with_reducible refine (Valid_c s _ hs63).mono ?_)
      rintro e w4 ⟨he, rfl⟩
      obtain rfl : e = .returned (.bool true) := by rw [he, HV.out]
      clear he
      go_wp2
      go_roundg (n1 - (k + 1))
      case measure => omega
      case rel => exact ⟨k + 1, rfl, by go_num, by omega, CA, HS1, HB, HK2⟩
    ·obtain rfl : k = n1 := by omega
     have hk1 : ¬ (k : Int) < (k : Int) := by omega
     have HI2 : Hid (∀ j, j < i + 1 → badL (lsi L j) = false) := fun j hj => by
      rcases Nat.lt_or_ge j i with h | h
      ·exact HI.out j h
      ·obtain rfl : j = i := by omega
       rw [HX.out]
       cases e : badL x with
       | false => rfl
       | true =>
        obtain ⟨q, h1, h2⟩ := badL_iff.1 e
        rw [HK.out q (by rw [← HN1.out]; exact h1)] at h2
        cases h2
     clear HI HK
     go_wp2
     go_roundg (n - (i + 1))
     case measure => omega
     case rel => exact ⟨i + 1, rfl, by go_num, by omega, HB, HI2⟩
  ·obtain rfl : i = n := by omega
   have hi1 : ¬ (i : Int) < (i : Int) := by omega
   have HR : Hid (R = false) := by
    show _ = _
    cases e : R with
    | false => rfl
    | true =>
     obtain ⟨j, h1, h2⟩ := HLA.out.1 e
     rw [HI.out j (by rw [← HN.out]; exact h1)] at h2
     cases h2
   clear HI
   go_wp2
   go_ret
   exact ⟨by rw [HR.out] <;> rfl, HB⟩
set_option maxRecDepth 100000 in
set_option maxHeartbeats 8000000 in
theorem Form9_c (K : Int) (S : ByteArray) (L : List (List ByteArray)) (A : Option Addr) (c : Nat) (w : World) (hS : S.size ≤ 9223372036854775807) (h : LsB w A c L) (hsz : ∀ l ∈ L, ∀ s ∈ l, s.size ≤ 9223372036854775807) :
  Calls Tryz.prog 24 #[.agg #[.int .i64 K, .string S, .slice A L.length c]] w fun e w' => e = .returned (.bool (formB S L)) ∧ Below w.heap.size w w' := by
 have HL := Lib.hid h
 obtain ⟨n, hn⟩ : ∃ n, L.length = n := ⟨_, rfl⟩
 have HFB : Hid (formB S L = (vldL (codes S) && !L.any badL)) := rfl
 have HNU : Hid (∀ W, LsB W A c L → Calls Tryz.prog 63 #[.slice A n c] W fun e w' => e = .returned (.bool (!L.any badL)) ∧ Below W.heap.size W w') := fun W h1 => by rw [← hn]; exact Numbers_c L A c W h1 hsz
 rw [hn]
 have HBW := below_alloc (Below.refl w.heap.size w) (Obj.cells #[Value.int .i64 K, Value.string S, Value.slice A n c] 27)
 have V3 := VQ.new (x := .int .i64 K) (y := .string S) (z := .slice A n c) w 27
 generalize formB S L = R at *
 generalize L.any badL = R2 at *
 have x1 := V3.c1; have x2 := V3.c2
 clear h hsz hn
 cases hv : vldL (codes S) with
 | false =>
  have HR : Hid (R = false) := by show _ = _; rw [HFB.out, hv]; rfl
  have HV := Lib.hid hv
  clear hv
  go_enter Tryz.func24, Tryz.ntmps24
  go_wp2_with fail
  (with_reducible refine (Valid_c S _ hS).mono ?_)
  rintro e w2 ⟨he, rfl⟩
  obtain rfl : e = .returned (.bool false) := by rw [he, HV.out]
  clear he
  go_wp2
  go_ret
  exact ⟨by rw [HR.out] <;> rfl, HBW⟩
 | true =>
  have HR : Hid (R = !R2) := by show _ = _; rw [HFB.out, hv]; rfl
  have HV := Lib.hid hv
  clear hv
  go_enter Tryz.func24, Tryz.ntmps24
  go_wp2_with fail
  (with_reducible refine (Valid_c S _ hS).mono ?_)
  rintro e w2 ⟨he, rfl⟩
  obtain rfl : e = .returned (.bool true) := by rw [he, HV.out]
  clear he
  go_wp2_with fail
  (with_reducible refine (HNU.out _ (HL.out.below HBW)).mono ?_)
  rintro e w3 ⟨rfl, hb⟩
  replace HBW := below_step HBW hb
  clear hb x1 x2
  cases R2
  ·have HR2 : Hid (R = true) := HR.out
   go_wp2
   go_ret
   exact ⟨by rw [HR2.out] <;> rfl, HBW⟩
  ·have HR2 : Hid (R = false) := HR.out
   go_wp2
   go_ret
   exact ⟨by rw [HR2.out] <;> rfl, HBW⟩
set_option maxRecDepth 100000 in
set_option maxHeartbeats 8000000 in
theorem long9_c (L : List (List ByteArray)) (A : Option Addr) (c : Nat) (w : World) (hL : LsB w A c L) :
  Calls Tryz.prog 20 #[.slice A L.length c] w fun e w' => someB e ∧ Below w.heap.size w w' := by
 have HB : Below w.heap.size w w := Below.refl _ _
 have HL := Lib.hid hL
 have hlc : L.length ≤ 9223372036854775807 := by have := hL.1; omega
 obtain ⟨n, hn⟩ : ∃ n, L.length = n := ⟨_, rfl⟩
 have HN := Lib.hid hn
 rw [hn] at hlc ⊢
 clear hL hn
 go_enter Tryz.func20, Tryz.ntmps20
 go_wp2_with fail
 go_loopg [4, 3] n (fun g iv xv wr => ∃ (i : Nat) (X : Int), g = n - i ∧ iv = .int .i64 i ∧ xv = .int .i64 X ∧ i ≤ n ∧ Below w.heap.size w wr )
 case atStart => exact ⟨0, 0, rfl, rfl, rfl, Nat.zero_le _, HB ⟩
 case round =>
  clear HB
  obtain ⟨i, X, hgi, rfl, rfl, hi, HB ⟩ := hrel
  have hi0 : (0 : Int) ≤ (i : Int) := by omega
  by_cases hin : i < n
  ·have hi1 : (i : Int) < (n : Int) := by omega
   have HIL : Hid (i < L.length) := by show _ < _; rw [HN.out]; exact hin
   obtain ⟨bA, oA, A1, c1, rfl, CA, hs1⟩ := (HL.out.below HB).2 i HIL.out
   obtain ⟨x, hx⟩ : ∃ x, lsi L i = x := ⟨_, rfl⟩
   rw [hx] at CA hs1
   have HX := Lib.hid hx
   obtain ⟨n1, hn1⟩ : ∃ n1, x.length = n1 := ⟨_, rfl⟩
   rw [hn1] at CA
   have HN1 := Lib.hid hn1
   have hl1 : n1 ≤ 9223372036854775807 := by have := hs1.2; omega
   have HS1 := Lib.hid hs1
   clear hx hn1 hs1
   have q0 := CA.c
   go_wp2_with fail
   clear q0
   go_loopg [5, 3] n1 (fun g kv xv wz => ∃ (k : Nat) (X : Int), g = n1 - k ∧ kv = .int .i64 k ∧ xv = .int .i64 X ∧ k ≤ n1 ∧ CL wz bA (oA + i) (.slice A1 n1 c1) ∧ Hid (LsS wz A1 c1 x) ∧ Below w.heap.size w wz)
   case atStart => exact ⟨0, _, rfl, rfl, rfl, Nat.zero_le _, CA, HS1, HB⟩
   case round =>
    clear CA HS1 HB
    obtain ⟨k, X2, hgk, rfl, rfl, hk, CA, HS1, HB⟩ := hrel
    have hk0 : (0 : Int) ≤ (k : Int) := by omega
    have q0 := CA.c
    by_cases hkn : k < n1
    ·have hk1 : (k : Int) < (n1 : Int) := by omega
     have HKL : Hid (k < x.length) := by show _ < _; rw [HN1.out]; exact hkn
     obtain ⟨b1, o1, rfl, hlt1, hc1⟩ := HS1.out.cell (j := k) HKL.out
     generalize gs x k = s at *
     clear hlt1
     go_wp2
     go_roundg (n1 - (k + 1))
     case measure => omega
     case rel => exact ⟨k + 1, _, rfl, by go_num, rfl, by omega, CA, HS1, HB⟩
    ·obtain rfl : k = n1 := by omega
     have hk1 : ¬ (k : Int) < (k : Int) := by omega
     go_wp2
     go_roundg (n - (i + 1))
     case measure => omega
     case rel => exact ⟨i + 1, _, rfl, by go_num, rfl, by omega, HB⟩
  ·obtain rfl : i = n := by omega
   have hi1 : ¬ (i : Int) < (i : Int) := by omega
   go_wp2
   go_ret
   exact ⟨⟨_, rfl⟩, HB⟩
set_option maxRecDepth 100000 in
set_option maxHeartbeats 8000000 in
theorem quick_c (M : Mp) (K : Int) (S : ByteArray) (L : List (List ByteArray)) (v : Value) (A : Option Addr) (c : Nat) (w : World) (hM : IsM w v M) (hS : S.size ≤ 9223372036854775807) (hL : LsB w A c L) (hsz : ∀ l ∈ L, ∀ s ∈ l, s.size ≤ 9223372036854775807) :
  Calls Tryz.prog 35 #[v, .agg #[.int .i64 K, .string S, .slice A L.length c]] w fun e w' => QuickR M S L e ∧ Below w.heap.size w w' := by
 obtain ⟨md, Am, nm, cm, A', n', c', rfl, HM⟩ := hM.form
 have HL := Lib.hid hL
 obtain ⟨n, hn⟩ : ∃ n, L.length = n := ⟨_, rfl⟩
 have HFO : Hid (∀ W, LsB W A c L → Calls Tryz.prog 24 #[.agg #[.int .i64 K, .string S, .slice A n c]] W fun e w' => e = .returned (.bool (formB S L)) ∧ Below W.heap.size W w') := fun W h1 => by rw [← hn]; exact Form9_c K S L A c W hS h1 hsz
 have HLO : Hid (∀ W, LsB W A c L → Calls Tryz.prog 20 #[.slice A n c] W fun e w' => someB e ∧ Below W.heap.size W w') := fun W h1 => by rw [← hn]; exact long9_c L A c W h1
 rw [hn]
 clear hM hL hS hsz hn
 have HRQ : Hid (∀ b : Bool, (b = true → okB M = true ∧ formB S L = true) → QuickR M S L (.returned (.bool b))) := fun b h => ⟨b, rfl, h⟩
 have HRF : Hid (QuickR M S L (.returned (.bool false))) := ⟨false, rfl, fun h => by cases h⟩
 go_enter Tryz.func35, Tryz.ntmps35
 go_upto_region 1 with fail
 generalize hW : (w.alloc (Obj.cells #[Value.int .i64 md, Value.slice Am nm cm, Value.slice A' n' c'] 24)).alloc _ = W
 have HB : Below w.heap.size w W := by subst hW; exact below_alloc (below_alloc (Below.refl _ _) _) _
 have V3 : VM W w.heap.size md Am nm cm A' n' c' M := by subst hW; exact (VM.new w 24 HM.out).keep (below_alloc (Below.refl _ _) _)
 have VP : VQ W (w.heap.size + 1) (.int .i64 K) (.string S) (.slice A n c) := by
  subst hW
  have := VQ.new (x := .int .i64 K) (y := .string S) (z := .slice A n c) (w.alloc (Obj.cells #[Value.int .i64 md, Value.slice Am nm cm, Value.slice A' n' c'] 24)) 27
  rwa [show (w.alloc (Obj.cells #[Value.int .i64 md, Value.slice Am nm cm, Value.slice A' n' c'] 24)).heap.size = w.heap.size + 1 by simp] at this
 clear hW HM
 have m0 := V3.c0; have m1 := V3.c1; have m2 := V3.c2
 go_wp2_with fail
 (with_reducible refine (MValid_c M _ _ V3.im.out).mono ?_)
 rintro e w2 ⟨he, hb⟩
 replace VP := VP.keep hb; replace HB := below_step HB hb
 clear m0 m1 m2 hb V3
 cases hok : okB M with
 | false =>
  rw [hok] at he
  subst he
  clear hok
  go_wp2
  go_ret
  exact ⟨HRF.out, HB⟩
 | true =>
  rw [hok] at he
  subst he
  have HOK := Lib.hid hok
  clear hok
  have p0 := VP.c0; have p1 := VP.c1; have p2 := VP.c2
  go_wp2_with fail
  (with_reducible refine (HFO.out _ (HL.out.below HB)).mono ?_)
  rintro e w3 ⟨rfl, hb⟩
  replace VP := VP.keep hb; replace HB := below_step HB hb
  clear p0 p1 p2 hb
  cases hR : formB S L with
  | false =>
   clear hR
   go_wp2
   go_ret
   exact ⟨HRF.out, HB⟩
  | true =>
   have HTR := Lib.hid hR
   clear hR
   have p2 := VP.c2
   go_wp2_with fail
   (with_reducible refine (HLO.out _ (HL.out.below HB)).mono ?_)
   rintro e w4 ⟨⟨b, rfl⟩, hb⟩
   replace HB := below_step HB hb
   clear p2 hb
   go_wp2
   go_ret
   exact ⟨HRQ.out _ fun _ => ⟨HOK.out, HTR.out⟩, HB⟩
end Go.Proofs.YtibdipfhfaeooaaGreatDoor

