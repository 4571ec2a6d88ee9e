/- Maps in memory; what the second reference's functions do to memory and what they return. No condition. -/
import Derived.Test.YtibdipfhfaeooaaGreatDoorZ3
import Derived.Deep.LoopGhost
import Derived.Maps.RangeWalk
set_option linter.unusedVariables false
set_option linter.unusedSimpArgs false
namespace Go.Proofs.YtibdipfhfaeooaaGreatDoor
open Go.RowKit

abbrev ob74a9 : Oper := { dst := some 34, op := Go.Op.fieldAddr 24 (Go.Operand.tmp 1) 1, type := 0, pos := "ref.go:15", after := #[], guard := none }
abbrev od15ce : Oper := { dst := some 35, op := Go.Op.load 22 (Go.Operand.tmp 34), type := 22, pos := "ref.go:15", after := #[{ on := 0, ground := Go.Ground.data }], guard := none }
abbrev oe98d9 : Oper := { dst := some 36, op := Go.Op.move (Go.Operand.tmp 3), type := 3, pos := "ref.go:15", after := #[], guard := none }
abbrev odf3b0 : Oper := { dst := some 37, op := Go.Op.indexAddr 22 (Go.Operand.tmp 35) (Go.Operand.tmp 36), type := 0, pos := "ref.go:15", after := #[{ on := 1, ground := Go.Ground.data }, { on := 2, ground := Go.Ground.data }], guard := none }
abbrev ocb6b7 : Oper := { dst := some 38, op := Go.Op.load 3 (Go.Operand.tmp 37), type := 3, pos := "ref.go:15", after := #[{ on := 3, ground := Go.Ground.data }], guard := none }
abbrev of78ae : Oper := { dst := some 39, op := Go.Op.binOp Go.BinOp.lss 3 (Go.Operand.tmp 38) (Go.Operand.const (Go.Value.int Go.IntKind.i64 1)) 3, type := 4, pos := "ref.go:15", after := #[{ on := 4, ground := Go.Ground.data }], guard := none }
abbrev o67d5b : Oper := { dst := some 40, op := Go.Op.move (Go.Operand.tmp 39), type := 4, pos := "ref.go:15", after := #[{ on := 5, ground := Go.Ground.data }], guard := none }
abbrev o2596a : Oper := { dst := some 41, op := Go.Op.fieldAddr 24 (Go.Operand.tmp 1) 1, type := 0, pos := "ref.go:15", after := #[{ on := 6, ground := Go.Ground.guard }], guard := some (6, false) }
abbrev o71fc8 : Oper := { dst := some 42, op := Go.Op.load 22 (Go.Operand.tmp 41), type := 22, pos := "ref.go:15", after := #[{ on := 7, ground := Go.Ground.data }, { on := 6, ground := Go.Ground.guard }], guard := some (6, false) }
abbrev oeb3fb : Oper := { dst := some 43, op := Go.Op.move (Go.Operand.tmp 3), type := 3, pos := "ref.go:15", after := #[{ on := 6, ground := Go.Ground.guard }], guard := some (6, false) }
abbrev o19de0 : Oper := { dst := some 44, op := Go.Op.indexAddr 22 (Go.Operand.tmp 42) (Go.Operand.tmp 43), type := 0, pos := "ref.go:15", after := #[{ on := 8, ground := Go.Ground.data }, { on := 9, ground := Go.Ground.data }, { on := 6, ground := Go.Ground.guard }], guard := some (6, false) }
abbrev oefb8e : Oper := { dst := some 45, op := Go.Op.load 3 (Go.Operand.tmp 44), type := 3, pos := "ref.go:15", after := #[{ on := 10, ground := Go.Ground.data }, { on := 6, ground := Go.Ground.guard }], guard := some (6, false) }
abbrev o00402 : Oper := { dst := some 46, op := Go.Op.binOp Go.BinOp.gtr 3 (Go.Operand.tmp 45) (Go.Operand.const (Go.Value.int Go.IntKind.i64 999)) 3, type := 4, pos := "ref.go:15", after := #[{ on := 11, ground := Go.Ground.data }, { on := 6, ground := Go.Ground.guard }], guard := some (6, false) }
abbrev oc7ea2 : Oper := { dst := some 47, op := Go.Op.pick (Go.Operand.tmp 40) (Go.Operand.const (Go.Value.bool true)) (Go.Operand.tmp 46), type := 4, pos := "ref.go:15", after := #[{ on := 6, ground := Go.Ground.data }, { on := 12, ground := Go.Ground.data }], guard := none }
abbrev o02df3 : Oper := { dst := some 48, op := Go.Op.move (Go.Operand.tmp 47), type := 4, pos := "ref.go:15", after := #[{ on := 13, ground := Go.Ground.data }, { on := 6, ground := Go.Ground.chain }], guard := none }
abbrev o0147b : Oper := { dst := some 49, op := Go.Op.fieldAddr 24 (Go.Operand.tmp 1) 2, type := 0, pos := "ref.go:15", after := #[{ on := 14, ground := Go.Ground.guard }], guard := some (14, false) }
abbrev o36792 : Oper := { dst := some 50, op := Go.Op.load 22 (Go.Operand.tmp 49), type := 22, pos := "ref.go:15", after := #[{ on := 15, ground := Go.Ground.data }, { on := 14, ground := Go.Ground.guard }], guard := some (14, false) }
abbrev o0d4e3 : Oper := { dst := some 51, op := Go.Op.move (Go.Operand.tmp 3), type := 3, pos := "ref.go:15", after := #[{ on := 14, ground := Go.Ground.guard }], guard := some (14, false) }
abbrev o73bf2 : Oper := { dst := some 52, op := Go.Op.indexAddr 22 (Go.Operand.tmp 50) (Go.Operand.tmp 51), type := 0, pos := "ref.go:15", after := #[{ on := 16, ground := Go.Ground.data }, { on := 17, ground := Go.Ground.data }, { on := 14, ground := Go.Ground.guard }], guard := some (14, false) }
abbrev o6f4bb : Oper := { dst := some 53, op := Go.Op.load 3 (Go.Operand.tmp 52), type := 3, pos := "ref.go:15", after := #[{ on := 18, ground := Go.Ground.data }, { on := 14, ground := Go.Ground.guard }], guard := some (14, false) }
abbrev o10933 : Oper := { dst := some 54, op := Go.Op.binOp Go.BinOp.lss 3 (Go.Operand.tmp 53) (Go.Operand.const (Go.Value.int Go.IntKind.i64 (-999999))) 3, type := 4, pos := "ref.go:15", after := #[{ on := 19, ground := Go.Ground.data }, { on := 14, ground := Go.Ground.guard }], guard := some (14, false) }
abbrev oe53d5 : Oper := { dst := some 55, op := Go.Op.pick (Go.Operand.tmp 48) (Go.Operand.const (Go.Value.bool true)) (Go.Operand.tmp 54), type := 4, pos := "ref.go:15", after := #[{ on := 14, ground := Go.Ground.data }, { on := 20, ground := Go.Ground.data }], guard := none }
abbrev o35634 : Oper := { dst := some 56, op := Go.Op.move (Go.Operand.tmp 55), type := 4, pos := "ref.go:15", after := #[{ on := 21, ground := Go.Ground.data }, { on := 14, ground := Go.Ground.chain }], guard := none }
abbrev o19e58 : Oper := { dst := some 57, op := Go.Op.fieldAddr 24 (Go.Operand.tmp 1) 2, type := 0, pos := "ref.go:15", after := #[{ on := 22, ground := Go.Ground.guard }], guard := some (22, false) }
abbrev ob6ad7 : Oper := { dst := some 58, op := Go.Op.load 22 (Go.Operand.tmp 57), type := 22, pos := "ref.go:15", after := #[{ on := 23, ground := Go.Ground.data }, { on := 22, ground := Go.Ground.guard }], guard := some (22, false) }
abbrev o43432 : Oper := { dst := some 59, op := Go.Op.move (Go.Operand.tmp 3), type := 3, pos := "ref.go:15", after := #[{ on := 22, ground := Go.Ground.guard }], guard := some (22, false) }
abbrev o1e04a : Oper := { dst := some 60, op := Go.Op.indexAddr 22 (Go.Operand.tmp 58) (Go.Operand.tmp 59), type := 0, pos := "ref.go:15", after := #[{ on := 24, ground := Go.Ground.data }, { on := 25, ground := Go.Ground.data }, { on := 22, ground := Go.Ground.guard }], guard := some (22, false) }
abbrev oa8a26 : Oper := { dst := some 61, op := Go.Op.load 3 (Go.Operand.tmp 60), type := 3, pos := "ref.go:15", after := #[{ on := 26, ground := Go.Ground.data }, { on := 22, ground := Go.Ground.guard }], guard := some (22, false) }
abbrev o250c1 : Oper := { dst := some 62, op := Go.Op.binOp Go.BinOp.gtr 3 (Go.Operand.tmp 61) (Go.Operand.const (Go.Value.int Go.IntKind.i64 999999)) 3, type := 4, pos := "ref.go:15", after := #[{ on := 27, ground := Go.Ground.data }, { on := 22, ground := Go.Ground.guard }], guard := some (22, false) }
abbrev o5f14c : Oper := { dst := some 63, op := Go.Op.pick (Go.Operand.tmp 56) (Go.Operand.const (Go.Value.bool true)) (Go.Operand.tmp 62), type := 4, pos := "ref.go:15", after := #[{ on := 22, ground := Go.Ground.data }, { on := 28, ground := Go.Ground.data }], guard := none }
abbrev odc1f9 : Oper := { dst := some 64, op := Go.Op.move (Go.Operand.tmp 63), type := 4, pos := "ref.go:15", after := #[{ on := 29, ground := Go.Ground.data }, { on := 22, ground := Go.Ground.chain }], guard := none }
abbrev oaa849 : Oper := { dst := some 65, op := Go.Op.fieldAddr 24 (Go.Operand.tmp 1) 1, type := 0, pos := "ref.go:15", after := #[{ on := 30, ground := Go.Ground.guard }], guard := some (30, false) }
abbrev od9ccf : Oper := { dst := some 66, op := Go.Op.load 22 (Go.Operand.tmp 65), type := 22, pos := "ref.go:15", after := #[{ on := 31, ground := Go.Ground.data }, { on := 30, ground := Go.Ground.guard }], guard := some (30, false) }
abbrev odb607 : Oper := { dst := some 67, op := Go.Op.move (Go.Operand.tmp 3), type := 3, pos := "ref.go:15", after := #[{ on := 30, ground := Go.Ground.guard }], guard := some (30, false) }
abbrev oc61cb : Oper := { dst := some 68, op := Go.Op.indexAddr 22 (Go.Operand.tmp 66) (Go.Operand.tmp 67), type := 0, pos := "ref.go:15", after := #[{ on := 32, ground := Go.Ground.data }, { on := 33, ground := Go.Ground.data }, { on := 30, ground := Go.Ground.guard }], guard := some (30, false) }
abbrev o20c4d : Oper := { dst := some 69, op := Go.Op.load 3 (Go.Operand.tmp 68), type := 3, pos := "ref.go:15", after := #[{ on := 34, ground := Go.Ground.data }, { on := 30, ground := Go.Ground.guard }], guard := some (30, false) }
abbrev oba2df : Oper := { dst := some 70, op := Go.Op.move (Go.Operand.tmp 3), type := 3, pos := "ref.go:15", after := #[{ on := 30, ground := Go.Ground.guard }], guard := some (30, false) }
abbrev o9bb5a : Oper := { dst := some 71, op := Go.Op.binOp Go.BinOp.mul 3 (Go.Operand.tmp 69) (Go.Operand.tmp 70) 3, type := 3, pos := "ref.go:15", after := #[{ on := 35, ground := Go.Ground.data }, { on := 36, ground := Go.Ground.data }, { on := 30, ground := Go.Ground.guard }], guard := some (30, false) }
abbrev oaa4bf : Oper := { dst := some 72, op := Go.Op.fieldAddr 24 (Go.Operand.tmp 1) 2, type := 0, pos := "ref.go:15", after := #[{ on := 30, ground := Go.Ground.guard }], guard := some (30, false) }
abbrev o22551 : Oper := { dst := some 73, op := Go.Op.load 22 (Go.Operand.tmp 72), type := 22, pos := "ref.go:15", after := #[{ on := 38, ground := Go.Ground.data }, { on := 30, ground := Go.Ground.guard }], guard := some (30, false) }
abbrev o1ce95 : Oper := { dst := some 74, op := Go.Op.move (Go.Operand.tmp 3), type := 3, pos := "ref.go:15", after := #[{ on := 30, ground := Go.Ground.guard }], guard := some (30, false) }
abbrev oe88bf : Oper := { dst := some 75, op := Go.Op.indexAddr 22 (Go.Operand.tmp 73) (Go.Operand.tmp 74), type := 0, pos := "ref.go:15", after := #[{ on := 39, ground := Go.Ground.data }, { on := 40, ground := Go.Ground.data }, { on := 30, ground := Go.Ground.guard }], guard := some (30, false) }
abbrev o467e4 : Oper := { dst := some 76, op := Go.Op.load 3 (Go.Operand.tmp 75), type := 3, pos := "ref.go:15", after := #[{ on := 41, ground := Go.Ground.data }, { on := 30, ground := Go.Ground.guard }], guard := some (30, false) }
abbrev o7628f : Oper := { dst := some 77, op := Go.Op.binOp Go.BinOp.add 3 (Go.Operand.tmp 71) (Go.Operand.tmp 76) 3, type := 3, pos := "ref.go:15", after := #[{ on := 37, ground := Go.Ground.data }, { on := 42, ground := Go.Ground.data }, { on := 30, ground := Go.Ground.guard }], guard := some (30, false) }
abbrev ocd4f7 : Oper := { dst := some 78, op := Go.Op.fieldAddr 24 (Go.Operand.tmp 1) 0, type := 0, pos := "ref.go:15", after := #[{ on := 30, ground := Go.Ground.guard }], guard := some (30, false) }
abbrev o8e176 : Oper := { dst := some 79, op := Go.Op.load 3 (Go.Operand.tmp 78), type := 3, pos := "ref.go:15", after := #[{ on := 44, ground := Go.Ground.data }, { on := 30, ground := Go.Ground.guard }], guard := some (30, false) }
abbrev o6fa04 : Oper := { dst := some 80, op := Go.Op.binOp Go.BinOp.rem 3 (Go.Operand.tmp 77) (Go.Operand.tmp 79) 3, type := 3, pos := "ref.go:15", after := #[{ on := 43, ground := Go.Ground.data }, { on := 45, ground := Go.Ground.data }, { on := 30, ground := Go.Ground.guard }], guard := some (30, false) }
abbrev od91d1 : Oper := { dst := some 81, op := Go.Op.binOp Go.BinOp.neq 3 (Go.Operand.tmp 80) (Go.Operand.const (Go.Value.int Go.IntKind.i64 0)) 3, type := 4, pos := "ref.go:15", after := #[{ on := 46, ground := Go.Ground.data }, { on := 30, ground := Go.Ground.guard }], guard := some (30, false) }
abbrev o41d9b : Oper := { dst := some 82, op := Go.Op.pick (Go.Operand.tmp 64) (Go.Operand.const (Go.Value.bool true)) (Go.Operand.tmp 81), type := 4, pos := "ref.go:15", after := #[{ on := 30, ground := Go.Ground.data }, { on := 47, ground := Go.Ground.data }], guard := none }
attribute [local go_sem] ob74a9 od15ce oe98d9 odf3b0 ocb6b7 of78ae o67d5b o2596a o71fc8 oeb3fb o19de0 oefb8e o00402 oc7ea2 o02df3 o0147b o36792 o0d4e3 o73bf2 o6f4bb o10933 oe53d5 o35634 o19e58 ob6ad7 o43432 o1e04a oa8a26 o250c1 o5f14c odc1f9 oaa849 od9ccf odb607 oc61cb o20c4d oba2df o9bb5a oaa4bf o22551 o1ce95 oe88bf o467e4 o7628f ocd4f7 o8e176 o6fa04 od91d1 o41d9b
/-- A map: its modulus, factors and addends. -/
structure Mp where
 mod : Int
 mul : List Int
 add : List Int
def IsM (w : World) (v : Value) (M : Mp) : Prop := ∃ A c A' c', v = .agg #[.int .i64 M.mod, .slice A M.mul.length c, .slice A' M.add.length c'] ∧ SlI w .i64 A c M.mul ∧ SlI w .i64 A' c' M.add
theorem IsM.kp {w w' : World} {v : Value} {M : Mp} (h : IsM w v M) (hk : Kp w w') : IsM w' v M := by
 obtain ⟨A, c, A', c', e, h1, h2⟩ := h
 exact ⟨A, c, A', c', e, hk _ _ _ _ h1, hk _ _ _ _ h2⟩
theorem IsM.below {w w' : World} {v : Value} {M : Mp} (h : IsM w v M) (hb : Below w.heap.size w w') : IsM w' v M := h.kp (Kp.of hb)
theorem IsM.form {w : World} {v : Value} {M : Mp} (h : IsM w v M) : ∃ md A n c A' n' c', v = .agg #[.int .i64 md, .slice A n c, .slice A' n' c'] ∧ Hid (IsM w (.agg #[.int .i64 md, .slice A n c, .slice A' n' c']) M) := by
 obtain ⟨A, c, A', c', rfl, h1, h2⟩ := h
 exact ⟨_, A, _, c, A', _, c', rfl, A, c, A', c', rfl, h1, h2⟩
/-- Block b holds a map. -/
structure VM (W : World) (b : Nat) (md : Int) (A : Option Addr) (n c : Nat) (A' : Option Addr) (n' c' : Nat) (M : Mp) : Prop where
 c0 : W.cell? ⟨b, 0, none⟩ = some (.int .i64 md)
 c1 : W.cell? ⟨b, 1, none⟩ = some (.slice A n c)
 c2 : W.cell? ⟨b, 2, none⟩ = some (.slice A' n' c')
 lt : b < W.heap.size
 im : Hid (IsM W (.agg #[.int .i64 md, .slice A n c, .slice A' n' c']) M)
section
variable {W w1 : World} {b : Nat} {md : Int} {A : Option Addr} {n c : Nat} {A' : Option Addr} {n' c' : Nat} {M : Mp}
theorem VM.keep (h : VM W b md A n c A' n' c' M) (hb : Below W.heap.size W w1) : VM w1 b md A n c A' n' c' M :=
 ⟨kcell hb h.lt h.c0, kcell hb h.lt h.c1, kcell hb h.lt h.c2, Nat.lt_of_lt_of_le h.lt hb.size, h.im.out.below hb⟩
theorem VM.drew (h : VM W b md A n c A' n' c' M) : VM W.drew b md A n c A' n' c' M := h.keep (below_drew (Below.refl _ _))
theorem VM.keepB {base : Nat} (h : VM W b md A n c A' n' c' M) (hb : Below base W w1) (hlt : b < base) (hk : Kp W w1) : VM w1 b md A n c A' n' c' M :=
 ⟨kcellB hb hlt h.c0, kcellB hb hlt h.c1, kcellB hb hlt h.c2, Nat.lt_of_lt_of_le h.lt hb.size, h.im.out.kp hk⟩
theorem VM.new (W : World) (t : TypeId) (h : IsM W (.agg #[.int .i64 md, .slice A n c, .slice A' n' c']) M) : VM (W.alloc (.cells #[.int .i64 md, .slice A n c, .slice A' n' c'] t)) W.heap.size md A n c A' n' c' M :=
 ⟨by simp [go_sem], by simp [go_sem], by simp [go_sem], by simp, h.below (below_alloc (Below.refl _ _) _)⟩
theorem VM.far {b' : Nat} {x y : Value} (h : VM W b md A n c A' n' c' M) (hr : Res2 W b') (hne : b' ≠ b) : VM ((W.setCell ⟨b', 0, none⟩ x).setCell ⟨b', 1, none⟩ y) b md A n c A' n' c' M := by
 have e : ∀ (o : Nat) (w : World) (u : Value) (o' : Nat), (w.setCell ⟨b', o', none⟩ u).cell? ⟨b, o, none⟩ = w.cell? ⟨b, o, none⟩ := fun o w u o' => World.cell?_setCell_other _ _ _ _ (by simp [hne])
 exact ⟨by rw [e, e]; exact h.c0, by rw [e, e]; exact h.c1, by rw [e, e]; exact h.c2, by simpa [World.setCell] using h.lt, h.im.out.kp (Kp.res2 hr x y)⟩
end
theorem VM.sl {W : World} {b : Nat} {md : Int} {A : Option Addr} {n c : Nat} {A' : Option Addr} {n' c' : Nat} {M : Mp} (h : VM W b md A n c A' n' c' M) : md = M.mod ∧ n = M.mul.length ∧ n' = M.add.length ∧ SlI W .i64 A c M.mul ∧ SlI W .i64 A' c' M.add := by
 obtain ⟨A1, c1, A2, c2, e, h1, h2⟩ := h.im.out
 injection e with e
 simp only [Array.mk.injEq, List.cons.injEq, Value.int.injEq, Value.slice.injEq, and_true, true_and] at e
 obtain ⟨e0, ⟨rfl, e1, rfl⟩, rfl, e2, rfl⟩ := e
 exact ⟨e0, e1, e2, h1, h2⟩
/-- Is a rest's row as it has to be? -/
def okR (M : Mp) (r : Nat) : Prop := 1 ≤ gd M.mul r ∧ gd M.mul r ≤ 999 ∧ -999999 ≤ gd M.add r ∧ gd M.add r ≤ 999999 ∧ (gd M.mul r * r + gd M.add r) % M.mod = 0
instance (M : Mp) (r : Nat) : Decidable (okR M r) := by unfold okR; infer_instance
/-- Is a map valid? -/
def okM (M : Mp) : Prop := 2 ≤ M.mod ∧ M.mod ≤ 12 ∧ (M.mul.length : Int) = M.mod ∧ (M.add.length : Int) = M.mod ∧ ∀ r : Nat, (r : Int) < M.mod → okR M r
def okRs (M : Mp) : Nat → Bool
 | 0 => true
 | r + 1 => okRs M r && decide (okR M r)
theorem okRs_iff {M : Mp} {n : Nat} : okRs M n = true ↔ ∀ r, r < n → okR M r := by
 induction n with
 | zero => simp [okRs]
 | succ n ih =>
  unfold okRs
  rw [Bool.and_eq_true, ih, decide_eq_true_eq]
  constructor
  ·rintro ⟨h1, h2⟩ r hr
   rcases Nat.lt_or_ge r n with h | h
   ·exact h1 r h
   ·obtain rfl : r = n := by omega
    exact h2
  ·exact fun h => ⟨fun r hr => h r (by omega), h n (by omega)⟩
def okB (M : Mp) : Bool := decide (2 ≤ M.mod) && decide (M.mod ≤ 12) && decide ((M.mul.length : Int) = M.mod) && decide ((M.add.length : Int) = M.mod) && okRs M M.mod.toNat
theorem okB_iff {M : Mp} : okB M = true ↔ okM M := by
 unfold okB okM
 simp only [Bool.and_eq_true, decide_eq_true_eq, okRs_iff]
 constructor
 ·rintro ⟨⟨⟨⟨h1, h2⟩, h3⟩, h4⟩, h5⟩; exact ⟨h1, h2, h3, h4, fun r hr => h5 r (by omega)⟩
 ·rintro ⟨h1, h2, h3, h4, h5⟩; exact ⟨⟨⟨⟨h1, h2⟩, h3⟩, h4⟩, fun r hr => h5 r (by omega)⟩
theorem tmod_zero {x m : Int} : x.tmod m = 0 ↔ x % m = 0 := by
 rw [← Int.dvd_iff_tmod_eq_zero, Int.dvd_iff_emod_eq_zero]

set_option maxRecDepth 100000 in
set_option maxHeartbeats 4000000 in
theorem MValid_c (M : Mp) (v : Value) (w : World) (h : IsM w v M) :
  Calls Tryz.prog 11 #[v] w fun e w' => e = .returned (.bool (okB M)) ∧ Below w.heap.size w w' := by
 obtain ⟨A, c, A', c', rfl, HA, HA'⟩ := h
 have hcl := HA.2
 have hcl' := HA'.2
 have H1 := Lib.hid HA
 have H2 := Lib.hid HA'
 clear HA HA'
 generalize hw1 : M.mul.length = L1 at *
 generalize hw2 : M.add.length = L2 at *
 have HL1 := Lib.hid hw1
 have HL2 := Lib.hid hw2
 clear hw1 hw2
 have hB : ∀ o n, Below w.heap.size w ((w.alloc o).drewN n) := fun o n => below_drewN (below_alloc (Below.refl _ _) _) n
 obtain ⟨m, hm⟩ : ∃ m, M.mod = m := ⟨_, rfl⟩
 rw [hm]
 have HM := Lib.hid hm
 clear hm
 by_cases h1 : m < 2
 ·have HR : Hid (okB M = false) := by show _ = _; unfold okB; rw [HM.out, decide_eq_false (show ¬ 2 ≤ m by omega)]; simp
  go_enter Tryz.func11, Tryz.ntmps11
  go_wp2
  go_ret
  exact ⟨by rw [HR.out] <;> rfl, below_alloc (Below.refl _ _) _⟩
 ·by_cases h2 : 12 < m
  ·have HR : Hid (okB M = false) := by show _ = _; unfold okB; rw [HM.out, decide_eq_false (show ¬ m ≤ 12 by omega)]; simp
   go_enter Tryz.func11, Tryz.ntmps11
   go_wp2
   go_ret
   exact ⟨by rw [HR.out] <;> rfl, below_alloc (Below.refl _ _) _⟩
  ·by_cases h3 : (L1 : Int) = m
   rotate_left
   ·have HR : Hid (okB M = false) := by show _ = _; unfold okB; rw [HM.out, HL1.out, decide_eq_false h3]; simp
    have h3b : ((L1 : Int) == m) = false := by simpa using h3
    go_enter Tryz.func11, Tryz.ntmps11
    go_wp2
    go_ret
    exact ⟨by rw [HR.out] <;> rfl, below_alloc (Below.refl _ _) _⟩
   ·by_cases h4 : (L2 : Int) = m
    rotate_left
    ·have HR : Hid (okB M = false) := by show _ = _; unfold okB; rw [HM.out, HL2.out, decide_eq_false h4]; simp
     have h4b : ((L2 : Int) == m) = false := by simpa using h4
     subst h3
     go_enter Tryz.func11, Tryz.ntmps11
     go_wp2
     go_ret
     exact ⟨by rw [HR.out] <;> rfl, below_alloc (Below.refl _ _) _⟩
    ·obtain ⟨m', rfl⟩ := Int.eq_ofNat_of_zero_le (show 0 ≤ m by omega)
     have hl1 : L1 = m' := by omega
     have hl2 : m' = L2 := by omega
     subst hl1
     clear h3 h4
     subst hl2
     have HR0 : Hid (okB M = okRs M L1) := by show _ = _; unfold okB; rw [HM.out, HL1.out, HL2.out, decide_eq_true (show 2 ≤ (L1 : Int) by omega), decide_eq_true (show (L1 : Int) ≤ 12 by omega)]; simp
     have hVM : VM (w.alloc (Obj.cells #[Value.int .i64 L1, Value.slice A L1 c, Value.slice A' L1 c'] 24)) w.heap.size L1 A L1 c A' L1 c' M := VM.new w _ ⟨A, c, A', c', by rw [HM.out, HL1.out, HL2.out], H1.out, H2.out⟩
     have HB := below_alloc (Below.refl w.heap.size w) (Obj.cells #[Value.int .i64 L1, Value.slice A L1 c, Value.slice A' L1 c'] 24)
     clear HM
     go_enter Tryz.func11, Tryz.ntmps11
     go_wp2_with fail
     generalize hW : (w.alloc (Obj.cells #[Value.int .i64 L1, Value.slice A L1 c, Value.slice A' L1 c'] 24)) = W at *
     generalize hb0 : w.heap.size = b at *
     clear hW hB
     go_loopg [3] L1 (fun g iv wr => ∃ (r : Nat), g = L1 - r ∧ iv = .int .i64 r ∧ r ≤ L1 ∧ VM wr b L1 A L1 c A' L1 c' M ∧ Below b w wr ∧ Hid (∀ r', r' < r → okR M r'))
     case atStart => exact ⟨0, rfl, rfl, by omega, hVM, HB, fun r' h => absurd h (by omega)⟩
     case round =>
      clear hVM HB
      obtain ⟨r, hgk, rfl, hr, V, HB, HI⟩ := hrel
      have c0 := V.c0
      have c1 := V.c1
      have c2 := V.c2
      by_cases hrl : r < L1
      ·obtain ⟨-, -, -, s1, s2⟩ := V.sl
       obtain ⟨bA, oA, rfl, hlA, cA⟩ := s1.cell (j := r) (by rw [HL1.out]; exact hrl)
       obtain ⟨bB, oB, rfl, hlB, cB⟩ := s2.cell (j := r) (by rw [HL2.out]; exact hrl)
       clear s1 s2
       obtain ⟨x, hx⟩ : ∃ x, gd M.mul r = x := ⟨_, rfl⟩
       obtain ⟨y, hy⟩ : ∃ y, gd M.add r = y := ⟨_, rfl⟩
       rw [hx] at cA
       rw [hy] at cB
       have HX := Lib.hid hx
       have HY := Lib.hid hy
       clear hx hy
       have hi0 : (0 : Int) ≤ (r : Int) := by omega
       have hi1 : (r : Int) < (L1 : Int) := by omega
       have HNO : Hid (¬ okR M r → okB M = false) := fun h => by
        rw [HR0.out]
        cases ho : okRs M L1 with
        | false => rfl
        | true => exact absurd (okRs_iff.1 ho r hrl) h
       by_cases q1 : x < 1
       ·have HR : Hid (okB M = false) := HNO.out (fun h => by have := h.1; rw [HX.out] at this; omega)

        go_wp2_with fail
        have V1 := V.drew
        have cA1 : wr.drew.cell? ⟨bA, oA + r, none⟩ = some (.int .i64 x) := cA
        have cB1 : wr.drew.cell? ⟨bB, oB + r, none⟩ = some (.int .i64 y) := cB
        have HB1 := below_drew HB
        generalize hWd : wr.drew = wd at *
        refine wp_region_F (fun w' => w'.cell? ⟨b, 0, none⟩ = some (.int .i64 L1) ∧ w'.cell? ⟨b, 1, none⟩ = some (.slice (some ⟨bA, oA, none⟩) L1 c) ∧ w'.cell? ⟨b, 2, none⟩ = some (.slice (some ⟨bB, oB, none⟩) L1 c') ∧ w'.cell? ⟨bA, oA + r, none⟩ = some (.int .i64 x) ∧ w'.cell? ⟨bB, oB + r, none⟩ = some (.int .i64 y)) [] (by kernel_rfl) (by rw [hWd]; exact ⟨V1.c0, V1.c1, V1.c2, cA1, cB1⟩) (fun hHeld => ?_)
        rw [hWd] at hHeld ⊢
        refine tF 0 ob74a9 hHeld ?_; try go_frame
        refine tF 1 od15ce hHeld ?_; try go_frame
        refine tF 2 oe98d9 hHeld ?_; try go_frame
        refine tF 3 odf3b0 hHeld ?_; try go_frame
        refine tF 4 ocb6b7 hHeld ?_; try go_frame
        refine tF 5 of78ae hHeld ?_; try go_frame
        refine tF 6 o67d5b hHeld ?_; try go_frame
        refine nF 7 o2596a hHeld ?_; try go_frame
        refine nF 8 o71fc8 hHeld ?_; try go_frame
        refine nF 9 oeb3fb hHeld ?_; try go_frame
        refine nF 10 o19de0 hHeld ?_; try go_frame
        refine nF 11 oefb8e hHeld ?_; try go_frame
        refine nF 12 o00402 hHeld ?_; try go_frame
        refine tF 13 oc7ea2 hHeld ?_; try go_frame
        refine tF 14 o02df3 hHeld ?_; try go_frame
        refine nF 15 o0147b hHeld ?_; try go_frame
        refine nF 16 o36792 hHeld ?_; try go_frame
        refine nF 17 o0d4e3 hHeld ?_; try go_frame
        refine nF 18 o73bf2 hHeld ?_; try go_frame
        refine nF 19 o6f4bb hHeld ?_; try go_frame
        refine nF 20 o10933 hHeld ?_; try go_frame
        refine tF 21 oe53d5 hHeld ?_; try go_frame
        refine tF 22 o35634 hHeld ?_; try go_frame
        refine nF 23 o19e58 hHeld ?_; try go_frame
        refine nF 24 ob6ad7 hHeld ?_; try go_frame
        refine nF 25 o43432 hHeld ?_; try go_frame
        refine nF 26 o1e04a hHeld ?_; try go_frame
        refine nF 27 oa8a26 hHeld ?_; try go_frame
        refine nF 28 o250c1 hHeld ?_; try go_frame
        refine tF 29 o5f14c hHeld ?_; try go_frame
        refine tF 30 odc1f9 hHeld ?_; try go_frame
        refine nF 31 oaa849 hHeld ?_; try go_frame
        refine nF 32 od9ccf hHeld ?_; try go_frame
        refine nF 33 odb607 hHeld ?_; try go_frame
        refine nF 34 oc61cb hHeld ?_; try go_frame
        refine nF 35 o20c4d hHeld ?_; try go_frame
        refine nF 36 oba2df hHeld ?_; try go_frame
        refine nF 37 o9bb5a hHeld ?_; try go_frame
        refine nF 38 oaa4bf hHeld ?_; try go_frame
        refine nF 39 o22551 hHeld ?_; try go_frame
        refine nF 40 o1ce95 hHeld ?_; try go_frame
        refine nF 41 oe88bf hHeld ?_; try go_frame
        refine nF 42 o467e4 hHeld ?_; try go_frame
        refine nF 43 o7628f hHeld ?_; try go_frame
        refine nF 44 ocd4f7 hHeld ?_; try go_frame
        refine nF 45 o8e176 hHeld ?_; try go_frame
        refine nF 46 o6fa04 hHeld ?_; try go_frame
        refine nF 47 od91d1 hHeld ?_; try go_frame
        refine tF 48 o41d9b hHeld ?_; try go_frame
        refine wpAnyF_done (by kernel_rfl) ?_ _
        clear hHeld
        go_wp2
        go_ret
        exact ⟨by rw [HR.out] <;> rfl, by rw [hb0]; exact HB1⟩
       ·have q1b : decide (x < 1) = false := decide_eq_false q1
        by_cases q2 : 999 < x
        ·have HR : Hid (okB M = false) := HNO.out (fun h => by have := h.2.1; rw [HX.out] at this; omega)
         go_wp2_with fail
         have V1 := V.drew
         have cA1 : wr.drew.cell? ⟨bA, oA + r, none⟩ = some (.int .i64 x) := cA
         have cB1 : wr.drew.cell? ⟨bB, oB + r, none⟩ = some (.int .i64 y) := cB
         have HB1 := below_drew HB
         generalize hWd : wr.drew = wd at *
         refine wp_region_F (fun w' => w'.cell? ⟨b, 0, none⟩ = some (.int .i64 L1) ∧ w'.cell? ⟨b, 1, none⟩ = some (.slice (some ⟨bA, oA, none⟩) L1 c) ∧ w'.cell? ⟨b, 2, none⟩ = some (.slice (some ⟨bB, oB, none⟩) L1 c') ∧ w'.cell? ⟨bA, oA + r, none⟩ = some (.int .i64 x) ∧ w'.cell? ⟨bB, oB + r, none⟩ = some (.int .i64 y)) [] (by kernel_rfl) (by rw [hWd]; exact ⟨V1.c0, V1.c1, V1.c2, cA1, cB1⟩) (fun hHeld => ?_)
         rw [hWd] at hHeld ⊢
         refine tF 0 ob74a9 hHeld ?_; try go_frame
         refine tF 1 od15ce hHeld ?_; try go_frame
         refine tF 2 oe98d9 hHeld ?_; try go_frame
         refine tF 3 odf3b0 hHeld ?_; try go_frame
         refine tF 4 ocb6b7 hHeld ?_; try go_frame
         refine tF 5 of78ae hHeld ?_; try go_frame
         refine tF 6 o67d5b hHeld ?_; try go_frame
         refine tF 7 o2596a hHeld ?_; try go_frame
         refine tF 8 o71fc8 hHeld ?_; try go_frame
         refine tF 9 oeb3fb hHeld ?_; try go_frame
         refine tF 10 o19de0 hHeld ?_; try go_frame
         refine tF 11 oefb8e hHeld ?_; try go_frame
         refine tF 12 o00402 hHeld ?_; try go_frame
         refine tF 13 oc7ea2 hHeld ?_; try go_frame
         refine tF 14 o02df3 hHeld ?_; try go_frame
         refine nF 15 o0147b hHeld ?_; try go_frame
         refine nF 16 o36792 hHeld ?_; try go_frame
         refine nF 17 o0d4e3 hHeld ?_; try go_frame
         refine nF 18 o73bf2 hHeld ?_; try go_frame
         refine nF 19 o6f4bb hHeld ?_; try go_frame
         refine nF 20 o10933 hHeld ?_; try go_frame
         refine tF 21 oe53d5 hHeld ?_; try go_frame
         refine tF 22 o35634 hHeld ?_; try go_frame
         refine nF 23 o19e58 hHeld ?_; try go_frame
         refine nF 24 ob6ad7 hHeld ?_; try go_frame
         refine nF 25 o43432 hHeld ?_; try go_frame
         refine nF 26 o1e04a hHeld ?_; try go_frame
         refine nF 27 oa8a26 hHeld ?_; try go_frame
         refine nF 28 o250c1 hHeld ?_; try go_frame
         refine tF 29 o5f14c hHeld ?_; try go_frame
         refine tF 30 odc1f9 hHeld ?_; try go_frame
         refine nF 31 oaa849 hHeld ?_; try go_frame
         refine nF 32 od9ccf hHeld ?_; try go_frame
         refine nF 33 odb607 hHeld ?_; try go_frame
         refine nF 34 oc61cb hHeld ?_; try go_frame
         refine nF 35 o20c4d hHeld ?_; try go_frame
         refine nF 36 oba2df hHeld ?_; try go_frame
         refine nF 37 o9bb5a hHeld ?_; try go_frame
         refine nF 38 oaa4bf hHeld ?_; try go_frame
         refine nF 39 o22551 hHeld ?_; try go_frame
         refine nF 40 o1ce95 hHeld ?_; try go_frame
         refine nF 41 oe88bf hHeld ?_; try go_frame
         refine nF 42 o467e4 hHeld ?_; try go_frame
         refine nF 43 o7628f hHeld ?_; try go_frame
         refine nF 44 ocd4f7 hHeld ?_; try go_frame
         refine nF 45 o8e176 hHeld ?_; try go_frame
         refine nF 46 o6fa04 hHeld ?_; try go_frame
         refine nF 47 od91d1 hHeld ?_; try go_frame
         refine tF 48 o41d9b hHeld ?_; try go_frame
         refine wpAnyF_done (by kernel_rfl) ?_ _
         clear hHeld
         go_wp2
         go_ret
         exact ⟨by rw [HR.out] <;> rfl, by rw [hb0]; exact HB1⟩
        ·have q2b : decide (999 < x) = false := decide_eq_false q2
         by_cases q3 : y < -999999
         ·have HR : Hid (okB M = false) := HNO.out (fun h => by have := h.2.2.1; rw [HY.out] at this; omega)
          go_wp2_with fail
          have V1 := V.drew
          have cA1 : wr.drew.cell? ⟨bA, oA + r, none⟩ = some (.int .i64 x) := cA
          have cB1 : wr.drew.cell? ⟨bB, oB + r, none⟩ = some (.int .i64 y) := cB
          have HB1 := below_drew HB
          generalize hWd : wr.drew = wd at *
          refine wp_region_F (fun w' => w'.cell? ⟨b, 0, none⟩ = some (.int .i64 L1) ∧ w'.cell? ⟨b, 1, none⟩ = some (.slice (some ⟨bA, oA, none⟩) L1 c) ∧ w'.cell? ⟨b, 2, none⟩ = some (.slice (some ⟨bB, oB, none⟩) L1 c') ∧ w'.cell? ⟨bA, oA + r, none⟩ = some (.int .i64 x) ∧ w'.cell? ⟨bB, oB + r, none⟩ = some (.int .i64 y)) [] (by kernel_rfl) (by rw [hWd]; exact ⟨V1.c0, V1.c1, V1.c2, cA1, cB1⟩) (fun hHeld => ?_)
          rw [hWd] at hHeld ⊢
          refine tF 0 ob74a9 hHeld ?_; try go_frame
          refine tF 1 od15ce hHeld ?_; try go_frame
          refine tF 2 oe98d9 hHeld ?_; try go_frame
          refine tF 3 odf3b0 hHeld ?_; try go_frame
          refine tF 4 ocb6b7 hHeld ?_; try go_frame
          refine tF 5 of78ae hHeld ?_; try go_frame
          refine tF 6 o67d5b hHeld ?_; try go_frame
          refine tF 7 o2596a hHeld ?_; try go_frame
          refine tF 8 o71fc8 hHeld ?_; try go_frame
          refine tF 9 oeb3fb hHeld ?_; try go_frame
          refine tF 10 o19de0 hHeld ?_; try go_frame
          refine tF 11 oefb8e hHeld ?_; try go_frame
          refine tF 12 o00402 hHeld ?_; try go_frame
          refine tF 13 oc7ea2 hHeld ?_; try go_frame
          refine tF 14 o02df3 hHeld ?_; try go_frame
          refine tF 15 o0147b hHeld ?_; try go_frame
          refine tF 16 o36792 hHeld ?_; try go_frame
          refine tF 17 o0d4e3 hHeld ?_; try go_frame
          refine tF 18 o73bf2 hHeld ?_; try go_frame
          refine tF 19 o6f4bb hHeld ?_; try go_frame
          refine tF 20 o10933 hHeld ?_; try go_frame
          refine tF 21 oe53d5 hHeld ?_; try go_frame
          refine tF 22 o35634 hHeld ?_; try go_frame
          refine nF 23 o19e58 hHeld ?_; try go_frame
          refine nF 24 ob6ad7 hHeld ?_; try go_frame
          refine nF 25 o43432 hHeld ?_; try go_frame
          refine nF 26 o1e04a hHeld ?_; try go_frame
          refine nF 27 oa8a26 hHeld ?_; try go_frame
          refine nF 28 o250c1 hHeld ?_; try go_frame
          refine tF 29 o5f14c hHeld ?_; try go_frame
          refine tF 30 odc1f9 hHeld ?_; try go_frame
          refine nF 31 oaa849 hHeld ?_; try go_frame
          refine nF 32 od9ccf hHeld ?_; try go_frame
          refine nF 33 odb607 hHeld ?_; try go_frame
          refine nF 34 oc61cb hHeld ?_; try go_frame
          refine nF 35 o20c4d hHeld ?_; try go_frame
          refine nF 36 oba2df hHeld ?_; try go_frame
          refine nF 37 o9bb5a hHeld ?_; try go_frame
          refine nF 38 oaa4bf hHeld ?_; try go_frame
          refine nF 39 o22551 hHeld ?_; try go_frame
          refine nF 40 o1ce95 hHeld ?_; try go_frame
          refine nF 41 oe88bf hHeld ?_; try go_frame
          refine nF 42 o467e4 hHeld ?_; try go_frame
          refine nF 43 o7628f hHeld ?_; try go_frame
          refine nF 44 ocd4f7 hHeld ?_; try go_frame
          refine nF 45 o8e176 hHeld ?_; try go_frame
          refine nF 46 o6fa04 hHeld ?_; try go_frame
          refine nF 47 od91d1 hHeld ?_; try go_frame
          refine tF 48 o41d9b hHeld ?_; try go_frame
          refine wpAnyF_done (by kernel_rfl) ?_ _
          clear hHeld
          go_wp2
          go_ret
          exact ⟨by rw [HR.out] <;> rfl, by rw [hb0]; exact HB1⟩
         ·have q3b : decide (y < -999999) = false := decide_eq_false q3
          by_cases q4 : 999999 < y
          ·have HR : Hid (okB M = false) := HNO.out (fun h => by have := h.2.2.2.1; rw [HY.out] at this; omega)
           go_wp2_with fail
           have V1 := V.drew
           have cA1 : wr.drew.cell? ⟨bA, oA + r, none⟩ = some (.int .i64 x) := cA
           have cB1 : wr.drew.cell? ⟨bB, oB + r, none⟩ = some (.int .i64 y) := cB
           have HB1 := below_drew HB
           generalize hWd : wr.drew = wd at *
           refine wp_region_F (fun w' => w'.cell? ⟨b, 0, none⟩ = some (.int .i64 L1) ∧ w'.cell? ⟨b, 1, none⟩ = some (.slice (some ⟨bA, oA, none⟩) L1 c) ∧ w'.cell? ⟨b, 2, none⟩ = some (.slice (some ⟨bB, oB, none⟩) L1 c') ∧ w'.cell? ⟨bA, oA + r, none⟩ = some (.int .i64 x) ∧ w'.cell? ⟨bB, oB + r, none⟩ = some (.int .i64 y)) [] (by kernel_rfl) (by rw [hWd]; exact ⟨V1.c0, V1.c1, V1.c2, cA1, cB1⟩) (fun hHeld => ?_)
           rw [hWd] at hHeld ⊢
           refine tF 0 ob74a9 hHeld ?_; try go_frame
           refine tF 1 od15ce hHeld ?_; try go_frame
           refine tF 2 oe98d9 hHeld ?_; try go_frame
           refine tF 3 odf3b0 hHeld ?_; try go_frame
           refine tF 4 ocb6b7 hHeld ?_; try go_frame
           refine tF 5 of78ae hHeld ?_; try go_frame
           refine tF 6 o67d5b hHeld ?_; try go_frame
           refine tF 7 o2596a hHeld ?_; try go_frame
           refine tF 8 o71fc8 hHeld ?_; try go_frame
           refine tF 9 oeb3fb hHeld ?_; try go_frame
           refine tF 10 o19de0 hHeld ?_; try go_frame
           refine tF 11 oefb8e hHeld ?_; try go_frame
           refine tF 12 o00402 hHeld ?_; try go_frame
           refine tF 13 oc7ea2 hHeld ?_; try go_frame
           refine tF 14 o02df3 hHeld ?_; try go_frame
           refine tF 15 o0147b hHeld ?_; try go_frame
           refine tF 16 o36792 hHeld ?_; try go_frame
           refine tF 17 o0d4e3 hHeld ?_; try go_frame
           refine tF 18 o73bf2 hHeld ?_; try go_frame
           refine tF 19 o6f4bb hHeld ?_; try go_frame
           refine tF 20 o10933 hHeld ?_; try go_frame
           refine tF 21 oe53d5 hHeld ?_; try go_frame
           refine tF 22 o35634 hHeld ?_; try go_frame
           refine tF 23 o19e58 hHeld ?_; try go_frame
           refine tF 24 ob6ad7 hHeld ?_; try go_frame
           refine tF 25 o43432 hHeld ?_; try go_frame
           refine tF 26 o1e04a hHeld ?_; try go_frame
           refine tF 27 oa8a26 hHeld ?_; try go_frame
           refine tF 28 o250c1 hHeld ?_; try go_frame
           refine tF 29 o5f14c hHeld ?_; try go_frame
           refine tF 30 odc1f9 hHeld ?_; try go_frame
           refine nF 31 oaa849 hHeld ?_; try go_frame
           refine nF 32 od9ccf hHeld ?_; try go_frame
           refine nF 33 odb607 hHeld ?_; try go_frame
           refine nF 34 oc61cb hHeld ?_; try go_frame
           refine nF 35 o20c4d hHeld ?_; try go_frame
           refine nF 36 oba2df hHeld ?_; try go_frame
           refine nF 37 o9bb5a hHeld ?_; try go_frame
           refine nF 38 oaa4bf hHeld ?_; try go_frame
           refine nF 39 o22551 hHeld ?_; try go_frame
           refine nF 40 o1ce95 hHeld ?_; try go_frame
           refine nF 41 oe88bf hHeld ?_; try go_frame
           refine nF 42 o467e4 hHeld ?_; try go_frame
           refine nF 43 o7628f hHeld ?_; try go_frame
           refine nF 44 ocd4f7 hHeld ?_; try go_frame
           refine nF 45 o8e176 hHeld ?_; try go_frame
           refine nF 46 o6fa04 hHeld ?_; try go_frame
           refine nF 47 od91d1 hHeld ?_; try go_frame
           refine tF 48 o41d9b hHeld ?_; try go_frame
           refine wpAnyF_done (by kernel_rfl) ?_ _
           clear hHeld
           go_wp2
           go_ret
           exact ⟨by rw [HR.out] <;> rfl, by rw [hb0]; exact HB1⟩
          ·have q4b : decide (999999 < y) = false := decide_eq_false q4
           have p0 : 0 ≤ x * (r : Int) := Int.mul_nonneg (by omega) hi0
           have p1 : x * (r : Int) ≤ 999 * 12 := Int.mul_le_mul (by omega) (by omega) hi0 (by omega)
           obtain ⟨p, hp⟩ : ∃ p, x * (r : Int) = p := ⟨_, rfl⟩
           rw [hp] at p0 p1
           obtain ⟨t, ht⟩ : ∃ t, (p + y).tmod (L1 : Int) = t := ⟨_, rfl⟩
           have HT : Hid (okR M r ↔ t = 0) := by
            show _ ↔ _
            unfold okR
            rw [HX.out, HY.out, hp, ← ht, tmod_zero, ← V.sl.1]
            exact ⟨fun h => h.2.2.2.2, fun h => ⟨by omega, by omega, by omega, by omega, h⟩⟩
           have n0 : ¬ L1 = 0 := by omega
           have hw1 : IntKind.i64.wrap p = p := by rw [IntKind.wrap_i64]; omega
           have hw2 : IntKind.i64.wrap (p + y) = p + y := by rw [IntKind.wrap_i64]; omega
           by_cases q5 : t = 0
           ·have HOK := Lib.hid (HT.out.2 q5)
            have q5b : (t == 0) = true := by simpa using q5
            clear q5
            go_wp2_with fail
            have V1 := V.drew
            have cA1 : wr.drew.cell? ⟨bA, oA + r, none⟩ = some (.int .i64 x) := cA
            have cB1 : wr.drew.cell? ⟨bB, oB + r, none⟩ = some (.int .i64 y) := cB
            have HB1 := below_drew HB
            generalize hWd : wr.drew = wd at *
            refine wp_region_F (fun w' => w'.cell? ⟨b, 0, none⟩ = some (.int .i64 L1) ∧ w'.cell? ⟨b, 1, none⟩ = some (.slice (some ⟨bA, oA, none⟩) L1 c) ∧ w'.cell? ⟨b, 2, none⟩ = some (.slice (some ⟨bB, oB, none⟩) L1 c') ∧ w'.cell? ⟨bA, oA + r, none⟩ = some (.int .i64 x) ∧ w'.cell? ⟨bB, oB + r, none⟩ = some (.int .i64 y)) [] (by kernel_rfl) (by rw [hWd]; exact ⟨V1.c0, V1.c1, V1.c2, cA1, cB1⟩) (fun hHeld => ?_)
            rw [hWd] at hHeld ⊢
            refine tF 0 ob74a9 hHeld ?_; try go_frame
            refine tF 1 od15ce hHeld ?_; try go_frame
            refine tF 2 oe98d9 hHeld ?_; try go_frame
            refine tF 3 odf3b0 hHeld ?_; try go_frame
            refine tF 4 ocb6b7 hHeld ?_; try go_frame
            refine tF 5 of78ae hHeld ?_; try go_frame
            refine tF 6 o67d5b hHeld ?_; try go_frame
            refine tF 7 o2596a hHeld ?_; try go_frame
            refine tF 8 o71fc8 hHeld ?_; try go_frame
            refine tF 9 oeb3fb hHeld ?_; try go_frame
            refine tF 10 o19de0 hHeld ?_; try go_frame
            refine tF 11 oefb8e hHeld ?_; try go_frame
            refine tF 12 o00402 hHeld ?_; try go_frame
            refine tF 13 oc7ea2 hHeld ?_; try go_frame
            refine tF 14 o02df3 hHeld ?_; try go_frame
            refine tF 15 o0147b hHeld ?_; try go_frame
            refine tF 16 o36792 hHeld ?_; try go_frame
            refine tF 17 o0d4e3 hHeld ?_; try go_frame
            refine tF 18 o73bf2 hHeld ?_; try go_frame
            refine tF 19 o6f4bb hHeld ?_; try go_frame
            refine tF 20 o10933 hHeld ?_; try go_frame
            refine tF 21 oe53d5 hHeld ?_; try go_frame
            refine tF 22 o35634 hHeld ?_; try go_frame
            refine tF 23 o19e58 hHeld ?_; try go_frame
            refine tF 24 ob6ad7 hHeld ?_; try go_frame
            refine tF 25 o43432 hHeld ?_; try go_frame
            refine tF 26 o1e04a hHeld ?_; try go_frame
            refine tF 27 oa8a26 hHeld ?_; try go_frame
            refine tF 28 o250c1 hHeld ?_; try go_frame
            refine tF 29 o5f14c hHeld ?_; try go_frame
            refine tF 30 odc1f9 hHeld ?_; try go_frame
            refine tF 31 oaa849 hHeld ?_; try go_frame
            refine tF 32 od9ccf hHeld ?_; try go_frame
            refine tF 33 odb607 hHeld ?_; try go_frame
            refine tF 34 oc61cb hHeld ?_; try go_frame
            refine tF 35 o20c4d hHeld ?_; try go_frame
            refine tF 36 oba2df hHeld ?_; try go_frame
            refine tF 37 o9bb5a hHeld ?_; try go_frame
            refine tF 38 oaa4bf hHeld ?_; try go_frame
            refine tF 39 o22551 hHeld ?_; try go_frame
            refine tF 40 o1ce95 hHeld ?_; try go_frame
            refine tF 41 oe88bf hHeld ?_; try go_frame
            refine tF 42 o467e4 hHeld ?_; try go_frame
            refine tF 43 o7628f hHeld ?_; try go_frame
            refine tF 44 ocd4f7 hHeld ?_; try go_frame
            refine tF 45 o8e176 hHeld ?_; try go_frame
            refine tF 46 o6fa04 hHeld ?_; try go_frame
            refine tF 47 od91d1 hHeld ?_; try go_frame
            refine tF 48 o41d9b hHeld ?_; try go_frame
            refine wpAnyF_done (by kernel_rfl) ?_ _
            clear hHeld
            go_wp2
            go_roundg (L1 - (r + 1))
            case measure => omega
            case rel => exact ⟨r + 1, rfl, by go_num, by omega, V1, HB1, fun r' h => by
             rcases Nat.lt_or_ge r' r with h2 | h2
             ·exact HI.out r' h2
             ·obtain rfl : r' = r := by omega
              exact HOK.out⟩
           ·have HR : Hid (okB M = false) := HNO.out (fun h => q5 (HT.out.1 h))
            have q5b : (t == 0) = false := by simpa using q5
            clear q5
            go_wp2_with fail
            have V1 := V.drew
            have cA1 : wr.drew.cell? ⟨bA, oA + r, none⟩ = some (.int .i64 x) := cA
            have cB1 : wr.drew.cell? ⟨bB, oB + r, none⟩ = some (.int .i64 y) := cB
            have HB1 := below_drew HB
            generalize hWd : wr.drew = wd at *
            refine wp_region_F (fun w' => w'.cell? ⟨b, 0, none⟩ = some (.int .i64 L1) ∧ w'.cell? ⟨b, 1, none⟩ = some (.slice (some ⟨bA, oA, none⟩) L1 c) ∧ w'.cell? ⟨b, 2, none⟩ = some (.slice (some ⟨bB, oB, none⟩) L1 c') ∧ w'.cell? ⟨bA, oA + r, none⟩ = some (.int .i64 x) ∧ w'.cell? ⟨bB, oB + r, none⟩ = some (.int .i64 y)) [] (by kernel_rfl) (by rw [hWd]; exact ⟨V1.c0, V1.c1, V1.c2, cA1, cB1⟩) (fun hHeld => ?_)
            rw [hWd] at hHeld ⊢
            refine tF 0 ob74a9 hHeld ?_; try go_frame
            refine tF 1 od15ce hHeld ?_; try go_frame
            refine tF 2 oe98d9 hHeld ?_; try go_frame
            refine tF 3 odf3b0 hHeld ?_; try go_frame
            refine tF 4 ocb6b7 hHeld ?_; try go_frame
            refine tF 5 of78ae hHeld ?_; try go_frame
            refine tF 6 o67d5b hHeld ?_; try go_frame
            refine tF 7 o2596a hHeld ?_; try go_frame
            refine tF 8 o71fc8 hHeld ?_; try go_frame
            refine tF 9 oeb3fb hHeld ?_; try go_frame
            refine tF 10 o19de0 hHeld ?_; try go_frame
            refine tF 11 oefb8e hHeld ?_; try go_frame
            refine tF 12 o00402 hHeld ?_; try go_frame
            refine tF 13 oc7ea2 hHeld ?_; try go_frame
            refine tF 14 o02df3 hHeld ?_; try go_frame
            refine tF 15 o0147b hHeld ?_; try go_frame
            refine tF 16 o36792 hHeld ?_; try go_frame
            refine tF 17 o0d4e3 hHeld ?_; try go_frame
            refine tF 18 o73bf2 hHeld ?_; try go_frame
            refine tF 19 o6f4bb hHeld ?_; try go_frame
            refine tF 20 o10933 hHeld ?_; try go_frame
            refine tF 21 oe53d5 hHeld ?_; try go_frame
            refine tF 22 o35634 hHeld ?_; try go_frame
            refine tF 23 o19e58 hHeld ?_; try go_frame
            refine tF 24 ob6ad7 hHeld ?_; try go_frame
            refine tF 25 o43432 hHeld ?_; try go_frame
            refine tF 26 o1e04a hHeld ?_; try go_frame
            refine tF 27 oa8a26 hHeld ?_; try go_frame
            refine tF 28 o250c1 hHeld ?_; try go_frame
            refine tF 29 o5f14c hHeld ?_; try go_frame
            refine tF 30 odc1f9 hHeld ?_; try go_frame
            refine tF 31 oaa849 hHeld ?_; try go_frame
            refine tF 32 od9ccf hHeld ?_; try go_frame
            refine tF 33 odb607 hHeld ?_; try go_frame
            refine tF 34 oc61cb hHeld ?_; try go_frame
            refine tF 35 o20c4d hHeld ?_; try go_frame
            refine tF 36 oba2df hHeld ?_; try go_frame
            refine tF 37 o9bb5a hHeld ?_; try go_frame
            refine tF 38 oaa4bf hHeld ?_; try go_frame
            refine tF 39 o22551 hHeld ?_; try go_frame
            refine tF 40 o1ce95 hHeld ?_; try go_frame
            refine tF 41 oe88bf hHeld ?_; try go_frame
            refine tF 42 o467e4 hHeld ?_; try go_frame
            refine tF 43 o7628f hHeld ?_; try go_frame
            refine tF 44 ocd4f7 hHeld ?_; try go_frame
            refine tF 45 o8e176 hHeld ?_; try go_frame
            refine tF 46 o6fa04 hHeld ?_; try go_frame
            refine tF 47 od91d1 hHeld ?_; try go_frame
            refine tF 48 o41d9b hHeld ?_; try go_frame
            refine wpAnyF_done (by kernel_rfl) ?_ _
            clear hHeld
            go_wp2
            go_ret
            exact ⟨by rw [HR.out] <;> rfl, by rw [hb0]; exact HB1⟩
      ·have HR : Hid (okB M = true) := by
        show _ = _
        rw [HR0.out, okRs_iff]
        exact fun r' h => HI.out r' (by omega)
       go_wp2
       go_ret
       exact ⟨by rw [HR.out] <;> rfl, by rw [hb0]; exact HB⟩
end Go.Proofs.YtibdipfhfaeooaaGreatDoor

