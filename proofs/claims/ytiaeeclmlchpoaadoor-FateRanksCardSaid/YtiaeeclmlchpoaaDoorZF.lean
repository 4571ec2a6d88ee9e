/- The law FateRanks. No condition but that the library's table lies as it should, and the form's own reach. -/
import Derived.Test.YtiaeeclmlchpoaaDoorZA
import Derived.Test.YtiaeeclmlchpoaaDoorZC
import Derived.Maps.RangeWalk
set_option linter.unusedVariables false
set_option linter.unusedSimpArgs false
namespace Go.Proofs.YtiaeeclmlchpoaaDoor
open Go.RowKit

abbrev opca11e704 : Oper := { dst := some 65, op := Go.Op.move (Go.Operand.tmp 9), type := 44, pos := "law.go:247", after := #[], guard := none }
abbrev op4a8fad3f : Oper := { dst := some 66, op := Go.Op.move (Go.Operand.tmp 11), type := 3, pos := "law.go:247", after := #[], guard := none }
abbrev op9773ca26 : Oper := { dst := some 67, op := Go.Op.indexAddr 44 (Go.Operand.tmp 65) (Go.Operand.tmp 66), type := 0, pos := "law.go:247", after := #[{ on := 0, ground := Go.Ground.data }, { on := 1, ground := Go.Ground.data }], guard := none }
abbrev op78c2fff6 : Oper := { dst := some 68, op := Go.Op.fieldAddr 51 (Go.Operand.tmp 67) 0, type := 0, pos := "law.go:247", after := #[{ on := 2, ground := Go.Ground.data }], guard := none }
abbrev opaf56e968 : Oper := { dst := some 69, op := Go.Op.load 3 (Go.Operand.tmp 68), type := 3, pos := "law.go:247", after := #[{ on := 3, ground := Go.Ground.data }], guard := none }
abbrev opbad4fdf4 : Oper := { dst := some 70, op := Go.Op.binOp Go.BinOp.lss 3 (Go.Operand.tmp 69) (Go.Operand.const (Go.Value.int Go.IntKind.i64 1)) 3, type := 4, pos := "law.go:247", after := #[{ on := 4, ground := Go.Ground.data }], guard := none }
abbrev ope8d40994 : Oper := { dst := some 71, op := Go.Op.move (Go.Operand.tmp 70), type := 4, pos := "law.go:247", after := #[{ on := 5, ground := Go.Ground.data }], guard := none }
abbrev opcb15e36c : Oper := { dst := some 72, op := Go.Op.move (Go.Operand.tmp 9), type := 44, pos := "law.go:247", after := #[{ on := 6, ground := Go.Ground.guard }], guard := some (6, false) }
abbrev op69c9dcc4 : Oper := { dst := some 73, op := Go.Op.move (Go.Operand.tmp 11), type := 3, pos := "law.go:247", after := #[{ on := 6, ground := Go.Ground.guard }], guard := some (6, false) }
abbrev op178d8ca4 : Oper := { dst := some 74, op := Go.Op.indexAddr 44 (Go.Operand.tmp 72) (Go.Operand.tmp 73), type := 0, pos := "law.go:247", after := #[{ on := 7, ground := Go.Ground.data }, { on := 8, ground := Go.Ground.data }, { on := 6, ground := Go.Ground.guard }], guard := some (6, false) }
abbrev op45ed7660 : Oper := { dst := some 75, op := Go.Op.fieldAddr 51 (Go.Operand.tmp 74) 0, type := 0, pos := "law.go:247", after := #[{ on := 9, ground := Go.Ground.data }, { on := 6, ground := Go.Ground.guard }], guard := some (6, false) }
abbrev opf85e2136 : Oper := { dst := some 76, op := Go.Op.load 3 (Go.Operand.tmp 75), type := 3, pos := "law.go:247", after := #[{ on := 10, ground := Go.Ground.data }, { on := 6, ground := Go.Ground.guard }], guard := some (6, false) }
abbrev opc0d2d0ce : Oper := { dst := some 77, op := Go.Op.move (Go.Operand.tmp 1), type := 3, pos := "law.go:247", after := #[{ on := 6, ground := Go.Ground.guard }], guard := some (6, false) }
abbrev op4ca4cd3a : Oper := { dst := some 78, op := Go.Op.binOp Go.BinOp.gtr 3 (Go.Operand.tmp 76) (Go.Operand.tmp 77) 3, type := 4, pos := "law.go:247", after := #[{ on := 11, ground := Go.Ground.data }, { on := 12, ground := Go.Ground.data }, { on := 6, ground := Go.Ground.guard }], guard := some (6, false) }
abbrev opc672b645 : Oper := { dst := some 79, op := Go.Op.pick (Go.Operand.tmp 71) (Go.Operand.const (Go.Value.bool true)) (Go.Operand.tmp 78), type := 4, pos := "law.go:247", after := #[{ on := 6, ground := Go.Ground.data }, { on := 13, ground := Go.Ground.data }], guard := none }
abbrev op45584878 : Oper := { dst := some 80, op := Go.Op.move (Go.Operand.tmp 79), type := 4, pos := "law.go:247", after := #[{ on := 14, ground := Go.Ground.data }, { on := 6, ground := Go.Ground.chain }], guard := none }
abbrev op6d45546a : Oper := { dst := some 81, op := Go.Op.move (Go.Operand.tmp 11), type := 3, pos := "law.go:247", after := #[{ on := 15, ground := Go.Ground.guard }], guard := some (15, false) }
abbrev op7cb842cc : Oper := { dst := some 82, op := Go.Op.binOp Go.BinOp.gtr 3 (Go.Operand.tmp 81) (Go.Operand.const (Go.Value.int Go.IntKind.i64 0)) 3, type := 4, pos := "law.go:247", after := #[{ on := 16, ground := Go.Ground.data }, { on := 15, ground := Go.Ground.guard }], guard := some (15, false) }
abbrev opad12a800 : Oper := { dst := some 83, op := Go.Op.move (Go.Operand.tmp 82), type := 4, pos := "law.go:247", after := #[{ on := 17, ground := Go.Ground.data }, { on := 15, ground := Go.Ground.chain }, { on := 15, ground := Go.Ground.guard }], guard := some (15, false) }
abbrev opbde43188 : Oper := { dst := some 84, op := Go.Op.move (Go.Operand.tmp 9), type := 44, pos := "law.go:247", after := #[{ on := 18, ground := Go.Ground.guard }], guard := some (18, true) }
abbrev op3c488995 : Oper := { dst := some 85, op := Go.Op.move (Go.Operand.tmp 11), type := 3, pos := "law.go:247", after := #[{ on := 18, ground := Go.Ground.guard }], guard := some (18, true) }
abbrev op8eedaf09 : Oper := { dst := some 86, op := Go.Op.indexAddr 44 (Go.Operand.tmp 84) (Go.Operand.tmp 85), type := 0, pos := "law.go:247", after := #[{ on := 19, ground := Go.Ground.data }, { on := 20, ground := Go.Ground.data }, { on := 18, ground := Go.Ground.guard }], guard := some (18, true) }
abbrev op0a62db6c : Oper := { dst := some 87, op := Go.Op.fieldAddr 51 (Go.Operand.tmp 86) 0, type := 0, pos := "law.go:247", after := #[{ on := 21, ground := Go.Ground.data }, { on := 18, ground := Go.Ground.guard }], guard := some (18, true) }
abbrev op14f241c3 : Oper := { dst := some 88, op := Go.Op.load 3 (Go.Operand.tmp 87), type := 3, pos := "law.go:247", after := #[{ on := 22, ground := Go.Ground.data }, { on := 18, ground := Go.Ground.guard }], guard := some (18, true) }
abbrev op64d90d33 : Oper := { dst := some 89, op := Go.Op.move (Go.Operand.tmp 9), type := 44, pos := "law.go:247", after := #[{ on := 18, ground := Go.Ground.guard }], guard := some (18, true) }
abbrev op1da4090c : Oper := { dst := some 90, op := Go.Op.move (Go.Operand.tmp 11), type := 3, pos := "law.go:247", after := #[{ on := 18, ground := Go.Ground.guard }], guard := some (18, true) }
abbrev opc1ae7516 : Oper := { dst := some 91, op := Go.Op.binOp Go.BinOp.sub 3 (Go.Operand.tmp 90) (Go.Operand.const (Go.Value.int Go.IntKind.i64 1)) 3, type := 3, pos := "law.go:247", after := #[{ on := 25, ground := Go.Ground.data }, { on := 18, ground := Go.Ground.guard }], guard := some (18, true) }
abbrev op3a0da337 : Oper := { dst := some 92, op := Go.Op.indexAddr 44 (Go.Operand.tmp 89) (Go.Operand.tmp 91), type := 0, pos := "law.go:247", after := #[{ on := 24, ground := Go.Ground.data }, { on := 26, ground := Go.Ground.data }, { on := 18, ground := Go.Ground.guard }], guard := some (18, true) }
abbrev op81d33508 : Oper := { dst := some 93, op := Go.Op.fieldAddr 51 (Go.Operand.tmp 92) 0, type := 0, pos := "law.go:247", after := #[{ on := 27, ground := Go.Ground.data }, { on := 18, ground := Go.Ground.guard }], guard := some (18, true) }
abbrev op941644af : Oper := { dst := some 94, op := Go.Op.load 3 (Go.Operand.tmp 93), type := 3, pos := "law.go:247", after := #[{ on := 28, ground := Go.Ground.data }, { on := 18, ground := Go.Ground.guard }], guard := some (18, true) }
abbrev opffdc4431 : Oper := { dst := some 95, op := Go.Op.binOp Go.BinOp.leq 3 (Go.Operand.tmp 88) (Go.Operand.tmp 94) 3, type := 4, pos := "law.go:247", after := #[{ on := 23, ground := Go.Ground.data }, { on := 29, ground := Go.Ground.data }, { on := 18, ground := Go.Ground.guard }], guard := some (18, true) }
abbrev op550ddaba : Oper := { dst := some 96, op := Go.Op.move (Go.Operand.tmp 95), type := 4, pos := "law.go:247", after := #[{ on := 30, ground := Go.Ground.data }, { on := 18, ground := Go.Ground.chain }, { on := 18, ground := Go.Ground.guard }], guard := some (18, true) }
abbrev op499775b8 : Oper := { dst := some 97, op := Go.Op.move (Go.Operand.tmp 9), type := 44, pos := "law.go:247", after := #[{ on := 31, ground := Go.Ground.guard }], guard := some (31, false) }
abbrev op9c6ae3a1 : Oper := { dst := some 98, op := Go.Op.move (Go.Operand.tmp 11), type := 3, pos := "law.go:247", after := #[{ on := 31, ground := Go.Ground.guard }], guard := some (31, false) }
abbrev opa7f91180 : Oper := { dst := some 99, op := Go.Op.indexAddr 44 (Go.Operand.tmp 97) (Go.Operand.tmp 98), type := 0, pos := "law.go:247", after := #[{ on := 32, ground := Go.Ground.data }, { on := 33, ground := Go.Ground.data }, { on := 31, ground := Go.Ground.guard }], guard := some (31, false) }
abbrev opba027658 : Oper := { dst := some 100, op := Go.Op.fieldAddr 51 (Go.Operand.tmp 99) 1, type := 0, pos := "law.go:247", after := #[{ on := 34, ground := Go.Ground.data }, { on := 31, ground := Go.Ground.guard }], guard := some (31, false) }
abbrev op2485953e : Oper := { dst := some 101, op := Go.Op.load 3 (Go.Operand.tmp 100), type := 3, pos := "law.go:247", after := #[{ on := 35, ground := Go.Ground.data }, { on := 31, ground := Go.Ground.guard }], guard := some (31, false) }
abbrev opc20a6f1d : Oper := { dst := some 102, op := Go.Op.move (Go.Operand.tmp 9), type := 44, pos := "law.go:247", after := #[{ on := 31, ground := Go.Ground.guard }], guard := some (31, false) }
abbrev op420a1fef : Oper := { dst := some 103, op := Go.Op.move (Go.Operand.tmp 11), type := 3, pos := "law.go:247", after := #[{ on := 31, ground := Go.Ground.guard }], guard := some (31, false) }
abbrev opb0b9eaad : Oper := { dst := some 104, op := Go.Op.binOp Go.BinOp.sub 3 (Go.Operand.tmp 103) (Go.Operand.const (Go.Value.int Go.IntKind.i64 1)) 3, type := 3, pos := "law.go:247", after := #[{ on := 38, ground := Go.Ground.data }, { on := 31, ground := Go.Ground.guard }], guard := some (31, false) }
abbrev op4efbbfd6 : Oper := { dst := some 105, op := Go.Op.indexAddr 44 (Go.Operand.tmp 102) (Go.Operand.tmp 104), type := 0, pos := "law.go:247", after := #[{ on := 37, ground := Go.Ground.data }, { on := 39, ground := Go.Ground.data }, { on := 31, ground := Go.Ground.guard }], guard := some (31, false) }
abbrev op46efff6d : Oper := { dst := some 106, op := Go.Op.fieldAddr 51 (Go.Operand.tmp 105) 1, type := 0, pos := "law.go:247", after := #[{ on := 40, ground := Go.Ground.data }, { on := 31, ground := Go.Ground.guard }], guard := some (31, false) }
abbrev op30ea258f : Oper := { dst := some 107, op := Go.Op.load 3 (Go.Operand.tmp 106), type := 3, pos := "law.go:247", after := #[{ on := 41, ground := Go.Ground.data }, { on := 31, ground := Go.Ground.guard }], guard := some (31, false) }
abbrev opca832cba : Oper := { dst := some 108, op := Go.Op.binOp Go.BinOp.leq 3 (Go.Operand.tmp 101) (Go.Operand.tmp 107) 3, type := 4, pos := "law.go:247", after := #[{ on := 36, ground := Go.Ground.data }, { on := 42, ground := Go.Ground.data }, { on := 31, ground := Go.Ground.guard }], guard := some (31, false) }
abbrev op99e85f9e : Oper := { dst := some 109, op := Go.Op.pick (Go.Operand.tmp 96) (Go.Operand.const (Go.Value.bool true)) (Go.Operand.tmp 108), type := 4, pos := "law.go:247", after := #[{ on := 31, ground := Go.Ground.data }, { on := 43, ground := Go.Ground.data }, { on := 18, ground := Go.Ground.guard }], guard := some (18, true) }
abbrev op8f725edf : Oper := { dst := some 110, op := Go.Op.pick (Go.Operand.tmp 83) (Go.Operand.tmp 109) (Go.Operand.const (Go.Value.bool false)), type := 4, pos := "law.go:247", after := #[{ on := 18, ground := Go.Ground.data }, { on := 44, ground := Go.Ground.data }, { on := 15, ground := Go.Ground.guard }], guard := some (15, false) }
abbrev op73a8deda : Oper := { dst := some 111, op := Go.Op.pick (Go.Operand.tmp 80) (Go.Operand.const (Go.Value.bool true)) (Go.Operand.tmp 110), type := 4, pos := "law.go:247", after := #[{ on := 15, ground := Go.Ground.data }, { on := 45, ground := Go.Ground.data }], guard := none }
abbrev op53989105 : Oper := { dst := some 113, op := Go.Op.load 24 (Go.Operand.tmp 4), type := 24, pos := "law.go:250", after := #[], guard := none }
abbrev op91663cef : Oper := { dst := some 114, op := Go.Op.move (Go.Operand.tmp 9), type := 44, pos := "law.go:250", after := #[], guard := none }
abbrev op67af687e : Oper := { dst := some 115, op := Go.Op.move (Go.Operand.tmp 11), type := 3, pos := "law.go:250", after := #[], guard := none }
abbrev opcb7cd632 : Oper := { dst := some 116, op := Go.Op.indexAddr 44 (Go.Operand.tmp 114) (Go.Operand.tmp 115), type := 0, pos := "law.go:250", after := #[{ on := 1, ground := Go.Ground.data }, { on := 2, ground := Go.Ground.data }], guard := none }
abbrev op0ea8adc7 : Oper := { dst := some 117, op := Go.Op.fieldAddr 51 (Go.Operand.tmp 116) 0, type := 0, pos := "law.go:250", after := #[{ on := 3, ground := Go.Ground.data }], guard := none }
abbrev opcf7631a4 : Oper := { dst := some 118, op := Go.Op.load 3 (Go.Operand.tmp 117), type := 3, pos := "law.go:250", after := #[{ on := 4, ground := Go.Ground.data }], guard := none }
abbrev opf982413b : Oper := { dst := some 121, op := Go.Op.move (Go.Operand.tmp 2), type := 3, pos := "law.go:250", after := #[], guard := none }
abbrev op4d9fecce : Oper := { dst := some 112, op := Go.Op.move (Go.Operand.tmp 122), type := 28, pos := "law.go:250", after := #[{ on := 9, ground := Go.Ground.data }], guard := none }
abbrev ope4304b14 : Oper := { dst := some 123, op := Go.Op.extract (Go.Operand.tmp 112) 0, type := 3, pos := "law.go:250", after := #[{ on := 10, ground := Go.Ground.data }], guard := none }
abbrev op430e435c : Oper := { dst := some 124, op := Go.Op.extract (Go.Operand.tmp 112) 1, type := 26, pos := "law.go:250", after := #[{ on := 10, ground := Go.Ground.data }, { on := 14, ground := Go.Ground.gcOnly Go.Departure.lateStores }], guard := none }
abbrev op94d77e6b : Oper := { dst := some 125, op := Go.Op.extract (Go.Operand.tmp 112) 2, type := 27, pos := "law.go:250", after := #[{ on := 10, ground := Go.Ground.data }, { on := 15, ground := Go.Ground.gcOnly Go.Departure.lateStores }], guard := none }
abbrev ope2a93241 : Oper := { dst := some 12, op := Go.Op.assign (Go.Operand.tmp 123), type := 3, pos := "law.go:250", after := #[{ on := 11, ground := Go.Ground.data }, { on := 9, ground := Go.Ground.chain }, { on := 0, ground := Go.Ground.phase }, { on := 1, ground := Go.Ground.phase }, { on := 2, ground := Go.Ground.phase }, { on := 3, ground := Go.Ground.phase }, { on := 4, ground := Go.Ground.phase }, { on := 5, ground := Go.Ground.phase }, { on := 6, ground := Go.Ground.phase }, { on := 7, ground := Go.Ground.phase }, { on := 8, ground := Go.Ground.phase }, { on := 9, ground := Go.Ground.phase }, { on := 10, ground := Go.Ground.phase }, { on := 11, ground := Go.Ground.phase }, { on := 12, ground := Go.Ground.textOnly Go.Departure.lateStores }, { on := 13, ground := Go.Ground.textOnly Go.Departure.lateStores }], guard := none }
abbrev op0d89fb0f : Oper := { dst := some 13, op := Go.Op.assign (Go.Operand.tmp 124), type := 26, pos := "law.go:250", after := #[{ on := 12, ground := Go.Ground.data }, { on := 14, ground := Go.Ground.chain }, { on := 0, ground := Go.Ground.phase }, { on := 1, ground := Go.Ground.phase }, { on := 2, ground := Go.Ground.phase }, { on := 3, ground := Go.Ground.phase }, { on := 4, ground := Go.Ground.phase }, { on := 5, ground := Go.Ground.phase }, { on := 6, ground := Go.Ground.phase }, { on := 7, ground := Go.Ground.phase }, { on := 8, ground := Go.Ground.phase }, { on := 9, ground := Go.Ground.phase }, { on := 10, ground := Go.Ground.phase }, { on := 11, ground := Go.Ground.phase }, { on := 12, ground := Go.Ground.phase }, { on := 13, ground := Go.Ground.textOnly Go.Departure.lateStores }, { on := 14, ground := Go.Ground.phase }], guard := none }
abbrev op080ba945 : Oper := { dst := some 14, op := Go.Op.assign (Go.Operand.tmp 125), type := 27, pos := "law.go:250", after := #[{ on := 13, ground := Go.Ground.data }, { on := 15, ground := Go.Ground.chain }, { on := 0, ground := Go.Ground.phase }, { on := 1, ground := Go.Ground.phase }, { on := 2, ground := Go.Ground.phase }, { on := 3, ground := Go.Ground.phase }, { on := 4, ground := Go.Ground.phase }, { on := 5, ground := Go.Ground.phase }, { on := 6, ground := Go.Ground.phase }, { on := 7, ground := Go.Ground.phase }, { on := 8, ground := Go.Ground.phase }, { on := 9, ground := Go.Ground.phase }, { on := 10, ground := Go.Ground.phase }, { on := 11, ground := Go.Ground.phase }, { on := 12, ground := Go.Ground.phase }, { on := 13, ground := Go.Ground.phase }, { on := 14, ground := Go.Ground.phase }, { on := 15, ground := Go.Ground.phase }], guard := none }
abbrev op10f4d55c : Oper := { dst := some 169, op := Go.Op.move (Go.Operand.tmp 20), type := 3, pos := "law.go:261", after := #[], guard := none }
abbrev op882081f5 : Oper := { dst := some 170, op := Go.Op.move (Go.Operand.tmp 9), type := 44, pos := "law.go:261", after := #[], guard := none }
abbrev opf8dbe0df : Oper := { dst := some 171, op := Go.Op.call { callee := Go.Callee.builtin Go.Builtin.len, args := #[Go.Operand.tmp 170], argTypes := #[44] }, type := 3, pos := "law.go:261", after := #[{ on := 1, ground := Go.Ground.data }], guard := none }
abbrev opd19950b8 : Oper := { dst := some 172, op := Go.Op.binOp Go.BinOp.lss 3 (Go.Operand.tmp 169) (Go.Operand.tmp 171) 3, type := 4, pos := "law.go:261", after := #[{ on := 0, ground := Go.Ground.data }, { on := 2, ground := Go.Ground.data }], guard := none }
abbrev opa1bac12a : Oper := { dst := some 173, op := Go.Op.move (Go.Operand.tmp 172), type := 4, pos := "law.go:261", after := #[{ on := 3, ground := Go.Ground.data }], guard := none }
abbrev op8efd99b7 : Oper := { dst := some 174, op := Go.Op.move (Go.Operand.tmp 9), type := 44, pos := "law.go:261", after := #[{ on := 4, ground := Go.Ground.guard }], guard := some (4, true) }
abbrev op7a0b0497 : Oper := { dst := some 175, op := Go.Op.move (Go.Operand.tmp 20), type := 3, pos := "law.go:261", after := #[{ on := 4, ground := Go.Ground.guard }], guard := some (4, true) }
abbrev op50406d1e : Oper := { dst := some 176, op := Go.Op.indexAddr 44 (Go.Operand.tmp 174) (Go.Operand.tmp 175), type := 0, pos := "law.go:261", after := #[{ on := 5, ground := Go.Ground.data }, { on := 6, ground := Go.Ground.data }, { on := 4, ground := Go.Ground.guard }], guard := some (4, true) }
abbrev opb10cf9de : Oper := { dst := some 177, op := Go.Op.fieldAddr 51 (Go.Operand.tmp 176) 0, type := 0, pos := "law.go:261", after := #[{ on := 7, ground := Go.Ground.data }, { on := 4, ground := Go.Ground.guard }], guard := some (4, true) }
abbrev opcdd8ed4c : Oper := { dst := some 178, op := Go.Op.load 3 (Go.Operand.tmp 177), type := 3, pos := "law.go:261", after := #[{ on := 8, ground := Go.Ground.data }, { on := 4, ground := Go.Ground.guard }], guard := some (4, true) }
abbrev op05749f5d : Oper := { dst := some 179, op := Go.Op.move (Go.Operand.tmp 3), type := 22, pos := "law.go:261", after := #[{ on := 4, ground := Go.Ground.guard }], guard := some (4, true) }
abbrev op21fc1092 : Oper := { dst := some 180, op := Go.Op.move (Go.Operand.tmp 15), type := 3, pos := "law.go:261", after := #[{ on := 4, ground := Go.Ground.guard }], guard := some (4, true) }
abbrev opd48f7b4e : Oper := { dst := some 181, op := Go.Op.indexAddr 22 (Go.Operand.tmp 179) (Go.Operand.tmp 180), type := 0, pos := "law.go:261", after := #[{ on := 10, ground := Go.Ground.data }, { on := 11, ground := Go.Ground.data }, { on := 4, ground := Go.Ground.guard }], guard := some (4, true) }
abbrev op9ab3f8d5 : Oper := { dst := some 182, op := Go.Op.load 3 (Go.Operand.tmp 181), type := 3, pos := "law.go:261", after := #[{ on := 12, ground := Go.Ground.data }, { on := 4, ground := Go.Ground.guard }], guard := some (4, true) }
abbrev op2e6e1360 : Oper := { dst := some 183, op := Go.Op.binOp Go.BinOp.leq 3 (Go.Operand.tmp 178) (Go.Operand.tmp 182) 3, type := 4, pos := "law.go:261", after := #[{ on := 9, ground := Go.Ground.data }, { on := 13, ground := Go.Ground.data }, { on := 4, ground := Go.Ground.guard }], guard := some (4, true) }
abbrev op7b71eb75 : Oper := { dst := some 184, op := Go.Op.pick (Go.Operand.tmp 173) (Go.Operand.tmp 183) (Go.Operand.const (Go.Value.bool false)), type := 4, pos := "law.go:261", after := #[{ on := 4, ground := Go.Ground.data }, { on := 14, ground := Go.Ground.data }], guard := none }
attribute [local go_sem] opca11e704 op4a8fad3f op9773ca26 op78c2fff6 opaf56e968 opbad4fdf4 ope8d40994 opcb15e36c op69c9dcc4 op178d8ca4 op45ed7660 opf85e2136 opc0d2d0ce op4ca4cd3a opc672b645 op45584878 op6d45546a op7cb842cc opad12a800 opbde43188 op3c488995 op8eedaf09 op0a62db6c op14f241c3 op64d90d33 op1da4090c opc1ae7516 op3a0da337 op81d33508 op941644af opffdc4431 op550ddaba op499775b8 op9c6ae3a1 opa7f91180 opba027658 op2485953e opc20a6f1d op420a1fef opb0b9eaad op4efbbfd6 op46efff6d op30ea258f opca832cba op99e85f9e op8f725edf op73a8deda op53989105 op91663cef op67af687e opcb7cd632 op0ea8adc7 opcf7631a4 opf982413b op4d9fecce ope4304b14 op430e435c op94d77e6b ope2a93241 op0d89fb0f op080ba945 op10f4d55c op882081f5 opf8dbe0df opd19950b8 opa1bac12a op8efd99b7 op7a0b0497 op50406d1e opb10cf9de opcdd8ed4c op05749f5d op21fc1092 opd48f7b4e op9ab3f8d5 op2e6e1360 op7b71eb75
theorem LsR.at' {w : World} {b off c : Nat} {l : List (Nat × Nat)} (h : LsR w (some ⟨b, off, none⟩) c l) {j : Nat} (hj : j < l.length) : CL w b (off + j * 2) (.int .i64 (gp l j).1) ∧ CL w b (off + j * 2 + 1) (.int .i64 (gp l j).2) := by
  obtain ⟨b', off', e, k⟩ := h.el hj
  injection e with e
  injection e with e1 e2
  subst e1 e2
  exact k
/-- The steps of the record ahead of place k. -/
def bestK (l : List (Nat × Nat)) (k : Nat) : Int := if k = 0 then -1 else (gp l (k - 1)).2
theorem bestK_succ (l : List (Nat × Nat)) (k : Nat) : bestK l (k + 1) = (gp l k).2 := rfl
set_option maxRecDepth 100000 in
set_option maxHeartbeats 4000000 in
theorem FRk_bad (M : Mp) (count most : Int) (v : Value) (w : World) (hM : IsM w v M) (ht : Tb w) (Al : Option Addr) (cl : Nat) (l : List Int) (hl : SlI w .i64 Al cl l) (hbad : okB M = false) : Calls Tryd.prog 5 #[v, .int .i64 count, .int .i64 most, .slice Al l.length cl] w fun e w' => e = .returned (.bool true) ∧ Below w.heap.size w w' := by
  obtain ⟨md, A, n, c, A', n', c', rfl, HM⟩ := hM.form
  have V3 := VM.new w 24 HM.out
  have HB := below_alloc (Below.refl w.heap.size w) (Obj.cells #[Value.int .i64 md, Value.slice A n c, Value.slice A' n' c'] 24)
  have HT := Lib.hid ht
  have hcl := hl.2
  have HSL := Lib.hid hl
  have HOK := Lib.hid hbad
  clear hbad ht hM
  go_enter Tryd.func5, Tryd.ntmps5
  have m0 := V3.c0; have m1 := V3.c1; have m2 := V3.c2
  go_wp2_with fail
  (with_reducible refine (MValid_c M _ _ V3.im.out).mono ?_)
  rintro e w2 ⟨he, hb⟩
  replace HB := below_step HB hb
  replace V3 := V3.keep hb
  clear hb
  obtain rfl : e = .returned (.bool false) := by rw [he, HOK.out] <;> rfl
  clear he
  clear m0 m1 m2
  go_wp2_with fail
  (with_reducible refine (awake5_c _ (HT.out.below HB)).mono ?_)
  rintro e w20 ⟨he, hb⟩
  replace HB := below_step HB hb
  clear hb
  subst he
  go_wp2
  go_ret
  exact ⟨rfl, HB⟩
set_option maxRecDepth 100000 in
set_option maxHeartbeats 4000000 in
theorem FRk_arg (M : Mp) (count most : Int) (v : Value) (w : World) (hM : IsM w v M) (ht : Tb w) (Al : Option Addr) (cl : Nat) (l : List Int) (hl : SlI w .i64 Al cl l) (hok : okM M) (hbad : count < 0 ∨ 20000 < count ∨ most < 0 ∨ 20000 < most) : Calls Tryd.prog 5 #[v, .int .i64 count, .int .i64 most, .slice Al l.length cl] w fun e w' => e = .returned (.bool true) ∧ Below w.heap.size w w' := by
  obtain ⟨md, A, n, c, A', n', c', rfl, HM⟩ := hM.form
  have V3 := VM.new w 24 HM.out
  have HB := below_alloc (Below.refl w.heap.size w) (Obj.cells #[Value.int .i64 md, Value.slice A n c, Value.slice A' n' c'] 24)
  have HT := Lib.hid ht
  have hcl := hl.2
  have HSL := Lib.hid hl
  have HOK : Hid (okB M = true) := okB_iff.2 hok
  clear hok ht hM
  by_cases h1 : count < 0
  · clear hbad
    go_enter Tryd.func5, Tryd.ntmps5
    have m0 := V3.c0; have m1 := V3.c1; have m2 := V3.c2
    go_wp2_with fail
    (with_reducible refine (MValid_c M _ _ V3.im.out).mono ?_)
    rintro e w2 ⟨he, hb⟩
    replace HB := below_step HB hb
    replace V3 := V3.keep hb
    clear hb
    obtain rfl : e = .returned (.bool true) := by rw [he, HOK.out] <;> rfl
    clear he
    clear m0 m1 m2
    go_wp2_with fail
    (with_reducible refine (awake5_c _ (HT.out.below HB)).mono ?_)
    rintro e w20 ⟨he, hb⟩
    replace HB := below_step HB hb
    clear hb
    subst he
    go_wp2
    go_ret
    exact ⟨rfl, HB⟩
  · by_cases h2 : 20000 < count
    · clear hbad
      go_enter Tryd.func5, Tryd.ntmps5
      have m0 := V3.c0; have m1 := V3.c1; have m2 := V3.c2
      go_wp2_with fail
      (with_reducible refine (MValid_c M _ _ V3.im.out).mono ?_)
      rintro e w2 ⟨he, hb⟩
      replace HB := below_step HB hb
      replace V3 := V3.keep hb
      clear hb
      obtain rfl : e = .returned (.bool true) := by rw [he, HOK.out] <;> rfl
      clear he
      clear m0 m1 m2
      go_wp2_with fail
      (with_reducible refine (awake5_c _ (HT.out.below HB)).mono ?_)
      rintro e w20 ⟨he, hb⟩
      replace HB := below_step HB hb
      clear hb
      subst he
      go_wp2
      go_ret
      exact ⟨rfl, HB⟩
    · have HW : Hid (most < 0 ∨ 20000 < most) := hbad.resolve_left h1 |>.resolve_left h2
      clear hbad
      go_enter Tryd.func5, Tryd.ntmps5
      have m0 := V3.c0; have m1 := V3.c1; have m2 := V3.c2
      go_wp2_with fail
      (with_reducible refine (MValid_c M _ _ V3.im.out).mono ?_)
      rintro e w2 ⟨he, hb⟩
      replace HB := below_step HB hb
      replace V3 := V3.keep hb
      clear hb
      obtain rfl : e = .returned (.bool true) := by rw [he, HOK.out] <;> rfl
      clear he
      clear m0 m1 m2
      go_wp2_with fail
      (with_reducible refine (within_no most _ HW.out).mono ?_)
      rintro e w3 ⟨he, hb⟩
      replace HB := below_step HB hb
      clear hb
      subst he
      go_wp2_with fail
      (with_reducible refine (awake5_c _ (HT.out.below HB)).mono ?_)
      rintro e w20 ⟨he, hb⟩
      replace HB := below_step HB hb
      clear hb
      subst he
      go_wp2
      go_ret
      exact ⟨rfl, HB⟩
set_option maxRecDepth 100000 in
set_option maxHeartbeats 4000000 in
theorem FRk_big (M : Mp) (count most : Nat) (v : Value) (w : World) (hM : IsM w v M) (ht : Tb w) (Al : Option Addr) (cl : Nat) (l : List Int) (hl : SlI w .i64 Al cl l) (hok : okM M) (hco : count ≤ 20000) (hmo : most ≤ 20000) (hbad : 2000000 < count * (most + 1) ∨ 100 < l.length) : Calls Tryd.prog 5 #[v, .int .i64 count, .int .i64 most, .slice Al l.length cl] w fun e w' => e = .returned (.bool true) ∧ Below w.heap.size w w' := by
  obtain ⟨md, A, n, c, A', n', c', rfl, HM⟩ := hM.form
  have V3 := VM.new w 24 HM.out
  have HB := below_alloc (Below.refl w.heap.size w) (Obj.cells #[Value.int .i64 md, Value.slice A n c, Value.slice A' n' c'] 24)
  have HT := Lib.hid ht
  have hcl := hl.2
  have HSL := Lib.hid hl
  have HOK : Hid (okB M = true) := okB_iff.2 hok
  have HOKM := Lib.hid hok
  have hm0 : (0 : Int) ≤ (most : Int) := by omega
  have hm1 : (most : Int) ≤ 20000 := by omega
  have hc0 : (0 : Int) ≤ (count : Int) := by omega
  have hc1 : (count : Int) ≤ 20000 := by omega
  have hp1 : count * (most + 1) ≤ 20000 * 20001 := Nat.mul_le_mul hco (by omega)
  obtain ⟨p, hp⟩ : ∃ p, count * (most + 1) = p := ⟨_, rfl⟩
  have hpi : ((count : Int) * ((most : Int) + 1)) = (p : Int) := by rw [← hp, Int.natCast_mul]; rfl
  have hpw : IntKind.i64.wrap (p : Int) = p := by rw [IntKind.wrap_i64]; omega
  rw [hp] at hp1
  rw [hp] at hbad
  have HBAD := Lib.hid hbad
  clear hok ht hM hp hbad
  by_cases h1 : (2000000 : Int) < (p : Int)
  · clear HBAD
    go_enter Tryd.func5, Tryd.ntmps5
    have m0 := V3.c0; have m1 := V3.c1; have m2 := V3.c2
    go_wp2_with fail
    (with_reducible refine (MValid_c M _ _ V3.im.out).mono ?_)
    rintro e w2 ⟨he, hb⟩
    replace HB := below_step HB hb
    replace V3 := V3.keep hb
    clear hb
    obtain rfl : e = .returned (.bool true) := by rw [he, HOK.out] <;> rfl
    clear he
    clear m0 m1 m2
    go_wp2_with fail
    (with_reducible refine (within_yes (most : Int) _ hm0 hm1).mono ?_)
    rintro e w3 ⟨he, hb⟩
    replace HB := below_step HB hb
    replace V3 := V3.keep hb
    clear hb
    subst he
    go_wp2_with fail
    (with_reducible refine (awake5_c _ (HT.out.below HB)).mono ?_)
    rintro e w20 ⟨he, hb⟩
    replace HB := below_step HB hb
    clear hb
    subst he
    go_wp2
    go_ret
    exact ⟨rfl, HB⟩
  · have h2 : (100 : Int) < (l.length : Int) := by have := HBAD.out; omega
    clear HBAD
    go_enter Tryd.func5, Tryd.ntmps5
    have m0 := V3.c0; have m1 := V3.c1; have m2 := V3.c2
    go_wp2_with fail
    (with_reducible refine (MValid_c M _ _ V3.im.out).mono ?_)
    rintro e w2 ⟨he, hb⟩
    replace HB := below_step HB hb
    replace V3 := V3.keep hb
    clear hb
    obtain rfl : e = .returned (.bool true) := by rw [he, HOK.out] <;> rfl
    clear he
    clear m0 m1 m2
    go_wp2_with fail
    (with_reducible refine (within_yes (most : Int) _ hm0 hm1).mono ?_)
    rintro e w3 ⟨he, hb⟩
    replace HB := below_step HB hb
    replace V3 := V3.keep hb
    clear hb
    subst he
    go_wp2_with fail
    (with_reducible refine (awake5_c _ (HT.out.below HB)).mono ?_)
    rintro e w20 ⟨he, hb⟩
    replace HB := below_step HB hb
    clear hb
    subst he
    go_wp2
    go_ret
    exact ⟨rfl, HB⟩
set_option maxRecDepth 100000 in
set_option maxHeartbeats 8000000 in
theorem FRk_ok (M : Mp) (count most : Nat) (v : Value) (w : World) (hM : IsM w v M) (ht : Tb w) (Al : Option Addr) (cl : Nat) (l : List Int) (hl : SlI w .i64 Al cl l) (hok : okM M) (hco : count ≤ 20000) (hmo : most ≤ 20000) (hs1 : ¬ 2000000 < count * (most + 1)) (hs2 : ¬ 100 < l.length) : Calls Tryd.prog 5 #[v, .int .i64 count, .int .i64 most, .slice Al l.length cl] w fun e w' => e = .returned (.bool true) ∧ Below w.heap.size w w' := by
  obtain ⟨md, A, n, c, A', n', c', rfl, HM⟩ := hM.form
  have V3 := VM.new w 24 HM.out
  have HB := below_alloc (Below.refl w.heap.size w) (Obj.cells #[Value.int .i64 md, Value.slice A n c, Value.slice A' n' c'] 24)
  have HT := Lib.hid ht
  have hcl := hl.2
  have HSL := Lib.hid hl
  have HOK : Hid (okB M = true) := okB_iff.2 hok
  have HOKM := Lib.hid hok
  have hm0 : (0 : Int) ≤ (most : Int) := by omega
  have hm1 : (most : Int) ≤ 20000 := by omega
  have hc0 : (0 : Int) ≤ (count : Int) := by omega
  have hc1 : (count : Int) ≤ 20000 := by omega
  have hp1 : count * (most + 1) ≤ 20000 * 20001 := Nat.mul_le_mul hco (by omega)
  obtain ⟨p, hp⟩ : ∃ p, count * (most + 1) = p := ⟨_, rfl⟩
  have hpi : ((count : Int) * ((most : Int) + 1)) = (p : Int) := by rw [← hp, Int.natCast_mul]; rfl
  have hpw : IntKind.i64.wrap (p : Int) = p := by rw [IntKind.wrap_i64]; omega
  rw [hp] at hp1
  rw [hp] at hs1
  have h1 : ¬ (2000000 : Int) < (p : Int) := by omega
  have h2 : ¬ (100 : Int) < (l.length : Int) := by omega
  clear hok ht hM hp
  go_enter Tryd.func5, Tryd.ntmps5
  have m0 := V3.c0; have m1 := V3.c1; have m2 := V3.c2
  go_wp2_with fail
  (with_reducible refine (MValid_c M _ _ V3.im.out).mono ?_)
  rintro e w2 ⟨he, hb⟩
  replace HB := below_step HB hb
  replace V3 := V3.keep hb
  clear hb
  obtain rfl : e = .returned (.bool true) := by rw [he, HOK.out] <;> rfl
  clear he
  clear m0 m1 m2
  go_wp2_with fail
  (with_reducible refine (within_yes (most : Int) _ hm0 hm1).mono ?_)
  rintro e w3 ⟨he, hb⟩
  replace HB := below_step HB hb
  replace V3 := V3.keep hb
  clear hb
  subst he
  have m0 := V3.c0; have m1 := V3.c1; have m2 := V3.c2
  go_wp2_with fail
  (with_reducible refine (Recs_ok M count most _ _ V3.im.out HOKM.out hco hmo (HT.out.below HB)).mono ?_)
  rintro e w4 ⟨A9, c9, rfl, HL, hb⟩
  replace V3 := V3.keep hb
  replace HB := below_step HB hb
  clear hb m0 m1 m2
  have hln := recL_len M most count
  go_wp2_with fail
  have HB4 := HB
  clear HB
  go_loopg [11] (recL M most count).length (fun g iv wr => ∃ (i : Nat), g = (recL M most count).length - i ∧ iv = .int .i64 i ∧ i ≤ (recL M most count).length ∧ Below w4.heap.size w4 wr)
  case atStart => exact ⟨0, rfl, rfl, Nat.zero_le _, Below.refl _ _⟩
  case round =>
    obtain ⟨i, hgk, rfl, hi, HB⟩ := hrel
    have VR := V3.keep HB
    have hi0 : (0 : Int) ≤ (i : Int) := by omega
    by_cases hil : i < (recL M most count).length
    · have hi1 : (i : Int) < ((recL M most count).length : Int) := by omega
      obtain ⟨b9, o9, rfl, q0, q1⟩ := (HL.out.below HB).el (j := i) hil
      obtain ⟨x1, x2, x3, x4, x5⟩ := recL_el M most count i hil
      obtain ⟨a, ha⟩ : ∃ a, (gp (recL M most count) i).1 = a := ⟨_, rfl⟩
      obtain ⟨s, hs⟩ : ∃ s, (gp (recL M most count) i).2 = s := ⟨_, rfl⟩
      have HUP := Lib.hid (recL_up M most count i)
      rw [ha] at q0 x1 x2 x4 x5 HUP
      rw [hs] at q1 x3 x5 HUP
      have HFL : Hid (flwA M (most + 1) [] (a : Int) = (0, s, (flwA M (most + 1) [] (a : Int)).2.2)) := Prod.ext x4 (Prod.ext x5 rfl)
      have HD : Hid (dlN ((a : Int)).natAbs ≤ 2000) := by rw [← dl_dlN]; exact dl_le (by rw [Int.natAbs_natCast]; exact Nat.lt_of_le_of_lt (Nat.le_trans x1 hco) (by decide))
      generalize (flwA M (most + 1) [] (a : Int)).2.2 = cy at *
      have y1 : (1 : Int) ≤ (a : Int) := by omega
      have y2 : (a : Int) ≤ (count : Int) := by omega
      have yd1 : decide ((a : Int) < 1) = false := decide_eq_false (by omega)
      have yd2 : decide ((count : Int) < (a : Int)) = false := decide_eq_false (by omega)
      have yd3 : decide (count < a) = false := decide_eq_false (by omega)
      have HAH := Lib.hid ha
      have HSH := Lib.hid hs
      clear x1 x2 x3 x4 x5 ha hs
      rcases Nat.eq_zero_or_pos i with hiz | hiz
      · subst hiz
        rw [Nat.zero_mul, Nat.add_zero] at q0 q1
        go_wp2_with fail
        replace VR := VR.drew; replace q0 := q0.drew; replace q1 := q1.drew; replace HB := below_drew HB
        generalize hWd : wr.drew = wd at *
        refine wp_region_F (fun w' => w'.cell? ⟨b9, o9, none⟩ = some (.int .i64 a) ∧ w'.cell? ⟨b9, o9 + 1, none⟩ = some (.int .i64 s)) [] (by kernel_rfl) (by rw [hWd]; exact ⟨q0.c, q1.c⟩) (fun hHeld => ?_)
        rw [hWd] at hHeld ⊢
        refine wpF_t (i := 0) (oi := opca11e704) (v := ?_) rfl (by kernel_rfl) (fun _ _ _ h => h) (Or.inl ⟨by rfl, ?_⟩) hHeld ?_; rotate_left
        · intro w_ hSw_; (try dsimp only at hSw_); go_simp; (try with_reducible rfl)
        try go_frame
        refine wpF_t (i := 1) (oi := op4a8fad3f) (v := ?_) rfl (by kernel_rfl) (fun _ _ _ h => h) (Or.inl ⟨by rfl, ?_⟩) hHeld ?_; rotate_left
        · intro w_ hSw_; (try dsimp only at hSw_); go_simp; (try with_reducible rfl)
        try go_frame
        refine wpF_t (i := 2) (oi := op9773ca26) (v := ?_) rfl (by kernel_rfl) (fun _ _ _ h => h) (Or.inl ⟨by rfl, ?_⟩) hHeld ?_; rotate_left
        · intro w_ hSw_; (try dsimp only at hSw_); go_simp; (try with_reducible rfl)
        try go_frame
        refine wpF_t (i := 3) (oi := op78c2fff6) (v := ?_) rfl (by kernel_rfl) (fun _ _ _ h => h) (Or.inl ⟨by rfl, ?_⟩) hHeld ?_; rotate_left
        · intro w_ hSw_; (try dsimp only at hSw_); go_simp; (try with_reducible rfl)
        try go_frame
        refine wpF_t (i := 4) (oi := opaf56e968) (v := ?_) rfl (by kernel_rfl) (fun _ _ _ h => h) (Or.inl ⟨by rfl, ?_⟩) hHeld ?_; rotate_left
        · intro w_ hSw_; (try dsimp only at hSw_); go_simp; (try with_reducible rfl)
        try go_frame
        refine wpF_t (i := 5) (oi := opbad4fdf4) (v := ?_) rfl (by kernel_rfl) (fun _ _ _ h => h) (Or.inl ⟨by rfl, ?_⟩) hHeld ?_; rotate_left
        · intro w_ hSw_; (try dsimp only at hSw_); go_simp; (try with_reducible rfl)
        try go_frame
        refine wpF_t (i := 6) (oi := ope8d40994) (v := ?_) rfl (by kernel_rfl) (fun _ _ _ h => h) (Or.inl ⟨by rfl, ?_⟩) hHeld ?_; rotate_left
        · intro w_ hSw_; (try dsimp only at hSw_); go_simp; (try with_reducible rfl)
        try go_frame
        refine wpF_t (i := 7) (oi := opcb15e36c) (v := ?_) rfl (by kernel_rfl) (fun _ _ _ h => h) (Or.inl ⟨by rfl, ?_⟩) hHeld ?_; rotate_left
        · intro w_ hSw_; (try dsimp only at hSw_); go_simp; (try with_reducible rfl)
        try go_frame
        refine wpF_t (i := 8) (oi := op69c9dcc4) (v := ?_) rfl (by kernel_rfl) (fun _ _ _ h => h) (Or.inl ⟨by rfl, ?_⟩) hHeld ?_; rotate_left
        · intro w_ hSw_; (try dsimp only at hSw_); go_simp; (try with_reducible rfl)
        try go_frame
        refine wpF_t (i := 9) (oi := op178d8ca4) (v := ?_) rfl (by kernel_rfl) (fun _ _ _ h => h) (Or.inl ⟨by rfl, ?_⟩) hHeld ?_; rotate_left
        · intro w_ hSw_; (try dsimp only at hSw_); go_simp; (try with_reducible rfl)
        try go_frame
        refine wpF_t (i := 10) (oi := op45ed7660) (v := ?_) rfl (by kernel_rfl) (fun _ _ _ h => h) (Or.inl ⟨by rfl, ?_⟩) hHeld ?_; rotate_left
        · intro w_ hSw_; (try dsimp only at hSw_); go_simp; (try with_reducible rfl)
        try go_frame
        refine wpF_t (i := 11) (oi := opf85e2136) (v := ?_) rfl (by kernel_rfl) (fun _ _ _ h => h) (Or.inl ⟨by rfl, ?_⟩) hHeld ?_; rotate_left
        · intro w_ hSw_; (try dsimp only at hSw_); go_simp; (try with_reducible rfl)
        try go_frame
        refine wpF_t (i := 12) (oi := opc0d2d0ce) (v := ?_) rfl (by kernel_rfl) (fun _ _ _ h => h) (Or.inl ⟨by rfl, ?_⟩) hHeld ?_; rotate_left
        · intro w_ hSw_; (try dsimp only at hSw_); go_simp; (try with_reducible rfl)
        try go_frame
        refine wpF_t (i := 13) (oi := op4ca4cd3a) (v := ?_) rfl (by kernel_rfl) (fun _ _ _ h => h) (Or.inl ⟨by rfl, ?_⟩) hHeld ?_; rotate_left
        · intro w_ hSw_; (try dsimp only at hSw_); go_simp; (try with_reducible rfl)
        try go_frame
        refine wpF_t (i := 14) (oi := opc672b645) (v := ?_) rfl (by kernel_rfl) (fun _ _ _ h => h) (Or.inl ⟨by rfl, ?_⟩) hHeld ?_; rotate_left
        · intro w_ hSw_; (try dsimp only at hSw_); go_simp; (try with_reducible rfl)
        try go_frame
        refine wpF_t (i := 15) (oi := op45584878) (v := ?_) rfl (by kernel_rfl) (fun _ _ _ h => h) (Or.inl ⟨by rfl, ?_⟩) hHeld ?_; rotate_left
        · intro w_ hSw_; (try dsimp only at hSw_); go_simp; (try with_reducible rfl)
        try go_frame
        refine wpF_t (i := 16) (oi := op6d45546a) (v := ?_) rfl (by kernel_rfl) (fun _ _ _ h => h) (Or.inl ⟨by rfl, ?_⟩) hHeld ?_; rotate_left
        · intro w_ hSw_; (try dsimp only at hSw_); go_simp; (try with_reducible rfl)
        try go_frame
        refine wpF_t (i := 17) (oi := op7cb842cc) (v := ?_) rfl (by kernel_rfl) (fun _ _ _ h => h) (Or.inl ⟨by rfl, ?_⟩) hHeld ?_; rotate_left
        · intro w_ hSw_; (try dsimp only at hSw_); go_simp; (try with_reducible rfl)
        try go_frame
        refine wpF_t (i := 18) (oi := opad12a800) (v := ?_) rfl (by kernel_rfl) (fun _ _ _ h => h) (Or.inl ⟨by rfl, ?_⟩) hHeld ?_; rotate_left
        · intro w_ hSw_; (try dsimp only at hSw_); go_simp; (try with_reducible rfl)
        try go_frame
        refine wpF_t (i := 19) (oi := opbde43188) rfl (by kernel_rfl) (fun _ _ _ h => h) (Or.inr ⟨by rfl, rfl⟩) hHeld ?_
        try go_frame
        refine wpF_t (i := 20) (oi := op3c488995) rfl (by kernel_rfl) (fun _ _ _ h => h) (Or.inr ⟨by rfl, rfl⟩) hHeld ?_
        try go_frame
        refine wpF_t (i := 21) (oi := op8eedaf09) rfl (by kernel_rfl) (fun _ _ _ h => h) (Or.inr ⟨by rfl, rfl⟩) hHeld ?_
        try go_frame
        refine wpF_t (i := 22) (oi := op0a62db6c) rfl (by kernel_rfl) (fun _ _ _ h => h) (Or.inr ⟨by rfl, rfl⟩) hHeld ?_
        try go_frame
        refine wpF_t (i := 23) (oi := op14f241c3) rfl (by kernel_rfl) (fun _ _ _ h => h) (Or.inr ⟨by rfl, rfl⟩) hHeld ?_
        try go_frame
        refine wpF_t (i := 24) (oi := op64d90d33) rfl (by kernel_rfl) (fun _ _ _ h => h) (Or.inr ⟨by rfl, rfl⟩) hHeld ?_
        try go_frame
        refine wpF_t (i := 25) (oi := op1da4090c) rfl (by kernel_rfl) (fun _ _ _ h => h) (Or.inr ⟨by rfl, rfl⟩) hHeld ?_
        try go_frame
        refine wpF_t (i := 26) (oi := opc1ae7516) rfl (by kernel_rfl) (fun _ _ _ h => h) (Or.inr ⟨by rfl, rfl⟩) hHeld ?_
        try go_frame
        refine wpF_t (i := 27) (oi := op3a0da337) rfl (by kernel_rfl) (fun _ _ _ h => h) (Or.inr ⟨by rfl, rfl⟩) hHeld ?_
        try go_frame
        refine wpF_t (i := 28) (oi := op81d33508) rfl (by kernel_rfl) (fun _ _ _ h => h) (Or.inr ⟨by rfl, rfl⟩) hHeld ?_
        try go_frame
        refine wpF_t (i := 29) (oi := op941644af) rfl (by kernel_rfl) (fun _ _ _ h => h) (Or.inr ⟨by rfl, rfl⟩) hHeld ?_
        try go_frame
        refine wpF_t (i := 30) (oi := opffdc4431) rfl (by kernel_rfl) (fun _ _ _ h => h) (Or.inr ⟨by rfl, rfl⟩) hHeld ?_
        try go_frame
        refine wpF_t (i := 31) (oi := op550ddaba) rfl (by kernel_rfl) (fun _ _ _ h => h) (Or.inr ⟨by rfl, rfl⟩) hHeld ?_
        try go_frame
        refine wpF_t (i := 32) (oi := op499775b8) rfl (by kernel_rfl) (fun _ _ _ h => h) (Or.inr ⟨by rfl, rfl⟩) hHeld ?_
        try go_frame
        refine wpF_t (i := 33) (oi := op9c6ae3a1) rfl (by kernel_rfl) (fun _ _ _ h => h) (Or.inr ⟨by rfl, rfl⟩) hHeld ?_
        try go_frame
        refine wpF_t (i := 34) (oi := opa7f91180) rfl (by kernel_rfl) (fun _ _ _ h => h) (Or.inr ⟨by rfl, rfl⟩) hHeld ?_
        try go_frame
        refine wpF_t (i := 35) (oi := opba027658) rfl (by kernel_rfl) (fun _ _ _ h => h) (Or.inr ⟨by rfl, rfl⟩) hHeld ?_
        try go_frame
        refine wpF_t (i := 36) (oi := op2485953e) rfl (by kernel_rfl) (fun _ _ _ h => h) (Or.inr ⟨by rfl, rfl⟩) hHeld ?_
        try go_frame
        refine wpF_t (i := 37) (oi := opc20a6f1d) rfl (by kernel_rfl) (fun _ _ _ h => h) (Or.inr ⟨by rfl, rfl⟩) hHeld ?_
        try go_frame
        refine wpF_t (i := 38) (oi := op420a1fef) rfl (by kernel_rfl) (fun _ _ _ h => h) (Or.inr ⟨by rfl, rfl⟩) hHeld ?_
        try go_frame
        refine wpF_t (i := 39) (oi := opb0b9eaad) rfl (by kernel_rfl) (fun _ _ _ h => h) (Or.inr ⟨by rfl, rfl⟩) hHeld ?_
        try go_frame
        refine wpF_t (i := 40) (oi := op4efbbfd6) rfl (by kernel_rfl) (fun _ _ _ h => h) (Or.inr ⟨by rfl, rfl⟩) hHeld ?_
        try go_frame
        refine wpF_t (i := 41) (oi := op46efff6d) rfl (by kernel_rfl) (fun _ _ _ h => h) (Or.inr ⟨by rfl, rfl⟩) hHeld ?_
        try go_frame
        refine wpF_t (i := 42) (oi := op30ea258f) rfl (by kernel_rfl) (fun _ _ _ h => h) (Or.inr ⟨by rfl, rfl⟩) hHeld ?_
        try go_frame
        refine wpF_t (i := 43) (oi := opca832cba) rfl (by kernel_rfl) (fun _ _ _ h => h) (Or.inr ⟨by rfl, rfl⟩) hHeld ?_
        try go_frame
        refine wpF_t (i := 44) (oi := op99e85f9e) rfl (by kernel_rfl) (fun _ _ _ h => h) (Or.inr ⟨by rfl, rfl⟩) hHeld ?_
        try go_frame
        refine wpF_t (i := 45) (oi := op8f725edf) (v := ?_) rfl (by kernel_rfl) (fun _ _ _ h => h) (Or.inl ⟨by rfl, ?_⟩) hHeld ?_; rotate_left
        · intro w_ hSw_; (try dsimp only at hSw_); go_simp; (try with_reducible rfl)
        try go_frame
        refine wpF_t (i := 46) (oi := op73a8deda) (v := ?_) rfl (by kernel_rfl) (fun _ _ _ h => h) (Or.inl ⟨by rfl, ?_⟩) hHeld ?_; rotate_left
        · intro w_ hSw_; (try dsimp only at hSw_); go_simp; (try with_reducible rfl)
        try go_frame
        refine wpAnyF_done (by kernel_rfl) ?_ _
        clear hHeld
        go_wp2_with fail
        replace VR := VR.drew; replace q0 := q0.drew; replace q1 := q1.drew; replace HB := below_drew HB
        generalize hWd2 : wd.drew = wd2 at *
        refine wp_region_F (fun w' => w'.cell? ⟨w.heap.size, 0, none⟩ = some (.int .i64 md) ∧ w'.cell? ⟨w.heap.size, 1, none⟩ = some (.slice A n c) ∧ w'.cell? ⟨w.heap.size, 2, none⟩ = some (.slice A' n' c') ∧ w'.cell? ⟨b9, o9, none⟩ = some (.int .i64 a) ∧ w'.cell? ⟨b9, o9 + 1, none⟩ = some (.int .i64 s)) [] (by kernel_rfl) (by rw [hWd2]; exact ⟨VR.c0, VR.c1, VR.c2, q0.c, q1.c⟩) (fun hHeld => ?_)
        rw [hWd2] at hHeld ⊢
        refine wpF_t (i := 0) (oi := op53989105) (v := ?_) rfl (by kernel_rfl) (fun _ _ _ h => h) (Or.inl ⟨by rfl, ?_⟩) hHeld ?_; rotate_left
        · intro w_ hSw_; (try dsimp only at hSw_); go_simp; (try with_reducible rfl)
        try go_frame
        refine wpF_t (i := 1) (oi := op91663cef) (v := ?_) rfl (by kernel_rfl) (fun _ _ _ h => h) (Or.inl ⟨by rfl, ?_⟩) hHeld ?_; rotate_left
        · intro w_ hSw_; (try dsimp only at hSw_); go_simp; (try with_reducible rfl)
        try go_frame
        refine wpF_t (i := 2) (oi := op67af687e) (v := ?_) rfl (by kernel_rfl) (fun _ _ _ h => h) (Or.inl ⟨by rfl, ?_⟩) hHeld ?_; rotate_left
        · intro w_ hSw_; (try dsimp only at hSw_); go_simp; (try with_reducible rfl)
        try go_frame
        refine wpF_t (i := 3) (oi := opcb7cd632) (v := ?_) rfl (by kernel_rfl) (fun _ _ _ h => h) (Or.inl ⟨by rfl, ?_⟩) hHeld ?_; rotate_left
        · intro w_ hSw_; (try dsimp only at hSw_); go_simp; (try with_reducible rfl)
        try go_frame
        refine wpF_t (i := 4) (oi := op0ea8adc7) (v := ?_) rfl (by kernel_rfl) (fun _ _ _ h => h) (Or.inl ⟨by rfl, ?_⟩) hHeld ?_; rotate_left
        · intro w_ hSw_; (try dsimp only at hSw_); go_simp; (try with_reducible rfl)
        try go_frame
        refine wpF_t (i := 5) (oi := opcf7631a4) (v := ?_) rfl (by kernel_rfl) (fun _ _ _ h => h) (Or.inl ⟨by rfl, ?_⟩) hHeld ?_; rotate_left
        · intro w_ hSw_; (try dsimp only at hSw_); go_simp; (try with_reducible rfl)
        try go_frame
        refine wpF_t (i := 8) (oi := opf982413b) (v := ?_) rfl (by kernel_rfl) (fun _ _ _ h => h) (Or.inl ⟨by rfl, ?_⟩) hHeld ?_; rotate_left
        · intro w_ hSw_; (try dsimp only at hSw_); go_simp; (try with_reducible rfl)
        try go_frame
        refine wpAnyF_one (i := 6) (by kernel_rfl) rfl (fun K hK => ?_)
        go_simp
        (go_at_call 23; (with_reducible refine (Of_c (a : Int) _ (by omega) (by omega)).mono ?_); rintro e w11 ⟨v, rfl, hv, hb⟩; obtain ⟨n11, A11, m11, k11, rfl, H11⟩ := hv.form; clear hv; replace VR := VR.keep hb; replace q0 := q0.keep hb; replace q1 := q1.keep hb; replace HB := below_step HB hb; clear hb)
        refine hK.out _ _ (by exact ⟨VR.c0, VR.c1, VR.c2, q0.c, q1.c⟩) (fun hHeld => ?_)
        clear hK K
        try go_frame
        refine wpAnyF_one (i := 7) (by kernel_rfl) rfl (fun K hK => ?_)
        go_simp
        (go_at_call 18; (with_reducible refine (Text_c (a : Int) _ _ H11.out (by have := len_small (z := (a : Int)) (by omega) (by omega); omega)).mono ?_); rintro e w12 ⟨rfl, hb⟩; replace VR := VR.keep hb; replace q0 := q0.keep hb; replace q1 := q1.keep hb; replace HB := below_step HB hb; clear hb H11)
        refine hK.out _ _ (by exact ⟨VR.c0, VR.c1, VR.c2, q0.c, q1.c⟩) (fun hHeld => ?_)
        clear hK K
        try go_frame
        refine wpAnyF_one (i := 9) (by kernel_rfl) rfl (fun K hK => ?_)
        go_simp
        (go_at_call 10; (with_reducible refine (Fate_ok M (a : Int) most _ _ VR.im.out HOKM.out HD.out hmo ((HT.out.below HB4).below HB)).mono ?_); rw [HFL.out]; rintro e w13 ⟨A13, c13, rfl, HL13, hb⟩; dsimp only; replace VR := VR.keep hb; replace q0 := q0.keep hb; replace q1 := q1.keep hb; replace HB := below_step HB hb; clear hb HL13)
        refine hK.out _ _ (by exact ⟨VR.c0, VR.c1, VR.c2, q0.c, q1.c⟩) (fun hHeld => ?_)
        clear hK K
        try go_frame
        refine wpF_t (i := 10) (oi := op4d9fecce) (v := ?_) rfl (by kernel_rfl) (fun _ _ _ h => h) (Or.inl ⟨by rfl, ?_⟩) hHeld ?_; rotate_left
        · intro w_ hSw_; (try dsimp only at hSw_); go_simp; (try with_reducible rfl)
        try go_frame
        refine wpF_t (i := 11) (oi := ope4304b14) (v := ?_) rfl (by kernel_rfl) (fun _ _ _ h => h) (Or.inl ⟨by rfl, ?_⟩) hHeld ?_; rotate_left
        · intro w_ hSw_; (try dsimp only at hSw_); go_simp; (try with_reducible rfl)
        try go_frame
        refine wpF_t (i := 12) (oi := op430e435c) (v := ?_) rfl (by kernel_rfl) (fun _ _ _ h => h) (Or.inl ⟨by rfl, ?_⟩) hHeld ?_; rotate_left
        · intro w_ hSw_; (try dsimp only at hSw_); go_simp; (try with_reducible rfl)
        try go_frame
        refine wpF_t (i := 13) (oi := op94d77e6b) (v := ?_) rfl (by kernel_rfl) (fun _ _ _ h => h) (Or.inl ⟨by rfl, ?_⟩) hHeld ?_; rotate_left
        · intro w_ hSw_; (try dsimp only at hSw_); go_simp; (try with_reducible rfl)
        try go_frame
        refine wpF_t (i := 14) (oi := ope2a93241) (v := ?_) rfl (by kernel_rfl) (fun _ _ _ h => h) (Or.inl ⟨by rfl, ?_⟩) hHeld ?_; rotate_left
        · intro w_ hSw_; (try dsimp only at hSw_); go_simp; (try with_reducible rfl)
        try go_frame
        refine wpF_t (i := 15) (oi := op0d89fb0f) (v := ?_) rfl (by kernel_rfl) (fun _ _ _ h => h) (Or.inl ⟨by rfl, ?_⟩) hHeld ?_; rotate_left
        · intro w_ hSw_; (try dsimp only at hSw_); go_simp; (try with_reducible rfl)
        try go_frame
        refine wpF_t (i := 16) (oi := op080ba945) (v := ?_) rfl (by kernel_rfl) (fun _ _ _ h => h) (Or.inl ⟨by rfl, ?_⟩) hHeld ?_; rotate_left
        · intro w_ hSw_; (try dsimp only at hSw_); go_simp; (try with_reducible rfl)
        try go_frame
        refine wpAnyF_done (by kernel_rfl) ?_ _
        clear hHeld hWd hWd2
        have p0 := q0.c; have p1 := q1.c
        go_wp2
        go_roundg ((recL M most count).length - (0 + 1))
        case measure => omega
        case rel => exact ⟨0 + 1, rfl, by go_num, by omega, HB⟩
      · obtain ⟨j, hij⟩ : ∃ j, i = j + 1 := ⟨i - 1, by omega⟩
        obtain ⟨g0, g1⟩ := (HL.out.below HB).at' (j := j) (by omega)
        have hup := HUP.out hiz hil
        rw [show i - 1 = j by omega] at hup
        obtain ⟨a0, ha0⟩ : ∃ a, (gp (recL M most count) j).1 = a := ⟨_, rfl⟩
        obtain ⟨s0, hs0⟩ : ∃ s, (gp (recL M most count) j).2 = s := ⟨_, rfl⟩
        rw [ha0, hs0] at hup
        rw [ha0] at g0
        rw [hs0] at g1
        have u1 : (a0 : Int) < (a : Int) := by omega
        have u2 : (s0 : Int) < (s : Int) := by omega
        have ud1 : decide ((a : Int) ≤ (a0 : Int)) = false := decide_eq_false (by omega)
        have ud2 : decide ((s : Int) ≤ (s0 : Int)) = false := decide_eq_false (by omega)
        have ud3 : decide (a ≤ a0) = false := decide_eq_false (by omega)
        have ud4 : decide (s ≤ s0) = false := decide_eq_false (by omega)
        have hj0 : (0 : Int) ≤ (j : Int) := by omega
        have hj1 : (j : Int) < ((recL M most count).length : Int) := by omega
        have hip : (0 : Int) < (i : Int) := by omega
        have hip2 : 0 < i := by omega
        have hw1 : IntKind.i64.wrap ((i : Int) - 1) = (j : Int) := by rw [IntKind.wrap_i64]; have := recL_len M most count; omega
        clear hup ha0 hs0 hij
        go_wp2_with fail
        replace VR := VR.drew; replace q0 := q0.drew; replace q1 := q1.drew; replace HB := below_drew HB
        replace g0 := g0.drew; replace g1 := g1.drew
        generalize hWd : wr.drew = wd at *
        refine wp_region_F (fun w' => w'.cell? ⟨b9, o9 + i * 2, none⟩ = some (.int .i64 a) ∧ w'.cell? ⟨b9, o9 + i * 2 + 1, none⟩ = some (.int .i64 s) ∧ w'.cell? ⟨b9, o9 + j * 2, none⟩ = some (.int .i64 a0) ∧ w'.cell? ⟨b9, o9 + j * 2 + 1, none⟩ = some (.int .i64 s0)) [] (by kernel_rfl) (by rw [hWd]; exact ⟨q0.c, q1.c, g0.c, g1.c⟩) (fun hHeld => ?_)
        rw [hWd] at hHeld ⊢
        refine wpF_t (i := 0) (oi := opca11e704) (v := ?_) rfl (by kernel_rfl) (fun _ _ _ h => h) (Or.inl ⟨by rfl, ?_⟩) hHeld ?_; rotate_left
        · intro w_ hSw_; (try dsimp only at hSw_); go_simp; (try with_reducible rfl)
        try go_frame
        refine wpF_t (i := 1) (oi := op4a8fad3f) (v := ?_) rfl (by kernel_rfl) (fun _ _ _ h => h) (Or.inl ⟨by rfl, ?_⟩) hHeld ?_; rotate_left
        · intro w_ hSw_; (try dsimp only at hSw_); go_simp; (try with_reducible rfl)
        try go_frame
        refine wpF_t (i := 2) (oi := op9773ca26) (v := ?_) rfl (by kernel_rfl) (fun _ _ _ h => h) (Or.inl ⟨by rfl, ?_⟩) hHeld ?_; rotate_left
        · intro w_ hSw_; (try dsimp only at hSw_); go_simp; (try with_reducible rfl)
        try go_frame
        refine wpF_t (i := 3) (oi := op78c2fff6) (v := ?_) rfl (by kernel_rfl) (fun _ _ _ h => h) (Or.inl ⟨by rfl, ?_⟩) hHeld ?_; rotate_left
        · intro w_ hSw_; (try dsimp only at hSw_); go_simp; (try with_reducible rfl)
        try go_frame
        refine wpF_t (i := 4) (oi := opaf56e968) (v := ?_) rfl (by kernel_rfl) (fun _ _ _ h => h) (Or.inl ⟨by rfl, ?_⟩) hHeld ?_; rotate_left
        · intro w_ hSw_; (try dsimp only at hSw_); go_simp; (try with_reducible rfl)
        try go_frame
        refine wpF_t (i := 5) (oi := opbad4fdf4) (v := ?_) rfl (by kernel_rfl) (fun _ _ _ h => h) (Or.inl ⟨by rfl, ?_⟩) hHeld ?_; rotate_left
        · intro w_ hSw_; (try dsimp only at hSw_); go_simp; (try with_reducible rfl)
        try go_frame
        refine wpF_t (i := 6) (oi := ope8d40994) (v := ?_) rfl (by kernel_rfl) (fun _ _ _ h => h) (Or.inl ⟨by rfl, ?_⟩) hHeld ?_; rotate_left
        · intro w_ hSw_; (try dsimp only at hSw_); go_simp; (try with_reducible rfl)
        try go_frame
        refine wpF_t (i := 7) (oi := opcb15e36c) (v := ?_) rfl (by kernel_rfl) (fun _ _ _ h => h) (Or.inl ⟨by rfl, ?_⟩) hHeld ?_; rotate_left
        · intro w_ hSw_; (try dsimp only at hSw_); go_simp; (try with_reducible rfl)
        try go_frame
        refine wpF_t (i := 8) (oi := op69c9dcc4) (v := ?_) rfl (by kernel_rfl) (fun _ _ _ h => h) (Or.inl ⟨by rfl, ?_⟩) hHeld ?_; rotate_left
        · intro w_ hSw_; (try dsimp only at hSw_); go_simp; (try with_reducible rfl)
        try go_frame
        refine wpF_t (i := 9) (oi := op178d8ca4) (v := ?_) rfl (by kernel_rfl) (fun _ _ _ h => h) (Or.inl ⟨by rfl, ?_⟩) hHeld ?_; rotate_left
        · intro w_ hSw_; (try dsimp only at hSw_); go_simp; (try with_reducible rfl)
        try go_frame
        refine wpF_t (i := 10) (oi := op45ed7660) (v := ?_) rfl (by kernel_rfl) (fun _ _ _ h => h) (Or.inl ⟨by rfl, ?_⟩) hHeld ?_; rotate_left
        · intro w_ hSw_; (try dsimp only at hSw_); go_simp; (try with_reducible rfl)
        try go_frame
        refine wpF_t (i := 11) (oi := opf85e2136) (v := ?_) rfl (by kernel_rfl) (fun _ _ _ h => h) (Or.inl ⟨by rfl, ?_⟩) hHeld ?_; rotate_left
        · intro w_ hSw_; (try dsimp only at hSw_); go_simp; (try with_reducible rfl)
        try go_frame
        refine wpF_t (i := 12) (oi := opc0d2d0ce) (v := ?_) rfl (by kernel_rfl) (fun _ _ _ h => h) (Or.inl ⟨by rfl, ?_⟩) hHeld ?_; rotate_left
        · intro w_ hSw_; (try dsimp only at hSw_); go_simp; (try with_reducible rfl)
        try go_frame
        refine wpF_t (i := 13) (oi := op4ca4cd3a) (v := ?_) rfl (by kernel_rfl) (fun _ _ _ h => h) (Or.inl ⟨by rfl, ?_⟩) hHeld ?_; rotate_left
        · intro w_ hSw_; (try dsimp only at hSw_); go_simp; (try with_reducible rfl)
        try go_frame
        refine wpF_t (i := 14) (oi := opc672b645) (v := ?_) rfl (by kernel_rfl) (fun _ _ _ h => h) (Or.inl ⟨by rfl, ?_⟩) hHeld ?_; rotate_left
        · intro w_ hSw_; (try dsimp only at hSw_); go_simp; (try with_reducible rfl)
        try go_frame
        refine wpF_t (i := 15) (oi := op45584878) (v := ?_) rfl (by kernel_rfl) (fun _ _ _ h => h) (Or.inl ⟨by rfl, ?_⟩) hHeld ?_; rotate_left
        · intro w_ hSw_; (try dsimp only at hSw_); go_simp; (try with_reducible rfl)
        try go_frame
        refine wpF_t (i := 16) (oi := op6d45546a) (v := ?_) rfl (by kernel_rfl) (fun _ _ _ h => h) (Or.inl ⟨by rfl, ?_⟩) hHeld ?_; rotate_left
        · intro w_ hSw_; (try dsimp only at hSw_); go_simp; (try with_reducible rfl)
        try go_frame
        refine wpF_t (i := 17) (oi := op7cb842cc) (v := ?_) rfl (by kernel_rfl) (fun _ _ _ h => h) (Or.inl ⟨by rfl, ?_⟩) hHeld ?_; rotate_left
        · intro w_ hSw_; (try dsimp only at hSw_); go_simp; (try with_reducible rfl)
        try go_frame
        refine wpF_t (i := 18) (oi := opad12a800) (v := ?_) rfl (by kernel_rfl) (fun _ _ _ h => h) (Or.inl ⟨by rfl, ?_⟩) hHeld ?_; rotate_left
        · intro w_ hSw_; (try dsimp only at hSw_); go_simp; (try with_reducible rfl)
        try go_frame
        refine wpF_t (i := 19) (oi := opbde43188) (v := ?_) rfl (by kernel_rfl) (fun _ _ _ h => h) (Or.inl ⟨by rfl, ?_⟩) hHeld ?_; rotate_left
        · intro w_ hSw_; (try dsimp only at hSw_); go_simp; (try with_reducible rfl)
        try go_frame
        refine wpF_t (i := 20) (oi := op3c488995) (v := ?_) rfl (by kernel_rfl) (fun _ _ _ h => h) (Or.inl ⟨by rfl, ?_⟩) hHeld ?_; rotate_left
        · intro w_ hSw_; (try dsimp only at hSw_); go_simp; (try with_reducible rfl)
        try go_frame
        refine wpF_t (i := 21) (oi := op8eedaf09) (v := ?_) rfl (by kernel_rfl) (fun _ _ _ h => h) (Or.inl ⟨by rfl, ?_⟩) hHeld ?_; rotate_left
        · intro w_ hSw_; (try dsimp only at hSw_); go_simp; (try with_reducible rfl)
        try go_frame
        refine wpF_t (i := 22) (oi := op0a62db6c) (v := ?_) rfl (by kernel_rfl) (fun _ _ _ h => h) (Or.inl ⟨by rfl, ?_⟩) hHeld ?_; rotate_left
        · intro w_ hSw_; (try dsimp only at hSw_); go_simp; (try with_reducible rfl)
        try go_frame
        refine wpF_t (i := 23) (oi := op14f241c3) (v := ?_) rfl (by kernel_rfl) (fun _ _ _ h => h) (Or.inl ⟨by rfl, ?_⟩) hHeld ?_; rotate_left
        · intro w_ hSw_; (try dsimp only at hSw_); go_simp; (try with_reducible rfl)
        try go_frame
        refine wpF_t (i := 24) (oi := op64d90d33) (v := ?_) rfl (by kernel_rfl) (fun _ _ _ h => h) (Or.inl ⟨by rfl, ?_⟩) hHeld ?_; rotate_left
        · intro w_ hSw_; (try dsimp only at hSw_); go_simp; (try with_reducible rfl)
        try go_frame
        refine wpF_t (i := 25) (oi := op1da4090c) (v := ?_) rfl (by kernel_rfl) (fun _ _ _ h => h) (Or.inl ⟨by rfl, ?_⟩) hHeld ?_; rotate_left
        · intro w_ hSw_; (try dsimp only at hSw_); go_simp; (try with_reducible rfl)
        try go_frame
        refine wpF_t (i := 26) (oi := opc1ae7516) (v := ?_) rfl (by kernel_rfl) (fun _ _ _ h => h) (Or.inl ⟨by rfl, ?_⟩) hHeld ?_; rotate_left
        · intro w_ hSw_; (try dsimp only at hSw_); go_simp; (try with_reducible rfl)
        try go_frame
        refine wpF_t (i := 27) (oi := op3a0da337) (v := ?_) rfl (by kernel_rfl) (fun _ _ _ h => h) (Or.inl ⟨by rfl, ?_⟩) hHeld ?_; rotate_left
        · intro w_ hSw_; (try dsimp only at hSw_); go_simp; (try with_reducible rfl)
        try go_frame
        refine wpF_t (i := 28) (oi := op81d33508) (v := ?_) rfl (by kernel_rfl) (fun _ _ _ h => h) (Or.inl ⟨by rfl, ?_⟩) hHeld ?_; rotate_left
        · intro w_ hSw_; (try dsimp only at hSw_); go_simp; (try with_reducible rfl)
        try go_frame
        refine wpF_t (i := 29) (oi := op941644af) (v := ?_) rfl (by kernel_rfl) (fun _ _ _ h => h) (Or.inl ⟨by rfl, ?_⟩) hHeld ?_; rotate_left
        · intro w_ hSw_; (try dsimp only at hSw_); go_simp; (try with_reducible rfl)
        try go_frame
        refine wpF_t (i := 30) (oi := opffdc4431) (v := ?_) rfl (by kernel_rfl) (fun _ _ _ h => h) (Or.inl ⟨by rfl, ?_⟩) hHeld ?_; rotate_left
        · intro w_ hSw_; (try dsimp only at hSw_); go_simp; (try with_reducible rfl)
        try go_frame
        refine wpF_t (i := 31) (oi := op550ddaba) (v := ?_) rfl (by kernel_rfl) (fun _ _ _ h => h) (Or.inl ⟨by rfl, ?_⟩) hHeld ?_; rotate_left
        · intro w_ hSw_; (try dsimp only at hSw_); go_simp; (try with_reducible rfl)
        try go_frame
        refine wpF_t (i := 32) (oi := op499775b8) (v := ?_) rfl (by kernel_rfl) (fun _ _ _ h => h) (Or.inl ⟨by rfl, ?_⟩) hHeld ?_; rotate_left
        · intro w_ hSw_; (try dsimp only at hSw_); go_simp; (try with_reducible rfl)
        try go_frame
        refine wpF_t (i := 33) (oi := op9c6ae3a1) (v := ?_) rfl (by kernel_rfl) (fun _ _ _ h => h) (Or.inl ⟨by rfl, ?_⟩) hHeld ?_; rotate_left
        · intro w_ hSw_; (try dsimp only at hSw_); go_simp; (try with_reducible rfl)
        try go_frame
        refine wpF_t (i := 34) (oi := opa7f91180) (v := ?_) rfl (by kernel_rfl) (fun _ _ _ h => h) (Or.inl ⟨by rfl, ?_⟩) hHeld ?_; rotate_left
        · intro w_ hSw_; (try dsimp only at hSw_); go_simp; (try with_reducible rfl)
        try go_frame
        refine wpF_t (i := 35) (oi := opba027658) (v := ?_) rfl (by kernel_rfl) (fun _ _ _ h => h) (Or.inl ⟨by rfl, ?_⟩) hHeld ?_; rotate_left
        · intro w_ hSw_; (try dsimp only at hSw_); go_simp; (try with_reducible rfl)
        try go_frame
        refine wpF_t (i := 36) (oi := op2485953e) (v := ?_) rfl (by kernel_rfl) (fun _ _ _ h => h) (Or.inl ⟨by rfl, ?_⟩) hHeld ?_; rotate_left
        · intro w_ hSw_; (try dsimp only at hSw_); go_simp; (try with_reducible rfl)
        try go_frame
        refine wpF_t (i := 37) (oi := opc20a6f1d) (v := ?_) rfl (by kernel_rfl) (fun _ _ _ h => h) (Or.inl ⟨by rfl, ?_⟩) hHeld ?_; rotate_left
        · intro w_ hSw_; (try dsimp only at hSw_); go_simp; (try with_reducible rfl)
        try go_frame
        refine wpF_t (i := 38) (oi := op420a1fef) (v := ?_) rfl (by kernel_rfl) (fun _ _ _ h => h) (Or.inl ⟨by rfl, ?_⟩) hHeld ?_; rotate_left
        · intro w_ hSw_; (try dsimp only at hSw_); go_simp; (try with_reducible rfl)
        try go_frame
        refine wpF_t (i := 39) (oi := opb0b9eaad) (v := ?_) rfl (by kernel_rfl) (fun _ _ _ h => h) (Or.inl ⟨by rfl, ?_⟩) hHeld ?_; rotate_left
        · intro w_ hSw_; (try dsimp only at hSw_); go_simp; (try with_reducible rfl)
        try go_frame
        refine wpF_t (i := 40) (oi := op4efbbfd6) (v := ?_) rfl (by kernel_rfl) (fun _ _ _ h => h) (Or.inl ⟨by rfl, ?_⟩) hHeld ?_; rotate_left
        · intro w_ hSw_; (try dsimp only at hSw_); go_simp; (try with_reducible rfl)
        try go_frame
        refine wpF_t (i := 41) (oi := op46efff6d) (v := ?_) rfl (by kernel_rfl) (fun _ _ _ h => h) (Or.inl ⟨by rfl, ?_⟩) hHeld ?_; rotate_left
        · intro w_ hSw_; (try dsimp only at hSw_); go_simp; (try with_reducible rfl)
        try go_frame
        refine wpF_t (i := 42) (oi := op30ea258f) (v := ?_) rfl (by kernel_rfl) (fun _ _ _ h => h) (Or.inl ⟨by rfl, ?_⟩) hHeld ?_; rotate_left
        · intro w_ hSw_; (try dsimp only at hSw_); go_simp; (try with_reducible rfl)
        try go_frame
        refine wpF_t (i := 43) (oi := opca832cba) (v := ?_) rfl (by kernel_rfl) (fun _ _ _ h => h) (Or.inl ⟨by rfl, ?_⟩) hHeld ?_; rotate_left
        · intro w_ hSw_; (try dsimp only at hSw_); go_simp; (try with_reducible rfl)
        try go_frame
        refine wpF_t (i := 44) (oi := op99e85f9e) (v := ?_) rfl (by kernel_rfl) (fun _ _ _ h => h) (Or.inl ⟨by rfl, ?_⟩) hHeld ?_; rotate_left
        · intro w_ hSw_; (try dsimp only at hSw_); go_simp; (try with_reducible rfl)
        try go_frame
        refine wpF_t (i := 45) (oi := op8f725edf) (v := ?_) rfl (by kernel_rfl) (fun _ _ _ h => h) (Or.inl ⟨by rfl, ?_⟩) hHeld ?_; rotate_left
        · intro w_ hSw_; (try dsimp only at hSw_); go_simp; (try with_reducible rfl)
        try go_frame
        refine wpF_t (i := 46) (oi := op73a8deda) (v := ?_) rfl (by kernel_rfl) (fun _ _ _ h => h) (Or.inl ⟨by rfl, ?_⟩) hHeld ?_; rotate_left
        · intro w_ hSw_; (try dsimp only at hSw_); go_simp; (try with_reducible rfl)
        try go_frame
        refine wpAnyF_done (by kernel_rfl) ?_ _
        clear hHeld
        go_wp2_with fail
        replace VR := VR.drew; replace q0 := q0.drew; replace q1 := q1.drew; replace HB := below_drew HB
        generalize hWd2 : wd.drew = wd2 at *
        refine wp_region_F (fun w' => w'.cell? ⟨w.heap.size, 0, none⟩ = some (.int .i64 md) ∧ w'.cell? ⟨w.heap.size, 1, none⟩ = some (.slice A n c) ∧ w'.cell? ⟨w.heap.size, 2, none⟩ = some (.slice A' n' c') ∧ w'.cell? ⟨b9, o9 + i * 2, none⟩ = some (.int .i64 a) ∧ w'.cell? ⟨b9, o9 + i * 2 + 1, none⟩ = some (.int .i64 s)) [] (by kernel_rfl) (by rw [hWd2]; exact ⟨VR.c0, VR.c1, VR.c2, q0.c, q1.c⟩) (fun hHeld => ?_)
        rw [hWd2] at hHeld ⊢
        refine wpF_t (i := 0) (oi := op53989105) (v := ?_) rfl (by kernel_rfl) (fun _ _ _ h => h) (Or.inl ⟨by rfl, ?_⟩) hHeld ?_; rotate_left
        · intro w_ hSw_; (try dsimp only at hSw_); go_simp; (try with_reducible rfl)
        try go_frame
        refine wpF_t (i := 1) (oi := op91663cef) (v := ?_) rfl (by kernel_rfl) (fun _ _ _ h => h) (Or.inl ⟨by rfl, ?_⟩) hHeld ?_; rotate_left
        · intro w_ hSw_; (try dsimp only at hSw_); go_simp; (try with_reducible rfl)
        try go_frame
        refine wpF_t (i := 2) (oi := op67af687e) (v := ?_) rfl (by kernel_rfl) (fun _ _ _ h => h) (Or.inl ⟨by rfl, ?_⟩) hHeld ?_; rotate_left
        · intro w_ hSw_; (try dsimp only at hSw_); go_simp; (try with_reducible rfl)
        try go_frame
        refine wpF_t (i := 3) (oi := opcb7cd632) (v := ?_) rfl (by kernel_rfl) (fun _ _ _ h => h) (Or.inl ⟨by rfl, ?_⟩) hHeld ?_; rotate_left
        · intro w_ hSw_; (try dsimp only at hSw_); go_simp; (try with_reducible rfl)
        try go_frame
        refine wpF_t (i := 4) (oi := op0ea8adc7) (v := ?_) rfl (by kernel_rfl) (fun _ _ _ h => h) (Or.inl ⟨by rfl, ?_⟩) hHeld ?_; rotate_left
        · intro w_ hSw_; (try dsimp only at hSw_); go_simp; (try with_reducible rfl)
        try go_frame
        refine wpF_t (i := 5) (oi := opcf7631a4) (v := ?_) rfl (by kernel_rfl) (fun _ _ _ h => h) (Or.inl ⟨by rfl, ?_⟩) hHeld ?_; rotate_left
        · intro w_ hSw_; (try dsimp only at hSw_); go_simp; (try with_reducible rfl)
        try go_frame
        refine wpF_t (i := 8) (oi := opf982413b) (v := ?_) rfl (by kernel_rfl) (fun _ _ _ h => h) (Or.inl ⟨by rfl, ?_⟩) hHeld ?_; rotate_left
        · intro w_ hSw_; (try dsimp only at hSw_); go_simp; (try with_reducible rfl)
        try go_frame
        refine wpAnyF_one (i := 6) (by kernel_rfl) rfl (fun K hK => ?_)
        go_simp
        (go_at_call 23; (with_reducible refine (Of_c (a : Int) _ (by omega) (by omega)).mono ?_); rintro e w11 ⟨v, rfl, hv, hb⟩; obtain ⟨n11, A11, m11, k11, rfl, H11⟩ := hv.form; clear hv; replace VR := VR.keep hb; replace q0 := q0.keep hb; replace q1 := q1.keep hb; replace HB := below_step HB hb; clear hb)
        refine hK.out _ _ (by exact ⟨VR.c0, VR.c1, VR.c2, q0.c, q1.c⟩) (fun hHeld => ?_)
        clear hK K
        try go_frame
        refine wpAnyF_one (i := 7) (by kernel_rfl) rfl (fun K hK => ?_)
        go_simp
        (go_at_call 18; (with_reducible refine (Text_c (a : Int) _ _ H11.out (by have := len_small (z := (a : Int)) (by omega) (by omega); omega)).mono ?_); rintro e w12 ⟨rfl, hb⟩; replace VR := VR.keep hb; replace q0 := q0.keep hb; replace q1 := q1.keep hb; replace HB := below_step HB hb; clear hb H11)
        refine hK.out _ _ (by exact ⟨VR.c0, VR.c1, VR.c2, q0.c, q1.c⟩) (fun hHeld => ?_)
        clear hK K
        try go_frame
        refine wpAnyF_one (i := 9) (by kernel_rfl) rfl (fun K hK => ?_)
        go_simp
        (go_at_call 10; (with_reducible refine (Fate_ok M (a : Int) most _ _ VR.im.out HOKM.out HD.out hmo ((HT.out.below HB4).below HB)).mono ?_); rw [HFL.out]; rintro e w13 ⟨A13, c13, rfl, HL13, hb⟩; dsimp only; replace VR := VR.keep hb; replace q0 := q0.keep hb; replace q1 := q1.keep hb; replace HB := below_step HB hb; clear hb HL13)
        refine hK.out _ _ (by exact ⟨VR.c0, VR.c1, VR.c2, q0.c, q1.c⟩) (fun hHeld => ?_)
        clear hK K
        try go_frame
        refine wpF_t (i := 10) (oi := op4d9fecce) (v := ?_) rfl (by kernel_rfl) (fun _ _ _ h => h) (Or.inl ⟨by rfl, ?_⟩) hHeld ?_; rotate_left
        · intro w_ hSw_; (try dsimp only at hSw_); go_simp; (try with_reducible rfl)
        try go_frame
        refine wpF_t (i := 11) (oi := ope4304b14) (v := ?_) rfl (by kernel_rfl) (fun _ _ _ h => h) (Or.inl ⟨by rfl, ?_⟩) hHeld ?_; rotate_left
        · intro w_ hSw_; (try dsimp only at hSw_); go_simp; (try with_reducible rfl)
        try go_frame
        refine wpF_t (i := 12) (oi := op430e435c) (v := ?_) rfl (by kernel_rfl) (fun _ _ _ h => h) (Or.inl ⟨by rfl, ?_⟩) hHeld ?_; rotate_left
        · intro w_ hSw_; (try dsimp only at hSw_); go_simp; (try with_reducible rfl)
        try go_frame
        refine wpF_t (i := 13) (oi := op94d77e6b) (v := ?_) rfl (by kernel_rfl) (fun _ _ _ h => h) (Or.inl ⟨by rfl, ?_⟩) hHeld ?_; rotate_left
        · intro w_ hSw_; (try dsimp only at hSw_); go_simp; (try with_reducible rfl)
        try go_frame
        refine wpF_t (i := 14) (oi := ope2a93241) (v := ?_) rfl (by kernel_rfl) (fun _ _ _ h => h) (Or.inl ⟨by rfl, ?_⟩) hHeld ?_; rotate_left
        · intro w_ hSw_; (try dsimp only at hSw_); go_simp; (try with_reducible rfl)
        try go_frame
        refine wpF_t (i := 15) (oi := op0d89fb0f) (v := ?_) rfl (by kernel_rfl) (fun _ _ _ h => h) (Or.inl ⟨by rfl, ?_⟩) hHeld ?_; rotate_left
        · intro w_ hSw_; (try dsimp only at hSw_); go_simp; (try with_reducible rfl)
        try go_frame
        refine wpF_t (i := 16) (oi := op080ba945) (v := ?_) rfl (by kernel_rfl) (fun _ _ _ h => h) (Or.inl ⟨by rfl, ?_⟩) hHeld ?_; rotate_left
        · intro w_ hSw_; (try dsimp only at hSw_); go_simp; (try with_reducible rfl)
        try go_frame
        refine wpAnyF_done (by kernel_rfl) ?_ _
        clear hHeld hWd hWd2
        have p0 := q0.c; have p1 := q1.c
        go_wp2
        go_roundg ((recL M most count).length - (i + 1))
        case measure => omega
        case rel => exact ⟨i + 1, rfl, by go_num, by omega, HB⟩
    · have hi1 : ¬ (i : Int) < ((recL M most count).length : Int) := by omega
      have HBi := HB
      clear HB VR hi0
      go_wp2_with fail
      clear hi1
      go_loopg [15] l.length (fun g qv wr2 => ∃ (q : Nat), g = l.length - q ∧ qv = .int .i64 q ∧ q ≤ l.length ∧ Below w4.heap.size w4 wr2)
      case atStart => exact ⟨0, rfl, rfl, Nat.zero_le _, HBi⟩
      case round =>
        clear HBi hi hgk
        obtain ⟨q, hgk2, rfl, hq, HB⟩ := hrel
        have VR := V3.keep HB
        have hq0 : (0 : Int) ≤ (q : Int) := by omega
        by_cases hql0 : q < l.length
        · have hq1 : (q : Int) < (l.length : Int) := by omega
          have VR := V3.keep HB
          obtain ⟨bq, oq, rfl, hql, qc⟩ := ((HSL.out.below HB4).below HB).cell (j := q) hql0
          replace qc : CL wr bq (oq + q) _ := ⟨qc, hql⟩
          obtain ⟨y, hy⟩ : ∃ y, gd l q = y := ⟨_, rfl⟩
          rw [hy] at qc
          clear hy hql
          have r0 := qc.c
          by_cases hy1 : y < 1
          · have hyd : decide (y < 1) = true := decide_eq_true hy1
            go_wp2
            go_roundg (l.length - (q + 1))
            case measure => omega
            case rel => exact ⟨q + 1, rfl, by go_num, by omega, HB⟩
          · have hyd : decide (y < 1) = false := decide_eq_false hy1
            by_cases hy2 : (count : Int) < y
            · have hyd2 : decide ((count : Int) < y) = true := decide_eq_true hy2
              go_wp2
              go_roundg (l.length - (q + 1))
              case measure => omega
              case rel => exact ⟨q + 1, rfl, by go_num, by omega, HB⟩
            · have hyd2 : decide ((count : Int) < y) = false := decide_eq_false hy2
              obtain ⟨x, rfl⟩ := Int.eq_ofNat_of_zero_le (show 0 ≤ y by omega)
              have hyd3 : decide (x < 1) = false := decide_eq_false (by omega)
              have hyd4 : decide (count < x) = false := decide_eq_false (by omega)
              have hn1 : 1 ≤ x := by omega
              have hn2 : x ≤ count := by omega
              obtain ⟨P1, P2, P3⟩ := recL_pre M most x count hn2
              have hfc := flw_cases M (x : Int) most
              have HBEST := Lib.hid (recL_best M most x x hn1 (Nat.le_refl _))
              have hbest : (flwA M (most + 1) [] (x : Int)).1 = 0 → ((flwA M (most + 1) [] (x : Int)).2.1 : Int) ≤ bestK (recL M most count) (recL M most x).length := fun h => by
                obtain ⟨i1, i2⟩ := HBEST.out h
                unfold bestK
                rw [if_neg (by omega), P2 _ (by omega)]
                unfold lastS at i2
                omega
              have HD : Hid (dlN ((x : Int)).natAbs ≤ 2000) := by rw [← dl_dlN]; exact dl_le (by rw [Int.natAbs_natCast]; exact Nat.lt_of_le_of_lt (Nat.le_trans hn2 hco) (by decide))
              have HP2 := Lib.hid P2
              have HP3 := Lib.hid P3
              have HFC := Lib.hid hfc
              have HBE := Lib.hid hbest
              clear P2 P3 hfc hbest HBEST
              go_wp2_with fail
              clear r0
              replace VR := VR.drew; replace qc := qc.drew; replace HB := below_drew HB
              generalize hWd2 : wr.drew = wd2 at *
              refine wp_region_F (fun w' => w'.cell? ⟨w.heap.size, 0, none⟩ = some (.int .i64 md) ∧ w'.cell? ⟨w.heap.size, 1, none⟩ = some (.slice A n c) ∧ w'.cell? ⟨w.heap.size, 2, none⟩ = some (.slice A' n' c') ∧ w'.cell? ⟨bq, oq + q, none⟩ = some (.int .i64 (x : Int))) [] (by kernel_rfl) (by rw [hWd2]; exact ⟨VR.c0, VR.c1, VR.c2, qc.c⟩) (fun hHeld => ?_)
              rw [hWd2] at hHeld ⊢
              refine wpF_t (i := 0) (oi := { dst := some 157, op := Go.Op.load 24 (Go.Operand.tmp 4), type := 24, pos := "law.go:259", after := #[], guard := none }) (v := ?_) rfl (by kernel_rfl) (fun _ _ _ h => h) (Or.inl ⟨by rfl, ?_⟩) hHeld ?_; rotate_left
              · intro w_ hSw_; (try dsimp only at hSw_); go_simp; (try with_reducible rfl)
              try go_frame
              refine wpF_t (i := 1) (oi := { dst := some 158, op := Go.Op.move (Go.Operand.tmp 3), type := 22, pos := "law.go:259", after := #[], guard := none }) (v := ?_) rfl (by kernel_rfl) (fun _ _ _ h => h) (Or.inl ⟨by rfl, ?_⟩) hHeld ?_; rotate_left
              · intro w_ hSw_; (try dsimp only at hSw_); go_simp; (try with_reducible rfl)
              try go_frame
              refine wpF_t (i := 2) (oi := { dst := some 159, op := Go.Op.move (Go.Operand.tmp 15), type := 3, pos := "law.go:259", after := #[], guard := none }) (v := ?_) rfl (by kernel_rfl) (fun _ _ _ h => h) (Or.inl ⟨by rfl, ?_⟩) hHeld ?_; rotate_left
              · intro w_ hSw_; (try dsimp only at hSw_); go_simp; (try with_reducible rfl)
              try go_frame
              refine wpF_t (i := 3) (oi := { dst := some 160, op := Go.Op.indexAddr 22 (Go.Operand.tmp 158) (Go.Operand.tmp 159), type := 0, pos := "law.go:259", after := #[{ on := 1, ground := Go.Ground.data }, { on := 2, ground := Go.Ground.data }], guard := none }) (v := ?_) rfl (by kernel_rfl) (fun _ _ _ h => h) (Or.inl ⟨by rfl, ?_⟩) hHeld ?_; rotate_left
              · intro w_ hSw_; (try dsimp only at hSw_); go_simp; (try with_reducible rfl)
              try go_frame
              refine wpF_t (i := 4) (oi := { dst := some 161, op := Go.Op.load 3 (Go.Operand.tmp 160), type := 3, pos := "law.go:259", after := #[{ on := 3, ground := Go.Ground.data }], guard := none }) (v := ?_) rfl (by kernel_rfl) (fun _ _ _ h => h) (Or.inl ⟨by rfl, ?_⟩) hHeld ?_; rotate_left
              · intro w_ hSw_; (try dsimp only at hSw_); go_simp; (try with_reducible rfl)
              try go_frame
              refine wpF_t (i := 7) (oi := { dst := some 164, op := Go.Op.move (Go.Operand.tmp 2), type := 3, pos := "law.go:259", after := #[], guard := none }) (v := ?_) rfl (by kernel_rfl) (fun _ _ _ h => h) (Or.inl ⟨by rfl, ?_⟩) hHeld ?_; rotate_left
              · intro w_ hSw_; (try dsimp only at hSw_); go_simp; (try with_reducible rfl)
              try go_frame
              refine wpAnyF_one (i := 5) (by kernel_rfl) rfl (fun K hK => ?_)
              go_simp
              (go_at_call 23; (with_reducible refine (Of_c (x : Int) _ (by omega) (by omega)).mono ?_); rintro e w11 ⟨v, rfl, hv, hb⟩; obtain ⟨n11, A11, m11, k11, rfl, H11⟩ := hv.form; clear hv; replace VR := VR.keep hb; replace qc := qc.keep hb; replace HB := below_step HB hb; clear hb)
              refine hK.out _ _ (by exact ⟨VR.c0, VR.c1, VR.c2, qc.c⟩) (fun hHeld => ?_)
              clear hK K
              try go_frame
              refine wpAnyF_one (i := 6) (by kernel_rfl) rfl (fun K hK => ?_)
              go_simp
              (go_at_call 18; (with_reducible refine (Text_c (x : Int) _ _ H11.out (by have := len_small (z := (x : Int)) (by omega) (by omega); omega)).mono ?_); rintro e w12 ⟨rfl, hb⟩; replace VR := VR.keep hb; replace qc := qc.keep hb; replace HB := below_step HB hb; clear hb H11)
              refine hK.out _ _ (by exact ⟨VR.c0, VR.c1, VR.c2, qc.c⟩) (fun hHeld => ?_)
              clear hK K
              try go_frame
              refine wpAnyF_one (i := 8) (by kernel_rfl) rfl (fun K hK => ?_)
              go_simp
              (go_at_call 10; (with_reducible refine (Fate_ok M (x : Int) most _ _ VR.im.out HOKM.out HD.out hmo ((HT.out.below HB4).below HB)).mono ?_); rintro e w13 ⟨A13, c13, rfl, HL13, hb⟩; replace VR := VR.keep hb; replace qc := qc.keep hb; replace HB := below_step HB hb; clear hb HL13)
              refine hK.out _ _ (by exact ⟨VR.c0, VR.c1, VR.c2, qc.c⟩) (fun hHeld => ?_)
              clear hK K
              try go_frame
              refine wpF_t (i := 9) (oi := { dst := some 156, op := Go.Op.move (Go.Operand.tmp 165), type := 28, pos := "law.go:259", after := #[{ on := 8, ground := Go.Ground.data }], guard := none }) (v := ?_) rfl (by kernel_rfl) (fun _ _ _ h => h) (Or.inl ⟨by rfl, ?_⟩) hHeld ?_; rotate_left
              · intro w_ hSw_; (try dsimp only at hSw_); go_simp; (try with_reducible rfl)
              try go_frame
              refine wpF_t (i := 10) (oi := { dst := some 166, op := Go.Op.extract (Go.Operand.tmp 156) 0, type := 3, pos := "law.go:259", after := #[{ on := 9, ground := Go.Ground.data }], guard := none }) (v := ?_) rfl (by kernel_rfl) (fun _ _ _ h => h) (Or.inl ⟨by rfl, ?_⟩) hHeld ?_; rotate_left
              · intro w_ hSw_; (try dsimp only at hSw_); go_simp; (try with_reducible rfl)
              try go_frame
              refine wpF_t (i := 11) (oi := { dst := some 167, op := Go.Op.extract (Go.Operand.tmp 156) 1, type := 26, pos := "law.go:259", after := #[{ on := 9, ground := Go.Ground.data }, { on := 13, ground := Go.Ground.gcOnly Go.Departure.lateStores }], guard := none }) (v := ?_) rfl (by kernel_rfl) (fun _ _ _ h => h) (Or.inl ⟨by rfl, ?_⟩) hHeld ?_; rotate_left
              · intro w_ hSw_; (try dsimp only at hSw_); go_simp; (try with_reducible rfl)
              try go_frame
              refine wpF_t (i := 12) (oi := { dst := some 168, op := Go.Op.extract (Go.Operand.tmp 156) 2, type := 27, pos := "law.go:259", after := #[{ on := 9, ground := Go.Ground.data }, { on := 14, ground := Go.Ground.gcOnly Go.Departure.lateStores }], guard := none }) (v := ?_) rfl (by kernel_rfl) (fun _ _ _ h => h) (Or.inl ⟨by rfl, ?_⟩) hHeld ?_; rotate_left
              · intro w_ hSw_; (try dsimp only at hSw_); go_simp; (try with_reducible rfl)
              try go_frame
              refine wpF_t (i := 13) (oi := { dst := some 16, op := Go.Op.assign (Go.Operand.tmp 166), type := 3, pos := "law.go:259", after := #[{ on := 10, ground := Go.Ground.data }, { on := 8, ground := Go.Ground.chain }, { on := 0, ground := Go.Ground.phase }, { on := 1, ground := Go.Ground.phase }, { on := 2, ground := Go.Ground.phase }, { on := 3, ground := Go.Ground.phase }, { on := 4, ground := Go.Ground.phase }, { on := 5, ground := Go.Ground.phase }, { on := 6, ground := Go.Ground.phase }, { on := 7, ground := Go.Ground.phase }, { on := 8, ground := Go.Ground.phase }, { on := 9, ground := Go.Ground.phase }, { on := 10, ground := Go.Ground.phase }, { on := 11, ground := Go.Ground.textOnly Go.Departure.lateStores }, { on := 12, ground := Go.Ground.textOnly Go.Departure.lateStores }], guard := none }) (v := ?_) rfl (by kernel_rfl) (fun _ _ _ h => h) (Or.inl ⟨by rfl, ?_⟩) hHeld ?_; rotate_left
              · intro w_ hSw_; (try dsimp only at hSw_); go_simp; (try with_reducible rfl)
              try go_frame
              refine wpF_t (i := 14) (oi := { dst := some 17, op := Go.Op.assign (Go.Operand.tmp 167), type := 26, pos := "law.go:259", after := #[{ on := 11, ground := Go.Ground.data }, { on := 13, ground := Go.Ground.chain }, { on := 0, ground := Go.Ground.phase }, { on := 1, ground := Go.Ground.phase }, { on := 2, ground := Go.Ground.phase }, { on := 3, ground := Go.Ground.phase }, { on := 4, ground := Go.Ground.phase }, { on := 5, ground := Go.Ground.phase }, { on := 6, ground := Go.Ground.phase }, { on := 7, ground := Go.Ground.phase }, { on := 8, ground := Go.Ground.phase }, { on := 9, ground := Go.Ground.phase }, { on := 10, ground := Go.Ground.phase }, { on := 11, ground := Go.Ground.phase }, { on := 12, ground := Go.Ground.textOnly Go.Departure.lateStores }, { on := 13, ground := Go.Ground.phase }], guard := none }) (v := ?_) rfl (by kernel_rfl) (fun _ _ _ h => h) (Or.inl ⟨by rfl, ?_⟩) hHeld ?_; rotate_left
              · intro w_ hSw_; (try dsimp only at hSw_); go_simp; (try with_reducible rfl)
              try go_frame
              refine wpF_t (i := 15) (oi := { dst := some 18, op := Go.Op.assign (Go.Operand.tmp 168), type := 27, pos := "law.go:259", after := #[{ on := 12, ground := Go.Ground.data }, { on := 14, ground := Go.Ground.chain }, { on := 0, ground := Go.Ground.phase }, { on := 1, ground := Go.Ground.phase }, { on := 2, ground := Go.Ground.phase }, { on := 3, ground := Go.Ground.phase }, { on := 4, ground := Go.Ground.phase }, { on := 5, ground := Go.Ground.phase }, { on := 6, ground := Go.Ground.phase }, { on := 7, ground := Go.Ground.phase }, { on := 8, ground := Go.Ground.phase }, { on := 9, ground := Go.Ground.phase }, { on := 10, ground := Go.Ground.phase }, { on := 11, ground := Go.Ground.phase }, { on := 12, ground := Go.Ground.phase }, { on := 13, ground := Go.Ground.phase }, { on := 14, ground := Go.Ground.phase }], guard := none }) (v := ?_) rfl (by kernel_rfl) (fun _ _ _ h => h) (Or.inl ⟨by rfl, ?_⟩) hHeld ?_; rotate_left
              · intro w_ hSw_; (try dsimp only at hSw_); go_simp; (try with_reducible rfl)
              try go_frame
              refine wpAnyF_done (by kernel_rfl) ?_ _
              clear hHeld hWd2
              have hpl : ∃ p, (recL M most x).length = p := ⟨_, rfl⟩
              obtain ⟨p, hpl⟩ := hpl
              rw [hpl] at P1 HP2 HP3 HBE
              have HPL := Lib.hid hpl
              clear hpl
              have HBj := HB
              have QC := qc
              clear HB qc VR
              go_wp2_with fail
              go_loopg [19, 20] p (fun g bv kv wr3 => ∃ (k : Nat), g = p - k ∧ kv = .int .i64 k ∧ k ≤ p ∧ bv = .int .i64 (bestK (recL M most count) k) ∧ CL wr3 bq (oq + q) (.int .i64 (x : Int)) ∧ Below w4.heap.size w4 wr3)
              case atStart => exact ⟨0, rfl, rfl, Nat.zero_le _, rfl, QC, HBj⟩
              case round =>
                clear HBj QC
                obtain ⟨k, hgk3, rfl, hk, rfl, qc, HB⟩ := hrel
                have hk0 : (0 : Int) ≤ (k : Int) := by omega
                by_cases hkL : k < (recL M most count).length
                · have hk1 : (k : Int) < ((recL M most count).length : Int) := by omega
                  obtain ⟨b9, o9, rfl, g0, g1⟩ := (HL.out.below HB).el (j := k) hkL
                  have HE2 := Lib.hid (HP3.out k)
                  have HE1 := Lib.hid (HP2.out k)
                  have HEL := Lib.hid (recL_el M most x k)
                  obtain ⟨a, ha⟩ : ∃ a, (gp (recL M most count) k).1 = a := ⟨_, rfl⟩
                  obtain ⟨s, hs⟩ : ∃ s, (gp (recL M most count) k).2 = s := ⟨_, rfl⟩
                  have HBK : Hid ((s : Int) = bestK (recL M most count) (k + 1)) := by show _ = _; rw [bestK_succ, hs]
                  rw [ha] at g0 HE2
                  rw [hs] at g1
                  have HAE := Lib.hid ha
                  clear ha hs
                  by_cases hkp : k < p
                  · have hap : (a : Int) ≤ (x : Int) := by
                      have e := HE1.out hkp
                      have := (recL_el M most x k (by rw [HPL.out]; omega)).1
                      rw [← e, HAE.out] at this
                      omega
                    have hap2 : a ≤ x := by omega
                    clear HE1 HE2 HEL
                    go_wp2_with fail
                    replace qc := qc.drew; replace g0 := g0.drew; replace g1 := g1.drew; replace HB := below_drew HB
                    generalize hWd3 : wr.drew = wd3 at *
                    refine wp_region_F (fun w' => w'.cell? ⟨bq, oq + q, none⟩ = some (.int .i64 (x : Int)) ∧ w'.cell? ⟨b9, o9 + k * 2, none⟩ = some (.int .i64 a) ∧ w'.cell? ⟨b9, o9 + k * 2 + 1, none⟩ = some (.int .i64 s)) [] (by kernel_rfl) (by rw [hWd3]; exact ⟨qc.c, g0.c, g1.c⟩) (fun hHeld => ?_)
                    rw [hWd3] at hHeld ⊢
                    refine wpF_t (i := 0) (oi := op10f4d55c) (v := ?_) rfl (by kernel_rfl) (fun _ _ _ h => h) (Or.inl ⟨by rfl, ?_⟩) hHeld ?_; rotate_left
                    · intro w_ hSw_; (try dsimp only at hSw_); go_simp; (try with_reducible rfl)
                    try go_frame
                    refine wpF_t (i := 1) (oi := op882081f5) (v := ?_) rfl (by kernel_rfl) (fun _ _ _ h => h) (Or.inl ⟨by rfl, ?_⟩) hHeld ?_; rotate_left
                    · intro w_ hSw_; (try dsimp only at hSw_); go_simp; (try with_reducible rfl)
                    try go_frame
                    refine wpF_t (i := 2) (oi := opf8dbe0df) (v := ?_) rfl (by kernel_rfl) (fun _ _ _ h => h) (Or.inl ⟨by rfl, ?_⟩) hHeld ?_; rotate_left
                    · intro w_ hSw_; (try dsimp only at hSw_); go_simp; (try with_reducible rfl)
                    try go_frame
                    refine wpF_t (i := 3) (oi := opd19950b8) (v := ?_) rfl (by kernel_rfl) (fun _ _ _ h => h) (Or.inl ⟨by rfl, ?_⟩) hHeld ?_; rotate_left
                    · intro w_ hSw_; (try dsimp only at hSw_); go_simp; (try with_reducible rfl)
                    try go_frame
                    refine wpF_t (i := 4) (oi := opa1bac12a) (v := ?_) rfl (by kernel_rfl) (fun _ _ _ h => h) (Or.inl ⟨by rfl, ?_⟩) hHeld ?_; rotate_left
                    · intro w_ hSw_; (try dsimp only at hSw_); go_simp; (try with_reducible rfl)
                    try go_frame
                    refine wpF_t (i := 5) (oi := op8efd99b7) (v := ?_) rfl (by kernel_rfl) (fun _ _ _ h => h) (Or.inl ⟨by rfl, ?_⟩) hHeld ?_; rotate_left
                    · intro w_ hSw_; (try dsimp only at hSw_); go_simp; (try with_reducible rfl)
                    try go_frame
                    refine wpF_t (i := 6) (oi := op7a0b0497) (v := ?_) rfl (by kernel_rfl) (fun _ _ _ h => h) (Or.inl ⟨by rfl, ?_⟩) hHeld ?_; rotate_left
                    · intro w_ hSw_; (try dsimp only at hSw_); go_simp; (try with_reducible rfl)
                    try go_frame
                    refine wpF_t (i := 7) (oi := op50406d1e) (v := ?_) rfl (by kernel_rfl) (fun _ _ _ h => h) (Or.inl ⟨by rfl, ?_⟩) hHeld ?_; rotate_left
                    · intro w_ hSw_; (try dsimp only at hSw_); go_simp; (try with_reducible rfl)
                    try go_frame
                    refine wpF_t (i := 8) (oi := opb10cf9de) (v := ?_) rfl (by kernel_rfl) (fun _ _ _ h => h) (Or.inl ⟨by rfl, ?_⟩) hHeld ?_; rotate_left
                    · intro w_ hSw_; (try dsimp only at hSw_); go_simp; (try with_reducible rfl)
                    try go_frame
                    refine wpF_t (i := 9) (oi := opcdd8ed4c) (v := ?_) rfl (by kernel_rfl) (fun _ _ _ h => h) (Or.inl ⟨by rfl, ?_⟩) hHeld ?_; rotate_left
                    · intro w_ hSw_; (try dsimp only at hSw_); go_simp; (try with_reducible rfl)
                    try go_frame
                    refine wpF_t (i := 10) (oi := op05749f5d) (v := ?_) rfl (by kernel_rfl) (fun _ _ _ h => h) (Or.inl ⟨by rfl, ?_⟩) hHeld ?_; rotate_left
                    · intro w_ hSw_; (try dsimp only at hSw_); go_simp; (try with_reducible rfl)
                    try go_frame
                    refine wpF_t (i := 11) (oi := op21fc1092) (v := ?_) rfl (by kernel_rfl) (fun _ _ _ h => h) (Or.inl ⟨by rfl, ?_⟩) hHeld ?_; rotate_left
                    · intro w_ hSw_; (try dsimp only at hSw_); go_simp; (try with_reducible rfl)
                    try go_frame
                    refine wpF_t (i := 12) (oi := opd48f7b4e) (v := ?_) rfl (by kernel_rfl) (fun _ _ _ h => h) (Or.inl ⟨by rfl, ?_⟩) hHeld ?_; rotate_left
                    · intro w_ hSw_; (try dsimp only at hSw_); go_simp; (try with_reducible rfl)
                    try go_frame
                    refine wpF_t (i := 13) (oi := op9ab3f8d5) (v := ?_) rfl (by kernel_rfl) (fun _ _ _ h => h) (Or.inl ⟨by rfl, ?_⟩) hHeld ?_; rotate_left
                    · intro w_ hSw_; (try dsimp only at hSw_); go_simp; (try with_reducible rfl)
                    try go_frame
                    refine wpF_t (i := 14) (oi := op2e6e1360) (v := ?_) rfl (by kernel_rfl) (fun _ _ _ h => h) (Or.inl ⟨by rfl, ?_⟩) hHeld ?_; rotate_left
                    · intro w_ hSw_; (try dsimp only at hSw_); go_simp; (try with_reducible rfl)
                    try go_frame
                    refine wpF_t (i := 15) (oi := op7b71eb75) (v := ?_) rfl (by kernel_rfl) (fun _ _ _ h => h) (Or.inl ⟨by rfl, ?_⟩) hHeld ?_; rotate_left
                    · intro w_ hSw_; (try dsimp only at hSw_); go_simp; (try with_reducible rfl)
                    try go_frame
                    refine wpAnyF_done (by kernel_rfl) ?_ _
                    clear hHeld hWd3
                    have p0 := g0.c; have p1 := g1.c
                    obtain ⟨bk, hbk⟩ : ∃ bk, bestK (recL M most count) k = bk := ⟨_, rfl⟩
                    rw [hbk]
                    clear hbk
                    go_wp2
                    go_roundg (p - (k + 1))
                    case measure => omega
                    case rel => exact ⟨k + 1, rfl, by go_num, by omega, by rw [← HBK.out], qc, HB⟩
                  · obtain rfl : k = p := by omega
                    have hap : ¬ (a : Int) ≤ (x : Int) := by have := HE2.out (Nat.le_refl _) hkL; omega
                    have hap2 : ¬ a ≤ x := by omega
                    clear HE1 HE2 HEL HBK
                    go_wp2_with fail
                    replace qc := qc.drew; replace g0 := g0.drew; replace g1 := g1.drew; replace HB := below_drew HB
                    generalize hWd3 : wr.drew = wd3 at *
                    refine wp_region_F (fun w' => w'.cell? ⟨bq, oq + q, none⟩ = some (.int .i64 (x : Int)) ∧ w'.cell? ⟨b9, o9 + k * 2, none⟩ = some (.int .i64 a) ∧ w'.cell? ⟨b9, o9 + k * 2 + 1, none⟩ = some (.int .i64 s)) [] (by kernel_rfl) (by rw [hWd3]; exact ⟨qc.c, g0.c, g1.c⟩) (fun hHeld => ?_)
                    rw [hWd3] at hHeld ⊢
                    refine wpF_t (i := 0) (oi := op10f4d55c) (v := ?_) rfl (by kernel_rfl) (fun _ _ _ h => h) (Or.inl ⟨by rfl, ?_⟩) hHeld ?_; rotate_left
                    · intro w_ hSw_; (try dsimp only at hSw_); go_simp; (try with_reducible rfl)
                    try go_frame
                    refine wpF_t (i := 1) (oi := op882081f5) (v := ?_) rfl (by kernel_rfl) (fun _ _ _ h => h) (Or.inl ⟨by rfl, ?_⟩) hHeld ?_; rotate_left
                    · intro w_ hSw_; (try dsimp only at hSw_); go_simp; (try with_reducible rfl)
                    try go_frame
                    refine wpF_t (i := 2) (oi := opf8dbe0df) (v := ?_) rfl (by kernel_rfl) (fun _ _ _ h => h) (Or.inl ⟨by rfl, ?_⟩) hHeld ?_; rotate_left
                    · intro w_ hSw_; (try dsimp only at hSw_); go_simp; (try with_reducible rfl)
                    try go_frame
                    refine wpF_t (i := 3) (oi := opd19950b8) (v := ?_) rfl (by kernel_rfl) (fun _ _ _ h => h) (Or.inl ⟨by rfl, ?_⟩) hHeld ?_; rotate_left
                    · intro w_ hSw_; (try dsimp only at hSw_); go_simp; (try with_reducible rfl)
                    try go_frame
                    refine wpF_t (i := 4) (oi := opa1bac12a) (v := ?_) rfl (by kernel_rfl) (fun _ _ _ h => h) (Or.inl ⟨by rfl, ?_⟩) hHeld ?_; rotate_left
                    · intro w_ hSw_; (try dsimp only at hSw_); go_simp; (try with_reducible rfl)
                    try go_frame
                    refine wpF_t (i := 5) (oi := op8efd99b7) (v := ?_) rfl (by kernel_rfl) (fun _ _ _ h => h) (Or.inl ⟨by rfl, ?_⟩) hHeld ?_; rotate_left
                    · intro w_ hSw_; (try dsimp only at hSw_); go_simp; (try with_reducible rfl)
                    try go_frame
                    refine wpF_t (i := 6) (oi := op7a0b0497) (v := ?_) rfl (by kernel_rfl) (fun _ _ _ h => h) (Or.inl ⟨by rfl, ?_⟩) hHeld ?_; rotate_left
                    · intro w_ hSw_; (try dsimp only at hSw_); go_simp; (try with_reducible rfl)
                    try go_frame
                    refine wpF_t (i := 7) (oi := op50406d1e) (v := ?_) rfl (by kernel_rfl) (fun _ _ _ h => h) (Or.inl ⟨by rfl, ?_⟩) hHeld ?_; rotate_left
                    · intro w_ hSw_; (try dsimp only at hSw_); go_simp; (try with_reducible rfl)
                    try go_frame
                    refine wpF_t (i := 8) (oi := opb10cf9de) (v := ?_) rfl (by kernel_rfl) (fun _ _ _ h => h) (Or.inl ⟨by rfl, ?_⟩) hHeld ?_; rotate_left
                    · intro w_ hSw_; (try dsimp only at hSw_); go_simp; (try with_reducible rfl)
                    try go_frame
                    refine wpF_t (i := 9) (oi := opcdd8ed4c) (v := ?_) rfl (by kernel_rfl) (fun _ _ _ h => h) (Or.inl ⟨by rfl, ?_⟩) hHeld ?_; rotate_left
                    · intro w_ hSw_; (try dsimp only at hSw_); go_simp; (try with_reducible rfl)
                    try go_frame
                    refine wpF_t (i := 10) (oi := op05749f5d) (v := ?_) rfl (by kernel_rfl) (fun _ _ _ h => h) (Or.inl ⟨by rfl, ?_⟩) hHeld ?_; rotate_left
                    · intro w_ hSw_; (try dsimp only at hSw_); go_simp; (try with_reducible rfl)
                    try go_frame
                    refine wpF_t (i := 11) (oi := op21fc1092) (v := ?_) rfl (by kernel_rfl) (fun _ _ _ h => h) (Or.inl ⟨by rfl, ?_⟩) hHeld ?_; rotate_left
                    · intro w_ hSw_; (try dsimp only at hSw_); go_simp; (try with_reducible rfl)
                    try go_frame
                    refine wpF_t (i := 12) (oi := opd48f7b4e) (v := ?_) rfl (by kernel_rfl) (fun _ _ _ h => h) (Or.inl ⟨by rfl, ?_⟩) hHeld ?_; rotate_left
                    · intro w_ hSw_; (try dsimp only at hSw_); go_simp; (try with_reducible rfl)
                    try go_frame
                    refine wpF_t (i := 13) (oi := op9ab3f8d5) (v := ?_) rfl (by kernel_rfl) (fun _ _ _ h => h) (Or.inl ⟨by rfl, ?_⟩) hHeld ?_; rotate_left
                    · intro w_ hSw_; (try dsimp only at hSw_); go_simp; (try with_reducible rfl)
                    try go_frame
                    refine wpF_t (i := 14) (oi := op2e6e1360) (v := ?_) rfl (by kernel_rfl) (fun _ _ _ h => h) (Or.inl ⟨by rfl, ?_⟩) hHeld ?_; rotate_left
                    · intro w_ hSw_; (try dsimp only at hSw_); go_simp; (try with_reducible rfl)
                    try go_frame
                    refine wpF_t (i := 15) (oi := op7b71eb75) (v := ?_) rfl (by kernel_rfl) (fun _ _ _ h => h) (Or.inl ⟨by rfl, ?_⟩) hHeld ?_; rotate_left
                    · intro w_ hSw_; (try dsimp only at hSw_); go_simp; (try with_reducible rfl)
                    try go_frame
                    refine wpAnyF_done (by kernel_rfl) ?_ _
                    clear hHeld hWd3 g0 g1
                    have hfc := HFC.out
                    have hbest := HBE.out
                    rcases hfc with h | h | ⟨t, cy, h, h1, h2, h3, -⟩
                    · rw [h] at *
                      clear hbest
                      go_wp2
                      go_roundg (l.length - (q + 1))
                      case measure => omega
                      case rel => exact ⟨q + 1, rfl, by go_num, by omega, HB⟩
                    · rw [h] at *
                      clear hbest
                      go_wp2
                      go_roundg (l.length - (q + 1))
                      case measure => omega
                      case rel => exact ⟨q + 1, rfl, by go_num, by omega, HB⟩
                    · have hb0 := hbest (by rw [h])
                      rw [h] at hb0
                      rw [h]
                      dsimp only at hb0 ⊢
                      have hbt : ¬ bestK (recL M most count) k < (t : Int) := by omega
                      generalize bestK (recL M most count) k = bk at *
                      clear hbest hb0
                      go_wp2
                      go_roundg (l.length - (q + 1))
                      case measure => omega
                      case rel => exact ⟨q + 1, rfl, by go_num, by omega, HB⟩
                · obtain rfl : k = p := by omega
                  have hk1 : ¬ (k : Int) < ((recL M most count).length : Int) := by omega
                  have hkd1 : decide ((k : Int) < ((recL M most count).length : Int)) = false := decide_eq_false hk1
                  have hkd2 : decide (k < (recL M most count).length) = false := decide_eq_false hkL
                  go_wp2_with fail
                  replace qc := qc.drew; replace HB := below_drew HB
                  generalize hWd3 : wr.drew = wd3 at *
                  refine wp_region_F (fun w' => w'.cell? ⟨bq, oq + q, none⟩ = some (.int .i64 (x : Int))) [] (by kernel_rfl) (by rw [hWd3]; exact qc.c) (fun hHeld => ?_)
                  rw [hWd3] at hHeld ⊢
                  refine wpF_t (i := 0) (oi := op10f4d55c) (v := ?_) rfl (by kernel_rfl) (fun _ _ _ h => h) (Or.inl ⟨by rfl, ?_⟩) hHeld ?_; rotate_left
                  · intro w_ hSw_; (try dsimp only at hSw_); go_simp; (try with_reducible rfl)
                  try go_frame
                  refine wpF_t (i := 1) (oi := op882081f5) (v := ?_) rfl (by kernel_rfl) (fun _ _ _ h => h) (Or.inl ⟨by rfl, ?_⟩) hHeld ?_; rotate_left
                  · intro w_ hSw_; (try dsimp only at hSw_); go_simp; (try with_reducible rfl)
                  try go_frame
                  refine wpF_t (i := 2) (oi := opf8dbe0df) (v := ?_) rfl (by kernel_rfl) (fun _ _ _ h => h) (Or.inl ⟨by rfl, ?_⟩) hHeld ?_; rotate_left
                  · intro w_ hSw_; (try dsimp only at hSw_); go_simp; (try with_reducible rfl)
                  try go_frame
                  refine wpF_t (i := 3) (oi := opd19950b8) (v := ?_) rfl (by kernel_rfl) (fun _ _ _ h => h) (Or.inl ⟨by rfl, ?_⟩) hHeld ?_; rotate_left
                  · intro w_ hSw_; (try dsimp only at hSw_); go_simp; (try with_reducible rfl)
                  try go_frame
                  refine wpF_t (i := 4) (oi := opa1bac12a) (v := ?_) rfl (by kernel_rfl) (fun _ _ _ h => h) (Or.inl ⟨by rfl, ?_⟩) hHeld ?_; rotate_left
                  · intro w_ hSw_; (try dsimp only at hSw_); go_simp; (try with_reducible rfl)
                  try go_frame
                  refine wpF_t (i := 5) (oi := op8efd99b7) rfl (by kernel_rfl) (fun _ _ _ h => h) (Or.inr ⟨by rfl, rfl⟩) hHeld ?_
                  try go_frame
                  refine wpF_t (i := 6) (oi := op7a0b0497) rfl (by kernel_rfl) (fun _ _ _ h => h) (Or.inr ⟨by rfl, rfl⟩) hHeld ?_
                  try go_frame
                  refine wpF_t (i := 7) (oi := op50406d1e) rfl (by kernel_rfl) (fun _ _ _ h => h) (Or.inr ⟨by rfl, rfl⟩) hHeld ?_
                  try go_frame
                  refine wpF_t (i := 8) (oi := opb10cf9de) rfl (by kernel_rfl) (fun _ _ _ h => h) (Or.inr ⟨by rfl, rfl⟩) hHeld ?_
                  try go_frame
                  refine wpF_t (i := 9) (oi := opcdd8ed4c) rfl (by kernel_rfl) (fun _ _ _ h => h) (Or.inr ⟨by rfl, rfl⟩) hHeld ?_
                  try go_frame
                  refine wpF_t (i := 10) (oi := op05749f5d) rfl (by kernel_rfl) (fun _ _ _ h => h) (Or.inr ⟨by rfl, rfl⟩) hHeld ?_
                  try go_frame
                  refine wpF_t (i := 11) (oi := op21fc1092) rfl (by kernel_rfl) (fun _ _ _ h => h) (Or.inr ⟨by rfl, rfl⟩) hHeld ?_
                  try go_frame
                  refine wpF_t (i := 12) (oi := opd48f7b4e) rfl (by kernel_rfl) (fun _ _ _ h => h) (Or.inr ⟨by rfl, rfl⟩) hHeld ?_
                  try go_frame
                  refine wpF_t (i := 13) (oi := op9ab3f8d5) rfl (by kernel_rfl) (fun _ _ _ h => h) (Or.inr ⟨by rfl, rfl⟩) hHeld ?_
                  try go_frame
                  refine wpF_t (i := 14) (oi := op2e6e1360) rfl (by kernel_rfl) (fun _ _ _ h => h) (Or.inr ⟨by rfl, rfl⟩) hHeld ?_
                  try go_frame
                  refine wpF_t (i := 15) (oi := op7b71eb75) (v := ?_) rfl (by kernel_rfl) (fun _ _ _ h => h) (Or.inl ⟨by rfl, ?_⟩) hHeld ?_; rotate_left
                  · intro w_ hSw_; (try dsimp only at hSw_); go_simp; (try with_reducible rfl)
                  try go_frame
                  refine wpAnyF_done (by kernel_rfl) ?_ _
                  clear hHeld hWd3
                  have hfc := HFC.out
                  have hbest := HBE.out
                  rcases hfc with h | h | ⟨t, cy, h, h1, h2, h3, -⟩
                  · rw [h] at *
                    clear hbest
                    go_wp2
                    go_roundg (l.length - (q + 1))
                    case measure => omega
                    case rel => exact ⟨q + 1, rfl, by go_num, by omega, HB⟩
                  · rw [h] at *
                    clear hbest
                    go_wp2
                    go_roundg (l.length - (q + 1))
                    case measure => omega
                    case rel => exact ⟨q + 1, rfl, by go_num, by omega, HB⟩
                  · have hb0 := hbest (by rw [h])
                    rw [h] at hb0
                    rw [h]
                    dsimp only at hb0 ⊢
                    have hbt : ¬ bestK (recL M most count) k < (t : Int) := by omega
                    generalize bestK (recL M most count) k = bk at *
                    clear hbest hb0
                    go_wp2
                    go_roundg (l.length - (q + 1))
                    case measure => omega
                    case rel => exact ⟨q + 1, rfl, by go_num, by omega, HB⟩
        · have hq1 : ¬ (q : Int) < (l.length : Int) := by omega
          have HB := HB4.trans (HB.mono HB4.size)
          clear HB4 VR
          go_wp2_with fail
          (with_reducible refine (awake5_c _ (HT.out.below HB)).mono ?_)
          rintro e w20 ⟨he, hb⟩
          replace HB := below_step HB hb
          clear hb
          subst he
          go_wp2
          go_ret
          exact ⟨rfl, HB⟩
theorem FRk_law (M : Mp) (count most : Int) (v : Value) (w : World) (hM : IsM w v M) (ht : Tb w) (Al : Option Addr) (cl : Nat) (l : List Int) (hl : SlI w .i64 Al cl l) : Calls Tryd.prog 5 #[v, .int .i64 count, .int .i64 most, .slice Al l.length cl] w fun e w' => e = .returned (.bool true) ∧ Below w.heap.size w w' := by
  by_cases hok : okB M = true
  · by_cases hb : count < 0 ∨ 20000 < count ∨ most < 0 ∨ 20000 < most
    · exact FRk_arg M count most v w hM ht Al cl l hl (okB_iff.1 hok) hb
    · obtain ⟨a, rfl⟩ := Int.eq_ofNat_of_zero_le (show 0 ≤ most by omega)
      obtain ⟨b, rfl⟩ := Int.eq_ofNat_of_zero_le (show 0 ≤ count by omega)
      by_cases hc : 2000000 < b * (a + 1) ∨ 100 < l.length
      · exact FRk_big M b a v w hM ht Al cl l hl (okB_iff.1 hok) (by omega) (by omega) hc
      · exact FRk_ok M b a v w hM ht Al cl l hl (okB_iff.1 hok) (by omega) (by omega) (fun h => hc (.inl h)) (fun h => hc (.inr h))
  · exact FRk_bad M count most v w hM ht Al cl l hl (by revert hok; cases okB M <;> simp)
end Go.Proofs.YtiaeeclmlchpoaaDoor
