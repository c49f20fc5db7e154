/-
  A part of the engine that walks the functions' codes, and of the functions' contracts. Conditions: those that each theorem names.
-/
import Derived.Test.YtnjpcpdmnadadaaGreatK10
import Derived.Below
import Derived.Calls
import Derived.ChangeKeysEq
import Derived.DataReads
import Derived.Deep.LoopGhost
import Derived.Laws.AppendOwn
import Derived.Laws.Cells
import Derived.Laws.CopyRow
import Derived.Laws.Entries
import Derived.Laws.MakeOwn
import Derived.Laws.Rows
import Derived.Laws.StructEq
import Derived.Laws.Tables
import Derived.Lib.AppendZerosOnto
import Derived.MapKept
import Derived.Orders
import Derived.ProofKit
import Derived.ScopeJumps
import Derived.Tactics2
import Derived.WalkSpells
set_option linter.unusedSimpArgs false
set_option linter.unusedVariables false
set_option linter.unusedSectionVars false
namespace Go.Eng
def cd256:AFn:=⟨49,[.tmp 6,.tmp 7],.seq (.reg [qN (.set 6 (.mov (.c (.i .i64 0)))),qN (.set 7 (.mov (.c (.b false))))]) (.seq (.reg [qN (qm 12 0),qN (.set 13 (.len (qt 12))),qN (qm 8 13)]) (.seq (.reg [qN (qm 14 8),qN (.set 9 (.mov (.c (.i .i64 0)))),qN (qm 10 14)]) (.seq (.block 0 (.loop (.seq (.seq (.reg [qN (qm 15 9),qN (qm 16 10),qN (qb 17 .lss 15 16)]) (.cond (qt 17) .skip (.exit 0))) (.block 1 (.seq (.reg [qN (qm 18 9),qN (qm 19 10),qN (qb 20 .add 18 19),qN (.set 21 (.conv .u64 (qt 20))),qN (.set 22 (.bin .shr .num (qt 21) (.c (.i .u64 1)))),qN (.set 23 (.conv .i64 (qt 22))),qN (qm 11 23)]) (.seq (.reg [qN (qm 24 2),qN (qm 25 0),qN (qm 26 11),qN (qi 27 25 26 8),qN (.set 28 (.load (some 8) (qt 27))),qN (qm 29 1),qN (.calv (some 30) (qt 24) [qt 28,qt 29]),qN (qc 31 .lss 30 0)]) (.cond (qt 31) (.reg [qN (qm 32 11),qN (qc 33 .add 32 1),qN (qm 9 33)]) (.reg [qN (qm 34 11),qN (qm 10 34)])))))))) (.seq (.reg [qN (qm 35 9),qN (qm 36 9),qN (qm 37 8),qN (qb 38 .lss 36 37),qN (qm 39 38),qT 39 (qm 40 2),qT 39 (qm 41 0),qT 39 (qm 42 9),qT 39 (qi 43 41 42 8),qT 39 (.set 44 (.load (some 8) (qt 43))),qT 39 (qm 45 1),qT 39 (.calv (some 46) (qt 40) [qt 44,qt 45]),qT 39 (qc 47 .eql 46 0),qN (qp 48 39 47 false),qN (qm 6 35),qN (qm 7 48)]) .ret))))⟩
def cd257:AFn:=⟨9,[.tmp 4],.seq (.reg [qN (.box 2 8 (qt 0)),qN (.set 4 (.mov (.c (.i .i64 0))))]) (.seq (.reg [qN (qf 5 2 0),qN (ql 6 5),qN (qm 7 1),qN (qb 8 .sub 6 7),qN (qm 4 8)]) .ret)⟩
def cd258:AFn:=⟨95,[.tmp 6],.seq (.reg [qN (.set 6 (.mov (.c (.s0 8))))]) (.seq (.reg [qN (qm 10 0),qN (qm 11 1),qN (.set 12 (.slc (qt 10) (some (qt 11)) none none 8))]) (.seq (.reg [qN (qm 13 2),qN (.set 14 (.len (qt 13))),qN (qm 7 14)]) (.seq (.seq (.reg [qN (qm 15 7),qN (qc 16 .eql 15 0)]) (.cond (qt 16) (.seq (.reg [qN (qm 17 0),qN (qm 6 17)]) .ret) .skip)) (.seq (.reg [qN (qm 18 0),qN (.set 19 (.len (qt 18))),qN (qm 8 19)]) (.seq (.seq (.reg [qN (qm 20 1),qN (qm 21 8),qN (qb 22 .eql 20 21)]) (.cond (qt 22) (.seq (.reg [qN (qm 23 0),qN (qm 24 2),qN (.app 25 (qt 23) (qt 24) 8),qN (qm 6 25)]) .ret) .skip)) (.seq (.seq (.reg [qN (qm 26 8),qN (qm 27 7),qN (qb 28 .add 26 27),qN (qm 29 0),qN (.set 30 (.cap (qt 29))),qN (qb 31 .gtr 28 30)]) (.cond (qt 31) (.seq (.reg [qN (qm 32 0),qN (qm 33 1),qN (.set 34 (.slc (qt 32) none (some (qt 33)) none 8)),qN (qm 35 8),qN (qm 36 7),qN (qb 37 .add 35 36),qN (qm 38 1),qN (qb 39 .sub 37 38),qN (.appz 40 (qt 34) (qt 39) [(1,.i .i64 0),(1,.s0 1),(1,.i .i64 0),(1,.i .i64 0),(1,.i .i64 0),(1,.i .i64 0),(1,.i .i64 0),(1,.i .i64 0)] 8),qN (qm 9 40)]) (.seq (.reg [qN (qm 41 9),qN (qm 42 1),qN (.set 43 (.slc (qt 41) (some (qt 42)) none none 8)),qN (qm 44 2),qN (.bad (some 45))]) (.seq (.regd 0 [qN (qm 46 9),qN (qm 47 1),qN (qm 48 7),qN (qb 49 .add 47 48),qN (.set 50 (.slc (qt 46) (some (qt 49)) none none 8)),qN (qm 51 0),qN (qm 52 1),qN (.set 53 (.slc (qt 51) (some (qt 52)) none none 8)),qN (.bad (some 54))]) (.seq (.reg [qN (qm 55 9),qN (qm 6 55)]) .ret)))) .skip)) (.seq (.reg [qN (qm 56 0),qN (qm 57 8),qN (qm 58 7),qN (qb 59 .add 57 58),qN (.set 60 (.slc (qt 56) none (some (qt 59)) none 8)),qN (qm 0 60)]) (.seq (.seq (.reg [qN (qm 61 2),qN (qm 62 0),qN (qm 63 1),qN (qm 64 7),qN (qb 65 .add 63 64),qN (.set 66 (.slc (qt 62) (some (qt 65)) none none 8)),qN (.bad (some 67)),qN (.set 68 (.not (qt 67)))]) (.cond (qt 68) (.seq (.regd 0 [qN (qm 69 0),qN (qm 70 1),qN (qm 71 7),qN (qb 72 .add 70 71),qN (.set 73 (.slc (qt 69) (some (qt 72)) none none 8)),qN (qm 74 0),qN (qm 75 1),qN (.set 76 (.slc (qt 74) (some (qt 75)) none none 8)),qN (.bad (some 77))]) (.seq (.reg [qN (qm 78 0),qN (qm 79 1),qN (.set 80 (.slc (qt 78) (some (qt 79)) none none 8)),qN (qm 81 2),qN (.bad (some 82))]) (.seq (.reg [qN (qm 83 0),qN (qm 6 83)]) .ret))) .skip)) (.seq (.reg [qN (qm 84 0),qN (qm 85 8),qN (.set 86 (.slc (qt 84) (some (qt 85)) none none 8)),qN (qm 87 2),qN (.bad (some 88))]) (.seq (.reg [qN (qm 89 0),qN (qm 90 1),qN (.set 91 (.slc (qt 89) (some (qt 90)) none none 8)),qN (qm 92 7),qN (.call (some 93) 274 [qt 91,qt 92])]) (.seq (.reg [qN (qm 94 0),qN (qm 6 94)]) .ret)))))))))))⟩
def cd259:AFn:=⟨10,[.tmp 4],.seq (.reg [qN (.set 4 (.mov (.c (.s0 4))))]) (.seq (.reg [qN (qm 5 0),qN (qm 6 1),qN (.set 7 (.conv .i64 (qt 6))),qN (.set 8 (.build [(1,.i .u8 0),(1,.i .i64 0),(1,.i .i64 0),(1,.s0 1)] [(0,(1,.c (.i .u8 1))),(1,(1,qt 5)),(2,(1,qt 7))])),qN (.mksl 9 4 1 [(1,.i .u8 0),(1,.i .i64 0),(1,.i .i64 0),(1,.s0 1)] [(0,(4,qt 8))]),qN (qm 4 9)]) .ret)⟩
def cd260:AFn:=⟨81,[.tmp 4,.tmp 5,.tmp 6],.seq (.reg [qN (.set 4 (.mov (.c (.i .i64 0)))),qN (.set 5 (.mov (.c (.i .i64 0)))),qN (.set 6 (.mov (.c (.b false))))]) (.seq (.seq (.regd 1 [qN (qm 12 0),qN (.set 13 (.nilck (qt 12))),qN (qf 14 13 0),qN (qf 15 14 0),qN (.set 16 (.load (some 6) (qt 15))),qN (qm 17 1),qN (.set 18 (.nilck (qt 17))),qN (qf 19 18 4),qN (ql 20 19),qN (.callp 21 76 [qt 16,qt 20]),qN (qm 11 21),qN (.set 22 (.ext (qt 11) 0)),qN (.set 23 (.ext (qt 11) 1)),qN (.gal 7 1 [(1,.s0 1),(1,.s0 1),(1,.s0 3),(1,.i .i64 0)]),qN (.store 4 (qt 7) (qt 22)),qN (qm 8 23)]) (.seq (.regd 0 [qN (qm 24 8),qN (qc 25 .eql 24 0),qN (qm 26 25),qT 26 (qm 27 1),qT 26 (.set 28 (.nilck (qt 27))),qT 26 (qf 29 28 5),qT 26 (ql 30 29),qT 26 (qf 31 7 0),qT 26 (ql 32 31),qT 26 (.set 33 (.len (qt 32))),qT 26 (qc 34 .sub 33 1),qT 26 (qb 35 .lss 30 34),qN (qp 36 26 35 false)]) (.cond (qt 36) (.seq (.regd 0 [qN (qm 37 1),qN (.set 38 (.nilck (qt 37))),qN (qf 39 38 4),qN (ql 40 39),qN (qm 41 1),qN (.set 42 (.nilck (qt 41))),qN (qf 43 42 5),qN (ql 44 43),qN (qc 45 .add 44 1),qN (qm 4 40),qN (qm 5 45),qN (.set 6 (.mov (.c (.b true))))]) .ret) .skip))) (.seq (.regd 0 [qN (qm 46 0),qN (.set 47 (.nilck (qt 46))),qN (qf 48 47 0),qN (.set 49 (.load (some 9) (qt 48))),qN (qm 50 1),qN (.set 51 (.nilck (qt 50))),qN (qf 52 51 1),qN (ql 53 52),qN (.set 54 (.iadr (qt 53) (.c (.i .i64 0)) 1 none)),qN (ql 55 54),qN (qm 56 1),qN (.set 57 (.nilck (qt 56))),qN (qf 58 57 3),qN (ql 59 58),qN (.calle (some 60) 251 [qt 49,qt 55,qt 59]),qN (qm 9 60)]) (.seq (.seq (.reg [qN (qm 61 9),qN (qc 62 .eql 61 0)]) (.cond (qt 62) (.seq (.reg [qN (.set 4 (.mov (.c (.i .i64 0)))),qN (.set 5 (.mov (.c (.i .i64 0)))),qN (.set 6 (.mov (.c (.b false))))]) .ret) .skip)) (.seq (.seq (.reg [qN (qm 63 0),qN (.set 64 (.nilck (qt 63))),qN (qf 65 64 0),qN (.set 66 (.load (some 9) (qt 65))),qN (qm 67 9),qN (.call (some 68) 275 [qt 66,qt 67]),qN (qm 10 68)]) (.seq (.reg [qN (qm 69 10),qN (qc 70 .gtr 69 0)]) (.cond (qt 70) (.seq (.reg [qN (qm 71 10),qN (qm 4 71),qN (.set 5 (.mov (.c (.i .i64 0)))),qN (.set 6 (.mov (.c (.b true))))]) .ret) .skip))) (.seq (.regd 0 [qN (qm 72 1),qN (.set 73 (.nilck (qt 72))),qN (qf 74 73 7),qN (ql 75 74),qN (qm 76 1),qN (.set 77 (.nilck (qt 76))),qN (qf 78 77 6),qN (ql 79 78),qN (qc 80 .gtr 79 0),qN (qm 4 75),qN (.set 5 (.mov (.c (.i .i64 0)))),qN (qm 6 80)]) .ret)))))⟩
def cd261:AFn:=⟨22,[.tmp 4],.seq (.reg [qN (.box 2 9 (qt 0)),qN (.set 4 (.mov (.c (.i .i64 0))))]) (.seq (.seq (.reg [qN (qf 7 2 6),qN (qf 8 7 1),qN (ql 9 8),qN (.set 10 (.len (qt 9))),qN (.set 11 (.mov (.c (.i .i64 0))))]) (.block 0 (.loop (.seq (.reg [qN (qb 12 .lss 11 10)]) (.seq (.cond (qt 12) .skip (.exit 0)) (.seq (.block 1 (.seq (.reg [qN (qi 13 9 11 3),qN (.set 14 (.load (some 3) (qt 13))),qN (.alloc 6 [(1,.i .i64 0),(1,.i .i64 0),(1,.i .i64 0)]),qN (.store 3 (qt 6) (qt 14))]) (.seq (.reg [qN (qf 15 6 0),qN (ql 16 15),qN (qm 17 1),qN (qb 18 .eql 16 17)]) (.cond (qt 18) (.seq (.reg [qN (qf 19 6 1),qN (ql 20 19),qN (qm 4 20)]) .ret) .skip)))) (.reg [qN (qc 21 .add 11 1),qN (qm 11 21)]))))))) (.seq (.reg [qN (.set 4 (.mov (.c (.i .i64 0))))]) .ret))⟩
def cd262:AFn:=⟨95,[.tmp 6],.seq (.reg [qN (.set 6 (.mov (.c (.s0 1))))]) (.seq (.reg [qN (qm 10 0),qN (qm 11 1),qN (.set 12 (.slc (qt 10) (some (qt 11)) none none 1))]) (.seq (.reg [qN (qm 13 2),qN (.set 14 (.len (qt 13))),qN (qm 7 14)]) (.seq (.seq (.reg [qN (qm 15 7),qN (qc 16 .eql 15 0)]) (.cond (qt 16) (.seq (.reg [qN (qm 17 0),qN (qm 6 17)]) .ret) .skip)) (.seq (.reg [qN (qm 18 0),qN (.set 19 (.len (qt 18))),qN (qm 8 19)]) (.seq (.seq (.reg [qN (qm 20 1),qN (qm 21 8),qN (qb 22 .eql 20 21)]) (.cond (qt 22) (.seq (.reg [qN (qm 23 0),qN (qm 24 2),qN (.app 25 (qt 23) (qt 24) 1),qN (qm 6 25)]) .ret) .skip)) (.seq (.seq (.reg [qN (qm 26 8),qN (qm 27 7),qN (qb 28 .add 26 27),qN (qm 29 0),qN (.set 30 (.cap (qt 29))),qN (qb 31 .gtr 28 30)]) (.cond (qt 31) (.seq (.reg [qN (qm 32 0),qN (qm 33 1),qN (.set 34 (.slc (qt 32) none (some (qt 33)) none 1)),qN (qm 35 8),qN (qm 36 7),qN (qb 37 .add 35 36),qN (qm 38 1),qN (qb 39 .sub 37 38),qN (.appz 40 (qt 34) (qt 39) [(1,.i .i64 0)] 1),qN (qm 9 40)]) (.seq (.reg [qN (qm 41 9),qN (qm 42 1),qN (.set 43 (.slc (qt 41) (some (qt 42)) none none 1)),qN (qm 44 2),qN (.bad (some 45))]) (.seq (.regd 0 [qN (qm 46 9),qN (qm 47 1),qN (qm 48 7),qN (qb 49 .add 47 48),qN (.set 50 (.slc (qt 46) (some (qt 49)) none none 1)),qN (qm 51 0),qN (qm 52 1),qN (.set 53 (.slc (qt 51) (some (qt 52)) none none 1)),qN (.bad (some 54))]) (.seq (.reg [qN (qm 55 9),qN (qm 6 55)]) .ret)))) .skip)) (.seq (.reg [qN (qm 56 0),qN (qm 57 8),qN (qm 58 7),qN (qb 59 .add 57 58),qN (.set 60 (.slc (qt 56) none (some (qt 59)) none 1)),qN (qm 0 60)]) (.seq (.seq (.reg [qN (qm 61 2),qN (qm 62 0),qN (qm 63 1),qN (qm 64 7),qN (qb 65 .add 63 64),qN (.set 66 (.slc (qt 62) (some (qt 65)) none none 1)),qN (.bad (some 67)),qN (.set 68 (.not (qt 67)))]) (.cond (qt 68) (.seq (.regd 0 [qN (qm 69 0),qN (qm 70 1),qN (qm 71 7),qN (qb 72 .add 70 71),qN (.set 73 (.slc (qt 69) (some (qt 72)) none none 1)),qN (qm 74 0),qN (qm 75 1),qN (.set 76 (.slc (qt 74) (some (qt 75)) none none 1)),qN (.bad (some 77))]) (.seq (.reg [qN (qm 78 0),qN (qm 79 1),qN (.set 80 (.slc (qt 78) (some (qt 79)) none none 1)),qN (qm 81 2),qN (.bad (some 82))]) (.seq (.reg [qN (qm 83 0),qN (qm 6 83)]) .ret))) .skip)) (.seq (.reg [qN (qm 84 0),qN (qm 85 8),qN (.set 86 (.slc (qt 84) (some (qt 85)) none none 1)),qN (qm 87 2),qN (.bad (some 88))]) (.seq (.reg [qN (qm 89 0),qN (qm 90 1),qN (.set 91 (.slc (qt 89) (some (qt 90)) none none 1)),qN (qm 92 7),qN (.call (some 93) 277 [qt 91,qt 92])]) (.seq (.reg [qN (qm 94 0),qN (qm 6 94)]) .ret)))))))))))⟩
def cd263:AFn:=⟨42,[.tmp 4],.seq (.reg [qN (.set 4 (.mov (.c (.s0 8))))]) (.seq (.reg [qN (qm 8 0),qN (qm 9 1),qN (.call (some 10) 271 [qt 8,qt 9]),qN (qm 5 10)]) (.seq (.seq (.reg [qN (qm 11 5),qN (.set 12 (.bin .eql .num (qt 11) (.c (.i .i64 (-1)))))]) (.cond (qt 12) (.seq (.reg [qN (qm 13 0),qN (qm 4 13)]) .ret) .skip)) (.seq (.seq (.reg [qN (qm 14 5),qN (qc 15 .add 14 1),qN (qm 6 15)]) (.block 0 (.loop (.seq (.seq (.reg [qN (qm 16 6),qN (qm 17 0),qN (.set 18 (.len (qt 17))),qN (qb 19 .lss 16 18)]) (.cond (qt 19) .skip (.exit 0))) (.seq (.block 1 (.seq (.reg [qN (qm 22 0),qN (qm 23 6),qN (qi 24 22 23 8),qN (.set 25 (.load (some 8) (qt 24))),qN (.alloc 7 [(1,.i .i64 0),(1,.s0 1),(1,.i .i64 0),(1,.i .i64 0),(1,.i .i64 0),(1,.i .i64 0),(1,.i .i64 0),(1,.i .i64 0)]),qN (.store 8 (qt 7) (qt 25))]) (.seq (.reg [qN (qm 26 1),qN (.set 27 (.load (some 8) (qt 7))),qN (.calv (some 28) (qt 26) [qt 27]),qN (.set 29 (.not (qt 28)))]) (.cond (qt 29) (.seq (.reg [qN (qm 30 0),qN (qm 31 5),qN (.set 32 (.load (some 8) (qt 7))),qN (qi 33 30 31 8),qN (.store 8 (qt 33) (qt 32))]) (.reg [qN (qm 34 5),qN (qc 35 .add 34 1),qN (qm 5 35)])) .skip)))) (.reg [qN (qm 20 6),qN (qc 21 .add 20 1),qN (qm 6 21)])))))) (.seq (.reg [qN (qm 36 0),qN (qm 37 5),qN (.set 38 (.slc (qt 36) (some (qt 37)) none none 8)),qN (.clr (qt 38) [(1,.i .i64 0),(1,.s0 1),(1,.i .i64 0),(1,.i .i64 0),(1,.i .i64 0),(1,.i .i64 0),(1,.i .i64 0),(1,.i .i64 0)] 8)]) (.seq (.reg [qN (qm 39 0),qN (qm 40 5),qN (.set 41 (.slc (qt 39) none (some (qt 40)) none 8)),qN (qm 4 41)]) .ret)))))⟩
def cd264:AFn:=⟨9,[.tmp 3],.seq (.reg [qN (.box 2 8 (qt 0)),qN (.set 3 (.mov (.c (.b false))))]) (.seq (.reg [qN (qf 4 2 0),qN (ql 5 4),qN (qf 6 1 1),qN (ql 7 6),qN (qb 8 .eql 5 7),qN (qm 3 8)]) .ret)⟩
def cd265:AFn:=⟨19,[.tmp 4],.seq (.reg [qN (.box 3 4 (qt 1)),qN (.set 4 (.mov (.c (.i .i64 0))))]) (.seq (.seq (.reg [qN (qm 6 0),qN (.set 7 (.len (qt 6))),qN (.set 8 (.mov (.c (.i .i64 0))))]) (.block 0 (.loop (.seq (.reg [qN (qb 9 .lss 8 7)]) (.seq (.cond (qt 9) .skip (.exit 0)) (.seq (.block 1 (.seq (.reg [qN (qm 10 8),qN (qm 5 10)]) (.seq (.regd 0 [qN (.set 11 (.load (some 4) (qt 3))),qN (qm 12 0),qN (qm 13 5),qN (qi 14 12 13 4),qN (.set 15 (.load (some 4) (qt 14))),qN (.set 16 (.bin .eql (.flat [true,true,true,true]) (qt 11) (qt 15)))]) (.cond (qt 16) (.seq (.reg [qN (qm 17 5),qN (qm 4 17)]) .ret) .skip)))) (.reg [qN (qc 18 .add 8 1),qN (qm 8 18)]))))))) (.seq (.reg [qN (.set 4 (.mov (.c (.i .i64 (-1)))))]) .ret))⟩
def cd266:AFn:=⟨19,[.tmp 4],.seq (.reg [qN (.set 4 (.mov (.c (.i .i64 0))))]) (.seq (.seq (.reg [qN (qm 6 0),qN (.set 7 (.len (qt 6))),qN (.set 8 (.mov (.c (.i .i64 0))))]) (.block 0 (.loop (.seq (.reg [qN (qb 9 .lss 8 7)]) (.seq (.cond (qt 9) .skip (.exit 0)) (.seq (.block 1 (.seq (.reg [qN (qm 10 8),qN (qm 5 10)]) (.seq (.reg [qN (qm 11 1),qN (qm 12 0),qN (qm 13 5),qN (qi 14 12 13 3),qN (.set 15 (.load (some 3) (qt 14))),qN (.calv (some 16) (qt 11) [qt 15])]) (.cond (qt 16) (.seq (.reg [qN (qm 17 5),qN (qm 4 17)]) .ret) .skip)))) (.reg [qN (qc 18 .add 8 1),qN (qm 8 18)]))))))) (.seq (.reg [qN (.set 4 (.mov (.c (.i .i64 (-1)))))]) .ret))⟩
def cd267:AFn:=⟨8,[.tmp 3],.seq (.reg [qN (.box 2 2 (qt 0)),qN (.set 3 (.mov (.c (.b false))))]) (.seq (.reg [qN (qf 4 2 0),qN (ql 5 4),qN (ql 6 1),qN (qb 7 .eql 5 6),qN (qm 3 7)]) .ret)⟩
def cd268:AFn:=⟨9,[.tmp 4],.seq (.reg [qN (.set 4 (.mov (.c (.b false))))]) (.seq (.reg [qN (qm 5 0),qN (qm 6 1),qN (.call (some 7) 278 [qt 5,qt 6]),qN (qc 8 .geq 7 0),qN (qm 4 8)]) .ret)⟩
def cd269:AFn:=⟨8,[.tmp 3],.seq (.reg [qN (.box 2 2 (qt 0)),qN (.set 3 (.mov (.c (.b false))))]) (.seq (.reg [qN (qf 4 2 0),qN (ql 5 4),qN (ql 6 1),qN (qb 7 .eql 5 6),qN (qm 3 7)]) .ret)⟩
def cd270:AFn:=⟨44,[.tmp 6,.tmp 7],.seq (.reg [qN (.box 3 6 (qt 0)),qN (.set 6 (.mov (.c (.i .i64 0)))),qN (.set 7 (.mov (.c (.i .i64 0))))]) (.seq (.seq (.reg [qN (.set 10 (.load (some 6) (qt 3))),qN (.call (some 11) 95 [qt 10]),qN (qm 7 11)]) (.seq (.reg [qN (qm 12 7),qN (qc 13 .neq 12 0)]) (.cond (qt 13) .ret .skip))) (.seq (.seq (.reg [qN (qf 15 3 2),qN (ql 16 15),qN (qm 17 1),qN (qm 18 2),qN (.call (some 19) 24 [qt 16,qt 17,qt 18]),qN (qm 14 19),qN (.set 20 (.ext (qt 14) 0)),qN (.set 21 (.ext (qt 14) 1)),qN (qm 7 21)]) (.seq (.reg [qN (qm 22 7),qN (qc 23 .neq 22 0)]) (.cond (qt 23) .ret .skip))) (.seq (.seq (.reg [qN (qf 24 3 4),qN (ql 25 24),qN (.set 26 (.len (qt 25))),qN (.set 27 (.mov (.c (.i .i64 0))))]) (.block 0 (.loop (.seq (.reg [qN (qb 28 .lss 27 26)]) (.seq (.cond (qt 28) .skip (.exit 0)) (.seq (.block 1 (.seq (.reg [qN (qi 29 25 27 3),qN (.set 30 (.load (some 3) (qt 29))),qN (.alloc 9 [(1,.i .i64 0),(1,.i .i64 0),(1,.i .i64 0)]),qN (.store 3 (qt 9) (qt 30))]) (.seq (.reg [qN (qf 31 9 1),qN (ql 32 31),qN (qm 33 1),qN (qb 34 .eql 32 33),qN (qm 35 34),qT 35 (qf 36 9 2),qT 35 (ql 37 36),qT 35 (qm 38 2),qT 35 (qb 39 .eql 37 38),qN (qp 40 35 39 false)]) (.cond (qt 40) (.reg [qN (qf 41 9 0),qN (ql 42 41),qN (qm 6 42)]) .skip)))) (.reg [qN (qc 43 .add 27 1),qN (qm 27 43)]))))))) .ret)))⟩
def cd271:AFn:=⟨19,[.tmp 4],.seq (.reg [qN (.set 4 (.mov (.c (.i .i64 0))))]) (.seq (.seq (.reg [qN (qm 6 0),qN (.set 7 (.len (qt 6))),qN (.set 8 (.mov (.c (.i .i64 0))))]) (.block 0 (.loop (.seq (.reg [qN (qb 9 .lss 8 7)]) (.seq (.cond (qt 9) .skip (.exit 0)) (.seq (.block 1 (.seq (.reg [qN (qm 10 8),qN (qm 5 10)]) (.seq (.reg [qN (qm 11 1),qN (qm 12 0),qN (qm 13 5),qN (qi 14 12 13 8),qN (.set 15 (.load (some 8) (qt 14))),qN (.calv (some 16) (qt 11) [qt 15])]) (.cond (qt 16) (.seq (.reg [qN (qm 17 5),qN (qm 4 17)]) .ret) .skip)))) (.reg [qN (qc 18 .add 8 1),qN (qm 8 18)]))))))) (.seq (.reg [qN (.set 4 (.mov (.c (.i .i64 (-1)))))]) .ret))⟩
def cd272:AFn:=⟨8,[.tmp 3],.seq (.reg [qN (.box 2 8 (qt 0)),qN (.set 3 (.mov (.c (.b false))))]) (.seq (.reg [qN (qf 4 2 0),qN (ql 5 4),qN (ql 6 1),qN (qb 7 .eql 5 6),qN (qm 3 7)]) .ret)⟩
def cd274:AFn:=⟨10,[],.reg [qN (qm 4 0),qN (qm 5 0),qN (.set 6 (.len (qt 5))),qN (qm 7 1),qN (qb 8 .sub 6 7),qN (.call (some 9) 279 [qt 4,qt 8])]⟩
def cd275:AFn:=⟨39,[.tmp 4],.seq (.reg [qN (.box 2 9 (qt 0)),qN (.set 4 (.mov (.c (.i .i64 0))))]) (.seq (.seq (.reg [qN (qf 9 2 0),qN (qf 10 9 5),qN (ql 11 10),qN (.set 12 (.len (qt 11))),qN (.set 13 (.mov (.c (.i .i64 0))))]) (.block 0 (.loop (.seq (.reg [qN (qb 14 .lss 13 12)]) (.seq (.cond (qt 14) .skip (.exit 0)) (.seq (.block 1 (.seq (.reg [qN (qi 15 11 13 7),qN (.set 16 (.load (some 7) (qt 15))),qN (.alloc 6 [(1,.i .i64 0),(1,.i .i64 0),(1,.i .i64 0),(1,.s0 1),(1,.s0 1),(1,.s0 2),(1,.i .i64 0)]),qN (.store 7 (qt 6) (qt 16))]) (.seq (.seq (.reg [qN (qf 17 6 1),qN (ql 18 17),qN (qm 19 1),qN (qb 20 .neq 18 19)]) (.cond (qt 20) (.exit 1) .skip)) (.seq (.reg [qN (qf 22 2 0),qN (.set 23 (.load (some 6) (qt 22))),qN (qf 24 2 6),qN (.set 25 (.load (some 3) (qt 24))),qN (qf 26 6 0),qN (ql 27 26),qN (.call (some 28) 198 [qt 23,qt 25,qt 27]),qN (qm 21 28),qN (.set 29 (.ext (qt 21) 0)),qN (.set 30 (.ext (qt 21) 1)),qN (qm 7 29),qN (qm 8 30)]) (.seq (.reg [qN (qm 31 8),qN (qc 32 .eql 31 0),qN (qm 33 32),qT 33 (qm 34 7),qN (qp 35 33 34 false)]) (.cond (qt 35) (.seq (.reg [qN (qf 36 6 0),qN (ql 37 36),qN (qm 4 37)]) .ret) .skip)))))) (.reg [qN (qc 38 .add 13 1),qN (qm 13 38)]))))))) (.seq (.reg [qN (.set 4 (.mov (.c (.i .i64 0))))]) .ret))⟩
def cd277:AFn:=⟨10,[],.reg [qN (qm 4 0),qN (qm 5 0),qN (.set 6 (.len (qt 5))),qN (qm 7 1),qN (qb 8 .sub 6 7),qN (.call (some 9) 280 [qt 4,qt 8])]⟩
def cd278:AFn:=⟨19,[.tmp 4],.seq (.reg [qN (.set 4 (.mov (.c (.i .i64 0))))]) (.seq (.seq (.reg [qN (qm 6 0),qN (.set 7 (.len (qt 6))),qN (.set 8 (.mov (.c (.i .i64 0))))]) (.block 0 (.loop (.seq (.reg [qN (qb 9 .lss 8 7)]) (.seq (.cond (qt 9) .skip (.exit 0)) (.seq (.block 1 (.seq (.reg [qN (qm 10 8),qN (qm 5 10)]) (.seq (.reg [qN (qm 11 1),qN (qm 12 0),qN (qm 13 5),qN (qi 14 12 13 2),qN (.set 15 (.load (some 2) (qt 14))),qN (.calv (some 16) (qt 11) [qt 15])]) (.cond (qt 16) (.seq (.reg [qN (qm 17 5),qN (qm 4 17)]) .ret) .skip)))) (.reg [qN (qc 18 .add 8 1),qN (qm 8 18)]))))))) (.seq (.reg [qN (.set 4 (.mov (.c (.i .i64 (-1)))))]) .ret))⟩
def cd279:AFn:=⟨14,[],.seq (.reg [qN (qm 4 0),qN (qm 5 1),qN (.set 6 (.slc (qt 4) none (some (qt 5)) none 8)),qN (.call (some 7) 281 [qt 6])]) (.seq (.reg [qN (qm 8 0),qN (qm 9 1),qN (.set 10 (.slc (qt 8) (some (qt 9)) none none 8)),qN (.call (some 11) 281 [qt 10])]) (.reg [qN (qm 12 0),qN (.call (some 13) 281 [qt 12])]))⟩
def cd280:AFn:=⟨14,[],.seq (.reg [qN (qm 4 0),qN (qm 5 1),qN (.set 6 (.slc (qt 4) none (some (qt 5)) none 1)),qN (.call (some 7) 282 [qt 6])]) (.seq (.reg [qN (qm 8 0),qN (qm 9 1),qN (.set 10 (.slc (qt 8) (some (qt 9)) none none 1)),qN (.call (some 11) 282 [qt 10])]) (.reg [qN (qm 12 0),qN (.call (some 13) 282 [qt 12])]))⟩
def cd281:AFn:=⟨28,[],.seq (.reg [qN (qm 4 0),qN (.set 5 (.len (qt 4))),qN (qc 6 .sub 5 1),qN (.set 2 (.mov (.c (.i .i64 0)))),qN (qm 3 6)]) (.block 0 (.loop (.seq (.seq (.reg [qN (qm 7 2),qN (qm 8 3),qN (qb 9 .lss 7 8)]) (.cond (qt 9) .skip (.exit 0))) (.seq (.block 1 (.regd 0 [qN (qm 14 0),qN (qm 15 2),qN (qm 16 0),qN (qm 17 3),qN (qm 18 0),qN (qm 19 3),qN (qi 20 18 19 8),qN (.set 21 (.load (some 8) (qt 20))),qN (qm 22 0),qN (qm 23 2),qN (qi 24 22 23 8),qN (.set 25 (.load (some 8) (qt 24))),qN (qi 26 14 15 8),qN (.store 8 (qt 26) (qt 21)),qN (qi 27 16 17 8),qN (.store 8 (qt 27) (qt 25))])) (.reg [qN (qm 10 2),qN (qc 11 .add 10 1),qN (qm 12 3),qN (qc 13 .sub 12 1),qN (qm 2 11),qN (qm 3 13)])))))⟩
def cd282:AFn:=⟨28,[],.seq (.reg [qN (qm 4 0),qN (.set 5 (.len (qt 4))),qN (qc 6 .sub 5 1),qN (.set 2 (.mov (.c (.i .i64 0)))),qN (qm 3 6)]) (.block 0 (.loop (.seq (.seq (.reg [qN (qm 7 2),qN (qm 8 3),qN (qb 9 .lss 7 8)]) (.cond (qt 9) .skip (.exit 0))) (.seq (.block 1 (.regd 0 [qN (qm 14 0),qN (qm 15 2),qN (qm 16 0),qN (qm 17 3),qN (qm 18 0),qN (qm 19 3),qN (qi 20 18 19 1),qN (ql 21 20),qN (qm 22 0),qN (qm 23 2),qN (qi 24 22 23 1),qN (ql 25 24),qN (qi 26 14 15 1),qN (.store 1 (qt 26) (qt 21)),qN (qi 27 16 17 1),qN (.store 1 (qt 27) (qt 25))])) (.reg [qN (qm 10 2),qN (qc 11 .add 10 1),qN (qm 12 3),qN (qc 13 .sub 12 1),qN (qm 2 11),qN (qm 3 13)])))))⟩
end Go.Eng
namespace Go.Eng
def cd378:AFn:=⟨187,[.tmp 8],.seq (.reg [qN (.box 4 6 (qt 0)),qN (.box 5 3 (qt 1)),qN (.box 6 1 (qt 2)),qN (.box 7 4 (qt 3)),qN (.set 8 (.mov (.c (.b false))))]) (.seq (.reg [qN (.call (some 17) 212 []),qN (qm 9 17)]) (.seq (.seq (.reg [qN (.set 18 (.load (some 6) (qt 4))),qN (.set 19 (.load (some 3) (qt 5))),qN (.set 20 (.load (some 1) (qt 6))),qN (.call (some 21) 385 [qt 18,qt 19,qt 20]),qN (qm 22 21),qF 22 (qm 23 9),qF 22 (.set 24 (.not (qt 23))),qN (qv 25 22 24 true)]) (.cond (qt 25) (.seq (.reg [qN (qm 26 9),qN (qm 8 26)]) .ret) .skip)) (.seq (.reg [qN (.set 28 (.load (some 6) (qt 4))),qN (.set 29 (.load (some 3) (qt 5))),qN (.set 30 (.load (some 1) (qt 6))),qN (.set 31 (.load (some 4) (qt 7))),qN (.call (some 32) 210 [qt 28,qt 29,qt 30,qt 31]),qN (qm 27 32),qN (.set 33 (.ext (qt 27) 0)),qN (.set 34 (.ext (qt 27) 1)),qN (.set 35 (.ext (qt 27) 2)),qN (.alloc 10 [(1,.s0 8)]),qN (.store 1 (qt 10) (qt 33)),qN (qm 11 34),qN (qm 12 35)]) (.seq (.seq (.reg [qN (qm 36 12),qN (qc 37 .neq 36 0)]) (.cond (qt 37) (.seq (.reg [qN (qf 38 10 0),qN (ql 39 38),qN (.set 40 (.len (qt 39))),qN (qc 41 .eql 40 0),qN (qm 42 41),qT 42 (qm 43 11),qT 42 (.set 44 (.len (qt 43))),qT 42 (qc 45 .eql 44 0),qN (qp 46 42 45 false),qN (qm 8 46)]) .ret) .skip)) (.seq (.seq (.reg [qN (.set 13 (.mov (.c (.i .i64 0))))]) (.block 0 (.loop (.seq (.seq (.reg [qN (qm 47 13),qN (qf 48 6 0),qN (ql 49 48),qN (.set 50 (.len (qt 49))),qN (qb 51 .lss 47 50)]) (.cond (qt 51) .skip (.exit 0))) (.seq (.block 1 (.seq (.regd 0 [qN (.set 54 (.load (some 1) (qt 10))),qN (qf 55 6 0),qN (ql 56 55),qN (qm 57 13),qN (qi 58 56 57 8),qN (qf 59 58 0),qN (ql 60 59),qN (.calle (some 61) 391 [qt 54,qt 60]),qN (qm 14 61)]) (.seq (.regd 0 [qN (qf 62 6 0),qN (ql 63 62),qN (qm 64 13),qN (qi 65 63 64 8),qN (qf 66 65 0),qN (ql 67 66),qN (qf 68 7 1),qN (ql 69 68),qN (qb 70 .neq 67 69),qN (qm 71 70),qT 71 (qm 72 14),qT 71 (qc 73 .lss 72 0),qT 71 (qm 74 73),qF 74 (qf 75 10 0),qF 74 (ql 76 75),qF 74 (qm 77 14),qF 74 (qi 78 76 77 8),qF 74 (.set 79 (.load (some 8) (qt 78))),qF 74 (qf 80 6 0),qF 74 (ql 81 80),qF 74 (qm 82 13),qF 74 (qi 83 81 82 8),qF 74 (.set 84 (.load (some 8) (qt 83))),qF 74 (.calle (some 85) 392 [qt 79,qt 84]),qF 74 (.set 86 (.not (qt 85))),qT 71 (qv 87 74 86 true),qN (qp 88 71 87 false)]) (.cond (qt 88) (.seq (.reg [qN (.set 8 (.mov (.c (.b false))))]) .ret) .skip)))) (.reg [qN (qm 52 13),qN (qc 53 .add 52 1),qN (qm 13 53)])))))) (.seq (.reg [qN (.set 15 (.mov (.c (.s0 1))))]) (.seq (.reg [qN (.set 16 (.mov (.c (.s0 1))))]) (.seq (.seq (.reg [qN (.set 89 (.load (some 1) (qt 6))),qN (qf 90 7 1),qN (ql 91 90),qN (.call (some 92) 391 [qt 89,qt 91]),qN (qc 93 .geq 92 0)]) (.cond (qt 93) (.regd 0 [qN (qf 94 6 0),qN (ql 95 94),qN (.set 96 (.load (some 1) (qt 6))),qN (qf 97 7 1),qN (ql 98 97),qN (.call (some 99) 391 [qt 96,qt 98]),qN (qi 100 95 99 8),qN (qf 101 100 1),qN (ql 102 101),qN (qm 15 102)]) .skip)) (.seq (.seq (.reg [qN (.set 103 (.load (some 1) (qt 10))),qN (qf 104 7 1),qN (ql 105 104),qN (.call (some 106) 391 [qt 103,qt 105]),qN (qc 107 .geq 106 0)]) (.cond (qt 107) (.regd 0 [qN (qf 108 10 0),qN (ql 109 108),qN (.set 110 (.load (some 1) (qt 10))),qN (qf 111 7 1),qN (ql 112 111),qN (.call (some 113) 391 [qt 110,qt 112]),qN (qi 114 109 113 8),qN (qf 115 114 1),qN (ql 116 115),qN (qm 16 116)]) .skip)) (.seq (.seq (.reg [qN (qm 117 11),qN (.set 118 (.len (qt 117))),qN (qc 119 .eql 118 0)]) (.cond (qt 119) (.seq (.reg [qN (qm 120 15),qN (.set 121 (.len (qt 120))),qN (qm 122 16),qN (.set 123 (.len (qt 122))),qN (qb 124 .eql 121 123),qN (qm 125 124),qT 125 (qf 126 7 0),qT 125 (ql 127 126),qT 125 (.set 128 (.bin .eql .num (qt 127) (.c (.i .u8 4)))),qN (qp 129 125 128 false),qN (qm 8 129)]) .ret) .skip)) (.seq (.seq (.reg [qN (qm 130 11),qN (.set 131 (.len (qt 130))),qN (qc 132 .neq 131 1),qN (qm 133 132),qF 133 (qm 134 11),qF 133 (.set 135 (.iadr (qt 134) (.c (.i .i64 0)) 4 none)),qF 133 (qf 136 135 0),qF 133 (ql 137 136),qF 133 (.set 138 (.bin .neq .num (qt 137) (.c (.i .u8 1)))),qN (qv 139 133 138 true)]) (.cond (qt 139) (.seq (.reg [qN (.set 8 (.mov (.c (.b false))))]) .ret) .skip)) (.seq (.seq (.reg [qN (qm 140 11),qN (.set 141 (.iadr (qt 140) (.c (.i .i64 0)) 4 none)),qN (qf 142 141 2),qN (ql 143 142),qN (qc 144 .eql 143 1)]) (.cond (qt 144) (.seq (.regd 0 [qN (qm 145 16),qN (.set 146 (.len (qt 145))),qN (qm 147 15),qN (.set 148 (.len (qt 147))),qN (qc 149 .add 148 1),qN (qb 150 .eql 146 149),qN (qm 151 150),qT 151 (qm 152 16),qT 151 (.set 153 (.iadr (qt 152) (.c (.i .i64 0)) 1 none)),qT 151 (ql 154 153),qT 151 (qm 155 11),qT 151 (.set 156 (.iadr (qt 155) (.c (.i .i64 0)) 4 none)),qT 151 (qf 157 156 1),qT 151 (ql 158 157),qT 151 (qb 159 .eql 154 158),qN (qp 160 151 159 false),qN (qm 8 160)]) .ret) .skip)) (.seq (.regd 0 [qN (qm 161 11),qN (.set 162 (.iadr (qt 161) (.c (.i .i64 0)) 4 none)),qN (qf 163 162 2),qN (ql 164 163),qN (qc 165 .eql 164 0),qN (qm 166 165),qT 166 (qm 167 16),qT 166 (.set 168 (.len (qt 167))),qT 166 (qm 169 15),qT 166 (.set 170 (.len (qt 169))),qT 166 (qc 171 .sub 170 1),qT 166 (qb 172 .eql 168 171),qN (qp 173 166 172 false),qN (qm 174 173),qT 174 (qm 175 15),qT 174 (qm 176 15),qT 174 (.set 177 (.len (qt 176))),qT 174 (qc 178 .sub 177 1),qT 174 (qi 179 175 178 1),qT 174 (ql 180 179),qT 174 (qm 181 11),qT 174 (.set 182 (.iadr (qt 181) (.c (.i .i64 0)) 4 none)),qT 174 (qf 183 182 1),qT 174 (ql 184 183),qT 174 (qb 185 .eql 180 184),qN (qp 186 174 185 false),qN (qm 8 186)]) .ret)))))))))))))⟩
def cd379:AFn:=⟨145,[.tmp 8],.seq (.reg [qN (.box 4 6 (qt 0)),qN (.box 5 3 (qt 1)),qN (.box 6 1 (qt 2)),qN (.set 8 (.mov (.c (.b false))))]) (.seq (.reg [qN (.call (some 27) 212 []),qN (qm 9 27)]) (.seq (.seq (.reg [qN (.set 28 (.load (some 6) (qt 4))),qN (.set 29 (.load (some 3) (qt 5))),qN (.set 30 (.load (some 1) (qt 6))),qN (.call (some 31) 385 [qt 28,qt 29,qt 30]),qN (qm 32 31),qF 32 (qm 33 9),qF 32 (.set 34 (.not (qt 33))),qN (qv 35 32 34 true)]) (.cond (qt 35) (.seq (.reg [qN (qm 36 9),qN (qm 8 36)]) .ret) .skip)) (.seq (.reg [qN (qm 37 3),qN (.set 38 (.build [(1,.i .u8 0),(1,.i .i64 0),(1,.i .i64 0),(1,.i .i64 0)] [(0,(1,.c (.i .u8 4))),(1,(1,qt 37))])),qN (.alloc 10 [(1,.i .u8 0),(1,.i .i64 0),(1,.i .i64 0),(1,.i .i64 0)]),qN (.store 4 (qt 10) (qt 38))]) (.seq (.reg [qN (.set 40 (.load (some 6) (qt 4))),qN (.set 41 (.load (some 3) (qt 5))),qN (.set 42 (.load (some 1) (qt 6))),qN (.set 43 (.load (some 4) (qt 10))),qN (.call (some 44) 210 [qt 40,qt 41,qt 42,qt 43]),qN (qm 39 44),qN (.set 45 (.ext (qt 39) 0)),qN (.set 46 (.ext (qt 39) 1)),qN (.set 47 (.ext (qt 39) 2)),qN (.alloc 11 [(1,.s0 8)]),qN (.store 1 (qt 11) (qt 45)),qN (qm 12 46),qN (qm 13 47)]) (.seq (.seq (.reg [qN (qm 48 13),qN (qc 49 .neq 48 0)]) (.cond (qt 49) (.seq (.reg [qN (.set 8 (.mov (.c (.b true))))]) .ret) .skip)) (.seq (.reg [qN (.set 51 (.load (some 6) (qt 4))),qN (.set 52 (.load (some 3) (qt 5))),qN (.set 53 (.load (some 1) (qt 11))),qN (.set 54 (.load (some 4) (qt 10))),qN (.call (some 55) 210 [qt 51,qt 52,qt 53,qt 54]),qN (qm 50 55),qN (.set 56 (.ext (qt 50) 0)),qN (.set 57 (.ext (qt 50) 1)),qN (.set 58 (.ext (qt 50) 2)),qN (.alloc 14 [(1,.s0 8)]),qN (.store 1 (qt 14) (qt 56)),qN (qm 15 57),qN (qm 16 58)]) (.seq (.reg [qN (.set 59 (.load (some 1) (qt 6))),qN (qm 60 3),qN (.call (some 61) 391 [qt 59,qt 60]),qN (qm 17 61)]) (.seq (.seq (.reg [qN (qm 62 16),qN (qc 63 .neq 62 0),qN (qm 64 63),qF 64 (qm 65 17),qF 64 (qc 66 .lss 65 0),qN (qv 67 64 66 true)]) (.cond (qt 67) (.seq (.reg [qN (.set 8 (.mov (.c (.b false))))]) .ret) .skip)) (.seq (.reg [qN (qf 68 6 0),qN (ql 69 68),qN (qm 70 17),qN (qi 71 69 70 8),qN (.set 72 (.load (some 8) (qt 71))),qN (.alloc 18 [(1,.i .i64 0),(1,.s0 1),(1,.i .i64 0),(1,.i .i64 0),(1,.i .i64 0),(1,.i .i64 0),(1,.i .i64 0),(1,.i .i64 0)]),qN (.store 8 (qt 18) (qt 72))]) (.seq (.reg [qN (qf 73 18 4),qN (.store 1 (qt 73) (.c (.i .i64 0)))]) (.seq (.reg [qN (qf 74 18 5),qN (.store 1 (qt 74) (.c (.i .i64 0)))]) (.seq (.reg [qN (qf 75 18 6),qN (.store 1 (qt 75) (.c (.i .i64 0)))]) (.seq (.reg [qN (qf 76 18 7),qN (.store 1 (qt 76) (.c (.i .i64 0)))]) (.seq (.seq (.regd 0 [qN (qf 77 14 0),qN (ql 78 77),qN (qm 79 17),qN (qi 80 78 79 8),qN (.set 81 (.load (some 8) (qt 80))),qN (.set 82 (.load (some 8) (qt 18))),qN (.calle (some 83) 392 [qt 81,qt 82]),qN (.set 84 (.not (qt 83)))]) (.cond (qt 84) (.seq (.reg [qN (.set 8 (.mov (.c (.b false))))]) .ret) .skip)) (.seq (.regd 0 [qN (.set 86 (.load (some 6) (qt 4))),qN (qf 87 18 1),qN (ql 88 87),qN (.set 89 (.iadr (qt 88) (.c (.i .i64 0)) 1 none)),qN (ql 90 89),qN (qf 91 18 2),qN (ql 92 91),qN (.calle (some 93) 270 [qt 86,qt 90,qt 92]),qN (qm 85 93),qN (.set 94 (.ext (qt 85) 0)),qN (.set 95 (.ext (qt 85) 1)),qN (qm 19 94),qN (qm 20 95)]) (.seq (.reg [qN (.set 97 (.load (some 6) (qt 4))),qN (.set 98 (.load (some 3) (qt 5))),qN (.set 99 (.load (some 1) (qt 11))),qN (qm 100 3),qN (.set 101 (.build [(1,.i .u8 0),(1,.i .i64 0),(1,.i .i64 0),(1,.i .i64 0)] [(0,(1,.c (.i .u8 2))),(1,(1,qt 100))])),qN (.call (some 102) 210 [qt 97,qt 98,qt 99,qt 101]),qN (qm 96 102),qN (.set 103 (.ext (qt 96) 0)),qN (.set 104 (.ext (qt 96) 1)),qN (.set 105 (.ext (qt 96) 2)),qN (.alloc 21 [(1,.s0 8)]),qN (.store 1 (qt 21) (qt 103)),qN (qm 22 104),qN (qm 23 105)]) (.seq (.seq (.reg [qN (qm 106 20),qN (qc 107 .neq 106 0),qN (qm 108 107),qF 108 (qm 109 19),qF 108 (qc 110 .eql 109 0),qF 108 (qm 111 110),qT 111 (qm 112 23),qT 111 (qc 113 .neq 112 310),qF 108 (qp 114 111 113 false),qN (qv 115 108 114 true)]) (.cond (qt 115) (.seq (.reg [qN (.set 8 (.mov (.c (.b false))))]) .ret) .skip)) (.seq (.reg [qN (.set 117 (.load (some 6) (qt 4))),qN (.set 118 (.load (some 3) (qt 5))),qN (.set 119 (.load (some 1) (qt 6))),qN (qm 120 3),qN (.set 121 (.build [(1,.i .u8 0),(1,.i .i64 0),(1,.i .i64 0),(1,.i .i64 0)] [(0,(1,.c (.i .u8 5))),(1,(1,qt 120))])),qN (.call (some 122) 210 [qt 117,qt 118,qt 119,qt 121]),qN (qm 116 122),qN (.set 123 (.ext (qt 116) 0)),qN (.set 124 (.ext (qt 116) 1)),qN (.set 125 (.ext (qt 116) 2)),qN (.alloc 24 [(1,.s0 8)]),qN (.store 1 (qt 24) (qt 123)),qN (qm 25 124),qN (qm 26 125)]) (.seq (.reg [qN (qm 126 26),qN (qc 127 .neq 126 0),qN (qm 128 127),qF 128 (.set 129 (.load (some 6) (qt 4))),qF 128 (.set 130 (.load (some 3) (qt 5))),qF 128 (.set 131 (.load (some 1) (qt 24))),qF 128 (.call (some 132) 225 [qt 129,qt 130,qt 131]),qF 128 (qc 133 .eql 132 0),qF 128 (qm 134 133),qT 134 (qf 135 24 0),qT 134 (ql 136 135),qT 134 (.set 137 (.len (qt 136))),qT 134 (qf 138 6 0),qT 134 (ql 139 138),qT 134 (.set 140 (.len (qt 139))),qT 134 (qc 141 .sub 140 1),qT 134 (qb 142 .eql 137 141),qF 128 (qp 143 134 142 false),qN (qv 144 128 143 true),qN (qm 8 144)]) .ret)))))))))))))))))))⟩
def cd380:AFn:=⟨90,[.tmp 12],.seq (.reg [qN (.box 6 6 (qt 0)),qN (.box 7 3 (qt 1)),qN (.box 8 1 (qt 2)),qN (.set 12 (.mov (.c (.b false))))]) (.seq (.reg [qN (.call (some 19) 212 []),qN (qm 13 19)]) (.seq (.seq (.reg [qN (.set 20 (.load (some 6) (qt 6))),qN (.set 21 (.load (some 3) (qt 7))),qN (.set 22 (.load (some 1) (qt 8))),qN (.call (some 23) 385 [qt 20,qt 21,qt 22]),qN (qm 24 23),qF 24 (qm 25 13),qF 24 (.set 26 (.not (qt 25))),qN (qv 27 24 26 true)]) (.cond (qt 27) (.seq (.reg [qN (qm 28 13),qN (qm 12 28)]) .ret) .skip)) (.seq (.reg [qN (.set 30 (.load (some 6) (qt 6))),qN (.set 31 (.load (some 3) (qt 7))),qN (.set 32 (.load (some 1) (qt 8))),qN (qm 33 3),qN (qm 34 4),qN (qm 35 5),qN (.set 36 (.build [(1,.i .u8 0),(1,.i .i64 0),(1,.i .i64 0),(1,.i .i64 0)] [(0,(1,.c (.i .u8 1))),(1,(1,qt 33)),(2,(1,qt 34)),(3,(1,qt 35))])),qN (.call (some 37) 210 [qt 30,qt 31,qt 32,qt 36]),qN (qm 29 37),qN (.set 38 (.ext (qt 29) 0)),qN (.set 39 (.ext (qt 29) 1)),qN (.set 40 (.ext (qt 29) 2)),qN (.alloc 14 [(1,.s0 8)]),qN (.store 1 (qt 14) (qt 38)),qN (qm 15 39),qN (qm 16 40)]) (.seq (.seq (.reg [qN (qm 41 16),qN (qc 42 .neq 41 0)]) (.cond (qt 42) (.seq (.reg [qN (.set 12 (.mov (.c (.b true))))]) .ret) .skip)) (.seq (.regd 1 [qN (qf 44 7 0),qN (ql 45 44),qN (qf 47 7 1),qN (ql 48 47),qN (qf 49 7 2),qN (ql 50 49),qN (.mks0 43 2),qN (.appA 46 (qt 43) (qt 45) 2 [qt 7,qt 47,qt 7,qt 49]),qN (.set 51 (.build [(1,.s0 2),(1,.s0 3),(1,.s0 4)] [(0,(1,qt 46)),(1,(1,qt 48)),(2,(1,qt 50))])),qN (.gal 17 1 [(1,.s0 2),(1,.s0 3),(1,.s0 4)]),qN (.store 3 (qt 17) (qt 51))]) (.seq (.seq (.reg [qN (.set 18 (.mov (.c (.i .i64 0))))]) (.block 0 (.loop (.seq (.seq (.reg [qN (qm 52 18),qN (qf 53 17 0),qN (ql 54 53),qN (.set 55 (.len (qt 54))),qN (qb 56 .lss 52 55)]) (.cond (qt 56) .skip (.exit 0))) (.seq (.block 1 (.seq (.regd 0 [qN (qf 59 17 0),qN (ql 60 59),qN (qm 61 18),qN (qi 62 60 61 2),qN (qf 63 62 0),qN (ql 64 63),qN (qm 65 15),qN (.set 66 (.iadr (qt 65) (.c (.i .i64 0)) 4 none)),qN (qf 67 66 1),qN (ql 68 67),qN (qb 69 .eql 64 68)]) (.cond (qt 69) (.regd 0 [qN (qf 70 17 0),qN (ql 71 70),qN (qm 72 18),qN (qm 73 15),qN (.set 74 (.iadr (qt 73) (.c (.i .i64 0)) 4 none)),qN (qf 75 74 2),qN (ql 76 75),qN (.set 77 (.conv .u8 (qt 76))),qN (qi 78 71 72 2),qN (qf 79 78 1),qN (.store 1 (qt 79) (qt 77))]) .skip))) (.reg [qN (qm 57 18),qN (qc 58 .add 57 1),qN (qm 18 58)])))))) (.seq (.reg [qN (qm 80 15),qN (.set 81 (.len (qt 80))),qN (qc 82 .eql 81 1),qN (qm 83 82),qT 83 (.set 84 (.load (some 6) (qt 6))),qT 83 (.set 85 (.load (some 3) (qt 17))),qT 83 (.set 86 (.load (some 1) (qt 14))),qT 83 (.call (some 87) 225 [qt 84,qt 85,qt 86]),qT 83 (qc 88 .eql 87 0),qN (qp 89 83 88 false),qN (qm 12 89)]) .ret)))))))⟩
def cd381:AFn:=⟨168,[.tmp 8],.seq (.reg [qN (.box 4 6 (qt 0)),qN (.box 5 3 (qt 1)),qN (.box 6 1 (qt 2)),qN (.set 8 (.mov (.c (.b false))))]) (.seq (.reg [qN (.call (some 24) 212 []),qN (qm 9 24)]) (.seq (.seq (.reg [qN (.set 25 (.load (some 6) (qt 4))),qN (.set 26 (.load (some 3) (qt 5))),qN (.set 27 (.load (some 1) (qt 6))),qN (.call (some 28) 385 [qt 25,qt 26,qt 27]),qN (qm 29 28),qF 29 (qm 30 9),qF 29 (.set 31 (.not (qt 30))),qN (qv 32 29 31 true)]) (.cond (qt 32) (.seq (.reg [qN (qm 33 9),qN (qm 8 33)]) .ret) .skip)) (.seq (.reg [qN (.set 34 (.load (some 1) (qt 6))),qN (qm 35 3),qN (.call (some 36) 391 [qt 34,qt 35]),qN (qm 10 36)]) (.seq (.reg [qN (.set 38 (.load (some 6) (qt 4))),qN (.set 39 (.load (some 3) (qt 5))),qN (.set 40 (.load (some 1) (qt 6))),qN (qm 41 3),qN (.set 42 (.build [(1,.i .u8 0),(1,.i .i64 0),(1,.i .i64 0),(1,.i .i64 0)] [(0,(1,.c (.i .u8 2))),(1,(1,qt 41))])),qN (.call (some 43) 210 [qt 38,qt 39,qt 40,qt 42]),qN (qm 37 43),qN (.set 44 (.ext (qt 37) 0)),qN (.set 45 (.ext (qt 37) 1)),qN (.set 46 (.ext (qt 37) 2)),qN (.alloc 11 [(1,.s0 8)]),qN (.store 1 (qt 11) (qt 44)),qN (qm 12 45),qN (qm 13 46)]) (.seq (.seq (.reg [qN (qm 47 13),qN (qc 48 .neq 47 0)]) (.cond (qt 48) (.seq (.reg [qN (.set 8 (.mov (.c (.b true))))]) .ret) .skip)) (.seq (.seq (.reg [qN (qm 49 10),qN (qc 50 .lss 49 0),qN (qm 51 50),qF 51 (.set 52 (.load (some 1) (qt 11))),qF 51 (qm 53 3),qF 51 (.call (some 54) 391 [qt 52,qt 53]),qF 51 (qc 55 .lss 54 0),qN (qv 56 51 55 true)]) (.cond (qt 56) (.seq (.reg [qN (.set 8 (.mov (.c (.b false))))]) .ret) .skip)) (.seq (.reg [qN (qf 57 6 0),qN (ql 58 57),qN (qm 59 10),qN (qi 60 58 59 8),qN (.set 61 (.load (some 8) (qt 60))),qN (.alloc 14 [(1,.i .i64 0),(1,.s0 1),(1,.i .i64 0),(1,.i .i64 0),(1,.i .i64 0),(1,.i .i64 0),(1,.i .i64 0),(1,.i .i64 0)]),qN (.store 8 (qt 14) (qt 61))]) (.seq (.regd 1 [qN (qf 62 11 0),qN (ql 63 62),qN (.set 64 (.load (some 1) (qt 11))),qN (qm 65 3),qN (.callp 66 391 [qt 64,qt 65]),qN (qi 67 63 66 8),qN (.set 68 (.load (some 8) (qt 67))),qN (.gal 15 1 [(1,.i .i64 0),(1,.s0 1),(1,.i .i64 0),(1,.i .i64 0),(1,.i .i64 0),(1,.i .i64 0),(1,.i .i64 0),(1,.i .i64 0)]),qN (.store 8 (qt 15) (qt 68))]) (.seq (.reg [qN (.set 70 (.load (some 6) (qt 4))),qN (qf 71 14 4),qN (ql 72 71),qN (.call (some 73) 76 [qt 70,qt 72]),qN (qm 69 73),qN (.set 74 (.ext (qt 69) 0)),qN (.set 75 (.ext (qt 69) 1)),qN (.alloc 16 [(1,.s0 1),(1,.s0 1),(1,.s0 3),(1,.i .i64 0)]),qN (.store 4 (qt 16) (qt 74)),qN (qm 17 75)]) (.seq (.seq (.reg [qN (qm 76 17),qN (qc 77 .eql 76 0),qN (qm 78 77),qT 78 (qf 79 14 5),qT 78 (ql 80 79),qT 78 (qf 81 16 0),qT 78 (ql 82 81),qT 78 (.set 83 (.len (qt 82))),qT 78 (qc 84 .sub 83 1),qT 78 (qb 85 .lss 80 84),qN (qp 86 78 85 false)]) (.cond (qt 86) (.seq (.reg [qN (qf 87 15 4),qN (ql 88 87),qN (qf 89 14 4),qN (ql 90 89),qN (qb 91 .eql 88 90),qN (qm 92 91),qT 92 (qf 93 15 5),qT 92 (ql 94 93),qT 92 (qf 95 14 5),qT 92 (ql 96 95),qT 92 (qc 97 .add 96 1),qT 92 (qb 98 .eql 94 97),qN (qp 99 92 98 false),qN (qm 8 99)]) .ret) .skip)) (.seq (.regd 0 [qN (.set 101 (.load (some 6) (qt 4))),qN (qf 102 14 1),qN (ql 103 102),qN (.set 104 (.iadr (qt 103) (.c (.i .i64 0)) 1 none)),qN (ql 105 104),qN (qf 106 14 3),qN (ql 107 106),qN (.calle (some 108) 270 [qt 101,qt 105,qt 107]),qN (qm 100 108),qN (.set 109 (.ext (qt 100) 0)),qN (.set 110 (.ext (qt 100) 1)),qN (qm 18 109),qN (qm 19 110)]) (.seq (.reg [qN (.set 112 (.load (some 6) (qt 4))),qN (.set 113 (.load (some 3) (qt 5))),qN (qm 114 18),qN (.call (some 115) 199 [qt 112,qt 113,qt 114]),qN (qm 111 115),qN (.set 116 (.ext (qt 111) 0)),qN (.set 117 (.ext (qt 111) 1)),qN (qm 20 116),qN (qm 21 117)]) (.seq (.reg [qN (.set 119 (.load (some 6) (qt 4))),qN (qf 120 15 4),qN (ql 121 120),qN (.call (some 122) 89 [qt 119,qt 121]),qN (qm 118 122),qN (.set 123 (.ext (qt 118) 0)),qN (.set 124 (.ext (qt 118) 1)),qN (.alloc 22 [(1,.i .i64 0),(1,.i .i64 0),(1,.i .i64 0),(1,.s0 1),(1,.s0 1),(1,.s0 2),(1,.i .i64 0)]),qN (.store 7 (qt 22) (qt 123)),qN (qm 23 124)]) (.seq (.seq (.reg [qN (qm 125 19),qN (qc 126 .neq 125 0),qN (qm 127 126),qF 127 (qm 128 21),qF 127 (qc 129 .neq 128 0),qN (qv 130 127 129 true),qN (qm 131 130),qF 131 (qm 132 23),qF 131 (qc 133 .neq 132 0),qN (qv 134 131 133 true),qN (qm 135 134),qF 135 (qm 136 18),qF 135 (qc 137 .eql 136 0),qN (qv 138 135 137 true),qN (qm 139 138),qF 139 (qf 140 22 1),qF 139 (ql 141 140),qF 139 (qm 142 18),qF 139 (qb 143 .neq 141 142),qN (qv 144 139 143 true),qN (qm 145 144),qF 145 (qf 146 15 5),qF 145 (ql 147 146),qF 145 (qc 148 .neq 147 0),qN (qv 149 145 148 true),qN (qm 150 149),qF 150 (qf 151 15 6),qF 150 (ql 152 151),qF 150 (qc 153 .neq 152 0),qN (qv 154 150 153 true)]) (.cond (qt 154) (.seq (.reg [qN (.set 8 (.mov (.c (.b false))))]) .ret) .skip)) (.seq (.reg [qN (qm 155 20),qN (qm 156 155),qF 156 (qf 157 14 6),qF 156 (ql 158 157),qF 156 (qc 159 .gtr 158 0),qF 156 (qm 160 159),qT 160 (qf 161 15 4),qT 160 (ql 162 161),qT 160 (qf 163 14 7),qT 160 (ql 164 163),qT 160 (qb 165 .eql 162 164),qF 156 (qp 166 160 165 false),qN (qv 167 156 166 true),qN (qm 8 167)]) .ret)))))))))))))))⟩
def cd385:AFn:=⟨17,[.tmp 6],.seq (.reg [qN (.box 3 6 (qt 0)),qN (.box 4 3 (qt 1)),qN (.box 5 1 (qt 2)),qN (.set 6 (.mov (.c (.b false))))]) (.seq (.reg [qN (.set 7 (.load (some 6) (qt 3))),qN (.call (some 8) 393 [qt 7]),qN (qm 9 8),qF 9 (.set 10 (.load (some 3) (qt 4))),qF 9 (.call (some 11) 8 [qt 10]),qN (qv 12 9 11 true),qN (qm 13 12),qF 13 (.set 14 (.load (some 1) (qt 5))),qF 13 (.call (some 15) 394 [qt 14]),qN (qv 16 13 15 true),qN (qm 6 16)]) .ret)⟩
def cd391:AFn:=⟨22,[.tmp 4],.seq (.reg [qN (.box 2 1 (qt 0)),qN (.set 4 (.mov (.c (.i .i64 0))))]) (.seq (.seq (.reg [qN (.set 5 (.mov (.c (.i .i64 0))))]) (.block 0 (.loop (.seq (.seq (.reg [qN (qm 6 5),qN (qf 7 2 0),qN (ql 8 7),qN (.set 9 (.len (qt 8))),qN (qb 10 .lss 6 9)]) (.cond (qt 10) .skip (.exit 0))) (.seq (.block 1 (.seq (.reg [qN (qf 13 2 0),qN (ql 14 13),qN (qm 15 5),qN (qi 16 14 15 8),qN (qf 17 16 0),qN (ql 18 17),qN (qm 19 1),qN (qb 20 .eql 18 19)]) (.cond (qt 20) (.seq (.reg [qN (qm 21 5),qN (qm 4 21)]) .ret) .skip))) (.reg [qN (qm 11 5),qN (qc 12 .add 11 1),qN (qm 5 12)])))))) (.seq (.reg [qN (.set 4 (.mov (.c (.i .i64 (-1)))))]) .ret))⟩
def cd392:AFn:=⟨59,[.tmp 4],.seq (.reg [qN (.box 2 8 (qt 0)),qN (.box 3 8 (qt 1)),qN (.set 4 (.mov (.c (.b false))))]) (.seq (.reg [qN (qf 5 2 0),qN (ql 6 5),qN (qf 7 3 0),qN (ql 8 7),qN (qb 9 .eql 6 8),qN (qm 10 9),qT 10 (qf 11 2 1),qT 10 (ql 12 11),qT 10 (qf 13 3 1),qT 10 (ql 14 13),qT 10 (.call (some 15) 399 [qt 12,qt 14]),qN (qp 16 10 15 false),qN (qm 17 16),qT 17 (qf 18 2 2),qT 17 (ql 19 18),qT 17 (qf 20 3 2),qT 17 (ql 21 20),qT 17 (qb 22 .eql 19 21),qN (qp 23 17 22 false),qN (qm 24 23),qT 24 (qf 25 2 3),qT 24 (ql 26 25),qT 24 (qf 27 3 3),qT 24 (ql 28 27),qT 24 (qb 29 .eql 26 28),qN (qp 30 24 29 false),qN (qm 31 30),qT 31 (qf 32 2 4),qT 31 (ql 33 32),qT 31 (qf 34 3 4),qT 31 (ql 35 34),qT 31 (qb 36 .eql 33 35),qN (qp 37 31 36 false),qN (qm 38 37),qT 38 (qf 39 2 5),qT 38 (ql 40 39),qT 38 (qf 41 3 5),qT 38 (ql 42 41),qT 38 (qb 43 .eql 40 42),qN (qp 44 38 43 false),qN (qm 45 44),qT 45 (qf 46 2 6),qT 45 (ql 47 46),qT 45 (qf 48 3 6),qT 45 (ql 49 48),qT 45 (qb 50 .eql 47 49),qN (qp 51 45 50 false),qN (qm 52 51),qT 52 (qf 53 2 7),qT 52 (ql 54 53),qT 52 (qf 55 3 7),qT 52 (ql 56 55),qT 52 (qb 57 .eql 54 56),qN (qp 58 52 57 false),qN (qm 4 58)]) .ret)⟩
def cd393:AFn:=⟨64,[.tmp 2],.seq (.reg [qN (.box 1 6 (qt 0)),qN (.set 2 (.mov (.c (.b false))))]) (.seq (.seq (.reg [qN (.set 3 (.mov (.c (.i .i64 0))))]) (.block 0 (.loop (.seq (.seq (.reg [qN (qm 4 3),qN (qf 5 1 5),qN (ql 6 5),qN (.set 7 (.len (qt 6))),qN (qb 8 .lss 4 7),qN (qm 9 8),qT 9 (qm 10 3),qT 9 (qc 11 .lss 10 40),qN (qp 12 9 11 false)]) (.cond (qt 12) .skip (.exit 0))) (.seq (.block 1 (.seq (.reg [qN (qf 15 1 5),qN (ql 16 15),qN (qm 17 3),qN (qi 18 16 17 7),qN (qf 19 18 3),qN (ql 20 19),qN (.set 21 (.len (qt 20))),qN (qc 22 .gtr 21 20),qN (qm 23 22),qF 23 (qf 24 1 5),qF 23 (ql 25 24),qF 23 (qm 26 3),qF 23 (qi 27 25 26 7),qF 23 (qf 28 27 4),qF 23 (ql 29 28),qF 23 (.set 30 (.len (qt 29))),qF 23 (qc 31 .gtr 30 20),qN (qv 32 23 31 true),qN (qm 33 32),qF 33 (qf 34 1 5),qF 33 (ql 35 34),qF 33 (qm 36 3),qF 33 (qi 37 35 36 7),qF 33 (qf 38 37 5),qF 33 (ql 39 38),qF 33 (.set 40 (.len (qt 39))),qF 33 (qc 41 .gtr 40 20),qN (qv 42 33 41 true)]) (.cond (qt 42) (.seq (.reg [qN (.set 2 (.mov (.c (.b true))))]) .ret) .skip))) (.reg [qN (qm 13 3),qN (qc 14 .add 13 1),qN (qm 3 14)])))))) (.seq (.reg [qN (qf 43 1 2),qN (ql 44 43),qN (.call (some 45) 21 [qt 44]),qN (qm 46 45),qF 46 (qf 47 1 3),qF 46 (ql 48 47),qF 46 (.set 49 (.len (qt 48))),qF 46 (qc 50 .gtr 49 40),qN (qv 51 46 50 true),qN (qm 52 51),qF 52 (qf 53 1 4),qF 52 (ql 54 53),qF 52 (.set 55 (.len (qt 54))),qF 52 (qc 56 .gtr 55 40),qN (qv 57 52 56 true),qN (qm 58 57),qF 58 (qf 59 1 5),qF 58 (ql 60 59),qF 58 (.set 61 (.len (qt 60))),qF 58 (qc 62 .gtr 61 40),qN (qv 63 58 62 true),qN (qm 2 63)]) .ret))⟩
def cd394:AFn:=⟨27,[.tmp 2],.seq (.reg [qN (.box 1 1 (qt 0)),qN (.set 2 (.mov (.c (.b false))))]) (.seq (.seq (.reg [qN (.set 3 (.mov (.c (.i .i64 0))))]) (.block 0 (.loop (.seq (.seq (.reg [qN (qm 4 3),qN (qf 5 1 0),qN (ql 6 5),qN (.set 7 (.len (qt 6))),qN (qb 8 .lss 4 7),qN (qm 9 8),qT 9 (qm 10 3),qT 9 (qc 11 .lss 10 30),qN (qp 12 9 11 false)]) (.cond (qt 12) .skip (.exit 0))) (.seq (.block 1 (.seq (.reg [qN (qf 15 1 0),qN (ql 16 15),qN (qm 17 3),qN (qi 18 16 17 8),qN (qf 19 18 1),qN (ql 20 19),qN (.set 21 (.len (qt 20))),qN (qc 22 .gtr 21 30)]) (.cond (qt 22) (.seq (.reg [qN (.set 2 (.mov (.c (.b true))))]) .ret) .skip))) (.reg [qN (qm 13 3),qN (qc 14 .add 13 1),qN (qm 3 14)])))))) (.seq (.reg [qN (qf 23 1 0),qN (ql 24 23),qN (.set 25 (.len (qt 24))),qN (qc 26 .gtr 25 30),qN (qm 2 26)]) .ret))⟩
def cd399:AFn:=⟨26,[.tmp 4],.seq (.reg [qN (.set 4 (.mov (.c (.b false))))]) (.seq (.seq (.reg [qN (qm 6 0),qN (.set 7 (.len (qt 6))),qN (qm 8 1),qN (.set 9 (.len (qt 8))),qN (qb 10 .neq 7 9)]) (.cond (qt 10) (.seq (.reg [qN (.set 4 (.mov (.c (.b false))))]) .ret) .skip)) (.seq (.seq (.reg [qN (.set 5 (.mov (.c (.i .i64 0))))]) (.block 0 (.loop (.seq (.seq (.reg [qN (qm 11 5),qN (qm 12 0),qN (.set 13 (.len (qt 12))),qN (qb 14 .lss 11 13)]) (.cond (qt 14) .skip (.exit 0))) (.seq (.block 1 (.seq (.regd 0 [qN (qm 17 0),qN (qm 18 5),qN (qi 19 17 18 1),qN (ql 20 19),qN (qm 21 1),qN (qm 22 5),qN (qi 23 21 22 1),qN (ql 24 23),qN (qb 25 .neq 20 24)]) (.cond (qt 25) (.seq (.reg [qN (.set 4 (.mov (.c (.b false))))]) .ret) .skip))) (.reg [qN (qm 15 5),qN (qc 16 .add 15 1),qN (qm 5 16)])))))) (.seq (.reg [qN (.set 4 (.mov (.c (.b true))))]) .ret)))⟩
end Go.Eng
namespace Go.Eng
def code:Nat→Option AFn
 |8=>some cd8
 |15=>some cd15
 |16=>some cd16
 |18=>some cd18
 |21=>some cd21
 |22=>some cd22
 |23=>some cd23
 |24=>some cd24
 |26=>some cd26
 |27=>some cd27
 |41=>some cd41
 |42=>some cd42
 |43=>some cd43
 |45=>some cd45
 |46=>some cd46
 |47=>some cd47
 |48=>some cd48
 |49=>some cd49
 |50=>some cd50
 |51=>some cd51
 |52=>some cd52
 |53=>some cd53
 |54=>some cd54
 |55=>some cd55
 |65=>some cd65
 |67=>some cd67
 |69=>some cd69
 |70=>some cd70
 |76=>some cd76
 |79=>some cd79
 |80=>some cd80
 |81=>some cd81
 |82=>some cd82
 |83=>some cd83
 |84=>some cd84
 |89=>some cd89
 |90=>some cd90
 |91=>some cd91
 |93=>some cd93
 |94=>some cd94
 |95=>some cd95
 |96=>some cd96
 |97=>some cd97
 |98=>some cd98
 |99=>some cd99
 |100=>some cd100
 |101=>some cd101
 |102=>some cd102
 |103=>some cd103
 |104=>some cd104
 |105=>some cd105
 |106=>some cd106
 |107=>some cd107
 |108=>some cd108
 |109=>some cd109
 |110=>some cd110
 |111=>some cd111
 |112=>some cd112
 |113=>some cd113
 |114=>some cd114
 |115=>some cd115
 |116=>some cd116
 |117=>some cd117
 |118=>some cd118
 |119=>some cd119
 |120=>some cd120
 |121=>some cd121
 |122=>some cd122
 |123=>some cd123
 |124=>some cd124
 |125=>some cd125
 |126=>some cd126
 |127=>some cd127
 |128=>some cd128
 |129=>some cd129
 |130=>some cd130
 |131=>some cd131
 |132=>some cd132
 |133=>some cd133
 |134=>some cd134
 |135=>some cd135
 |136=>some cd136
 |137=>some cd137
 |138=>some cd138
 |139=>some cd139
 |140=>some cd140
 |141=>some cd141
 |142=>some cd142
 |143=>some cd143
 |144=>some cd144
 |145=>some cd145
 |176=>some cd176
 |177=>some cd177
 |184=>some cd184
 |185=>some cd185
 |194=>some cd194
 |198=>some cd198
 |199=>some cd199
 |209=>some cd209
 |210=>some cd210
 |211=>some cd211
 |212=>some cd212
 |213=>some cd213
 |214=>some cd214
 |215=>some cd215
 |216=>some cd216
 |225=>some cd225
 |226=>some cd226
 |227=>some cd227
 |228=>some cd228
 |229=>some cd229
 |230=>some cd230
 |231=>some cd231
 |232=>some cd232
 |233=>some cd233
 |234=>some cd234
 |235=>some cd235
 |236=>some cd236
 |237=>some cd237
 |238=>some cd238
 |239=>some cd239
 |240=>some cd240
 |241=>some cd241
 |242=>some cd242
 |243=>some cd243
 |244=>some cd244
 |245=>some cd245
 |246=>some cd246
 |247=>some cd247
 |248=>some cd248
 |249=>some cd249
 |250=>some cd250
 |251=>some cd251
 |252=>some cd252
 |253=>some cd253
 |254=>some cd254
 |255=>some cd255
 |256=>some cd256
 |257=>some cd257
 |258=>some cd258
 |259=>some cd259
 |260=>some cd260
 |261=>some cd261
 |262=>some cd262
 |263=>some cd263
 |264=>some cd264
 |265=>some cd265
 |266=>some cd266
 |267=>some cd267
 |268=>some cd268
 |269=>some cd269
 |270=>some cd270
 |271=>some cd271
 |272=>some cd272
 |274=>some cd274
 |275=>some cd275
 |277=>some cd277
 |278=>some cd278
 |279=>some cd279
 |280=>some cd280
 |281=>some cd281
 |282=>some cd282
 |378=>some cd378
 |379=>some cd379
 |380=>some cd380
 |381=>some cd381
 |385=>some cd385
 |391=>some cd391
 |392=>some cd392
 |393=>some cd393
 |394=>some cd394
 |399=>some cd399
 |_=>none
structure HasAll (P:Program) (inv:Nat→Option Nat):Prop where
 callable:zb0 P inv
 has:∀ j F,code j=some F→Has P inv j F
end Go.Eng
