/-
  A part of the engine that walks the functions' codes, and of the functions' contracts. Conditions: those that each theorem names.
-/
import Derived.Test.YtfccjknloajclaaGreatK7
import Derived.Below
import Derived.Calls
import Derived.ChangeKeysEq
import Derived.DataReads
import Derived.Deep.LoopGhost
import Derived.Laws.AppendOwn
import Derived.Laws.Cells
import Derived.Laws.CopyRow
import Derived.Laws.Entries
import Derived.Laws.MakeOwn
import Derived.Laws.Rows
import Derived.Laws.StructEq
import Derived.Laws.Tables
import Derived.Lib.AppendZerosOnto
import Derived.MapKept
import Derived.Orders
import Derived.ProofKit
import Derived.ScopeJumps
import Derived.Tactics2
import Derived.WalkSpells
set_option linter.unusedSimpArgs false
set_option linter.unusedVariables false
set_option linter.unusedSectionVars false
namespace Go.Eng
def cd334:AFn:=⟨22,[.tmp 4],.seq (.reg [qN (.box 2 6 (qt 0)),qN (.set 4 (.mov (.c (.i .i64 0))))]) (.seq (.seq (.reg [qN (.set 5 (.mov (.c (.i .i64 0))))]) (.block 0 (.loop (.seq (.seq (.reg [qN (qm 6 5),qN (qf 7 2 5),qN (ql 8 7),qN (.set 9 (.len (qt 8))),qN (qb 10 .lss 6 9)]) (.cond (qt 10) .skip (.exit 0))) (.seq (.block 1 (.seq (.reg [qN (qf 13 2 5),qN (ql 14 13),qN (qm 15 5),qN (qi 16 14 15 7),qN (qf 17 16 0),qN (ql 18 17),qN (qm 19 1),qN (qb 20 .eql 18 19)]) (.cond (qt 20) (.seq (.reg [qN (qm 21 5),qN (qm 4 21)]) .ret) .skip))) (.reg [qN (qm 11 5),qN (qc 12 .add 11 1),qN (qm 5 12)])))))) (.seq (.reg [qN (.set 4 (.mov (.c (.i .i64 (-1)))))]) .ret))⟩
def cd335:AFn:=⟨15,[.tmp 6],.seq (.reg [qN (.box 3 6 (qt 0)),qN (.box 4 3 (qt 1)),qN (.set 6 (.mov (.c (.i .u8 0))))]) (.seq (.regd 0 [qN (qf 7 4 0),qN (ql 8 7),qN (.set 9 (.load (some 6) (qt 3))),qN (qm 10 2),qN (.call (some 11) 293 [qt 9,qt 10]),qN (qi 12 8 11 2),qN (qf 13 12 1),qN (ql 14 13),qN (qm 6 14)]) .ret)⟩
def cd336:AFn:=⟨75,[.tmp 6],.seq (.reg [qN (.box 3 6 (qt 0)),qN (.box 4 3 (qt 1)),qN (.set 6 (.mov (.c (.b false))))]) (.seq (.seq (.reg [qN (.set 16 (.load (some 6) (qt 3))),qN (.call (some 17) 71 [qt 16]),qN (qm 18 17),qF 18 (.set 19 (.load (some 3) (qt 4))),qF 18 (.call (some 20) 8 [qt 19]),qN (qv 21 18 20 true)]) (.cond (qt 21) (.seq (.reg [qN (.set 6 (.mov (.c (.b true))))]) .ret) .skip)) (.seq (.reg [qN (.set 22 (.load (some 3) (qt 4))),qN (.call (some 23) 14 [qt 22]),qN (.alloc 7 [(1,.s0 2),(1,.s0 3),(1,.s0 4)]),qN (.store 3 (qt 7) (qt 23))]) (.seq (.reg [qN (.set 25 (.load (some 6) (qt 3))),qN (.set 26 (.load (some 3) (qt 7))),qN (qm 27 2),qN (.call (some 28) 198 [qt 25,qt 26,qt 27]),qN (qm 24 28),qN (.set 29 (.ext (qt 24) 0)),qN (.set 30 (.ext (qt 24) 1)),qN (qm 8 29),qN (qm 9 30)]) (.seq (.reg [qN (.set 32 (.load (some 6) (qt 3))),qN (.set 33 (.load (some 3) (qt 4))),qN (qm 34 2),qN (.call (some 35) 344 [qt 32,qt 33,qt 34]),qN (qm 31 35),qN (.set 36 (.ext (qt 31) 0)),qN (.set 37 (.ext (qt 31) 1)),qN (qm 10 36),qN (qm 11 37)]) (.seq (.reg [qN (.set 39 (.load (some 6) (qt 3))),qN (.set 40 (.load (some 3) (qt 7))),qN (qm 41 2),qN (.call (some 42) 199 [qt 39,qt 40,qt 41]),qN (qm 38 42),qN (.set 43 (.ext (qt 38) 0)),qN (.set 44 (.ext (qt 38) 1)),qN (qm 12 43),qN (qm 13 44)]) (.seq (.reg [qN (.set 46 (.load (some 6) (qt 3))),qN (.set 47 (.load (some 3) (qt 4))),qN (qm 48 2),qN (.call (some 49) 345 [qt 46,qt 47,qt 48]),qN (qm 45 49),qN (.set 50 (.ext (qt 45) 0)),qN (.set 51 (.ext (qt 45) 1)),qN (qm 14 50),qN (qm 15 51)]) (.seq (.reg [qN (qm 52 8),qN (qm 53 10),qN (.set 54 (.bin .eql .bool (qt 52) (qt 53))),qN (qm 55 54),qT 55 (qm 56 9),qT 55 (qm 57 11),qT 55 (qb 58 .eql 56 57),qN (qp 59 55 58 false),qN (qm 60 59),qT 60 (qm 61 12),qT 60 (qm 62 14),qT 60 (.set 63 (.bin .eql .bool (qt 61) (qt 62))),qN (qp 64 60 63 false),qN (qm 65 64),qT 65 (qm 66 13),qT 65 (qm 67 15),qT 65 (qb 68 .eql 66 67),qN (qp 69 65 68 false),qN (qm 70 69),qT 70 (.set 71 (.load (some 3) (qt 7))),qT 70 (.set 72 (.load (some 3) (qt 4))),qT 70 (.call (some 73) 10 [qt 71,qt 72]),qN (qp 74 70 73 false),qN (qm 6 74)]) .ret)))))))⟩
def cd337:AFn:=⟨69,[.tmp 4],.seq (.reg [qN (.box 2 6 (qt 0)),qN (.box 3 3 (qt 1)),qN (.set 4 (.mov (.c (.b false))))]) (.seq (.seq (.reg [qN (.set 14 (.load (some 6) (qt 2))),qN (.call (some 15) 71 [qt 14]),qN (qm 16 15),qF 16 (.set 17 (.load (some 3) (qt 3))),qF 16 (.call (some 18) 8 [qt 17]),qN (qv 19 16 18 true)]) (.cond (qt 19) (.seq (.reg [qN (.set 4 (.mov (.c (.b true))))]) .ret) .skip)) (.seq (.reg [qN (.set 20 (.load (some 3) (qt 3))),qN (.call (some 21) 14 [qt 20]),qN (.alloc 5 [(1,.s0 2),(1,.s0 3),(1,.s0 4)]),qN (.store 3 (qt 5) (qt 21))]) (.seq (.reg [qN (.set 23 (.load (some 6) (qt 2))),qN (.set 24 (.load (some 3) (qt 5))),qN (.call (some 25) 202 [qt 23,qt 24]),qN (qm 22 25),qN (.set 26 (.ext (qt 22) 0)),qN (.set 27 (.ext (qt 22) 1)),qN (qm 6 26),qN (qm 7 27)]) (.seq (.reg [qN (.set 29 (.load (some 6) (qt 2))),qN (.set 30 (.load (some 3) (qt 3))),qN (.call (some 31) 346 [qt 29,qt 30]),qN (qm 28 31),qN (.set 32 (.ext (qt 28) 0)),qN (.set 33 (.ext (qt 28) 1)),qN (qm 8 32),qN (qm 9 33)]) (.seq (.reg [qN (.set 35 (.load (some 6) (qt 2))),qN (.set 36 (.load (some 3) (qt 5))),qN (.call (some 37) 204 [qt 35,qt 36]),qN (qm 34 37),qN (.set 38 (.ext (qt 34) 0)),qN (.set 39 (.ext (qt 34) 1)),qN (qm 10 38),qN (qm 11 39)]) (.seq (.reg [qN (.set 41 (.load (some 6) (qt 2))),qN (.set 42 (.load (some 3) (qt 3))),qN (.call (some 43) 347 [qt 41,qt 42]),qN (qm 40 43),qN (.set 44 (.ext (qt 40) 0)),qN (.set 45 (.ext (qt 40) 1)),qN (qm 12 44),qN (qm 13 45)]) (.seq (.reg [qN (qm 46 6),qN (qm 47 8),qN (.call (some 48) 348 [qt 46,qt 47]),qN (qm 49 48),qT 49 (qm 50 7),qT 49 (qm 51 9),qT 49 (qb 52 .eql 50 51),qN (qp 53 49 52 false),qN (qm 54 53),qT 54 (qm 55 10),qT 54 (qm 56 12),qT 54 (.call (some 57) 349 [qt 55,qt 56]),qN (qp 58 54 57 false),qN (qm 59 58),qT 59 (qm 60 11),qT 59 (qm 61 13),qT 59 (qb 62 .eql 60 61),qN (qp 63 59 62 false),qN (qm 64 63),qT 64 (.set 65 (.load (some 3) (qt 5))),qT 64 (.set 66 (.load (some 3) (qt 3))),qT 64 (.call (some 67) 10 [qt 65,qt 66]),qN (qp 68 64 67 false),qN (qm 4 68)]) .ret)))))))⟩
def cd338:AFn:=⟨176,[.tmp 6],.seq (.reg [qN (.box 3 6 (qt 0)),qN (.box 4 3 (qt 1)),qN (.set 6 (.mov (.c (.b false))))]) (.seq (.reg [qN (.call (some 18) 195 []),qN (qm 7 18)]) (.seq (.seq (.reg [qN (.set 19 (.load (some 6) (qt 3))),qN (.call (some 20) 71 [qt 19]),qN (qm 21 20),qF 21 (.set 22 (.load (some 3) (qt 4))),qF 21 (.call (some 23) 8 [qt 22]),qN (qv 24 21 23 true),qN (qm 25 24),qF 25 (qm 26 7),qF 25 (.set 27 (.not (qt 26))),qN (qv 28 25 27 true),qN (qm 29 28),qF 29 (.set 30 (.load (some 6) (qt 3))),qF 29 (.set 31 (.load (some 3) (qt 4))),qF 29 (.call (some 32) 69 [qt 30,qt 31]),qF 29 (qc 33 .neq 32 0),qN (qv 34 29 33 true),qN (qm 35 34),qF 35 (qm 36 2),qF 35 (qc 37 .lss 36 0),qN (qv 38 35 37 true),qN (qm 39 38),qF 39 (qm 40 2),qF 39 (qf 41 3 5),qF 39 (ql 42 41),qF 39 (.set 43 (.len (qt 42))),qF 39 (qb 44 .geq 40 43),qN (qv 45 39 44 true)]) (.cond (qt 45) (.seq (.reg [qN (qm 46 7),qN (qm 6 46)]) .ret) .skip)) (.seq (.regd 0 [qN (.set 48 (.load (some 6) (qt 3))),qN (.set 49 (.load (some 3) (qt 4))),qN (qf 50 3 5),qN (ql 51 50),qN (qm 52 2),qN (qi 53 51 52 7),qN (qf 54 53 0),qN (ql 55 54),qN (.calle (some 56) 198 [qt 48,qt 49,qt 55]),qN (qm 47 56),qN (.set 57 (.ext (qt 47) 0)),qN (.set 58 (.ext (qt 47) 1)),qN (qm 8 57),qN (qm 9 58)]) (.seq (.regd 1 [qN (.set 60 (.load (some 6) (qt 3))),qN (qf 61 3 5),qN (ql 62 61),qN (qm 63 2),qN (qi 64 62 63 7),qN (qf 65 64 0),qN (ql 66 65),qN (.callp 67 76 [qt 60,qt 66]),qN (qm 59 67),qN (.set 68 (.ext (qt 59) 0)),qN (.set 69 (.ext (qt 59) 1)),qN (.gal 10 1 [(1,.s0 1),(1,.s0 1),(1,.s0 3),(1,.i .i64 0)]),qN (.store 4 (qt 10) (qt 68)),qN (qm 11 69)]) (.seq (.seq (.reg [qN (qm 70 9),qN (qc 71 .neq 70 0),qN (qm 72 71),qF 72 (qm 73 11),qF 72 (qc 74 .neq 73 0),qN (qv 75 72 74 true)]) (.cond (qt 75) (.seq (.reg [qN (.set 6 (.mov (.c (.b false))))]) .ret) .skip)) (.seq (.reg [qN (qf 76 4 2),qN (ql 77 76),qN (qm 78 2),qN (qi 79 77 78 4),qN (qf 80 79 1),qN (ql 81 80),qN (.set 82 (.bin .eql .num (qt 81) (.c (.i .u8 1)))),qN (qm 12 82)]) (.seq (.regd 0 [qN (qf 83 10 0),qN (ql 84 83),qN (qf 86 10 1),qN (ql 87 86),qN (.app 85 (.c (.s0 1)) (qt 84) 1),qN (.appe 88 (qt 85) (qt 87) 1),qN (qm 13 88)]) (.seq (.seq (.reg [qN (.set 14 (.mov (.c (.i .i64 0))))]) (.block 0 (.loop (.seq (.seq (.reg [qN (qm 89 14),qN (qm 90 13),qN (.set 91 (.len (qt 90))),qN (qb 92 .lss 89 91)]) (.cond (qt 92) .skip (.exit 0))) (.seq (.block 1 (.seq (.reg [qN (.set 15 (.mov (.c (.i .i64 0))))]) (.block 2 (.loop (.seq (.seq (.reg [qN (qm 95 15),qN (qf 96 4 0),qN (ql 97 96),qN (.set 98 (.len (qt 97))),qN (qb 99 .lss 95 98)]) (.cond (qt 99) .skip (.exit 2))) (.seq (.block 3 (.regd 0 [qN (qm 102 12),qN (qm 103 102),qT 103 (qf 104 4 0),qT 103 (ql 105 104),qT 103 (qm 106 15),qT 103 (qi 107 105 106 2),qT 103 (qf 108 107 0),qT 103 (ql 109 108),qT 103 (qm 110 13),qT 103 (qm 111 14),qT 103 (qi 112 110 111 1),qT 103 (ql 113 112),qT 103 (qb 114 .neq 109 113),qT 103 (qm 115 114),qF 115 (qf 116 4 0),qF 115 (ql 117 116),qF 115 (qm 118 15),qF 115 (qi 119 117 118 2),qF 115 (qf 120 119 1),qF 115 (ql 121 120),qF 115 (.set 122 (.bin .eql .num (qt 121) (.c (.i .u8 0)))),qT 103 (qv 123 115 122 true),qN (qp 124 103 123 false),qN (qm 12 124)])) (.reg [qN (qm 100 15),qN (qc 101 .add 100 1),qN (qm 15 101)]))))))) (.reg [qN (qm 93 14),qN (qc 94 .add 93 1),qN (qm 14 94)])))))) (.seq (.seq (.reg [qN (.set 16 (.mov (.c (.i .i64 0))))]) (.block 4 (.loop (.seq (.seq (.reg [qN (qm 125 16),qN (qf 126 10 2),qN (ql 127 126),qN (.set 128 (.len (qt 127))),qN (qb 129 .lss 125 128)]) (.cond (qt 129) .skip (.exit 4))) (.seq (.block 5 (.seq (.reg [qN (.set 17 (.mov (.c (.i .i64 0))))]) (.block 6 (.loop (.seq (.seq (.reg [qN (qm 132 17),qN (qf 133 4 1),qN (ql 134 133),qN (.set 135 (.len (qt 134))),qN (qb 136 .lss 132 135)]) (.cond (qt 136) .skip (.exit 6))) (.seq (.block 7 (.regd 0 [qN (qm 139 12),qN (qm 140 139),qT 140 (qf 141 4 1),qT 140 (ql 142 141),qT 140 (qm 143 17),qT 140 (qi 144 142 143 3),qT 140 (qf 145 144 0),qT 140 (ql 146 145),qT 140 (qf 147 10 2),qT 140 (ql 148 147),qT 140 (qm 149 16),qT 140 (qi 150 148 149 3),qT 140 (qf 151 150 0),qT 140 (ql 152 151),qT 140 (qb 153 .neq 146 152),qT 140 (qm 154 153),qF 154 (qf 155 4 1),qF 154 (ql 156 155),qF 154 (qm 157 17),qF 154 (qi 158 156 157 3),qF 154 (qf 159 158 1),qF 154 (ql 160 159),qF 154 (qf 161 10 2),qF 154 (ql 162 161),qF 154 (qm 163 16),qF 154 (qi 164 162 163 3),qF 154 (qf 165 164 1),qF 154 (ql 166 165),qF 154 (qb 167 .eql 160 166),qT 140 (qv 168 154 167 true),qN (qp 169 140 168 false),qN (qm 12 169)])) (.reg [qN (qm 137 17),qN (qc 138 .add 137 1),qN (qm 17 138)]))))))) (.reg [qN (qm 130 16),qN (qc 131 .add 130 1),qN (qm 16 131)])))))) (.seq (.reg [qN (qm 170 7),qN (qm 171 170),qT 171 (qm 172 8),qT 171 (qm 173 12),qT 171 (.set 174 (.bin .eql .bool (qt 172) (qt 173))),qN (qp 175 171 174 false),qN (qm 6 175)]) .ret))))))))))⟩
def cd339:AFn:=⟨139,[.tmp 8],.seq (.reg [qN (.box 4 6 (qt 0)),qN (.box 5 3 (qt 1)),qN (.set 8 (.mov (.c (.b false))))]) (.seq (.reg [qN (.call (some 23) 200 []),qN (qm 9 23)]) (.seq (.seq (.reg [qN (.set 24 (.load (some 6) (qt 4))),qN (.call (some 25) 71 [qt 24]),qN (qm 26 25),qF 26 (.set 27 (.load (some 3) (qt 5))),qF 26 (.call (some 28) 8 [qt 27]),qN (qv 29 26 28 true),qN (qm 30 29),qF 30 (qm 31 9),qF 30 (.set 32 (.not (qt 31))),qN (qv 33 30 32 true)]) (.cond (qt 33) (.seq (.reg [qN (qm 34 9),qN (qm 8 34)]) .ret) .skip)) (.seq (.reg [qN (.set 36 (.load (some 6) (qt 4))),qN (.set 37 (.load (some 3) (qt 5))),qN (.call (some 38) 202 [qt 36,qt 37]),qN (qm 35 38),qN (.set 39 (.ext (qt 35) 0)),qN (.set 40 (.ext (qt 35) 1)),qN (qm 10 39),qN (qm 11 40)]) (.seq (.seq (.reg [qN (qm 41 11),qN (qc 42 .neq 41 0)]) (.cond (qt 42) (.seq (.reg [qN (qm 43 9),qN (qm 8 43)]) .ret) .skip)) (.seq (.reg [qN (.set 45 (.load (some 6) (qt 4))),qN (.set 46 (.load (some 3) (qt 5))),qN (qm 47 2),qN (.call (some 48) 73 [qt 45,qt 46,qt 47,.c (.i .i64 1)]),qN (qm 44 48),qN (.set 49 (.ext (qt 44) 0)),qN (.set 50 (.ext (qt 44) 1)),qN (.alloc 12 [(1,.s0 2),(1,.s0 3),(1,.s0 4)]),qN (.store 3 (qt 12) (qt 49)),qN (qm 13 50)]) (.seq (.seq (.reg [qN (qm 51 13),qN (qc 52 .eql 51 0)]) (.cond (qt 52) (.seq (.reg [qN (.set 54 (.load (some 6) (qt 4))),qN (.set 55 (.load (some 3) (qt 12))),qN (.call (some 56) 202 [qt 54,qt 55]),qN (qm 53 56),qN (.set 57 (.ext (qt 53) 0)),qN (.set 58 (.ext (qt 53) 1)),qN (qm 14 57),qN (qm 15 58)]) (.seq (.seq (.reg [qN (qm 59 15),qN (qc 60 .neq 59 0),qN (qm 61 60),qF 61 (qm 62 14),qF 61 (qm 63 10),qF 61 (.call (some 64) 350 [qt 62,qt 63]),qN (qv 65 61 64 true)]) (.cond (qt 65) (.seq (.reg [qN (.set 8 (.mov (.c (.b false))))]) .ret) .skip)) (.seq (.reg [qN (.set 16 (.mov (.c (.i .i64 0))))]) (.block 0 (.loop (.seq (.seq (.reg [qN (qm 66 16),qN (qf 67 4 5),qN (ql 68 67),qN (.set 69 (.len (qt 68))),qN (qb 70 .lss 66 69)]) (.cond (qt 70) .skip (.exit 0))) (.seq (.block 1 (.seq (.reg [qN (.set 17 (.mov (.c (.i .i64 0))))]) (.block 2 (.loop (.seq (.seq (.reg [qN (qm 73 17),qN (qf 74 4 5),qN (ql 75 74),qN (qm 76 16),qN (qi 77 75 76 7),qN (qf 78 77 3),qN (ql 79 78),qN (.set 80 (.len (qt 79))),qN (qb 81 .lss 73 80)]) (.cond (qt 81) .skip (.exit 2))) (.seq (.block 3 (.seq (.seq (.reg [qN (qf 84 4 5),qN (ql 85 84),qN (qm 86 16),qN (qi 87 85 86 7),qN (qf 88 87 3),qN (ql 89 88),qN (qm 90 17),qN (qi 91 89 90 1),qN (ql 92 91),qN (qm 93 2),qN (qb 94 .neq 92 93)]) (.cond (qt 94) (.exit 3) .skip)) (.seq (.regd 0 [qN (.set 96 (.load (some 6) (qt 4))),qN (.set 97 (.load (some 3) (qt 12))),qN (qf 98 4 5),qN (ql 99 98),qN (qm 100 16),qN (qi 101 99 100 7),qN (qf 102 101 0),qN (ql 103 102),qN (.calle (some 104) 198 [qt 96,qt 97,qt 103]),qN (qm 95 104),qN (.set 105 (.ext (qt 95) 0)),qN (.set 106 (.ext (qt 95) 1)),qN (qm 18 105),qN (qm 19 106)]) (.seq (.reg [qN (qm 107 19),qN (qc 108 .neq 107 0),qN (qm 109 108),qF 109 (qm 110 18),qN (qv 111 109 110 true)]) (.cond (qt 111) (.seq (.reg [qN (.set 8 (.mov (.c (.b false))))]) .ret) .skip))))) (.reg [qN (qm 82 17),qN (qc 83 .add 82 1),qN (qm 17 83)]))))))) (.reg [qN (qm 71 16),qN (qc 72 .add 71 1),qN (qm 16 72)])))))))) .skip)) (.seq (.reg [qN (.set 113 (.load (some 6) (qt 4))),qN (.set 114 (.load (some 3) (qt 5))),qN (qm 115 3),qN (.call (some 116) 74 [qt 113,qt 114,qt 115,.c (.i .i64 0)]),qN (qm 112 116),qN (.set 117 (.ext (qt 112) 0)),qN (.set 118 (.ext (qt 112) 1)),qN (.alloc 20 [(1,.s0 2),(1,.s0 3),(1,.s0 4)]),qN (.store 3 (qt 20) (qt 117)),qN (qm 13 118)]) (.seq (.seq (.reg [qN (qm 119 13),qN (qc 120 .neq 119 0)]) (.cond (qt 120) (.seq (.reg [qN (qm 121 9),qN (qm 8 121)]) .ret) .skip)) (.seq (.reg [qN (.set 123 (.load (some 6) (qt 4))),qN (.set 124 (.load (some 3) (qt 20))),qN (.call (some 125) 202 [qt 123,qt 124]),qN (qm 122 125),qN (.set 126 (.ext (qt 122) 0)),qN (.set 127 (.ext (qt 122) 1)),qN (qm 21 126),qN (qm 22 127)]) (.seq (.reg [qN (qm 128 9),qN (qm 129 128),qT 129 (qm 130 22),qT 129 (qc 131 .eql 130 0),qN (qp 132 129 131 false),qN (qm 133 132),qT 133 (qm 134 21),qT 133 (qm 135 10),qT 133 (.call (some 136) 350 [qt 134,qt 135]),qT 133 (.set 137 (.not (qt 136))),qN (qp 138 133 137 false),qN (qm 8 138)]) .ret))))))))))⟩
def cd340:AFn:=⟨126,[.tmp 10],.seq (.reg [qN (.box 5 6 (qt 0)),qN (.box 6 3 (qt 1)),qN (.set 10 (.mov (.c (.b false))))]) (.seq (.reg [qN (.call (some 24) 195 []),qN (qm 11 24)]) (.seq (.seq (.reg [qN (.set 25 (.load (some 6) (qt 5))),qN (.call (some 26) 71 [qt 25]),qN (qm 27 26),qF 27 (.set 28 (.load (some 3) (qt 6))),qF 27 (.call (some 29) 8 [qt 28]),qN (qv 30 27 29 true),qN (qm 31 30),qF 31 (qm 32 11),qF 31 (.set 33 (.not (qt 32))),qN (qv 34 31 33 true)]) (.cond (qt 34) (.seq (.reg [qN (qm 35 11),qN (qm 10 35)]) .ret) .skip)) (.seq (.reg [qN (.set 37 (.load (some 6) (qt 5))),qN (.set 38 (.load (some 3) (qt 6))),qN (qm 39 4),qN (.call (some 40) 198 [qt 37,qt 38,qt 39]),qN (qm 36 40),qN (.set 41 (.ext (qt 36) 0)),qN (.set 42 (.ext (qt 36) 1)),qN (qm 12 41),qN (qm 13 42)]) (.seq (.seq (.reg [qN (qm 43 13),qN (qc 44 .neq 43 0)]) (.cond (qt 44) (.seq (.reg [qN (qm 45 11),qN (qm 46 45),qT 46 (qm 47 12),qT 46 (.set 48 (.not (qt 47))),qN (qp 49 46 48 false),qN (qm 10 49)]) .ret) .skip)) (.seq (.reg [qN (.set 51 (.load (some 6) (qt 5))),qN (.set 52 (.load (some 3) (qt 6))),qN (qm 53 2),qN (.call (some 54) 73 [qt 51,qt 52,qt 53,.c (.i .i64 1)]),qN (qm 50 54),qN (.set 55 (.ext (qt 50) 0)),qN (.set 56 (.ext (qt 50) 1)),qN (.alloc 14 [(1,.s0 2),(1,.s0 3),(1,.s0 4)]),qN (.store 3 (qt 14) (qt 55)),qN (qm 15 56)]) (.seq (.seq (.reg [qN (qm 57 15),qN (qc 58 .eql 57 0)]) (.cond (qt 58) (.seq (.reg [qN (.set 60 (.load (some 6) (qt 5))),qN (.set 61 (.load (some 3) (qt 14))),qN (qm 62 4),qN (.call (some 63) 198 [qt 60,qt 61,qt 62]),qN (qm 59 63),qN (.set 64 (.ext (qt 59) 0)),qN (.set 65 (.ext (qt 59) 1)),qN (qm 16 64),qN (qm 17 65)]) (.seq (.reg [qN (qm 66 17),qN (qc 67 .neq 66 0),qN (qm 68 67),qF 68 (qm 69 16),qF 68 (qm 70 69),qT 70 (qm 71 12),qT 70 (.set 72 (.not (qt 71))),qF 68 (qp 73 70 72 false),qN (qv 74 68 73 true)]) (.cond (qt 74) (.seq (.reg [qN (.set 10 (.mov (.c (.b false))))]) .ret) .skip))) .skip)) (.seq (.reg [qN (.set 76 (.load (some 6) (qt 5))),qN (.set 77 (.load (some 3) (qt 6))),qN (qm 78 3),qN (.call (some 79) 74 [qt 76,qt 77,qt 78,.c (.i .i64 0)]),qN (qm 75 79),qN (.set 80 (.ext (qt 75) 0)),qN (.set 81 (.ext (qt 75) 1)),qN (.store 3 (qt 14) (qt 80)),qN (qm 15 81)]) (.seq (.seq (.reg [qN (qm 82 15),qN (qc 83 .eql 82 0)]) (.cond (qt 83) (.seq (.reg [qN (.set 85 (.load (some 6) (qt 5))),qN (.set 86 (.load (some 3) (qt 14))),qN (qm 87 4),qN (.call (some 88) 198 [qt 85,qt 86,qt 87]),qN (qm 84 88),qN (.set 89 (.ext (qt 84) 0)),qN (.set 90 (.ext (qt 84) 1)),qN (qm 18 89),qN (qm 19 90)]) (.seq (.reg [qN (qm 91 19),qN (qc 92 .neq 91 0),qN (qm 93 92),qF 93 (qm 94 18),qF 93 (qm 95 94),qT 95 (qm 96 12),qT 95 (.set 97 (.not (qt 96))),qF 93 (qp 98 95 97 false),qN (qv 99 93 98 true)]) (.cond (qt 99) (.seq (.reg [qN (.set 10 (.mov (.c (.b false))))]) .ret) .skip))) .skip)) (.seq (.reg [qN (.set 101 (.load (some 6) (qt 5))),qN (.set 102 (.load (some 3) (qt 6))),qN (.call (some 103) 78 [qt 101,qt 102]),qN (qm 100 103),qN (.set 104 (.ext (qt 100) 0)),qN (.set 105 (.ext (qt 100) 1)),qN (.alloc 20 [(1,.s0 2),(1,.s0 3),(1,.s0 4)]),qN (.store 3 (qt 20) (qt 104)),qN (qm 21 105)]) (.seq (.reg [qN (.set 107 (.load (some 6) (qt 5))),qN (.set 108 (.load (some 3) (qt 20))),qN (qm 109 4),qN (.call (some 110) 198 [qt 107,qt 108,qt 109]),qN (qm 106 110),qN (.set 111 (.ext (qt 106) 0)),qN (.set 112 (.ext (qt 106) 1)),qN (qm 22 111),qN (qm 23 112)]) (.seq (.reg [qN (qm 113 11),qN (qm 114 113),qT 114 (qm 115 21),qT 114 (qc 116 .eql 115 0),qN (qp 117 114 116 false),qN (qm 118 117),qT 118 (qm 119 23),qT 118 (qc 120 .eql 119 0),qN (qp 121 118 120 false),qN (qm 122 121),qT 122 (qm 123 22),qT 122 (.set 124 (.not (qt 123))),qN (qp 125 122 124 false),qN (qm 10 125)]) .ret)))))))))))⟩
def cd342:AFn:=⟨222,[.tmp 4],.seq (.reg [qN (.box 2 6 (qt 0)),qN (.box 3 3 (qt 1)),qN (.set 4 (.mov (.c (.b false))))]) (.seq (.reg [qN (.call (some 22) 200 []),qN (qm 5 22)]) (.seq (.seq (.reg [qN (.set 23 (.load (some 6) (qt 2))),qN (.call (some 24) 71 [qt 23]),qN (qm 25 24),qF 25 (.set 26 (.load (some 3) (qt 3))),qF 25 (.call (some 27) 8 [qt 26]),qN (qv 28 25 27 true),qN (qm 29 28),qF 29 (qm 30 5),qF 29 (.set 31 (.not (qt 30))),qN (qv 32 29 31 true)]) (.cond (qt 32) (.seq (.reg [qN (qm 33 5),qN (qm 4 33)]) .ret) .skip)) (.seq (.reg [qN (.set 35 (.load (some 6) (qt 2))),qN (.set 36 (.load (some 3) (qt 3))),qN (.call (some 37) 202 [qt 35,qt 36]),qN (qm 34 37),qN (.set 38 (.ext (qt 34) 0)),qN (.set 39 (.ext (qt 34) 1)),qN (qm 6 38),qN (qm 7 39)]) (.seq (.seq (.reg [qN (qm 40 7),qN (qc 41 .neq 40 0)]) (.cond (qt 41) (.seq (.reg [qN (qm 42 5),qN (qm 43 42),qT 43 (qm 44 7),qT 43 (.set 45 (.load (some 6) (qt 2))),qT 43 (.set 46 (.load (some 3) (qt 3))),qT 43 (.call (some 47) 69 [qt 45,qt 46]),qT 43 (qb 48 .eql 44 47),qN (qp 49 43 48 false),qN (qm 50 49),qT 50 (qm 51 6),qT 50 (.set 52 (.len (qt 51))),qT 50 (qc 53 .eql 52 0),qN (qp 54 50 53 false),qN (qm 4 54)]) .ret) .skip)) (.seq (.seq (.reg [qN (qm 55 6),qN (.set 56 (.len (qt 55))),qN (qf 57 2 4),qN (ql 58 57),qN (.set 59 (.len (qt 58))),qN (qb 60 .neq 56 59)]) (.cond (qt 60) (.seq (.reg [qN (.set 4 (.mov (.c (.b false))))]) .ret) .skip)) (.seq (.seq (.reg [qN (.set 8 (.mov (.c (.i .i64 0))))]) (.block 0 (.loop (.seq (.seq (.reg [qN (qm 61 8),qN (qm 62 6),qN (.set 63 (.len (qt 62))),qN (qb 64 .lss 61 63)]) (.cond (qt 64) .skip (.exit 0))) (.seq (.block 1 (.seq (.regd 0 [qN (.set 68 (.load (some 6) (qt 2))),qN (.set 69 (.load (some 3) (qt 3))),qN (qm 70 6),qN (qm 71 8),qN (qi 72 70 71 2),qN (qf 73 72 0),qN (ql 74 73),qN (.calle (some 75) 199 [qt 68,qt 69,qt 74]),qN (qm 67 75),qN (.set 76 (.ext (qt 67) 0)),qN (.set 77 (.ext (qt 67) 1)),qN (qm 9 76),qN (qm 10 77)]) (.seq (.seq (.regd 0 [qN (qm 78 10),qN (qc 79 .neq 78 0),qN (qm 80 79),qF 80 (qm 81 6),qF 80 (qm 82 8),qF 80 (qi 83 81 82 2),qF 80 (qf 84 83 0),qF 80 (ql 85 84),qF 80 (qf 86 2 4),qF 80 (ql 87 86),qF 80 (qm 88 8),qF 80 (qi 89 87 88 3),qF 80 (qf 90 89 0),qF 80 (ql 91 90),qF 80 (qb 92 .neq 85 91),qN (qv 93 80 92 true),qN (qm 94 93),qF 94 (qm 95 9),qF 94 (qm 96 6),qF 94 (qm 97 8),qF 94 (qi 98 96 97 2),qF 94 (qf 99 98 1),qF 94 (ql 100 99),qF 94 (.set 101 (.bin .neq .num (qt 100) (.c (.i .u8 0)))),qF 94 (.set 102 (.bin .neq .bool (qt 95) (qt 101))),qN (qv 103 94 102 true),qN (qm 104 103),qF 104 (qm 105 6),qF 104 (qm 106 8),qF 104 (qi 107 105 106 2),qF 104 (qf 108 107 1),qF 104 (ql 109 108),qF 104 (.set 110 (.bin .gtr .num (qt 109) (.c (.i .u8 2)))),qN (qv 111 104 110 true)]) (.cond (qt 111) (.seq (.reg [qN (.set 4 (.mov (.c (.b false))))]) .ret) .skip)) (.seq (.reg [qN (.set 11 (.mov (.c (.b false))))]) (.seq (.seq (.reg [qN (.set 12 (.mov (.c (.i .i64 0))))]) (.block 2 (.loop (.seq (.seq (.reg [qN (qm 112 12),qN (qf 113 2 5),qN (ql 114 113),qN (.set 115 (.len (qt 114))),qN (qb 116 .lss 112 115)]) (.cond (qt 116) .skip (.exit 2))) (.seq (.block 3 (.seq (.regd 0 [qN (.set 120 (.load (some 6) (qt 2))),qN (.set 121 (.load (some 3) (qt 3))),qN (qf 122 2 5),qN (ql 123 122),qN (qm 124 12),qN (qi 125 123 124 7),qN (qf 126 125 0),qN (ql 127 126),qN (.calle (some 128) 198 [qt 120,qt 121,qt 127]),qN (qm 119 128),qN (.set 129 (.ext (qt 119) 0)),qN (.set 130 (.ext (qt 119) 1)),qN (qm 13 129),qN (qm 14 130)]) (.seq (.seq (.reg [qN (qm 131 14),qN (qc 132 .neq 131 0)]) (.cond (qt 132) (.seq (.reg [qN (.set 4 (.mov (.c (.b false))))]) .ret) .skip)) (.seq (.seq (.regd 0 [qN (qm 133 13),qN (.set 134 (.not (qt 133))),qN (qm 135 134),qF 135 (qf 136 2 5),qF 135 (ql 137 136),qF 135 (qm 138 12),qF 135 (qi 139 137 138 7),qF 135 (qf 140 139 1),qF 135 (ql 141 140),qF 135 (qm 142 6),qF 135 (qm 143 8),qF 135 (qi 144 142 143 2),qF 135 (qf 145 144 0),qF 135 (ql 146 145),qF 135 (qb 147 .neq 141 146),qN (qv 148 135 147 true),qN (qm 149 148),qF 149 (qf 150 2 5),qF 149 (ql 151 150),qF 149 (qm 152 12),qF 149 (qi 153 151 152 7),qF 149 (qf 154 153 2),qF 149 (ql 155 154),qF 149 (qc 156 .eql 155 0),qN (qv 157 149 156 true)]) (.cond (qt 157) (.exit 3) .skip)) (.seq (.regd 0 [qN (.set 159 (.load (some 6) (qt 2))),qN (.set 160 (.load (some 3) (qt 3))),qN (qf 161 2 5),qN (ql 162 161),qN (qm 163 12),qN (qi 164 162 163 7),qN (qf 165 164 2),qN (ql 166 165),qN (.calle (some 167) 199 [qt 159,qt 160,qt 166]),qN (qm 158 167),qN (.set 168 (.ext (qt 158) 0)),qN (.set 169 (.ext (qt 158) 1)),qN (qm 15 168),qN (qm 16 169)]) (.seq (.seq (.reg [qN (qm 170 16),qN (qc 171 .neq 170 0)]) (.cond (qt 171) (.seq (.reg [qN (.set 4 (.mov (.c (.b false))))]) .ret) .skip)) (.reg [qN (qm 172 11),qN (qm 173 172),qF 173 (qm 174 15),qN (qv 175 173 174 true),qN (qm 11 175)]))))))) (.reg [qN (qm 117 12),qN (qc 118 .add 117 1),qN (qm 12 118)])))))) (.seq (.reg [qN (qm 176 11),qN (qm 177 6),qN (qm 178 8),qN (qi 179 177 178 2),qN (qf 180 179 1),qN (ql 181 180),qN (.set 182 (.bin .eql .num (qt 181) (.c (.i .u8 2)))),qN (.set 183 (.bin .neq .bool (qt 176) (qt 182)))]) (.cond (qt 183) (.seq (.reg [qN (.set 4 (.mov (.c (.b false))))]) .ret) .skip))))))) (.reg [qN (qm 65 8),qN (qc 66 .add 65 1),qN (qm 8 66)])))))) (.seq (.reg [qN (.set 185 (.load (some 6) (qt 2))),qN (.set 186 (.load (some 3) (qt 3))),qN (.call (some 187) 78 [qt 185,qt 186]),qN (qm 184 187),qN (.set 188 (.ext (qt 184) 0)),qN (.set 189 (.ext (qt 184) 1)),qN (.alloc 17 [(1,.s0 2),(1,.s0 3),(1,.s0 4)]),qN (.store 3 (qt 17) (qt 188)),qN (qm 18 189)]) (.seq (.reg [qN (.set 191 (.load (some 6) (qt 2))),qN (.set 192 (.load (some 3) (qt 17))),qN (.call (some 193) 202 [qt 191,qt 192]),qN (qm 190 193),qN (.set 194 (.ext (qt 190) 0)),qN (.set 195 (.ext (qt 190) 1)),qN (qm 19 194),qN (qm 20 195)]) (.seq (.seq (.reg [qN (qm 196 18),qN (qc 197 .neq 196 0),qN (qm 198 197),qF 198 (qm 199 20),qF 198 (qc 200 .neq 199 0),qN (qv 201 198 200 true),qN (qm 202 201),qF 202 (qm 203 19),qF 202 (.set 204 (.len (qt 203))),qF 202 (qm 205 6),qF 202 (.set 206 (.len (qt 205))),qF 202 (qb 207 .neq 204 206),qN (qv 208 202 207 true)]) (.cond (qt 208) (.seq (.reg [qN (.set 4 (.mov (.c (.b false))))]) .ret) .skip)) (.seq (.seq (.reg [qN (.set 21 (.mov (.c (.i .i64 0))))]) (.block 4 (.loop (.seq (.seq (.reg [qN (qm 209 21),qN (qm 210 19),qN (.set 211 (.len (qt 210))),qN (qb 212 .lss 209 211)]) (.cond (qt 212) .skip (.exit 4))) (.seq (.block 5 (.seq (.reg [qN (qm 215 19),qN (qm 216 21),qN (qi 217 215 216 2),qN (qf 218 217 1),qN (ql 219 218),qN (.set 220 (.bin .neq .num (qt 219) (.c (.i .u8 0))))]) (.cond (qt 220) (.seq (.reg [qN (.set 4 (.mov (.c (.b false))))]) .ret) .skip))) (.reg [qN (qm 213 21),qN (qc 214 .add 213 1),qN (qm 21 214)])))))) (.seq (.reg [qN (qm 221 5),qN (qm 4 221)]) .ret)))))))))))⟩
def cd343:AFn:=⟨160,[.tmp 8],.seq (.reg [qN (.box 4 6 (qt 0)),qN (.box 5 3 (qt 1)),qN (.set 8 (.mov (.c (.b false))))]) (.seq (.reg [qN (.call (some 21) 200 []),qN (qm 9 21)]) (.seq (.seq (.reg [qN (.set 22 (.load (some 6) (qt 4))),qN (.call (some 23) 71 [qt 22]),qN (qm 24 23),qF 24 (.set 25 (.load (some 3) (qt 5))),qF 24 (.call (some 26) 8 [qt 25]),qN (qv 27 24 26 true),qN (qm 28 27),qF 28 (qm 29 9),qF 28 (.set 30 (.not (qt 29))),qN (qv 31 28 30 true)]) (.cond (qt 31) (.seq (.reg [qN (qm 32 9),qN (qm 8 32)]) .ret) .skip)) (.seq (.reg [qN (.set 34 (.load (some 6) (qt 4))),qN (.set 35 (.load (some 3) (qt 5))),qN (.call (some 36) 204 [qt 34,qt 35]),qN (qm 33 36),qN (.set 37 (.ext (qt 33) 0)),qN (.set 38 (.ext (qt 33) 1)),qN (qm 10 37),qN (qm 11 38)]) (.seq (.seq (.reg [qN (qm 39 11),qN (qc 40 .neq 39 0)]) (.cond (qt 40) (.seq (.reg [qN (qm 41 9),qN (qm 42 41),qT 42 (qm 43 10),qT 42 (.set 44 (.len (qt 43))),qT 42 (qc 45 .eql 44 0),qN (qp 46 42 45 false),qN (qm 8 46)]) .ret) .skip)) (.seq (.reg [qN (.set 12 (.mov (.c (.i .i64 0))))]) (.seq (.seq (.reg [qN (.set 13 (.mov (.c (.i .i64 0))))]) (.block 0 (.loop (.seq (.seq (.reg [qN (qm 47 13),qN (qf 48 5 1),qN (ql 49 48),qN (.set 50 (.len (qt 49))),qN (qb 51 .lss 47 50)]) (.cond (qt 51) .skip (.exit 0))) (.seq (.block 1 (.seq (.seq (.reg [qN (qf 54 5 1),qN (ql 55 54),qN (qm 56 13),qN (qi 57 55 56 3),qN (qf 58 57 2),qN (ql 59 58),qN (qc 60 .eql 59 0)]) (.cond (qt 60) (.exit 1) .skip)) (.seq (.seq (.regd 0 [qN (qm 61 12),qN (qm 62 10),qN (.set 63 (.len (qt 62))),qN (qb 64 .geq 61 63),qN (qm 65 64),qF 65 (qm 66 10),qF 65 (qm 67 12),qF 65 (qi 68 66 67 2),qF 65 (qf 69 68 0),qF 65 (ql 70 69),qF 65 (qf 71 5 1),qF 65 (ql 72 71),qF 65 (qm 73 13),qF 65 (qi 74 72 73 3),qF 65 (qf 75 74 0),qF 65 (ql 76 75),qF 65 (qb 77 .neq 70 76),qN (qv 78 65 77 true),qN (qm 79 78),qF 79 (qm 80 10),qF 79 (qm 81 12),qF 79 (qi 82 80 81 2),qF 79 (qf 83 82 1),qF 79 (ql 84 83),qF 79 (qf 85 5 1),qF 79 (ql 86 85),qF 79 (qm 87 13),qF 79 (qi 88 86 87 3),qF 79 (qf 89 88 2),qF 79 (ql 90 89),qF 79 (qb 91 .neq 84 90),qN (qv 92 79 91 true)]) (.cond (qt 92) (.seq (.reg [qN (.set 8 (.mov (.c (.b false))))]) .ret) .skip)) (.reg [qN (qm 93 12),qN (qc 94 .add 93 1),qN (qm 12 94)])))) (.reg [qN (qm 52 13),qN (qc 53 .add 52 1),qN (qm 13 53)])))))) (.seq (.seq (.reg [qN (qm 95 12),qN (qm 96 10),qN (.set 97 (.len (qt 96))),qN (qb 98 .neq 95 97)]) (.cond (qt 98) (.seq (.reg [qN (.set 8 (.mov (.c (.b false))))]) .ret) .skip)) (.seq (.reg [qN (.set 100 (.load (some 6) (qt 4))),qN (.set 101 (.load (some 3) (qt 5))),qN (qm 102 2),qN (.call (some 103) 73 [qt 100,qt 101,qt 102,.c (.i .i64 0)]),qN (qm 99 103),qN (.set 104 (.ext (qt 99) 0)),qN (.set 105 (.ext (qt 99) 1)),qN (.alloc 14 [(1,.s0 2),(1,.s0 3),(1,.s0 4)]),qN (.store 3 (qt 14) (qt 104)),qN (qm 15 105)]) (.seq (.seq (.reg [qN (qm 106 15),qN (qc 107 .neq 106 0)]) (.cond (qt 107) (.reg [qN (.set 108 (.load (some 3) (qt 5))),qN (.store 3 (qt 14) (qt 108))]) .skip)) (.seq (.reg [qN (.set 110 (.load (some 6) (qt 4))),qN (.set 111 (.load (some 3) (qt 14))),qN (qm 112 3),qN (.call (some 113) 74 [qt 110,qt 111,qt 112,.c (.i .i64 0)]),qN (qm 109 113),qN (.set 114 (.ext (qt 109) 0)),qN (.set 115 (.ext (qt 109) 1)),qN (.store 3 (qt 14) (qt 114)),qN (qm 15 115)]) (.seq (.seq (.reg [qN (qm 116 15),qN (qc 117 .neq 116 0)]) (.cond (qt 117) (.reg [qN (.set 118 (.load (some 3) (qt 5))),qN (.store 3 (qt 14) (qt 118))]) .skip)) (.seq (.reg [qN (.set 120 (.load (some 6) (qt 4))),qN (.set 121 (.load (some 3) (qt 14))),qN (.call (some 122) 78 [qt 120,qt 121]),qN (qm 119 122),qN (.set 123 (.ext (qt 119) 0)),qN (.set 124 (.ext (qt 119) 1)),qN (.alloc 16 [(1,.s0 2),(1,.s0 3),(1,.s0 4)]),qN (.store 3 (qt 16) (qt 123)),qN (qm 17 124)]) (.seq (.reg [qN (.set 126 (.load (some 6) (qt 4))),qN (.set 127 (.load (some 3) (qt 16))),qN (.call (some 128) 204 [qt 126,qt 127]),qN (qm 125 128),qN (.set 129 (.ext (qt 125) 0)),qN (.set 130 (.ext (qt 125) 1)),qN (qm 18 129),qN (qm 19 130)]) (.seq (.seq (.reg [qN (qm 131 17),qN (qc 132 .neq 131 0),qN (qm 133 132),qF 133 (qm 134 19),qF 133 (qc 135 .neq 134 0),qN (qv 136 133 135 true),qN (qm 137 136),qF 137 (qm 138 18),qF 137 (.set 139 (.len (qt 138))),qF 137 (qm 140 10),qF 137 (.set 141 (.len (qt 140))),qF 137 (qb 142 .neq 139 141),qN (qv 143 137 142 true)]) (.cond (qt 143) (.seq (.reg [qN (.set 8 (.mov (.c (.b false))))]) .ret) .skip)) (.seq (.seq (.reg [qN (.set 20 (.mov (.c (.i .i64 0))))]) (.block 2 (.loop (.seq (.seq (.reg [qN (qm 144 20),qN (qm 145 10),qN (.set 146 (.len (qt 145))),qN (qb 147 .lss 144 146)]) (.cond (qt 147) .skip (.exit 2))) (.seq (.block 3 (.seq (.regd 0 [qN (qm 150 10),qN (qm 151 20),qN (qi 152 150 151 2),qN (.set 153 (.load (some 2) (qt 152))),qN (qm 154 18),qN (qm 155 20),qN (qi 156 154 155 2),qN (.set 157 (.load (some 2) (qt 156))),qN (.set 158 (.bin .neq (.flat [true,true]) (qt 153) (qt 157)))]) (.cond (qt 158) (.seq (.reg [qN (.set 8 (.mov (.c (.b false))))]) .ret) .skip))) (.reg [qN (qm 148 20),qN (qc 149 .add 148 1),qN (qm 20 149)])))))) (.seq (.reg [qN (qm 159 9),qN (qm 8 159)]) .ret))))))))))))))))⟩
def cd344:AFn:=⟨25,[.tmp 6,.tmp 7],.seq (.reg [qN (.box 3 6 (qt 0)),qN (.box 4 3 (qt 1)),qN (.set 6 (.mov (.c (.b false)))),qN (.set 7 (.mov (.c (.i .i64 0))))]) (.seq (.reg [qN (.set 10 (.load (some 6) (qt 3))),qN (.set 11 (.load (some 3) (qt 4))),qN (.call (some 12) 292 [qt 10,qt 11]),qN (qm 8 12)]) (.seq (.seq (.reg [qN (qm 13 8),qN (qc 14 .neq 13 0)]) (.cond (qt 14) (.seq (.reg [qN (qm 15 8),qN (.set 6 (.mov (.c (.b false)))),qN (qm 7 15)]) .ret) .skip)) (.seq (.reg [qN (.set 16 (.load (some 6) (qt 3))),qN (qm 17 2),qN (.call (some 18) 334 [qt 16,qt 17]),qN (qm 9 18)]) (.seq (.seq (.reg [qN (qm 19 9),qN (qc 20 .lss 19 0)]) (.cond (qt 20) (.seq (.reg [qN (.set 6 (.mov (.c (.b false)))),qN (.set 7 (.mov (.c (.i .i64 6))))]) .ret) .skip)) (.seq (.reg [qN (.set 21 (.load (some 6) (qt 3))),qN (.set 22 (.load (some 3) (qt 4))),qN (qm 23 9),qN (.call (some 24) 352 [qt 21,qt 22,qt 23]),qN (qm 6 24),qN (.set 7 (.mov (.c (.i .i64 0))))]) .ret)))))⟩
def cd345:AFn:=⟨36,[.tmp 6,.tmp 7],.seq (.reg [qN (.box 3 6 (qt 0)),qN (.box 4 3 (qt 1)),qN (.set 6 (.mov (.c (.b false)))),qN (.set 7 (.mov (.c (.i .i64 0))))]) (.seq (.reg [qN (.set 10 (.load (some 6) (qt 3))),qN (.set 11 (.load (some 3) (qt 4))),qN (.call (some 12) 292 [qt 10,qt 11]),qN (qm 8 12)]) (.seq (.seq (.reg [qN (qm 13 8),qN (qc 14 .neq 13 0)]) (.cond (qt 14) (.seq (.reg [qN (qm 15 8),qN (.set 6 (.mov (.c (.b false)))),qN (qm 7 15)]) .ret) .skip)) (.seq (.seq (.reg [qN (.set 9 (.mov (.c (.i .i64 0))))]) (.block 0 (.loop (.seq (.seq (.reg [qN (qm 16 9),qN (qf 17 3 4),qN (ql 18 17),qN (.set 19 (.len (qt 18))),qN (qb 20 .lss 16 19)]) (.cond (qt 20) .skip (.exit 0))) (.seq (.block 1 (.seq (.reg [qN (qf 23 3 4),qN (ql 24 23),qN (qm 25 9),qN (qi 26 24 25 3),qN (qf 27 26 0),qN (ql 28 27),qN (qm 29 2),qN (qb 30 .eql 28 29)]) (.cond (qt 30) (.seq (.reg [qN (.set 31 (.load (some 6) (qt 3))),qN (.set 32 (.load (some 3) (qt 4))),qN (qm 33 2),qN (.call (some 34) 353 [qt 31,qt 32,qt 33]),qN (qc 35 .geq 34 0),qN (qm 6 35),qN (.set 7 (.mov (.c (.i .i64 0))))]) .ret) .skip))) (.reg [qN (qm 21 9),qN (qc 22 .add 21 1),qN (qm 9 22)])))))) (.seq (.reg [qN (.set 6 (.mov (.c (.b false)))),qN (.set 7 (.mov (.c (.i .i64 6))))]) .ret))))⟩
def cd346:AFn:=⟨16,[.tmp 4,.tmp 5],.seq (.reg [qN (.box 2 6 (qt 0)),qN (.box 3 3 (qt 1)),qN (.set 4 (.mov (.c (.s0 2)))),qN (.set 5 (.mov (.c (.i .i64 0))))]) (.seq (.reg [qN (.set 7 (.load (some 6) (qt 2))),qN (.set 8 (.load (some 3) (qt 3))),qN (.call (some 9) 292 [qt 7,qt 8]),qN (qm 6 9)]) (.seq (.seq (.reg [qN (qm 10 6),qN (qc 11 .neq 10 0)]) (.cond (qt 11) (.seq (.reg [qN (qm 12 6),qN (.set 4 (.mov (.c (.s0 2)))),qN (qm 5 12)]) .ret) .skip)) (.seq (.reg [qN (.set 13 (.load (some 6) (qt 2))),qN (.set 14 (.load (some 3) (qt 3))),qN (.call (some 15) 354 [qt 13,qt 14]),qN (qm 4 15),qN (.set 5 (.mov (.c (.i .i64 0))))]) .ret)))⟩
def cd347:AFn:=⟨15,[.tmp 4,.tmp 5],.seq (.reg [qN (.box 2 6 (qt 0)),qN (.box 3 3 (qt 1)),qN (.set 4 (.mov (.c (.s0 2)))),qN (.set 5 (.mov (.c (.i .i64 0))))]) (.seq (.reg [qN (.set 7 (.load (some 6) (qt 2))),qN (.set 8 (.load (some 3) (qt 3))),qN (.call (some 9) 292 [qt 7,qt 8]),qN (qm 6 9)]) (.seq (.seq (.reg [qN (qm 10 6),qN (qc 11 .neq 10 0)]) (.cond (qt 11) (.seq (.reg [qN (qm 12 6),qN (.set 4 (.mov (.c (.s0 2)))),qN (qm 5 12)]) .ret) .skip)) (.seq (.reg [qN (.set 13 (.load (some 3) (qt 3))),qN (.call (some 14) 355 [qt 13]),qN (qm 4 14),qN (.set 5 (.mov (.c (.i .i64 0))))]) .ret)))⟩
def cd348:AFn:=⟨26,[.tmp 4],.seq (.reg [qN (.set 4 (.mov (.c (.b false))))]) (.seq (.seq (.reg [qN (qm 6 0),qN (.set 7 (.len (qt 6))),qN (qm 8 1),qN (.set 9 (.len (qt 8))),qN (qb 10 .neq 7 9)]) (.cond (qt 10) (.seq (.reg [qN (.set 4 (.mov (.c (.b false))))]) .ret) .skip)) (.seq (.seq (.reg [qN (.set 5 (.mov (.c (.i .i64 0))))]) (.block 0 (.loop (.seq (.seq (.reg [qN (qm 11 5),qN (qm 12 0),qN (.set 13 (.len (qt 12))),qN (qb 14 .lss 11 13)]) (.cond (qt 14) .skip (.exit 0))) (.seq (.block 1 (.seq (.regd 0 [qN (qm 17 0),qN (qm 18 5),qN (qi 19 17 18 2),qN (.set 20 (.load (some 2) (qt 19))),qN (qm 21 1),qN (qm 22 5),qN (qi 23 21 22 2),qN (.set 24 (.load (some 2) (qt 23))),qN (.set 25 (.bin .neq (.flat [true,true]) (qt 20) (qt 24)))]) (.cond (qt 25) (.seq (.reg [qN (.set 4 (.mov (.c (.b false))))]) .ret) .skip))) (.reg [qN (qm 15 5),qN (qc 16 .add 15 1),qN (qm 5 16)])))))) (.seq (.reg [qN (.set 4 (.mov (.c (.b true))))]) .ret)))⟩
def cd349:AFn:=⟨26,[.tmp 4],.seq (.reg [qN (.set 4 (.mov (.c (.b false))))]) (.seq (.seq (.reg [qN (qm 6 0),qN (.set 7 (.len (qt 6))),qN (qm 8 1),qN (.set 9 (.len (qt 8))),qN (qb 10 .neq 7 9)]) (.cond (qt 10) (.seq (.reg [qN (.set 4 (.mov (.c (.b false))))]) .ret) .skip)) (.seq (.seq (.reg [qN (.set 5 (.mov (.c (.i .i64 0))))]) (.block 0 (.loop (.seq (.seq (.reg [qN (qm 11 5),qN (qm 12 0),qN (.set 13 (.len (qt 12))),qN (qb 14 .lss 11 13)]) (.cond (qt 14) .skip (.exit 0))) (.seq (.block 1 (.seq (.regd 0 [qN (qm 17 0),qN (qm 18 5),qN (qi 19 17 18 2),qN (.set 20 (.load (some 2) (qt 19))),qN (qm 21 1),qN (qm 22 5),qN (qi 23 21 22 2),qN (.set 24 (.load (some 2) (qt 23))),qN (.set 25 (.bin .neq (.flat [true,true]) (qt 20) (qt 24)))]) (.cond (qt 25) (.seq (.reg [qN (.set 4 (.mov (.c (.b false))))]) .ret) .skip))) (.reg [qN (qm 15 5),qN (qc 16 .add 15 1),qN (qm 5 16)])))))) (.seq (.reg [qN (.set 4 (.mov (.c (.b true))))]) .ret)))⟩
def cd350:AFn:=⟨47,[.tmp 4],.seq (.reg [qN (.set 4 (.mov (.c (.b false))))]) (.seq (.seq (.reg [qN (.set 5 (.mov (.c (.i .i64 0))))]) (.block 0 (.loop (.seq (.seq (.reg [qN (qm 6 5),qN (qm 7 0),qN (.set 8 (.len (qt 7))),qN (qb 9 .lss 6 8),qN (qm 10 9),qT 10 (qm 11 5),qT 10 (qm 12 1),qT 10 (.set 13 (.len (qt 12))),qT 10 (qb 14 .lss 11 13),qN (qp 15 10 14 false)]) (.cond (qt 15) .skip (.exit 0))) (.seq (.block 1 (.seq (.regd 0 [qN (qm 18 0),qN (qm 19 5),qN (qi 20 18 19 2),qN (qf 21 20 0),qN (ql 22 21),qN (qm 23 1),qN (qm 24 5),qN (qi 25 23 24 2),qN (qf 26 25 0),qN (ql 27 26),qN (qb 28 .neq 22 27),qN (qm 29 28),qF 29 (qm 30 0),qF 29 (qm 31 5),qF 29 (qi 32 30 31 2),qF 29 (qf 33 32 1),qF 29 (ql 34 33),qF 29 (qm 35 1),qF 29 (qm 36 5),qF 29 (qi 37 35 36 2),qF 29 (qf 38 37 1),qF 29 (ql 39 38),qF 29 (qb 40 .gtr 34 39),qN (qv 41 29 40 true)]) (.cond (qt 41) (.seq (.reg [qN (.set 4 (.mov (.c (.b true))))]) .ret) .skip))) (.reg [qN (qm 16 5),qN (qc 17 .add 16 1),qN (qm 5 17)])))))) (.seq (.reg [qN (qm 42 0),qN (.set 43 (.len (qt 42))),qN (qm 44 1),qN (.set 45 (.len (qt 44))),qN (qb 46 .neq 43 45),qN (qm 4 46)]) .ret))⟩
def cd352:AFn:=⟨80,[.tmp 6],.seq (.reg [qN (.box 3 6 (qt 0)),qN (.box 4 3 (qt 1)),qN (.set 6 (.mov (.c (.b false))))]) (.seq (.seq (.reg [qN (qf 11 4 2),qN (ql 12 11),qN (qm 13 2),qN (qi 14 12 13 4),qN (qf 15 14 1),qN (ql 16 15),qN (.set 17 (.bin .neq .num (qt 16) (.c (.i .u8 1))))]) (.cond (qt 17) (.seq (.reg [qN (.set 6 (.mov (.c (.b false))))]) .ret) .skip)) (.seq (.reg [qN (.set 18 (.load (some 6) (qt 3))),qN (qm 19 2),qN (.call (some 20) 312 [qt 18,qt 19]),qN (.alloc 7 [(1,.s0 1),(1,.s0 1),(1,.s0 3),(1,.i .i64 0)]),qN (.store 4 (qt 7) (qt 20))]) (.seq (.seq (.reg [qN (.set 8 (.mov (.c (.i .i64 0))))]) (.block 0 (.loop (.seq (.seq (.reg [qN (qm 21 8),qN (qf 22 7 0),qN (ql 23 22),qN (.set 24 (.len (qt 23))),qN (qb 25 .lss 21 24)]) (.cond (qt 25) .skip (.exit 0))) (.seq (.block 1 (.seq (.regd 0 [qN (.set 28 (.load (some 6) (qt 3))),qN (.set 29 (.load (some 3) (qt 4))),qN (qf 30 7 0),qN (ql 31 30),qN (qm 32 8),qN (qi 33 31 32 1),qN (ql 34 33),qN (.calle (some 35) 335 [qt 28,qt 29,qt 34]),qN (.set 36 (.bin .neq .num (qt 35) (.c (.i .u8 0))))]) (.cond (qt 36) (.seq (.reg [qN (.set 6 (.mov (.c (.b false))))]) .ret) .skip))) (.reg [qN (qm 26 8),qN (qc 27 .add 26 1),qN (qm 8 27)])))))) (.seq (.seq (.reg [qN (.set 9 (.mov (.c (.i .i64 0))))]) (.block 2 (.loop (.seq (.seq (.reg [qN (qm 37 9),qN (qf 38 7 1),qN (ql 39 38),qN (.set 40 (.len (qt 39))),qN (qb 41 .lss 37 40)]) (.cond (qt 41) .skip (.exit 2))) (.seq (.block 3 (.seq (.regd 0 [qN (.set 44 (.load (some 6) (qt 3))),qN (.set 45 (.load (some 3) (qt 4))),qN (qf 46 7 1),qN (ql 47 46),qN (qm 48 9),qN (qi 49 47 48 1),qN (ql 50 49),qN (.calle (some 51) 335 [qt 44,qt 45,qt 50]),qN (.set 52 (.bin .neq .num (qt 51) (.c (.i .u8 0))))]) (.cond (qt 52) (.seq (.reg [qN (.set 6 (.mov (.c (.b false))))]) .ret) .skip))) (.reg [qN (qm 42 9),qN (qc 43 .add 42 1),qN (qm 9 43)])))))) (.seq (.seq (.reg [qN (.set 10 (.mov (.c (.i .i64 0))))]) (.block 4 (.loop (.seq (.seq (.reg [qN (qm 53 10),qN (qf 54 7 2),qN (ql 55 54),qN (.set 56 (.len (qt 55))),qN (qb 57 .lss 53 56)]) (.cond (qt 57) .skip (.exit 4))) (.seq (.block 5 (.seq (.regd 0 [qN (qf 60 4 1),qN (ql 61 60),qN (.set 62 (.load (some 6) (qt 3))),qN (qf 63 7 2),qN (ql 64 63),qN (qm 65 10),qN (qi 66 64 65 3),qN (qf 67 66 0),qN (ql 68 67),qN (qf 73 7 2),qN (ql 74 73),qN (qm 75 10),qN (qi 76 74 75 3),qN (qf 77 76 1),qN (ql 78 77),qN (.call (some 69) 294 [qt 62,qt 68]),qN (qi 70 61 69 3),qN (qf 71 70 1),qN (ql 72 71),qN (qb 79 .neq 72 78)]) (.cond (qt 79) (.seq (.reg [qN (.set 6 (.mov (.c (.b false))))]) .ret) .skip))) (.reg [qN (qm 58 10),qN (qc 59 .add 58 1),qN (qm 10 59)])))))) (.seq (.reg [qN (.set 6 (.mov (.c (.b true))))]) .ret))))))⟩
def cd353:AFn:=⟨30,[.tmp 6],.seq (.reg [qN (.box 3 6 (qt 0)),qN (.box 4 3 (qt 1)),qN (.set 6 (.mov (.c (.i .i64 0))))]) (.seq (.seq (.reg [qN (.set 7 (.mov (.c (.i .i64 0))))]) (.block 0 (.loop (.seq (.seq (.reg [qN (qm 8 7),qN (qf 9 3 5),qN (ql 10 9),qN (.set 11 (.len (qt 10))),qN (qb 12 .lss 8 11)]) (.cond (qt 12) .skip (.exit 0))) (.seq (.block 1 (.seq (.reg [qN (qf 15 3 5),qN (ql 16 15),qN (qm 17 7),qN (qi 18 16 17 7),qN (qf 19 18 1),qN (ql 20 19),qN (qm 21 2),qN (qb 22 .eql 20 21),qN (qm 23 22),qT 23 (.set 24 (.load (some 6) (qt 3))),qT 23 (.set 25 (.load (some 3) (qt 4))),qT 23 (qm 26 7),qT 23 (.call (some 27) 352 [qt 24,qt 25,qt 26]),qN (qp 28 23 27 false)]) (.cond (qt 28) (.seq (.reg [qN (qm 29 7),qN (qm 6 29)]) .ret) .skip))) (.reg [qN (qm 13 7),qN (qc 14 .add 13 1),qN (qm 7 14)])))))) (.seq (.reg [qN (.set 6 (.mov (.c (.i .i64 (-1)))))]) .ret))⟩
def cd354:AFn:=⟨34,[.tmp 4],.seq (.reg [qN (.box 2 6 (qt 0)),qN (.box 3 3 (qt 1)),qN (.set 4 (.mov (.c (.s0 2))))]) (.seq (.reg [qN (.set 5 (.mov (.c (.s0 2))))]) (.seq (.seq (.reg [qN (.set 6 (.mov (.c (.i .i64 0))))]) (.block 0 (.loop (.seq (.seq (.reg [qN (qm 7 6),qN (qf 8 2 4),qN (ql 9 8),qN (.set 10 (.len (qt 9))),qN (qb 11 .lss 7 10)]) (.cond (qt 11) .skip (.exit 0))) (.seq (.block 1 (.regd 0 [qN (qm 14 5),qN (qf 15 2 4),qN (ql 16 15),qN (qm 17 6),qN (qi 18 16 17 3),qN (qf 19 18 0),qN (ql 20 19),qN (.set 21 (.load (some 6) (qt 2))),qN (.set 22 (.load (some 3) (qt 3))),qN (qf 23 2 4),qN (ql 24 23),qN (qm 25 6),qN (qi 26 24 25 3),qN (qf 27 26 0),qN (ql 28 27),qN (.call (some 29) 356 [qt 21,qt 22,qt 28]),qN (.set 30 (.build [(1,.i .i64 0),(1,.i .u8 0)] [(0,(1,qt 20)),(1,(1,qt 29))])),qN (.mksl 31 2 1 [(1,.i .i64 0),(1,.i .u8 0)] [(0,(2,qt 30))]),qN (.appe 32 (qt 14) (qt 31) 2),qN (qm 5 32)])) (.reg [qN (qm 12 6),qN (qc 13 .add 12 1),qN (qm 6 13)])))))) (.seq (.reg [qN (qm 33 5),qN (qm 4 33)]) .ret)))⟩
def cd355:AFn:=⟨36,[.tmp 2],.seq (.reg [qN (.box 1 3 (qt 0)),qN (.set 2 (.mov (.c (.s0 2))))]) (.seq (.reg [qN (.set 3 (.mov (.c (.s0 2))))]) (.seq (.seq (.reg [qN (.set 4 (.mov (.c (.i .i64 0))))]) (.block 0 (.loop (.seq (.seq (.reg [qN (qm 5 4),qN (qf 6 1 1),qN (ql 7 6),qN (.set 8 (.len (qt 7))),qN (qb 9 .lss 5 8)]) (.cond (qt 9) .skip (.exit 0))) (.seq (.block 1 (.seq (.reg [qN (qf 12 1 1),qN (ql 13 12),qN (qm 14 4),qN (qi 15 13 14 3),qN (qf 16 15 2),qN (ql 17 16),qN (qc 18 .neq 17 0)]) (.cond (qt 18) (.regd 0 [qN (qm 19 3),qN (qf 20 1 1),qN (ql 21 20),qN (qm 22 4),qN (qi 23 21 22 3),qN (qf 24 23 0),qN (ql 25 24),qN (qf 26 1 1),qN (ql 27 26),qN (qm 28 4),qN (qi 29 27 28 3),qN (qf 30 29 2),qN (ql 31 30),qN (.set 32 (.build [(1,.i .i64 0),(1,.i .i64 0)] [(0,(1,qt 25)),(1,(1,qt 31))])),qN (.mksl 33 2 1 [(1,.i .i64 0),(1,.i .i64 0)] [(0,(2,qt 32))]),qN (.appe 34 (qt 19) (qt 33) 2),qN (qm 3 34)]) .skip))) (.reg [qN (qm 10 4),qN (qc 11 .add 10 1),qN (qm 4 11)])))))) (.seq (.reg [qN (qm 35 3),qN (qm 2 35)]) .ret)))⟩
def cd356:AFn:=⟨33,[.tmp 6],.seq (.reg [qN (.box 3 6 (qt 0)),qN (.box 4 3 (qt 1)),qN (.set 6 (.mov (.c (.i .u8 0))))]) (.seq (.reg [qN (.set 8 (.load (some 6) (qt 3))),qN (.set 9 (.load (some 3) (qt 4))),qN (qm 10 2),qN (.call (some 11) 353 [qt 8,qt 9,qt 10]),qN (qm 7 11)]) (.seq (.seq (.reg [qN (qm 12 7),qN (qc 13 .lss 12 0)]) (.cond (qt 13) (.seq (.reg [qN (.set 6 (.mov (.c (.i .u8 0))))]) .ret) .skip)) (.seq (.seq (.regd 0 [qN (qf 14 3 5),qN (ql 15 14),qN (qm 16 7),qN (qi 17 15 16 7),qN (qf 18 17 2),qN (ql 19 18),qN (qc 20 .neq 19 0),qN (qm 21 20),qT 21 (.set 22 (.load (some 6) (qt 3))),qT 21 (.set 23 (.load (some 3) (qt 4))),qT 21 (qf 24 3 5),qT 21 (ql 25 24),qT 21 (qm 26 7),qT 21 (qi 27 25 26 7),qT 21 (qf 28 27 2),qT 21 (ql 29 28),qT 21 (.calle (some 30) 353 [qt 22,qt 23,qt 29]),qT 21 (qc 31 .geq 30 0),qN (qp 32 21 31 false)]) (.cond (qt 32) (.seq (.reg [qN (.set 6 (.mov (.c (.i .u8 2))))]) .ret) .skip)) (.seq (.reg [qN (.set 6 (.mov (.c (.i .u8 1))))]) .ret))))⟩
end Go.Eng
namespace Go.Eng
def code:Nat→Option AFn
 |8=>some cd8
 |9=>some cd9
 |10=>some cd10
 |11=>some cd11
 |14=>some cd14
 |16=>some cd16
 |26=>some cd26
 |31=>some cd31
 |32=>some cd32
 |33=>some cd33
 |34=>some cd34
 |35=>some cd35
 |36=>some cd36
 |41=>some cd41
 |42=>some cd42
 |43=>some cd43
 |44=>some cd44
 |46=>some cd46
 |48=>some cd48
 |49=>some cd49
 |50=>some cd50
 |51=>some cd51
 |52=>some cd52
 |53=>some cd53
 |54=>some cd54
 |55=>some cd55
 |65=>some cd65
 |69=>some cd69
 |70=>some cd70
 |71=>some cd71
 |73=>some cd73
 |74=>some cd74
 |76=>some cd76
 |78=>some cd78
 |79=>some cd79
 |82=>some cd82
 |83=>some cd83
 |84=>some cd84
 |85=>some cd85
 |86=>some cd86
 |87=>some cd87
 |88=>some cd88
 |89=>some cd89
 |90=>some cd90
 |91=>some cd91
 |93=>some cd93
 |94=>some cd94
 |95=>some cd95
 |96=>some cd96
 |97=>some cd97
 |98=>some cd98
 |99=>some cd99
 |100=>some cd100
 |101=>some cd101
 |102=>some cd102
 |103=>some cd103
 |104=>some cd104
 |105=>some cd105
 |106=>some cd106
 |107=>some cd107
 |108=>some cd108
 |109=>some cd109
 |110=>some cd110
 |111=>some cd111
 |112=>some cd112
 |113=>some cd113
 |114=>some cd114
 |115=>some cd115
 |116=>some cd116
 |117=>some cd117
 |118=>some cd118
 |119=>some cd119
 |120=>some cd120
 |121=>some cd121
 |122=>some cd122
 |123=>some cd123
 |124=>some cd124
 |125=>some cd125
 |126=>some cd126
 |127=>some cd127
 |128=>some cd128
 |129=>some cd129
 |130=>some cd130
 |131=>some cd131
 |132=>some cd132
 |133=>some cd133
 |134=>some cd134
 |135=>some cd135
 |136=>some cd136
 |137=>some cd137
 |138=>some cd138
 |139=>some cd139
 |140=>some cd140
 |141=>some cd141
 |142=>some cd142
 |143=>some cd143
 |144=>some cd144
 |145=>some cd145
 |156=>some cd156
 |171=>some cd171
 |172=>some cd172
 |173=>some cd173
 |176=>some cd176
 |177=>some cd177
 |180=>some cd180
 |181=>some cd181
 |182=>some cd182
 |183=>some cd183
 |184=>some cd184
 |185=>some cd185
 |189=>some cd189
 |195=>some cd195
 |196=>some cd196
 |197=>some cd197
 |198=>some cd198
 |199=>some cd199
 |200=>some cd200
 |201=>some cd201
 |202=>some cd202
 |203=>some cd203
 |204=>some cd204
 |213=>some cd213
 |214=>some cd214
 |215=>some cd215
 |216=>some cd216
 |217=>some cd217
 |218=>some cd218
 |228=>some cd228
 |236=>some cd236
 |237=>some cd237
 |238=>some cd238
 |239=>some cd239
 |240=>some cd240
 |241=>some cd241
 |242=>some cd242
 |243=>some cd243
 |244=>some cd244
 |245=>some cd245
 |246=>some cd246
 |247=>some cd247
 |248=>some cd248
 |265=>some cd265
 |266=>some cd266
 |292=>some cd292
 |293=>some cd293
 |294=>some cd294
 |295=>some cd295
 |299=>some cd299
 |300=>some cd300
 |301=>some cd301
 |302=>some cd302
 |303=>some cd303
 |304=>some cd304
 |305=>some cd305
 |306=>some cd306
 |307=>some cd307
 |308=>some cd308
 |309=>some cd309
 |310=>some cd310
 |311=>some cd311
 |312=>some cd312
 |313=>some cd313
 |314=>some cd314
 |315=>some cd315
 |316=>some cd316
 |317=>some cd317
 |318=>some cd318
 |334=>some cd334
 |335=>some cd335
 |336=>some cd336
 |337=>some cd337
 |338=>some cd338
 |339=>some cd339
 |340=>some cd340
 |342=>some cd342
 |343=>some cd343
 |344=>some cd344
 |345=>some cd345
 |346=>some cd346
 |347=>some cd347
 |348=>some cd348
 |349=>some cd349
 |350=>some cd350
 |352=>some cd352
 |353=>some cd353
 |354=>some cd354
 |355=>some cd355
 |356=>some cd356
 |_=>none
structure HasAll (P:Program) (inv:Nat→Option Nat):Prop where
 callable:zb0 P inv
 has:∀ j F,code j=some F→Has P inv j F
end Go.Eng
