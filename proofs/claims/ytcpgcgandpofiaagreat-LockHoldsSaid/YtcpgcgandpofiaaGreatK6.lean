/-
  A part of the engine that walks the functions' codes, and of the functions' contracts. Conditions: those that each theorem names.
-/
import Derived.Test.YtcpgcgandpofiaaGreatK5
import Derived.Below
import Derived.Calls
import Derived.ChangeKeysEq
import Derived.DataReads
import Derived.Deep.LoopGhost
import Derived.Laws.AppendOwn
import Derived.Laws.Cells
import Derived.Laws.CopyRow
import Derived.Laws.Entries
import Derived.Laws.MakeOwn
import Derived.Laws.Rows
import Derived.Laws.StructEq
import Derived.Laws.Tables
import Derived.Lib.AppendZerosOnto
import Derived.MapKept
import Derived.Orders
import Derived.ProofKit
import Derived.ScopeJumps
import Derived.Tactics2
import Derived.WalkSpells
set_option linter.unusedSimpArgs false
set_option linter.unusedVariables false
set_option linter.unusedSectionVars false
namespace Go.Eng
def cd319:AFn:=⟨130,[.tmp 6],.seq (.reg [qN (.box 3 6 (qt 0)),qN (.box 4 3 (qt 1)),qN (.set 6 (.mov (.c (.b false))))]) (.seq (.reg [qN (.call (some 15) 152 []),qN (qm 7 15)]) (.seq (.seq (.reg [qN (.set 16 (.load (some 6) (qt 3))),qN (.call (some 17) 71 [qt 16]),qN (qm 18 17),qF 18 (.set 19 (.load (some 3) (qt 4))),qF 18 (.call (some 20) 8 [qt 19]),qN (qv 21 18 20 true),qN (qm 22 21),qF 22 (qm 23 7),qF 22 (.set 24 (.not (qt 23))),qN (qv 25 22 24 true),qN (qm 26 25),qF 26 (.set 27 (.load (some 6) (qt 3))),qF 26 (.set 28 (.load (some 3) (qt 4))),qF 26 (.call (some 29) 69 [qt 27,qt 28]),qF 26 (qc 30 .neq 29 0),qN (qv 31 26 30 true)]) (.cond (qt 31) (.seq (.reg [qN (qm 32 7),qN (qm 6 32)]) .ret) .skip)) (.seq (.reg [qN (.set 33 (.load (some 6) (qt 3))),qN (.set 34 (.load (some 3) (qt 4))),qN (qm 35 2),qN (.call (some 36) 153 [qt 33,qt 34,qt 35]),qN (qm 8 36)]) (.seq (.seq (.reg [qN (.set 9 (.mov (.c (.i .i64 0))))]) (.block 0 (.loop (.seq (.seq (.reg [qN (qm 37 9),qN (qf 38 3 3),qN (ql 39 38),qN (.set 40 (.len (qt 39))),qN (qb 41 .lss 37 40)]) (.cond (qt 41) .skip (.exit 0))) (.seq (.block 1 (.seq (.seq (.reg [qN (qf 44 3 3),qN (ql 45 44),qN (qm 46 9),qN (qi 47 45 46 2),qN (qf 48 47 0),qN (ql 49 48),qN (qm 50 2),qN (qb 51 .neq 49 50)]) (.cond (qt 51) (.exit 1) .skip)) (.seq (.reg [qN (.set 53 (.load (some 6) (qt 3))),qN (.set 54 (.load (some 3) (qt 4))),qN (qm 55 2),qN (.call (some 56) 77 [qt 53,qt 54,qt 55]),qN (qm 52 56),qN (.set 57 (.ext (qt 52) 0)),qN (.set 58 (.ext (qt 52) 1)),qN (qm 10 57),qN (qm 11 58)]) (.seq (.seq (.reg [qN (qm 59 11),qN (qc 60 .neq 59 0)]) (.cond (qt 60) (.seq (.reg [qN (.set 6 (.mov (.c (.b false))))]) .ret) .skip)) (.seq (.seq (.reg [qN (qm 61 10),qN (qc 62 .neq 61 0)]) (.cond (qt 62) (.seq (.reg [qN (qm 63 7),qN (qm 64 63),qT 64 (qm 65 8),qT 64 (qc 66 .eql 65 170),qN (qp 67 64 66 false),qN (qm 6 67)]) .ret) .skip)) (.seq (.seq (.reg [qN (.set 12 (.mov (.c (.i .i64 0))))]) (.block 2 (.loop (.seq (.seq (.reg [qN (qm 68 12),qN (qf 69 4 0),qN (ql 70 69),qN (.set 71 (.len (qt 70))),qN (qb 72 .lss 68 71)]) (.cond (qt 72) .skip (.exit 2))) (.seq (.block 3 (.seq (.regd 0 [qN (qf 75 4 0),qN (ql 76 75),qN (qm 77 12),qN (qi 78 76 77 2),qN (qf 79 78 0),qN (ql 80 79),qN (qf 81 3 3),qN (ql 82 81),qN (qm 83 9),qN (qi 84 82 83 2),qN (qf 85 84 1),qN (ql 86 85),qN (qb 87 .eql 80 86),qN (qm 88 87),qT 88 (qf 89 4 0),qT 88 (ql 90 89),qT 88 (qm 91 12),qT 88 (qi 92 90 91 2),qT 88 (qf 93 92 1),qT 88 (ql 94 93),qT 88 (.set 95 (.bin .neq .num (qt 94) (.c (.i .u8 0)))),qN (qp 96 88 95 false)]) (.cond (qt 96) (.seq (.reg [qN (qm 97 7),qN (qm 98 97),qT 98 (qm 99 8),qT 98 (qc 100 .eql 99 171),qN (qp 101 98 100 false),qN (qm 6 101)]) .ret) .skip))) (.reg [qN (qm 73 12),qN (qc 74 .add 73 1),qN (qm 12 74)])))))) (.seq (.reg [qN (.set 103 (.load (some 6) (qt 3))),qN (.set 104 (.load (some 3) (qt 4))),qN (qm 105 2),qN (.call (some 106) 151 [qt 103,qt 104,qt 105,.c (.i .i64 2)]),qN (qm 102 106),qN (.set 107 (.ext (qt 102) 0)),qN (.set 108 (.ext (qt 102) 1)),qN (.alloc 13 [(1,.s0 2),(1,.s0 3),(1,.s0 4)]),qN (.store 3 (qt 13) (qt 107)),qN (qm 14 108)]) (.seq (.reg [qN (qm 109 7),qN (qm 110 109),qT 110 (qm 111 8),qT 110 (qc 112 .eql 111 0),qN (qp 113 110 112 false),qN (qm 114 113),qT 114 (qm 115 14),qT 114 (qc 116 .eql 115 0),qN (qp 117 114 116 false),qN (qm 118 117),qT 118 (.set 119 (.load (some 6) (qt 3))),qT 118 (.set 120 (.load (some 3) (qt 13))),qT 118 (qm 121 2),qT 118 (.call (some 122) 153 [qt 119,qt 120,qt 121]),qT 118 (qc 123 .eql 122 0),qN (qp 124 118 123 false),qN (qm 6 124)]) .ret)))))))) (.reg [qN (qm 42 9),qN (qc 43 .add 42 1),qN (qm 9 43)])))))) (.seq (.reg [qN (qm 125 7),qN (qm 126 125),qT 126 (qm 127 8),qT 126 (qc 128 .eql 127 6),qN (qp 129 126 128 false),qN (qm 6 129)]) .ret)))))⟩
def cd320:AFn:=⟨211,[.tmp 8],.seq (.reg [qN (.box 4 6 (qt 0)),qN (.box 5 3 (qt 1)),qN (.set 8 (.mov (.c (.b false))))]) (.seq (.reg [qN (.call (some 24) 152 []),qN (qm 9 24)]) (.seq (.seq (.reg [qN (.set 25 (.load (some 6) (qt 4))),qN (.call (some 26) 71 [qt 25]),qN (qm 27 26),qF 27 (.set 28 (.load (some 3) (qt 5))),qF 27 (.call (some 29) 8 [qt 28]),qN (qv 30 27 29 true),qN (qm 31 30),qF 31 (qm 32 9),qF 31 (.set 33 (.not (qt 32))),qN (qv 34 31 33 true),qN (qm 35 34),qF 35 (.set 36 (.load (some 6) (qt 4))),qF 35 (.set 37 (.load (some 3) (qt 5))),qF 35 (.call (some 38) 69 [qt 36,qt 37]),qF 35 (qc 39 .neq 38 0),qN (qv 40 35 39 true)]) (.cond (qt 40) (.seq (.reg [qN (qm 41 9),qN (qm 8 41)]) .ret) .skip)) (.seq (.reg [qN (.set 43 (.load (some 6) (qt 4))),qN (.set 44 (.load (some 3) (qt 5))),qN (qm 45 2),qN (qm 46 3),qN (.call (some 47) 151 [qt 43,qt 44,qt 45,qt 46]),qN (qm 42 47),qN (.set 48 (.ext (qt 42) 0)),qN (.set 49 (.ext (qt 42) 1)),qN (.alloc 10 [(1,.s0 2),(1,.s0 3),(1,.s0 4)]),qN (.store 3 (qt 10) (qt 48)),qN (qm 11 49)]) (.seq (.reg [qN (.set 51 (.load (some 6) (qt 4))),qN (.set 52 (.load (some 3) (qt 5))),qN (qm 53 2),qN (.call (some 54) 77 [qt 51,qt 52,qt 53]),qN (qm 50 54),qN (.set 55 (.ext (qt 50) 0)),qN (.set 56 (.ext (qt 50) 1)),qN (qm 12 55),qN (qm 13 56)]) (.seq (.reg [qN (.set 14 (.mov (.c (.b false)))),qN (.set 15 (.mov (.c (.i .i64 (-1)))))]) (.seq (.seq (.reg [qN (.set 16 (.mov (.c (.i .i64 0))))]) (.block 0 (.loop (.seq (.seq (.reg [qN (qm 57 16),qN (qf 58 4 3),qN (ql 59 58),qN (.set 60 (.len (qt 59))),qN (qb 61 .lss 57 60),qN (qm 62 61),qT 62 (qm 63 16),qT 62 (qf 64 5 1),qT 62 (ql 65 64),qT 62 (.set 66 (.len (qt 65))),qT 62 (qb 67 .lss 63 66),qN (qp 68 62 67 false)]) (.cond (qt 68) .skip (.exit 0))) (.seq (.block 1 (.seq (.seq (.reg [qN (qf 71 4 3),qN (ql 72 71),qN (qm 73 16),qN (qi 74 72 73 2),qN (qf 75 74 0),qN (ql 76 75),qN (qm 77 2),qN (qb 78 .neq 76 77)]) (.cond (qt 78) (.exit 1) .skip)) (.seq (.reg [qN (qm 79 16),qN (qm 15 79)]) (.seq (.reg [qN (.set 17 (.mov (.c (.i .i64 0))))]) (.block 2 (.loop (.seq (.seq (.reg [qN (qm 80 17),qN (qf 81 5 0),qN (ql 82 81),qN (.set 83 (.len (qt 82))),qN (qb 84 .lss 80 83)]) (.cond (qt 84) .skip (.exit 2))) (.seq (.block 3 (.regd 0 [qN (qm 87 14),qN (qm 88 87),qF 88 (qf 89 5 0),qF 88 (ql 90 89),qF 88 (qm 91 17),qF 88 (qi 92 90 91 2),qF 88 (qf 93 92 0),qF 88 (ql 94 93),qF 88 (qf 95 4 3),qF 88 (ql 96 95),qF 88 (qm 97 16),qF 88 (qi 98 96 97 2),qF 88 (qf 99 98 1),qF 88 (ql 100 99),qF 88 (qb 101 .eql 94 100),qF 88 (qm 102 101),qT 102 (qf 103 5 0),qT 102 (ql 104 103),qT 102 (qm 105 17),qT 102 (qi 106 104 105 2),qT 102 (qf 107 106 1),qT 102 (ql 108 107),qT 102 (.set 109 (.bin .eql .num (qt 108) (.c (.i .u8 0)))),qF 88 (qp 110 102 109 false),qN (qv 111 88 110 true),qN (qm 14 111)])) (.reg [qN (qm 85 17),qN (qc 86 .add 85 1),qN (qm 17 86)]))))))))) (.reg [qN (qm 69 16),qN (qc 70 .add 69 1),qN (qm 16 70)])))))) (.seq (.reg [qN (qm 112 15),qN (qc 113 .geq 112 0),qN (qm 114 113),qT 114 (qm 115 3),qT 114 (qc 116 .eql 115 1),qT 114 (qm 117 116),qF 117 (qm 118 3),qF 117 (qc 119 .eql 118 2),qT 114 (qv 120 117 119 true),qN (qp 121 114 120 false),qN (qm 122 121),qT 122 (qm 123 13),qT 122 (qc 124 .eql 123 0),qN (qp 125 122 124 false),qN (qm 126 125),qT 126 (qm 127 12),qT 126 (qc 128 .eql 127 0),qN (qp 129 126 128 false),qN (qm 130 129),qT 130 (qm 131 14),qN (qp 132 130 131 false),qN (qm 18 132)]) (.seq (.seq (.reg [qN (qm 133 11),qN (qc 134 .eql 133 0),qN (qm 135 18),qN (.set 136 (.bin .neq .bool (qt 134) (qt 135)))]) (.cond (qt 136) (.seq (.reg [qN (.set 8 (.mov (.c (.b false))))]) .ret) .skip)) (.seq (.seq (.reg [qN (qm 137 11),qN (qc 138 .neq 137 0)]) (.cond (qt 138) (.seq (.reg [qN (qm 139 9),qN (qm 140 139),qT 140 (qf 141 10 1),qT 140 (ql 142 141),qT 140 (.set 143 (.len (qt 142))),qT 140 (qc 144 .eql 143 0),qN (qp 145 140 144 false),qN (qm 8 145)]) .ret) .skip)) (.seq (.seq (.reg [qN (qf 146 10 1),qN (ql 147 146),qN (qm 148 15),qN (qi 149 147 148 3),qN (qf 150 149 2),qN (ql 151 150),qN (qm 152 3),qN (qb 153 .neq 151 152),qN (qm 154 153),qF 154 (.set 155 (.load (some 6) (qt 4))),qF 154 (.set 156 (.load (some 3) (qt 10))),qF 154 (.call (some 157) 69 [qt 155,qt 156]),qF 154 (qc 158 .neq 157 0),qN (qv 159 154 158 true)]) (.cond (qt 159) (.seq (.reg [qN (.set 8 (.mov (.c (.b false))))]) .ret) .skip)) (.seq (.reg [qN (qf 160 5 1),qN (ql 161 160),qN (qm 162 15),qN (qi 163 161 162 3),qN (qf 164 163 2),qN (ql 165 164),qN (qm 19 165)]) (.seq (.reg [qN (qf 166 10 1),qN (ql 167 166),qN (qm 168 15),qN (qm 169 19),qN (qi 170 167 168 3),qN (qf 171 170 2),qN (.store 1 (qt 171) (qt 169))]) (.seq (.seq (.reg [qN (.set 172 (.load (some 3) (qt 10))),qN (.set 173 (.load (some 3) (qt 5))),qN (.call (some 174) 11 [qt 172,qt 173]),qN (.set 175 (.not (qt 174)))]) (.cond (qt 175) (.seq (.reg [qN (.set 8 (.mov (.c (.b false))))]) .ret) .skip)) (.seq (.reg [qN (.set 177 (.load (some 6) (qt 4))),qN (.set 178 (.load (some 3) (qt 5))),qN (qm 179 2),qN (qm 180 3),qN (.call (some 181) 151 [qt 177,qt 178,qt 179,qt 180]),qN (qm 176 181),qN (.set 182 (.ext (qt 176) 0)),qN (.set 183 (.ext (qt 176) 1)),qN (.alloc 20 [(1,.s0 2),(1,.s0 3),(1,.s0 4)]),qN (.store 3 (qt 20) (qt 182)),qN (qm 21 183)]) (.seq (.reg [qN (.set 185 (.load (some 6) (qt 4))),qN (.set 186 (.load (some 3) (qt 20))),qN (qm 187 2),qN (qm 188 19),qN (.set 189 (.mnx false (qt 188) (.c (.i .i64 1)))),qN (.call (some 190) 151 [qt 185,qt 186,qt 187,qt 189]),qN (qm 184 190),qN (.set 191 (.ext (qt 184) 0)),qN (.set 192 (.ext (qt 184) 1)),qN (.alloc 22 [(1,.s0 2),(1,.s0 3),(1,.s0 4)]),qN (.store 3 (qt 22) (qt 191)),qN (qm 23 192)]) (.seq (.reg [qN (qm 193 9),qN (qm 194 193),qT 194 (qm 195 21),qT 194 (qc 196 .eql 195 0),qN (qp 197 194 196 false),qN (qm 198 197),qT 198 (qm 199 23),qT 198 (qc 200 .eql 199 0),qN (qp 201 198 200 false),qN (qm 202 201),qT 202 (qm 203 19),qT 202 (qc 204 .eql 203 0),qT 202 (qm 205 204),qF 205 (.set 206 (.load (some 3) (qt 22))),qF 205 (.set 207 (.load (some 3) (qt 5))),qF 205 (.call (some 208) 11 [qt 206,qt 207]),qT 202 (qv 209 205 208 true),qN (qp 210 202 209 false),qN (qm 8 210)]) .ret))))))))))))))))⟩
def cd321:AFn:=⟨116,[.tmp 8],.seq (.reg [qN (.box 4 6 (qt 0)),qN (.box 5 3 (qt 1)),qN (.box 6 2 (qt 2)),qN (.box 7 2 (qt 3)),qN (.set 8 (.mov (.c (.b false))))]) (.seq (.reg [qN (.call (some 18) 152 []),qN (qm 9 18)]) (.seq (.seq (.reg [qN (.set 19 (.load (some 6) (qt 4))),qN (.call (some 20) 71 [qt 19]),qN (qm 21 20),qF 21 (.set 22 (.load (some 3) (qt 5))),qF 21 (.call (some 23) 8 [qt 22]),qN (qv 24 21 23 true),qN (qm 25 24),qF 25 (qm 26 9),qF 25 (.set 27 (.not (qt 26))),qN (qv 28 25 27 true)]) (.cond (qt 28) (.seq (.reg [qN (qm 29 9),qN (qm 8 29)]) .ret) .skip)) (.seq (.reg [qN (.set 31 (.load (some 6) (qt 4))),qN (.set 32 (.load (some 3) (qt 5))),qN (.set 33 (.iadr (qt 6) (.c (.i .i64 0)) 1 (some 2))),qN (ql 34 33),qN (.set 35 (.iadr (qt 6) (.c (.i .i64 1)) 1 (some 2))),qN (ql 36 35),qN (.call (some 37) 151 [qt 31,qt 32,qt 34,qt 36]),qN (qm 30 37),qN (.set 38 (.ext (qt 30) 0)),qN (.set 39 (.ext (qt 30) 1)),qN (.alloc 10 [(1,.s0 2),(1,.s0 3),(1,.s0 4)]),qN (.store 3 (qt 10) (qt 38)),qN (qm 11 39)]) (.seq (.reg [qN (.set 41 (.load (some 6) (qt 4))),qN (.set 42 (.load (some 3) (qt 5))),qN (.set 43 (.iadr (qt 7) (.c (.i .i64 0)) 1 (some 2))),qN (ql 44 43),qN (.set 45 (.iadr (qt 7) (.c (.i .i64 1)) 1 (some 2))),qN (ql 46 45),qN (.call (some 47) 151 [qt 41,qt 42,qt 44,qt 46]),qN (qm 40 47),qN (.set 48 (.ext (qt 40) 0)),qN (.set 49 (.ext (qt 40) 1)),qN (.alloc 12 [(1,.s0 2),(1,.s0 3),(1,.s0 4)]),qN (.store 3 (qt 12) (qt 48)),qN (qm 13 49)]) (.seq (.seq (.reg [qN (qm 50 11),qN (qc 51 .neq 50 0)]) (.cond (qt 51) (.seq (.reg [qN (qm 52 9),qN (qm 8 52)]) .ret) .skip)) (.seq (.reg [qN (.set 54 (.load (some 6) (qt 4))),qN (.set 55 (.load (some 3) (qt 10))),qN (.set 56 (.iadr (qt 7) (.c (.i .i64 0)) 1 (some 2))),qN (ql 57 56),qN (.set 58 (.iadr (qt 7) (.c (.i .i64 1)) 1 (some 2))),qN (ql 59 58),qN (.call (some 60) 151 [qt 54,qt 55,qt 57,qt 59]),qN (qm 53 60),qN (.set 61 (.ext (qt 53) 0)),qN (.set 62 (.ext (qt 53) 1)),qN (.alloc 14 [(1,.s0 2),(1,.s0 3),(1,.s0 4)]),qN (.store 3 (qt 14) (qt 61)),qN (qm 15 62)]) (.seq (.seq (.regd 0 [qN (qm 63 15),qN (qm 64 13),qN (qb 65 .neq 63 64),qN (qm 66 65),qF 66 (.set 67 (.load (some 6) (qt 4))),qF 66 (.set 68 (.load (some 3) (qt 10))),qF 66 (.set 69 (.iadr (qt 7) (.c (.i .i64 0)) 1 (some 2))),qF 66 (ql 70 69),qF 66 (.set 72 (.load (some 6) (qt 4))),qF 66 (.set 73 (.load (some 3) (qt 5))),qF 66 (.set 74 (.iadr (qt 7) (.c (.i .i64 0)) 1 (some 2))),qF 66 (ql 75 74),qF 66 (.call (some 71) 153 [qt 67,qt 68,qt 70]),qF 66 (.calle (some 76) 153 [qt 72,qt 73,qt 75]),qF 66 (qb 77 .neq 71 76),qN (qv 78 66 77 true)]) (.cond (qt 78) (.seq (.reg [qN (.set 8 (.mov (.c (.b false))))]) .ret) .skip)) (.seq (.seq (.reg [qN (qm 79 13),qN (qc 80 .neq 79 0)]) (.cond (qt 80) (.seq (.reg [qN (qm 81 9),qN (qm 8 81)]) .ret) .skip)) (.seq (.reg [qN (.set 83 (.load (some 6) (qt 4))),qN (.set 84 (.load (some 3) (qt 12))),qN (.set 85 (.iadr (qt 6) (.c (.i .i64 0)) 1 (some 2))),qN (ql 86 85),qN (.set 87 (.iadr (qt 6) (.c (.i .i64 1)) 1 (some 2))),qN (ql 88 87),qN (.call (some 89) 151 [qt 83,qt 84,qt 86,qt 88]),qN (qm 82 89),qN (.set 90 (.ext (qt 82) 0)),qN (.set 91 (.ext (qt 82) 1)),qN (.alloc 16 [(1,.s0 2),(1,.s0 3),(1,.s0 4)]),qN (.store 3 (qt 16) (qt 90)),qN (qm 17 91)]) (.seq (.seq (.reg [qN (qm 92 17),qN (qc 93 .neq 92 0)]) (.cond (qt 93) (.seq (.reg [qN (.set 8 (.mov (.c (.b false))))]) .ret) .skip)) (.seq (.seq (.reg [qN (.set 94 (.iadr (qt 6) (.c (.i .i64 0)) 1 (some 2))),qN (ql 95 94),qN (.set 96 (.iadr (qt 7) (.c (.i .i64 0)) 1 (some 2))),qN (ql 97 96),qN (qb 98 .eql 95 97)]) (.cond (qt 98) (.seq (.reg [qN (qm 99 9),qN (qm 100 99),qT 100 (.set 101 (.load (some 3) (qt 14))),qT 100 (.set 102 (.load (some 3) (qt 12))),qT 100 (.call (some 103) 11 [qt 101,qt 102]),qN (qp 104 100 103 false),qN (qm 105 104),qT 105 (.set 106 (.load (some 3) (qt 16))),qT 105 (.set 107 (.load (some 3) (qt 10))),qT 105 (.call (some 108) 11 [qt 106,qt 107]),qN (qp 109 105 108 false),qN (qm 8 109)]) .ret) .skip)) (.seq (.reg [qN (qm 110 9),qN (qm 111 110),qT 111 (.set 112 (.load (some 3) (qt 14))),qT 111 (.set 113 (.load (some 3) (qt 16))),qT 111 (.call (some 114) 11 [qt 112,qt 113]),qN (qp 115 111 114 false),qN (qm 8 115)]) .ret))))))))))))⟩
end Go.Eng
namespace Go.Eng
def cd326:AFn:=⟨268,[.tmp 6],.seq (.reg [qN (.box 3 6 (qt 0)),qN (.box 4 3 (qt 1)),qN (.set 6 (.mov (.c (.b false))))]) (.seq (.reg [qN (.call (some 26) 154 []),qN (qm 7 26)]) (.seq (.seq (.reg [qN (.set 27 (.load (some 6) (qt 3))),qN (.call (some 28) 71 [qt 27]),qN (qm 29 28),qF 29 (.set 30 (.load (some 3) (qt 4))),qF 29 (.call (some 31) 8 [qt 30]),qN (qv 32 29 31 true),qN (qm 33 32),qF 33 (qm 34 7),qF 33 (.set 35 (.not (qt 34))),qN (qv 36 33 35 true)]) (.cond (qt 36) (.seq (.reg [qN (qm 37 7),qN (qm 6 37)]) .ret) .skip)) (.seq (.reg [qN (.set 39 (.load (some 6) (qt 3))),qN (.set 40 (.load (some 3) (qt 4))),qN (qm 41 2),qN (.call (some 42) 156 [qt 39,qt 40,qt 41]),qN (qm 38 42),qN (.set 43 (.ext (qt 38) 0)),qN (.set 44 (.ext (qt 38) 1)),qN (.alloc 8 [(1,.s0 2),(1,.s0 3),(1,.s0 4)]),qN (.store 3 (qt 8) (qt 43)),qN (qm 9 44)]) (.seq (.seq (.reg [qN (qm 45 9),qN (qc 46 .neq 45 0)]) (.cond (qt 46) (.seq (.reg [qN (qm 47 7),qN (qm 48 47),qT 48 (qm 49 9),qT 48 (.set 50 (.load (some 6) (qt 3))),qT 48 (.set 51 (.load (some 3) (qt 4))),qT 48 (qm 52 2),qT 48 (.call (some 53) 158 [qt 50,qt 51,qt 52]),qT 48 (qb 54 .eql 49 53),qN (qp 55 48 54 false),qN (qm 56 55),qT 56 (qf 57 8 2),qT 56 (ql 58 57),qT 56 (.set 59 (.len (qt 58))),qT 56 (qc 60 .eql 59 0),qN (qp 61 56 60 false),qN (qm 6 61)]) .ret) .skip)) (.seq (.reg [qN (.set 63 (.load (some 6) (qt 3))),qN (qm 64 2),qN (.call (some 65) 76 [qt 63,qt 64]),qN (qm 62 65),qN (.set 66 (.ext (qt 62) 0)),qN (.set 67 (.ext (qt 62) 1)),qN (.alloc 10 [(1,.s0 1),(1,.s0 1),(1,.s0 3),(1,.i .i64 0)]),qN (.store 4 (qt 10) (qt 66)),qN (qm 11 67)]) (.seq (.seq (.reg [qN (qm 68 11),qN (qc 69 .neq 68 0),qN (qm 70 69),qF 70 (.set 71 (.load (some 6) (qt 3))),qF 70 (.set 72 (.load (some 3) (qt 8))),qF 70 (.call (some 73) 69 [qt 71,qt 72]),qF 70 (qc 74 .neq 73 0),qN (qv 75 70 74 true),qN (qm 76 75),qF 76 (qf 77 8 0),qF 76 (ql 78 77),qF 76 (.set 79 (.len (qt 78))),qF 76 (qf 80 4 0),qF 76 (ql 81 80),qF 76 (.set 82 (.len (qt 81))),qF 76 (qb 83 .neq 79 82),qN (qv 84 76 83 true)]) (.cond (qt 84) (.seq (.reg [qN (.set 6 (.mov (.c (.b false))))]) .ret) .skip)) (.seq (.regd 0 [qN (qf 85 10 0),qN (ql 86 85),qN (qf 88 10 1),qN (ql 89 88),qN (.app 87 (.c (.s0 1)) (qt 86) 1),qN (.appe 90 (qt 87) (qt 89) 1),qN (qm 12 90)]) (.seq (.seq (.reg [qN (.set 13 (.mov (.c (.i .i64 0))))]) (.block 0 (.loop (.seq (.seq (.reg [qN (qm 91 13),qN (qm 92 12),qN (.set 93 (.len (qt 92))),qN (qb 94 .lss 91 93)]) (.cond (qt 94) .skip (.exit 0))) (.seq (.block 1 (.seq (.regd 0 [qN (.set 98 (.load (some 6) (qt 3))),qN (.set 99 (.load (some 3) (qt 4))),qN (qm 100 12),qN (qm 101 13),qN (qi 102 100 101 1),qN (ql 103 102),qN (.calle (some 104) 67 [qt 98,qt 99,qt 103]),qN (qm 97 104),qN (.set 105 (.ext (qt 97) 0)),qN (.set 106 (.ext (qt 97) 1)),qN (qm 14 105),qN (qm 15 106)]) (.seq (.regd 0 [qN (.set 108 (.load (some 6) (qt 3))),qN (.set 109 (.load (some 3) (qt 8))),qN (qm 110 12),qN (qm 111 13),qN (qi 112 110 111 1),qN (ql 113 112),qN (.calle (some 114) 67 [qt 108,qt 109,qt 113]),qN (qm 107 114),qN (.set 115 (.ext (qt 107) 0)),qN (.set 116 (.ext (qt 107) 1)),qN (qm 16 115),qN (qm 17 116)]) (.seq (.regd 0 [qN (qm 117 15),qN (qc 118 .neq 117 0),qN (qm 119 118),qF 119 (qm 120 17),qF 119 (qc 121 .neq 120 0),qN (qv 122 119 121 true),qN (qm 123 122),qF 123 (qm 124 14),qF 123 (qc 125 .neq 124 0),qN (qv 126 123 125 true),qN (qm 127 126),qF 127 (qm 128 16),qF 127 (qm 129 2),qF 127 (qb 130 .neq 128 129),qN (qv 131 127 130 true),qN (qm 132 131),qF 132 (.set 133 (.load (some 3) (qt 4))),qF 132 (qm 134 12),qF 132 (qm 135 13),qF 132 (qi 136 134 135 1),qF 132 (ql 137 136),qF 132 (.calle (some 138) 332 [qt 133,qt 137]),qF 132 (.set 139 (.not (qt 138))),qN (qv 140 132 139 true)]) (.cond (qt 140) (.seq (.reg [qN (.set 6 (.mov (.c (.b false))))]) .ret) .skip))))) (.reg [qN (qm 95 13),qN (qc 96 .add 95 1),qN (qm 13 96)])))))) (.seq (.seq (.reg [qN (.set 18 (.mov (.c (.i .i64 0))))]) (.block 2 (.loop (.seq (.seq (.reg [qN (qm 141 18),qN (qf 142 10 2),qN (ql 143 142),qN (.set 144 (.len (qt 143))),qN (qb 145 .lss 141 144)]) (.cond (qt 145) .skip (.exit 2))) (.seq (.block 3 (.seq (.regd 0 [qN (.set 149 (.load (some 6) (qt 3))),qN (.set 150 (.load (some 3) (qt 8))),qN (qf 151 10 2),qN (ql 152 151),qN (qm 153 18),qN (qi 154 152 153 3),qN (qf 155 154 0),qN (ql 156 155),qN (.calle (some 157) 77 [qt 149,qt 150,qt 156]),qN (qm 148 157),qN (.set 158 (.ext (qt 148) 0)),qN (.set 159 (.ext (qt 148) 1)),qN (qm 19 158),qN (qm 20 159)]) (.seq (.reg [qN (qm 160 20),qN (qc 161 .neq 160 0),qN (qm 162 161),qF 162 (qm 163 19),qF 162 (qf 164 10 2),qF 162 (ql 165 164),qF 162 (qm 166 18),qF 162 (qi 167 165 166 3),qF 162 (qf 168 167 1),qF 162 (ql 169 168),qF 162 (qb 170 .neq 163 169),qN (qv 171 162 170 true)]) (.cond (qt 171) (.seq (.reg [qN (.set 6 (.mov (.c (.b false))))]) .ret) .skip)))) (.reg [qN (qm 146 18),qN (qc 147 .add 146 1),qN (qm 18 147)])))))) (.seq (.seq (.reg [qN (.set 21 (.mov (.c (.i .i64 0))))]) (.block 4 (.loop (.seq (.seq (.reg [qN (qm 172 21),qN (qf 173 4 1),qN (ql 174 173),qN (.set 175 (.len (qt 174))),qN (qb 176 .lss 172 175)]) (.cond (qt 176) .skip (.exit 4))) (.seq (.block 5 (.seq (.seq (.regd 0 [qN (qf 179 4 1),qN (ql 180 179),qN (qm 181 21),qN (qi 182 180 181 3),qN (qf 183 182 2),qN (ql 184 183),qN (qf 185 8 1),qN (ql 186 185),qN (qm 187 21),qN (qi 188 186 187 3),qN (qf 189 188 2),qN (ql 190 189),qN (qb 191 .eql 184 190)]) (.cond (qt 191) (.exit 5) .skip)) (.seq (.regd 0 [qN (.set 193 (.load (some 6) (qt 3))),qN (.set 194 (.load (some 3) (qt 4))),qN (qf 195 4 1),qN (ql 196 195),qN (qm 197 21),qN (qi 198 196 197 3),qN (qf 199 198 0),qN (ql 200 199),qN (.calle (some 201) 77 [qt 193,qt 194,qt 200]),qN (qm 192 201),qN (.set 202 (.ext (qt 192) 0)),qN (.set 203 (.ext (qt 192) 1)),qN (qm 22 202),qN (qm 23 203)]) (.seq (.regd 0 [qN (qm 204 23),qN (qc 205 .neq 204 0),qN (qm 206 205),qF 206 (qm 207 22),qF 206 (qc 208 .neq 207 0),qN (qv 209 206 208 true),qN (qm 210 209),qF 210 (.set 211 (.load (some 3) (qt 4))),qF 210 (qf 212 3 3),qF 210 (ql 213 212),qF 210 (qm 214 21),qF 210 (qi 215 213 214 2),qF 210 (qf 216 215 1),qF 210 (ql 217 216),qF 210 (.calle (some 218) 332 [qt 211,qt 217]),qF 210 (.set 219 (.not (qt 218))),qN (qv 220 210 219 true)]) (.cond (qt 220) (.seq (.reg [qN (.set 6 (.mov (.c (.b false))))]) .ret) .skip))))) (.reg [qN (qm 177 21),qN (qc 178 .add 177 1),qN (qm 21 178)])))))) (.seq (.seq (.reg [qN (.set 24 (.mov (.c (.i .i64 0))))]) (.block 6 (.loop (.seq (.seq (.reg [qN (qm 221 24),qN (qf 222 4 0),qN (ql 223 222),qN (.set 224 (.len (qt 223))),qN (qb 225 .lss 221 224)]) (.cond (qt 225) .skip (.exit 6))) (.seq (.block 7 (.seq (.regd 0 [qN (qf 228 4 0),qN (ql 229 228),qN (qm 230 24),qN (qi 231 229 230 2),qN (.set 232 (.load (some 2) (qt 231))),qN (qf 233 8 0),qN (ql 234 233),qN (qm 235 24),qN (qi 236 234 235 2),qN (.set 237 (.load (some 2) (qt 236))),qN (.set 238 (.bin .neq (.flat [true,true]) (qt 232) (qt 237)))]) (.cond (qt 238) (.seq (.reg [qN (.set 6 (.mov (.c (.b false))))]) .ret) .skip))) (.reg [qN (qm 226 24),qN (qc 227 .add 226 1),qN (qm 24 227)])))))) (.seq (.seq (.reg [qN (.set 25 (.mov (.c (.i .i64 0))))]) (.block 8 (.loop (.seq (.seq (.reg [qN (qm 239 25),qN (qf 240 4 2),qN (ql 241 240),qN (.set 242 (.len (qt 241))),qN (qb 243 .lss 239 242)]) (.cond (qt 243) .skip (.exit 8))) (.seq (.block 9 (.seq (.regd 0 [qN (qf 246 4 2),qN (ql 247 246),qN (qm 248 25),qN (qi 249 247 248 4),qN (qf 250 249 0),qN (ql 251 250),qN (qm 252 2),qN (qb 253 .neq 251 252),qN (qm 254 253),qT 254 (qf 255 4 2),qT 254 (ql 256 255),qT 254 (qm 257 25),qT 254 (qi 258 256 257 4),qT 254 (.set 259 (.load (some 4) (qt 258))),qT 254 (qf 260 8 2),qT 254 (ql 261 260),qT 254 (qm 262 25),qT 254 (qi 263 261 262 4),qT 254 (.set 264 (.load (some 4) (qt 263))),qT 254 (.set 265 (.bin .neq (.flat [true,true,true,true]) (qt 259) (qt 264))),qN (qp 266 254 265 false)]) (.cond (qt 266) (.seq (.reg [qN (.set 6 (.mov (.c (.b false))))]) .ret) .skip))) (.reg [qN (qm 244 25),qN (qc 245 .add 244 1),qN (qm 25 245)])))))) (.seq (.reg [qN (qm 267 7),qN (qm 6 267)]) .ret)))))))))))))⟩
def cd327:AFn:=⟨200,[.tmp 6],.seq (.reg [qN (.box 3 6 (qt 0)),qN (.box 4 3 (qt 1)),qN (.set 6 (.mov (.c (.b false))))]) (.seq (.reg [qN (.call (some 21) 154 []),qN (qm 7 21)]) (.seq (.seq (.reg [qN (.set 22 (.load (some 6) (qt 3))),qN (.call (some 23) 71 [qt 22]),qN (qm 24 23),qF 24 (.set 25 (.load (some 3) (qt 4))),qF 24 (.call (some 26) 8 [qt 25]),qN (qv 27 24 26 true),qN (qm 28 27),qF 28 (qm 29 7),qF 28 (.set 30 (.not (qt 29))),qN (qv 31 28 30 true),qN (qm 32 31),qF 32 (.set 33 (.load (some 6) (qt 3))),qF 32 (.set 34 (.load (some 3) (qt 4))),qF 32 (.call (some 35) 69 [qt 33,qt 34]),qF 32 (qc 36 .neq 35 0),qN (qv 37 32 36 true)]) (.cond (qt 37) (.seq (.reg [qN (qm 38 7),qN (qm 6 38)]) .ret) .skip)) (.seq (.reg [qN (.set 39 (.load (some 6) (qt 3))),qN (.set 40 (.load (some 3) (qt 4))),qN (qm 41 2),qN (.call (some 42) 158 [qt 39,qt 40,qt 41]),qN (qm 8 42)]) (.seq (.seq (.reg [qN (.set 9 (.mov (.c (.i .i64 0))))]) (.block 0 (.loop (.seq (.seq (.reg [qN (qm 43 9),qN (qf 44 4 2),qN (ql 45 44),qN (.set 46 (.len (qt 45))),qN (qb 47 .lss 43 46)]) (.cond (qt 47) .skip (.exit 0))) (.seq (.block 1 (.seq (.seq (.reg [qN (qf 50 4 2),qN (ql 51 50),qN (qm 52 9),qN (qi 53 51 52 4),qN (qf 54 53 0),qN (ql 55 54),qN (qm 56 2),qN (qb 57 .neq 55 56)]) (.cond (qt 57) (.exit 1) .skip)) (.seq (.seq (.reg [qN (qf 58 4 2),qN (ql 59 58),qN (qm 60 9),qN (qi 61 59 60 4),qN (qf 62 61 1),qN (ql 63 62),qN (.set 64 (.bin .neq .num (qt 63) (.c (.i .u8 0))))]) (.cond (qt 64) (.seq (.reg [qN (qm 65 7),qN (qm 66 65),qT 66 (qm 67 8),qT 66 (qc 68 .eql 67 180),qN (qp 69 66 68 false),qN (qm 6 69)]) .ret) .skip)) (.seq (.reg [qN (.set 71 (.load (some 6) (qt 3))),qN (qm 72 2),qN (.call (some 73) 76 [qt 71,qt 72]),qN (qm 70 73),qN (.set 74 (.ext (qt 70) 0)),qN (.set 75 (.ext (qt 70) 1)),qN (.alloc 10 [(1,.s0 1),(1,.s0 1),(1,.s0 3),(1,.i .i64 0)]),qN (.store 4 (qt 10) (qt 74)),qN (qm 11 75)]) (.seq (.seq (.reg [qN (qm 76 11),qN (qc 77 .neq 76 0)]) (.cond (qt 77) (.seq (.reg [qN (.set 6 (.mov (.c (.b false))))]) .ret) .skip)) (.seq (.regd 0 [qN (qf 78 10 0),qN (ql 79 78),qN (qf 81 10 1),qN (ql 82 81),qN (.app 80 (.c (.s0 1)) (qt 79) 1),qN (.appe 83 (qt 80) (qt 82) 1),qN (qm 12 83)]) (.seq (.seq (.reg [qN (.set 13 (.mov (.c (.i .i64 0))))]) (.block 2 (.loop (.seq (.seq (.reg [qN (qm 84 13),qN (qm 85 12),qN (.set 86 (.len (qt 85))),qN (qb 87 .lss 84 86)]) (.cond (qt 87) .skip (.exit 2))) (.seq (.block 3 (.seq (.regd 0 [qN (.set 91 (.load (some 6) (qt 3))),qN (.set 92 (.load (some 3) (qt 4))),qN (qm 93 12),qN (qm 94 13),qN (qi 95 93 94 1),qN (ql 96 95),qN (.calle (some 97) 67 [qt 91,qt 92,qt 96]),qN (qm 90 97),qN (.set 98 (.ext (qt 90) 0)),qN (.set 99 (.ext (qt 90) 1)),qN (qm 14 98),qN (qm 15 99)]) (.seq (.seq (.reg [qN (qm 100 15),qN (qc 101 .neq 100 0)]) (.cond (qt 101) (.seq (.reg [qN (.set 6 (.mov (.c (.b false))))]) .ret) .skip)) (.seq (.seq (.reg [qN (qm 102 14),qN (qc 103 .neq 102 0)]) (.cond (qt 103) (.seq (.reg [qN (qm 104 7),qN (qm 105 104),qT 105 (qm 106 8),qT 105 (qc 107 .eql 106 181),qN (qp 108 105 107 false),qN (qm 6 108)]) .ret) .skip)) (.seq (.regd 0 [qN (.set 109 (.load (some 3) (qt 4))),qN (qm 110 12),qN (qm 111 13),qN (qi 112 110 111 1),qN (ql 113 112),qN (.calle (some 114) 332 [qt 109,qt 113]),qN (.set 115 (.not (qt 114)))]) (.cond (qt 115) (.seq (.reg [qN (qm 116 7),qN (qm 117 116),qT 117 (qm 118 8),qT 117 (qc 119 .eql 118 182),qN (qp 120 117 119 false),qN (qm 6 120)]) .ret) .skip)))))) (.reg [qN (qm 88 13),qN (qc 89 .add 88 1),qN (qm 13 89)])))))) (.seq (.seq (.reg [qN (.set 16 (.mov (.c (.i .i64 0))))]) (.block 4 (.loop (.seq (.seq (.reg [qN (qm 121 16),qN (qf 122 10 2),qN (ql 123 122),qN (.set 124 (.len (qt 123))),qN (qb 125 .lss 121 124)]) (.cond (qt 125) .skip (.exit 4))) (.seq (.block 5 (.seq (.reg [qN (.set 17 (.mov (.c (.i .i64 0))))]) (.block 6 (.loop (.seq (.seq (.reg [qN (qm 128 17),qN (qf 129 4 1),qN (ql 130 129),qN (.set 131 (.len (qt 130))),qN (qb 132 .lss 128 131)]) (.cond (qt 132) .skip (.exit 6))) (.seq (.block 7 (.seq (.reg [qN (qf 135 4 1),qN (ql 136 135),qN (qm 137 17),qN (qi 138 136 137 3),qN (.set 139 (.load (some 3) (qt 138))),qN (.alloc 18 [(1,.i .i64 0),(1,.i .i64 0),(1,.i .i64 0)]),qN (.store 3 (qt 18) (qt 139))]) (.seq (.reg [qN (.set 141 (.load (some 6) (qt 3))),qN (.set 142 (.load (some 3) (qt 4))),qN (qf 143 18 0),qN (ql 144 143),qN (.call (some 145) 77 [qt 141,qt 142,qt 144]),qN (qm 140 145),qN (.set 146 (.ext (qt 140) 0)),qN (.set 147 (.ext (qt 140) 1)),qN (qm 19 146),qN (qm 20 147)]) (.seq (.seq (.reg [qN (qm 148 20),qN (qc 149 .neq 148 0)]) (.cond (qt 149) (.seq (.reg [qN (.set 6 (.mov (.c (.b false))))]) .ret) .skip)) (.seq (.regd 0 [qN (qf 150 18 0),qN (ql 151 150),qN (qf 152 10 2),qN (ql 153 152),qN (qm 154 16),qN (qi 155 153 154 3),qN (qf 156 155 0),qN (ql 157 156),qN (qb 158 .eql 151 157),qN (qm 159 158),qT 159 (qf 160 18 2),qT 159 (ql 161 160),qT 159 (qf 162 10 2),qT 159 (ql 163 162),qT 159 (qm 164 16),qT 159 (qi 165 163 164 3),qT 159 (qf 166 165 1),qT 159 (ql 167 166),qT 159 (qb 168 .neq 161 167),qN (qp 169 159 168 false),qN (qm 170 169),qT 170 (qm 171 19),qT 170 (qc 172 .neq 171 0),qT 170 (qm 173 172),qF 173 (.set 174 (.load (some 3) (qt 4))),qF 173 (qf 175 3 3),qF 173 (ql 176 175),qF 173 (qm 177 17),qF 173 (qi 178 176 177 2),qF 173 (qf 179 178 1),qF 173 (ql 180 179),qF 173 (.calle (some 181) 332 [qt 174,qt 180]),qF 173 (.set 182 (.not (qt 181))),qT 170 (qv 183 173 182 true),qN (qp 184 170 183 false)]) (.cond (qt 184) (.seq (.reg [qN (qm 185 7),qN (qm 186 185),qT 186 (qm 187 8),qT 186 (qc 188 .eql 187 183),qN (qp 189 186 188 false),qN (qm 6 189)]) .ret) .skip)))))) (.reg [qN (qm 133 17),qN (qc 134 .add 133 1),qN (qm 17 134)]))))))) (.reg [qN (qm 126 16),qN (qc 127 .add 126 1),qN (qm 16 127)])))))) (.seq (.reg [qN (qm 190 7),qN (qm 191 190),qT 191 (qm 192 8),qT 191 (qc 193 .eql 192 0),qN (qp 194 191 193 false),qN (qm 6 194)]) .ret))))))))) (.reg [qN (qm 48 9),qN (qc 49 .add 48 1),qN (qm 9 49)])))))) (.seq (.reg [qN (qm 195 7),qN (qm 196 195),qT 196 (qm 197 8),qT 196 (qc 198 .eql 197 6),qN (qp 199 196 198 false),qN (qm 6 199)]) .ret)))))⟩
def cd332:AFn:=⟨28,[.tmp 4],.seq (.reg [qN (.box 2 3 (qt 0)),qN (.set 4 (.mov (.c (.b false))))]) (.seq (.seq (.reg [qN (.set 5 (.mov (.c (.i .i64 0))))]) (.block 0 (.loop (.seq (.seq (.reg [qN (qm 6 5),qN (qf 7 2 0),qN (ql 8 7),qN (.set 9 (.len (qt 8))),qN (qb 10 .lss 6 9)]) (.cond (qt 10) .skip (.exit 0))) (.seq (.block 1 (.seq (.reg [qN (qf 13 2 0),qN (ql 14 13),qN (qm 15 5),qN (qi 16 14 15 2),qN (qf 17 16 0),qN (ql 18 17),qN (qm 19 1),qN (qb 20 .eql 18 19)]) (.cond (qt 20) (.seq (.reg [qN (qf 21 2 0),qN (ql 22 21),qN (qm 23 5),qN (qi 24 22 23 2),qN (qf 25 24 1),qN (ql 26 25),qN (.set 27 (.bin .eql .num (qt 26) (.c (.i .u8 0)))),qN (qm 4 27)]) .ret) .skip))) (.reg [qN (qm 11 5),qN (qc 12 .add 11 1),qN (qm 5 12)])))))) (.seq (.reg [qN (.set 4 (.mov (.c (.b false))))]) .ret))⟩
end Go.Eng
namespace Go.Eng
def code:Nat→Option AFn
 |8=>some cd8
 |9=>some cd9
 |11=>some cd11
 |16=>some cd16
 |26=>some cd26
 |31=>some cd31
 |32=>some cd32
 |33=>some cd33
 |34=>some cd34
 |35=>some cd35
 |36=>some cd36
 |41=>some cd41
 |42=>some cd42
 |46=>some cd46
 |50=>some cd50
 |51=>some cd51
 |52=>some cd52
 |53=>some cd53
 |55=>some cd55
 |65=>some cd65
 |67=>some cd67
 |69=>some cd69
 |70=>some cd70
 |71=>some cd71
 |73=>some cd73
 |76=>some cd76
 |77=>some cd77
 |79=>some cd79
 |80=>some cd80
 |81=>some cd81
 |82=>some cd82
 |83=>some cd83
 |84=>some cd84
 |85=>some cd85
 |86=>some cd86
 |89=>some cd89
 |90=>some cd90
 |91=>some cd91
 |92=>some cd92
 |93=>some cd93
 |94=>some cd94
 |95=>some cd95
 |96=>some cd96
 |97=>some cd97
 |98=>some cd98
 |99=>some cd99
 |100=>some cd100
 |101=>some cd101
 |102=>some cd102
 |103=>some cd103
 |104=>some cd104
 |105=>some cd105
 |106=>some cd106
 |107=>some cd107
 |108=>some cd108
 |109=>some cd109
 |110=>some cd110
 |111=>some cd111
 |112=>some cd112
 |113=>some cd113
 |114=>some cd114
 |115=>some cd115
 |116=>some cd116
 |117=>some cd117
 |118=>some cd118
 |119=>some cd119
 |120=>some cd120
 |121=>some cd121
 |122=>some cd122
 |123=>some cd123
 |124=>some cd124
 |125=>some cd125
 |126=>some cd126
 |127=>some cd127
 |128=>some cd128
 |129=>some cd129
 |130=>some cd130
 |131=>some cd131
 |132=>some cd132
 |133=>some cd133
 |134=>some cd134
 |135=>some cd135
 |136=>some cd136
 |137=>some cd137
 |138=>some cd138
 |139=>some cd139
 |140=>some cd140
 |141=>some cd141
 |142=>some cd142
 |143=>some cd143
 |144=>some cd144
 |145=>some cd145
 |150=>some cd150
 |151=>some cd151
 |152=>some cd152
 |153=>some cd153
 |154=>some cd154
 |155=>some cd155
 |156=>some cd156
 |157=>some cd157
 |158=>some cd158
 |168=>some cd168
 |169=>some cd169
 |170=>some cd170
 |171=>some cd171
 |172=>some cd172
 |173=>some cd173
 |176=>some cd176
 |180=>some cd180
 |181=>some cd181
 |182=>some cd182
 |183=>some cd183
 |184=>some cd184
 |189=>some cd189
 |319=>some cd319
 |320=>some cd320
 |321=>some cd321
 |326=>some cd326
 |327=>some cd327
 |332=>some cd332
 |_=>none
structure HasAll (P:Program) (inv:Nat→Option Nat):Prop where
 callable:zck P inv
 has:∀ j F,code j=some F→Has P inv j F
end Go.Eng
