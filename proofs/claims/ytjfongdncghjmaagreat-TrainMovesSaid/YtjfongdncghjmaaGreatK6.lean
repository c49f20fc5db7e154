/-
  A part of the engine that walks the functions' codes, and of the functions' contracts. Conditions: those that each theorem names.
-/
import Derived.Test.YtjfongdncghjmaaGreatK5
import Derived.Below
import Derived.Calls
import Derived.ChangeKeysEq
import Derived.DataReads
import Derived.Deep.LoopGhost
import Derived.Laws.AppendOwn
import Derived.Laws.Cells
import Derived.Laws.CopyRow
import Derived.Laws.Entries
import Derived.Laws.MakeOwn
import Derived.Laws.Rows
import Derived.Laws.StructEq
import Derived.Laws.Tables
import Derived.Lib.AppendZerosOnto
import Derived.MapKept
import Derived.Orders
import Derived.ProofKit
import Derived.ScopeJumps
import Derived.Tactics2
import Derived.WalkSpells
set_option linter.unusedSimpArgs false
set_option linter.unusedVariables false
set_option linter.unusedSectionVars false
namespace Go.Eng
def cd256:AFn:=⟨49,[.tmp 6,.tmp 7],qR [qK 6 0,qk 7 (.b false)] (qR [qm 12 0,qz 13 12,qm 8 13] (qR [qm 14 8,qK 9 0,qm 10 14] (.seq (.block 0 (.loop (.seq (qR [qm 15 9,qm 16 10,qb 17 .lss 15 16] (qH 17 .skip (.exit 0))) (.block 1 (qR [qm 18 9,qm 19 10,qb 20 .add 18 19,qu 21 (.conv .u64 (qt 20)),qu 22 (.bin .shr .num (qt 21) (.c (.i .u64 1))),qu 23 (.conv .i64 (qt 22)),qm 11 23] (qR [qm 24 2,qm 25 0,qm 26 11,qi 27 25 26 8,qL 28 8 27,qm 29 1,qN (.calv (some 30) (qt 24) [qt 28,qt 29]),qc 31 .lss 30 0] (qH 31 (qX [qh 32 11 .add 1,qm 9 33]) (qX [qm 34 11,qm 10 34])))))))) (qR [qm 35 9,qm 36 9,qm 37 8,qb 38 .lss 36 37,qm 39 38,qT 39 [qm 40 2,qm 41 0,qm 42 9,qi 43 41 42 8,qL 44 8 43,qm 45 1,qN (.calv (some 46) (qt 40) [qt 44,qt 45]),qc 47 .eql 46 0],qp 48 39 47 false,qm 6 35,qm 7 48] .ret))))⟩
def cd257:AFn:=⟨9,[.tmp 4],qR [qo 2 8 0,qK 4 0] (qR [qe 5 2 0,qm 7 1,qb 8 .sub 6 7,qm 4 8] .ret)⟩
def cd258:AFn:=⟨95,[.tmp 6],qR [qk 6 (.s0 8)] (qR [qm 10 0,qm 11 1,qu 12 (.slc (qt 10) (some (qt 11)) none none 8)] (qR [qm 13 2,qz 14 13,qm 7 14] (qC [qh 15 7 .eql 0] 16 (qR [qm 17 0,qm 6 17] .ret) (qR [qm 18 0,qz 19 18,qm 8 19] (qC [qm 20 1,qm 21 8,qb 22 .eql 20 21] 22 (qR [qm 23 0,qm 24 2,qN (.app 25 (qt 23) (qt 24) 8),qm 6 25] .ret) (qC [qm 26 8,qm 27 7,qb 28 .add 26 27,qm 29 0,qu 30 (.cap (qt 29)),qb 31 .gtr 28 30] 31 (qR [qm 32 0,qm 33 1,qu 34 (.slc (qt 32) none (some (qt 33)) none 8),qm 35 8,qm 36 7,qb 37 .add 35 36,qm 38 1,qb 39 .sub 37 38,qN (.appz 40 (qt 34) (qt 39) [qI,qU 1,qI,qI,qI,qI,qI,qI] 8),qm 9 40] (qR [qm 41 9,qm 42 1,qu 43 (.slc (qt 41) (some (qt 42)) none none 8),qm 44 2,qN (.bad (some 45))] (qD 0 [qm 46 9,qm 47 1,qm 48 7,qb 49 .add 47 48,qu 50 (.slc (qt 46) (some (qt 49)) none none 8),qm 51 0,qm 52 1,qu 53 (.slc (qt 51) (some (qt 52)) none none 8),qN (.bad (some 54))] (qR [qm 55 9,qm 6 55] .ret)))) (qR [qm 56 0,qm 57 8,qm 58 7,qb 59 .add 57 58,qu 60 (.slc (qt 56) none (some (qt 59)) none 8),qm 0 60] (qC [qm 61 2,qm 62 0,qm 63 1,qm 64 7,qb 65 .add 63 64,qu 66 (.slc (qt 62) (some (qt 65)) none none 8),qN (.bad (some 67)),qn 68 67] 68 (qD 0 [qm 69 0,qm 70 1,qm 71 7,qb 72 .add 70 71,qu 73 (.slc (qt 69) (some (qt 72)) none none 8),qm 74 0,qm 75 1,qu 76 (.slc (qt 74) (some (qt 75)) none none 8),qN (.bad (some 77))] (qR [qm 78 0,qm 79 1,qu 80 (.slc (qt 78) (some (qt 79)) none none 8),qm 81 2,qN (.bad (some 82))] (qR [qm 83 0,qm 6 83] .ret))) (qR [qm 84 0,qm 85 8,qu 86 (.slc (qt 84) (some (qt 85)) none none 8),qm 87 2,qN (.bad (some 88))] (qR [qm 89 0,qm 90 1,qu 91 (.slc (qt 89) (some (qt 90)) none none 8),qm 92 7,qg 93 274 [91,92]] (qR [qm 94 0,qm 6 94] .ret)))))))))))⟩
def cd259:AFn:=⟨10,[.tmp 4],qR [qk 4 (.s0 4)] (qR [qm 5 0,qm 6 1,qu 7 (.conv .i64 (qt 6)),qu 8 (.build [(1,.i .u8 0),qI,qI,qU 1] [(0,(1,.c (.i .u8 1))),(1,(1,qt 5)),(2,(1,qt 7))]),qN (.mksl 9 4 1 [(1,.i .u8 0),qI,qI,qU 1] [(0,(4,qt 8))]),qm 4 9] .ret)⟩
def cd260:AFn:=⟨81,[.tmp 4,.tmp 5,.tmp 6],qR [qK 4 0,qK 5 0,qk 6 (.b false)] (.seq (qD 1 [qm 12 0,qy 13 12,qf 14 13 0,qf 15 14 0,qL 16 6 15,qm 17 1,qy 18 17,qe 19 18 4,qN (.callp 21 76 [qt 16,qt 20]),qm 11 21,qx 22 11 0,qx 23 11 1,qN (.gal 7 1 [qU 1,qU 1,qU 3,qI]),qs 4 7 22,qm 8 23] (qD 0 [qh 24 8 .eql 0,qm 26 25,qT 26 [qm 27 1,qy 28 27,qe 29 28 5,qe 31 7 0,qz 33 32,qc 34 .sub 33 1,qb 35 .lss 30 34],qp 36 26 35 false] (qH 36 (qD 0 [qm 37 1,qy 38 37,qe 39 38 4,qm 41 1,qy 42 41,qe 43 42 5,qc 45 .add 44 1,qm 4 40,qm 5 45,qk 6 (.b true)] .ret) .skip))) (qD 0 [qm 46 0,qy 47 46,qf 48 47 0,qL 49 9 48,qm 50 1,qy 51 50,qe 52 51 1,qu 54 (.iadr (qt 53) (.c (.i .i64 0)) 1 none),ql 55 54,qm 56 1,qy 57 56,qe 58 57 3,qN (.calle (some 60) 251 [qt 49,qt 55,qt 59]),qm 9 60] (qC [qh 61 9 .eql 0] 62 (qR [qK 4 0,qK 5 0,qk 6 (.b false)] .ret) (.seq (qR [qm 63 0,qy 64 63,qf 65 64 0,qL 66 9 65,qm 67 9,qg 68 275 [66,67],qm 10 68] (qR [qh 69 10 .gtr 0] (qH 70 (qR [qm 71 10,qm 4 71,qK 5 0,qk 6 (.b true)] .ret) .skip))) (qD 0 [qm 72 1,qy 73 72,qe 74 73 7,qm 76 1,qy 77 76,qe 78 77 6,qc 80 .gtr 79 0,qm 4 75,qK 5 0,qm 6 80] .ret)))))⟩
def cd261:AFn:=⟨22,[.tmp 4],qR [qo 2 9 0,qK 4 0] (.seq (qR [qf 7 2 6,qe 8 7 1,qz 10 9,qK 11 0] (.block 0 (.loop (qR [qb 12 .lss 11 10] (qW 12 0 (.seq (.block 1 (qR [qi 13 9 11 3,qL 14 3 13,qw 6 [qI,qI,qI],qs 3 6 14] (qR [qe 15 6 0,qm 17 1,qb 18 .eql 16 17] (qH 18 (qR [qe 19 6 1,qm 4 20] .ret) .skip)))) (qX [qc 21 .add 11 1,qm 11 21]))))))) (qR [qK 4 0] .ret))⟩
def cd262:AFn:=⟨95,[.tmp 6],qR [qk 6 (.s0 1)] (qR [qm 10 0,qm 11 1,qu 12 (.slc (qt 10) (some (qt 11)) none none 1)] (qR [qm 13 2,qz 14 13,qm 7 14] (qC [qh 15 7 .eql 0] 16 (qR [qm 17 0,qm 6 17] .ret) (qR [qm 18 0,qz 19 18,qm 8 19] (qC [qm 20 1,qm 21 8,qb 22 .eql 20 21] 22 (qR [qm 23 0,qm 24 2,qN (.app 25 (qt 23) (qt 24) 1),qm 6 25] .ret) (qC [qm 26 8,qm 27 7,qb 28 .add 26 27,qm 29 0,qu 30 (.cap (qt 29)),qb 31 .gtr 28 30] 31 (qR [qm 32 0,qm 33 1,qu 34 (.slc (qt 32) none (some (qt 33)) none 1),qm 35 8,qm 36 7,qb 37 .add 35 36,qm 38 1,qb 39 .sub 37 38,qN (.appz 40 (qt 34) (qt 39) [qI] 1),qm 9 40] (qR [qm 41 9,qm 42 1,qu 43 (.slc (qt 41) (some (qt 42)) none none 1),qm 44 2,qN (.bad (some 45))] (qD 0 [qm 46 9,qm 47 1,qm 48 7,qb 49 .add 47 48,qu 50 (.slc (qt 46) (some (qt 49)) none none 1),qm 51 0,qm 52 1,qu 53 (.slc (qt 51) (some (qt 52)) none none 1),qN (.bad (some 54))] (qR [qm 55 9,qm 6 55] .ret)))) (qR [qm 56 0,qm 57 8,qm 58 7,qb 59 .add 57 58,qu 60 (.slc (qt 56) none (some (qt 59)) none 1),qm 0 60] (qC [qm 61 2,qm 62 0,qm 63 1,qm 64 7,qb 65 .add 63 64,qu 66 (.slc (qt 62) (some (qt 65)) none none 1),qN (.bad (some 67)),qn 68 67] 68 (qD 0 [qm 69 0,qm 70 1,qm 71 7,qb 72 .add 70 71,qu 73 (.slc (qt 69) (some (qt 72)) none none 1),qm 74 0,qm 75 1,qu 76 (.slc (qt 74) (some (qt 75)) none none 1),qN (.bad (some 77))] (qR [qm 78 0,qm 79 1,qu 80 (.slc (qt 78) (some (qt 79)) none none 1),qm 81 2,qN (.bad (some 82))] (qR [qm 83 0,qm 6 83] .ret))) (qR [qm 84 0,qm 85 8,qu 86 (.slc (qt 84) (some (qt 85)) none none 1),qm 87 2,qN (.bad (some 88))] (qR [qm 89 0,qm 90 1,qu 91 (.slc (qt 89) (some (qt 90)) none none 1),qm 92 7,qg 93 277 [91,92]] (qR [qm 94 0,qm 6 94] .ret)))))))))))⟩
def cd263:AFn:=⟨42,[.tmp 4],qR [qk 4 (.s0 8)] (qR [qm 8 0,qm 9 1,qg 10 271 [8,9],qm 5 10] (qC [qm 11 5,qu 12 (.bin .eql .num (qt 11) (.c (.i .i64 (-1))))] 12 (qR [qm 13 0,qm 4 13] .ret) (.seq (qR [qh 14 5 .add 1,qm 6 15] (.block 0 (.loop (.seq (qR [qm 16 6,qm 17 0,qz 18 17,qb 19 .lss 16 18] (qH 19 .skip (.exit 0))) (.seq (.block 1 (qR [qm 22 0,qm 23 6,qi 24 22 23 8,qL 25 8 24,qw 7 [qI,qU 1,qI,qI,qI,qI,qI,qI],qs 8 7 25] (qR [qm 26 1,qL 27 8 7,qN (.calv (some 28) (qt 26) [qt 27]),qn 29 28] (qH 29 (qR [qm 30 0,qm 31 5,qL 32 8 7,qi 33 30 31 8,qs 8 33 32] (qX [qj 34 5])) .skip)))) (qX [qj 20 6])))))) (qR [qm 36 0,qm 37 5,qu 38 (.slc (qt 36) (some (qt 37)) none none 8),qN (.clr (qt 38) [qI,qU 1,qI,qI,qI,qI,qI,qI] 8)] (qR [qm 39 0,qm 40 5,qu 41 (.slc (qt 39) none (some (qt 40)) none 8),qm 4 41] .ret)))))⟩
def cd264:AFn:=⟨9,[.tmp 3],qR [qo 2 8 0,qk 3 (.b false)] (qR [qe 4 2 0,qe 6 1 1,qb 8 .eql 5 7,qm 3 8] .ret)⟩
def cd265:AFn:=⟨19,[.tmp 4],qR [qo 3 4 1,qK 4 0] (.seq (qR [qm 6 0,qz 7 6,qK 8 0] (.block 0 (.loop (qR [qb 9 .lss 8 7] (qW 9 0 (.seq (.block 1 (qR [qm 10 8,qm 5 10] (qD 0 [qL 11 4 3,qm 12 0,qm 13 5,qi 14 12 13 4,qL 15 4 14,qu 16 (.bin .eql (.flat [true,true,true,true]) (qt 11) (qt 15))] (qH 16 (qR [qm 17 5,qm 4 17] .ret) .skip)))) (qX [qc 18 .add 8 1,qm 8 18]))))))) (qR [qk 4 (.i .i64 (-1))] .ret))⟩
def cd266:AFn:=⟨19,[.tmp 4],qR [qK 4 0] (.seq (qR [qm 6 0,qz 7 6,qK 8 0] (.block 0 (.loop (qR [qb 9 .lss 8 7] (qW 9 0 (.seq (.block 1 (qR [qm 10 8,qm 5 10] (qR [qm 11 1,qm 12 0,qm 13 5,qi 14 12 13 3,qL 15 3 14,qN (.calv (some 16) (qt 11) [qt 15])] (qH 16 (qR [qm 17 5,qm 4 17] .ret) .skip)))) (qX [qc 18 .add 8 1,qm 8 18]))))))) (qR [qk 4 (.i .i64 (-1))] .ret))⟩
def cd267:AFn:=⟨8,[.tmp 3],qR [qo 2 2 0,qk 3 (.b false)] (qR [qe 4 2 0,ql 6 1,qb 7 .eql 5 6,qm 3 7] .ret)⟩
def cd268:AFn:=⟨9,[.tmp 4],qR [qk 4 (.b false)] (qR [qm 5 0,qm 6 1,qg 7 278 [5,6],qc 8 .geq 7 0,qm 4 8] .ret)⟩
def cd269:AFn:=⟨8,[.tmp 3],qR [qo 2 2 0,qk 3 (.b false)] (qR [qe 4 2 0,ql 6 1,qb 7 .eql 5 6,qm 3 7] .ret)⟩
def cd270:AFn:=⟨44,[.tmp 6,.tmp 7],qR [qo 3 6 0,qK 6 0,qK 7 0] (.seq (qR [qL 10 6 3,qg 11 95 [10],qm 7 11] (qR [qh 12 7 .neq 0] (qH 13 .ret .skip))) (.seq (qR [qe 15 3 2,qm 17 1,qm 18 2,qg 19 24 [16,17,18],qm 14 19,qx 20 14 0,qx 21 14 1,qm 7 21] (qR [qh 22 7 .neq 0] (qH 23 .ret .skip))) (.seq (qR [qe 24 3 4,qz 26 25,qK 27 0] (.block 0 (.loop (qR [qb 28 .lss 27 26] (qW 28 0 (.seq (.block 1 (qR [qi 29 25 27 3,qL 30 3 29,qw 9 [qI,qI,qI],qs 3 9 30] (qR [qe 31 9 1,qm 33 1,qb 34 .eql 32 33,qm 35 34,qT 35 [qe 36 9 2,qm 38 2,qb 39 .eql 37 38],qp 40 35 39 false] (qH 40 (qX [qe 41 9 0,qm 6 42]) .skip)))) (qX [qc 43 .add 27 1,qm 27 43]))))))) .ret)))⟩
def cd271:AFn:=⟨19,[.tmp 4],qR [qK 4 0] (.seq (qR [qm 6 0,qz 7 6,qK 8 0] (.block 0 (.loop (qR [qb 9 .lss 8 7] (qW 9 0 (.seq (.block 1 (qR [qm 10 8,qm 5 10] (qR [qm 11 1,qm 12 0,qm 13 5,qi 14 12 13 8,qL 15 8 14,qN (.calv (some 16) (qt 11) [qt 15])] (qH 16 (qR [qm 17 5,qm 4 17] .ret) .skip)))) (qX [qc 18 .add 8 1,qm 8 18]))))))) (qR [qk 4 (.i .i64 (-1))] .ret))⟩
def cd272:AFn:=⟨8,[.tmp 3],qR [qo 2 8 0,qk 3 (.b false)] (qR [qe 4 2 0,ql 6 1,qb 7 .eql 5 6,qm 3 7] .ret)⟩
def cd274:AFn:=⟨10,[],qX [qm 4 0,qm 5 0,qz 6 5,qm 7 1,qb 8 .sub 6 7,qg 9 279 [4,8]]⟩
def cd275:AFn:=⟨39,[.tmp 4],qR [qo 2 9 0,qK 4 0] (.seq (qR [qf 9 2 0,qe 10 9 5,qz 12 11,qK 13 0] (.block 0 (.loop (qR [qb 14 .lss 13 12] (qW 14 0 (.seq (.block 1 (qR [qi 15 11 13 7,qL 16 7 15,qw 6 [qI,qI,qI,qU 1,qU 1,qU 2,qI],qs 7 6 16] (qC [qe 17 6 1,qm 19 1,qb 20 .neq 18 19] 20 (.exit 1) (qR [qf 22 2 0,qL 23 6 22,qf 24 2 6,qL 25 3 24,qe 26 6 0,qg 28 198 [23,25,27],qm 21 28,qx 29 21 0,qx 30 21 1,qm 7 29,qm 8 30] (qR [qh 31 8 .eql 0,qm 33 32,qT 33 [qm 34 7],qp 35 33 34 false] (qH 35 (qR [qe 36 6 0,qm 4 37] .ret) .skip)))))) (qX [qc 38 .add 13 1,qm 13 38]))))))) (qR [qK 4 0] .ret))⟩
def cd277:AFn:=⟨10,[],qX [qm 4 0,qm 5 0,qz 6 5,qm 7 1,qb 8 .sub 6 7,qg 9 280 [4,8]]⟩
def cd278:AFn:=⟨19,[.tmp 4],qR [qK 4 0] (.seq (qR [qm 6 0,qz 7 6,qK 8 0] (.block 0 (.loop (qR [qb 9 .lss 8 7] (qW 9 0 (.seq (.block 1 (qR [qm 10 8,qm 5 10] (qR [qm 11 1,qm 12 0,qm 13 5,qi 14 12 13 2,qL 15 2 14,qN (.calv (some 16) (qt 11) [qt 15])] (qH 16 (qR [qm 17 5,qm 4 17] .ret) .skip)))) (qX [qc 18 .add 8 1,qm 8 18]))))))) (qR [qk 4 (.i .i64 (-1))] .ret))⟩
def cd279:AFn:=⟨14,[],qR [qm 4 0,qm 5 1,qu 6 (.slc (qt 4) none (some (qt 5)) none 8),qg 7 281 [6]] (qR [qm 8 0,qm 9 1,qu 10 (.slc (qt 8) (some (qt 9)) none none 8),qg 11 281 [10]] (qX [qm 12 0,qg 13 281 [12]]))⟩
def cd280:AFn:=⟨14,[],qR [qm 4 0,qm 5 1,qu 6 (.slc (qt 4) none (some (qt 5)) none 1),qg 7 282 [6]] (qR [qm 8 0,qm 9 1,qu 10 (.slc (qt 8) (some (qt 9)) none none 1),qg 11 282 [10]] (qX [qm 12 0,qg 13 282 [12]]))⟩
def cd281:AFn:=⟨28,[],qR [qm 4 0,qz 5 4,qc 6 .sub 5 1,qK 2 0,qm 3 6] (.block 0 (.loop (.seq (qR [qm 7 2,qm 8 3,qb 9 .lss 7 8] (qH 9 .skip (.exit 0))) (.seq (.block 1 (qY 0 [qm 14 0,qm 15 2,qm 16 0,qm 17 3,qm 18 0,qm 19 3,qi 20 18 19 8,qL 21 8 20,qm 22 0,qm 23 2,qi 24 22 23 8,qL 25 8 24,qi 26 14 15 8,qs 8 26 21,qi 27 16 17 8,qs 8 27 25])) (qX [qh 10 2 .add 1,qh 12 3 .sub 1,qm 2 11,qm 3 13])))))⟩
def cd282:AFn:=⟨28,[],qR [qm 4 0,qz 5 4,qc 6 .sub 5 1,qK 2 0,qm 3 6] (.block 0 (.loop (.seq (qR [qm 7 2,qm 8 3,qb 9 .lss 7 8] (qH 9 .skip (.exit 0))) (.seq (.block 1 (qY 0 [qm 14 0,qm 15 2,qm 16 0,qm 17 3,qm 18 0,qm 19 3,qi 20 18 19 1,ql 21 20,qm 22 0,qm 23 2,qi 24 22 23 1,ql 25 24,qi 26 14 15 1,qs 1 26 21,qi 27 16 17 1,qs 1 27 25])) (qX [qh 10 2 .add 1,qh 12 3 .sub 1,qm 2 11,qm 3 13])))))⟩
def cd292:AFn:=⟨12,[.tmp 4],qR [qo 2 6 0,qo 3 3 1,qK 4 0] (qC [qL 5 6 2,qg 6 295 [5],qn 7 6] 7 (qR [qK 4 100] .ret) (qC [qL 8 6 2,qL 9 3 3,qg 10 299 [8,9],qn 11 10] 11 (qR [qK 4 8] .ret) (qR [qK 4 0] .ret)))⟩
def cd293:AFn:=⟨22,[.tmp 4],qR [qo 2 6 0,qK 4 0] (.seq (qR [qK 5 0] (.block 0 (.loop (.seq (qR [qm 6 5,qe 7 2 2,qz 9 8,qb 10 .lss 6 9] (qH 10 .skip (.exit 0))) (.seq (.block 1 (qR [qe 13 2 2,qm 15 5,qi 16 14 15 3,qe 17 16 0,qm 19 1,qb 20 .eql 18 19] (qH 20 (qR [qm 21 5,qm 4 21] .ret) .skip))) (qX [qj 11 5])))))) (qR [qk 4 (.i .i64 (-1))] .ret))⟩
def cd294:AFn:=⟨22,[.tmp 4],qR [qo 2 6 0,qK 4 0] (.seq (qR [qK 5 0] (.block 0 (.loop (.seq (qR [qm 6 5,qe 7 2 3,qz 9 8,qb 10 .lss 6 9] (qH 10 .skip (.exit 0))) (.seq (.block 1 (qR [qe 13 2 3,qm 15 5,qi 16 14 15 2,qe 17 16 0,qm 19 1,qb 20 .eql 18 19] (qH 20 (qR [qm 21 5,qm 4 21] .ret) .skip))) (qX [qj 11 5])))))) (qR [qk 4 (.i .i64 (-1))] .ret))⟩
def cd295:AFn:=⟨22,[.tmp 2],qR [qo 1 6 0,qk 2 (.b false)] (qC [qL 4 6 1,qg 5 300 [4],qn 6 5] 6 (qR [qk 2 (.b false)] .ret) (.seq (qR [qK 3 0] (.block 0 (.loop (.seq (qR [qm 7 3,qe 8 1 5,qz 10 9,qb 11 .lss 7 10] (qH 11 .skip (.exit 0))) (.seq (.block 1 (qD 0 [qL 14 6 1,qe 15 1 5,qm 17 3,qi 18 16 17 7,qL 19 7 18,qN (.calle (some 20) 301 [qt 14,qt 19]),qn 21 20] (qH 21 (qR [qk 2 (.b false)] .ret) .skip))) (qX [qj 12 3])))))) (qR [qk 2 (.b true)] .ret)))⟩
def cd296:AFn:=⟨43,[.tmp 6],qR [qo 3 6 0,qo 4 3 1,qK 6 0] (.seq (qR [qK 7 0] (.block 0 (.loop (.seq (qR [qm 10 7,qe 11 4 2,qz 13 12,qb 14 .lss 10 13] (qH 14 .skip (.exit 0))) (.seq (.block 1 (qD 0 [qL 17 6 3,qe 18 4 2,qm 20 7,qi 21 19 20 4,qL 22 4 21,qm 23 7,qN (.calle (some 24) 302 [qt 17,qt 22,qt 23]),qm 8 24] (qR [qK 9 0] (.block 2 (.loop (.seq (qR [qm 25 9,qm 26 8,qz 27 26,qb 28 .lss 25 27] (qH 28 .skip (.exit 2))) (.seq (.block 3 (qR [qm 31 8,qm 32 9,qi 33 31 32 1,ql 34 33,qm 35 2,qb 36 .eql 34 35] (qH 36 (qR [qe 37 4 2,qm 39 7,qi 40 38 39 4,qe 41 40 0,qm 6 42] .ret) .skip))) (qX [qj 29 9])))))))) (qX [qj 15 7])))))) (qR [qK 6 0] .ret))⟩
def cd299:AFn:=⟨105,[.tmp 4],qR [qo 2 6 0,qo 3 3 1,qk 4 (.b false)] (qC [qL 13 6 2,qg 14 295 [13],qn 15 14,qm 16 15,qF 16 [qL 17 6 2,qL 18 3 3,qg 19 304 [17,18],qn 20 19],qv 21 16 20 true] 21 (qR [qk 4 (.b false)] .ret) (qR [qw 5 [(100,.b false)]] (qR [qw 6 [(100,.i .i64 0)]] (.seq (qR [qK 7 0] (.block 0 (.loop (.seq (qR [qm 22 7,qe 23 3 2,qz 25 24,qb 26 .lss 22 25] (qH 26 .skip (.exit 0))) (.seq (.block 1 (qD 0 [qL 29 6 2,qe 30 3 2,qm 32 7,qi 33 31 32 4,qL 34 4 33,qm 35 7,qN (.calle (some 36) 302 [qt 29,qt 34,qt 35]),qm 8 36] (.seq (qR [qK 9 0] (.block 2 (.loop (.seq (qR [qm 37 9,qm 38 8,qz 39 38,qb 40 .lss 37 39] (qH 40 .skip (.exit 2))) (.seq (.block 3 (qC [qm 43 8,qm 44 9,qi 45 43 44 1,ql 46 45,qu 47 (.iadr (qt 5) (qt 46) 1 (some 100)),ql 48 47] 48 (qR [qk 4 (.b false)] .ret) (qX [qm 49 8,qm 50 9,qi 51 49 50 1,ql 52 51,qu 53 (.iadr (qt 5) (qt 52) 1 (some 100)),qN (.store 1 (qt 53) (.c (.b true)))]))) (qX [qj 41 9])))))) (qD 0 [qL 54 6 2,qe 55 3 2,qm 57 7,qi 58 56 57 4,qL 59 4 58,qm 60 7,qN (.calle (some 61) 303 [qt 54,qt 59,qt 60]),qm 10 61] (qR [qK 11 0] (.block 4 (.loop (.seq (qR [qm 62 11,qm 63 10,qz 64 63,qb 65 .lss 62 64] (qH 65 .skip (.exit 4))) (.seq (.block 5 (qR [qm 68 10,qm 69 11,qi 70 68 69 3,qL 71 3 70,qw 12 [qI,qI,qI],qs 3 12 71] (.seq (qD 0 [qe 72 12 0,qu 74 (.iadr (qt 6) (qt 73) 1 (some 100)),ql 75 74,qc 76 .neq 75 0,qm 77 76,qT 77 [qe 78 12 0,qu 80 (.iadr (qt 6) (qt 79) 1 (some 100)),ql 81 80,qe 82 12 1,qb 84 .neq 81 83],qp 85 77 84 false,qm 86 85,qF 86 [qe 87 3 1,qL 89 6 2,qe 90 12 0,qe 96 12 1,qg 92 294 [89,91],qi 93 88 92 3,qe 94 93 2,qb 98 .neq 95 97],qv 99 86 98 true] (qH 99 (qR [qk 4 (.b false)] .ret) .skip)) (qX [qe 100 12 0,qe 102 12 1,qu 104 (.iadr (qt 6) (qt 101) 1 (some 100)),qs 1 104 103])))) (qX [qj 66 11])))))))))) (qX [qj 27 7])))))) (qR [qk 4 (.b true)] .ret)))))⟩
def cd300:AFn:=⟨87,[.tmp 2],qR [qo 1 6 0,qk 2 (.b false)] (qC [qe 5 1 0,qc 7 .lss 6 1,qm 8 7,qF 8 [qe 9 1 0,qc 11 .gtr 10 2147483647],qv 12 8 11 true,qm 13 12,qF 13 [qe 14 1 1,qc 16 .lss 15 0],qv 17 13 16 true,qm 18 17,qF 18 [qe 19 1 1,qe 21 1 0,qb 23 .geq 20 22],qv 24 18 23 true,qm 25 24,qF 25 [qe 26 1 5,qz 28 27,qc 29 .gtr 28 16],qv 30 25 29 true] 30 (qR [qk 2 (.b false)] .ret) (qC [qe 31 1 2,qg 33 48 [32],qn 34 33,qm 35 34,qF 35 [qL 36 6 1,qg 37 305 [36],qn 38 37],qv 39 35 38 true,qm 40 39,qF 40 [qL 41 6 1,qg 42 306 [41],qn 43 42],qv 44 40 43 true] 44 (qR [qk 2 (.b false)] .ret) (.seq (qR [qK 3 0] (.block 0 (.loop (.seq (qR [qm 45 3,qe 46 1 5,qz 48 47,qb 49 .lss 45 48] (qH 49 .skip (.exit 0))) (.seq (.block 1 (qR [qe 52 1 5,qm 54 3,qi 55 53 54 7,qL 56 7 55,qw 4 [qI,qI,qI,qU 1,qU 1,qU 2,qI],qs 7 4 56] (qD 0 [qe 57 4 0,qc 59 .lss 58 1,qm 60 59,qF 60 [qe 61 4 0,qc 63 .gtr 62 99],qv 64 60 63 true,qm 65 64,qF 65 [qh 66 3 .gtr 0,qm 68 67],qT 68 [qe 69 1 5,qh 71 3 .sub 1,qi 73 70 72 7,qe 74 73 0,qe 76 4 0,qb 78 .geq 75 77],qF 65 [qp 79 68 78 false],qv 80 65 79 true,qm 81 80,qF 81 [qL 82 6 1,qL 83 7 4,qN (.calle (some 84) 307 [qt 82,qt 83]),qn 85 84],qv 86 81 85 true] (qH 86 (qR [qk 2 (.b false)] .ret) .skip)))) (qX [qj 50 3])))))) (qR [qk 2 (.b true)] .ret))))⟩
def cd301:AFn:=⟨96,[.tmp 4],qR [qo 2 6 0,qo 3 7 1,qk 4 (.b false)] (qR [qL 14 6 2,qL 15 7 3,qg 16 308 [14,15],qm 13 16,qx 17 13 0,qx 18 13 1,qx 19 13 2,qm 5 17,qm 6 18,qm 7 19] (qC [qm 20 7,qn 21 20] 21 (qR [qk 4 (.b false)] .ret) (qD 1 [qL 22 6 2,qe 23 2 5,qe 25 3 0,qN (.callp 27 310 [qt 24,qt 26]),qN (.callp 28 309 [qt 22,qt 27]),qN (.gal 8 1 [qU 1,qU 1,qU 3,qI]),qs 4 8 28] (.seq (qR [qK 9 0] (.block 0 (.loop (.seq (qR [qm 29 9,qe 30 8 2,qz 32 31,qb 33 .lss 29 32] (qH 33 .skip (.exit 0))) (.seq (.block 1 (qR [qK 10 0] (.block 2 (.loop (.seq (qR [qm 36 10,qm 37 9,qb 38 .lss 36 37] (qH 38 .skip (.exit 2))) (.seq (.block 3 (qD 0 [qe 41 8 2,qm 43 10,qi 44 42 43 3,qe 45 44 0,qe 47 8 2,qm 49 9,qi 50 48 49 3,qe 51 50 0,qb 53 .eql 46 52] (qH 53 (qR [qk 4 (.b false)] .ret) .skip))) (qX [qj 39 10]))))))) (qX [qj 34 9])))))) (.seq (qR [qK 11 0] (.block 4 (.loop (.seq (qR [qm 54 11,qe 55 3 3,qz 57 56,qb 58 .lss 54 57] (qH 58 .skip (.exit 4))) (.seq (.block 5 (qD 0 [qL 61 6 2,qe 62 3 3,qm 64 11,qi 65 63 64 1,ql 66 65,qm 67 6,qm 68 11,qi 69 67 68 1,ql 70 69,qN (.calle (some 71) 311 [qt 61,qt 66,qt 70]),qm 12 71] (qR [qh 72 12 .neq 0,qm 74 73,qT 74 [qm 75 11,qe 76 3 3,qz 78 77,qc 79 .sub 78 1,qb 80 .lss 75 79],qp 81 74 80 false,qm 82 81,qF 82 [qm 83 11,qe 84 3 3,qz 86 85,qc 87 .sub 86 1,qb 88 .eql 83 87,qm 89 88],qT 89 [qm 90 12,qe 91 3 2,qb 93 .neq 90 92],qF 82 [qp 94 89 93 false],qv 95 82 94 true] (qH 95 (qR [qk 4 (.b false)] .ret) .skip)))) (qX [qj 59 11])))))) (qR [qk 4 (.b true)] .ret))))))⟩
def cd302:AFn:=⟨38,[.tmp 6],qR [qo 3 6 0,qo 4 4 1,qk 6 (.s0 1)] (qC [qe 10 4 1,qu 12 (.bin .eql .num (qt 11) (.c (.i .u8 0)))] 12 (qR [qk 6 (.s0 1)] .ret) (qR [qL 13 6 3,qm 14 2,qg 15 312 [13,14],qw 7 [qU 1,qU 1,qU 3,qI],qs 4 7 15] (qR [qk 8 (.s0 1)] (.seq (qR [qe 16 4 2,qu 18 (.mnx false (qt 17) (.c (.i .i64 0))),qm 9 18] (.block 0 (.loop (.seq (qR [qm 19 9,qe 20 7 0,qz 22 21,qb 23 .lss 19 22] (qH 23 .skip (.exit 0))) (.seq (.block 1 (qX [qm 26 8,qe 27 7 0,qm 29 9,qi 30 28 29 1,ql 31 30,qN (.mksl 32 1 1 [qI] [(0,(1,qt 31))]),qN (.app 33 (qt 26) (qt 32) 1),qm 8 33])) (qX [qj 24 9])))))) (qR [qm 34 8,qe 35 7 1,qN (.app 37 (qt 34) (qt 36) 1),qm 6 37] .ret)))))⟩
def cd303:AFn:=⟨50,[.tmp 6],qR [qo 3 6 0,qo 4 4 1,qk 6 (.s0 3)] (qC [qe 10 4 1,qu 12 (.bin .eql .num (qt 11) (.c (.i .u8 0)))] 12 (qR [qk 6 (.s0 3)] .ret) (qR [qL 13 6 3,qm 14 2,qg 15 312 [13,14],qw 7 [qU 1,qU 1,qU 3,qI],qs 4 7 15] (qR [qk 8 (.s0 3)] (.seq (qR [qK 9 0] (.block 0 (.loop (.seq (qR [qm 16 9,qe 17 7 2,qz 19 18,qb 20 .lss 16 19] (qH 20 .skip (.exit 0))) (.seq (.block 1 (qD 0 [qe 23 7 2,qm 25 9,qi 26 24 25 3,qe 27 26 2,qc 29 .lss 28 0,qm 30 29,qF 30 [qe 31 7 2,qm 33 9,qi 34 32 33 3,qe 35 34 2,qe 37 4 2,qb 39 .geq 36 38],qv 40 30 39 true] (qH 40 (qX [qm 41 8,qe 42 7 2,qm 44 9,qi 45 43 44 3,qL 46 3 45,qN (.mksl 47 3 1 [qI,qI,qI] [(0,(3,qt 46))]),qN (.app 48 (qt 41) (qt 47) 3),qm 8 48]) .skip))) (qX [qj 21 9])))))) (qR [qm 49 8,qm 6 49] .ret)))))⟩
def cd304:AFn:=⟨146,[.tmp 4],qR [qo 2 6 0,qo 3 3 1,qk 4 (.b false)] (qC [qe 9 3 0,qz 11 10,qe 12 2 2,qz 14 13,qb 15 .neq 11 14,qm 16 15,qF 16 [qe 17 3 1,qz 19 18,qe 20 2 3,qz 22 21,qb 23 .neq 19 22],qv 24 16 23 true,qm 25 24,qF 25 [qe 26 3 2,qz 28 27,qe 29 2 5,qz 31 30,qb 32 .neq 28 31],qv 33 25 32 true] 33 (qR [qk 4 (.b false)] .ret) (.seq (qR [qK 5 0] (.block 0 (.loop (.seq (qR [qm 34 5,qe 35 3 0,qz 37 36,qb 38 .lss 34 37] (qH 38 .skip (.exit 0))) (.seq (.block 1 (qD 0 [qe 41 3 0,qm 43 5,qi 44 42 43 2,qe 45 44 0,qe 47 2 2,qm 49 5,qi 50 48 49 3,qe 51 50 0,qb 53 .neq 46 52,qm 54 53,qF 54 [qe 55 3 0,qm 57 5,qi 58 56 57 2,qe 59 58 1,qu 61 (.bin .gtr .num (qt 60) (.c (.i .u8 2)))],qv 62 54 61 true] (qH 62 (qR [qk 4 (.b false)] .ret) .skip))) (qX [qj 39 5])))))) (.seq (qR [qK 6 0] (.block 2 (.loop (.seq (qR [qm 63 6,qe 64 3 1,qz 66 65,qb 67 .lss 63 66] (qH 67 .skip (.exit 2))) (.seq (.block 3 (qR [qe 70 3 1,qm 72 6,qi 73 71 72 3,qL 74 3 73,qw 7 [qI,qI,qI],qs 3 7 74] (qD 0 [qe 75 7 0,qe 77 2 3,qm 79 6,qi 80 78 79 2,qe 81 80 0,qb 83 .neq 76 82,qm 84 83,qF 84 [qe 85 7 1,qc 87 .lss 86 0],qv 88 84 87 true,qm 89 88,qF 89 [qe 90 7 1,qc 92 .gtr 91 2],qv 93 89 92 true,qm 94 93,qF 94 [qe 95 7 2,qc 97 .lss 96 0],qv 98 94 97 true,qm 99 98,qF 99 [qe 100 7 2,qc 102 .gtr 101 2],qv 103 99 102 true] (qH 103 (qR [qk 4 (.b false)] .ret) .skip)))) (qX [qj 68 6])))))) (.seq (qR [qK 8 0] (.block 4 (.loop (.seq (qR [qm 104 8,qe 105 3 2,qz 107 106,qb 108 .lss 104 107] (qH 108 .skip (.exit 4))) (.seq (.block 5 (qD 0 [qe 111 3 2,qm 113 8,qi 114 112 113 4,qe 115 114 0,qe 117 2 5,qm 119 8,qi 120 118 119 7,qe 121 120 0,qb 123 .neq 116 122,qm 124 123,qF 124 [qe 125 3 2,qm 127 8,qi 128 126 127 4,qL 129 4 128,qe 130 2 5,qm 132 8,qi 133 131 132 7,qe 134 133 3,qz 136 135,qe 137 2 5,qm 139 8,qi 140 138 139 7,qe 141 140 6,qN (.calle (some 143) 313 [qt 129,qt 136,qt 142]),qn 144 143],qv 145 124 144 true] (qH 145 (qR [qk 4 (.b false)] .ret) .skip))) (qX [qj 109 8])))))) (qR [qk 4 (.b true)] .ret)))))⟩
def cd305:AFn:=⟨91,[.tmp 2],qR [qo 1 6 0,qk 2 (.b false)] (qR [qK 3 0] (.seq (qR [qK 4 0] (.block 0 (.loop (.seq (qR [qm 8 4,qe 9 1 2,qz 11 10,qb 12 .lss 8 11] (qH 12 .skip (.exit 0))) (.seq (.block 1 (qR [qe 15 1 2,qm 17 4,qi 18 16 17 3,qe 19 18 1,qc 21 .neq 20 0] (qH 21 (qX [qj 22 3]) .skip))) (qX [qj 13 4])))))) (.seq (qR [qK 5 0] (.block 2 (.loop (.seq (qR [qm 24 5,qe 25 1 3,qz 27 26,qb 28 .lss 24 27] (qH 28 .skip (.exit 2))) (.seq (.block 3 (qR [qe 31 1 3,qm 33 5,qi 34 32 33 2,qL 35 2 34,qw 6 [qI,qI],qs 2 6 35] (qR [qe 36 1 2,qe 38 6 1,qg 40 49 [37,39],qm 7 40] (qD 0 [qe 41 6 0,qc 43 .lss 42 1,qm 44 43,qF 44 [qe 45 6 0,qc 47 .gtr 46 99],qv 48 44 47 true,qm 49 48,qF 49 [qh 50 5 .gtr 0,qm 52 51],qT 52 [qe 53 1 3,qh 55 5 .sub 1,qi 57 54 56 2,qe 58 57 0,qe 60 6 0,qb 62 .geq 59 61],qF 49 [qp 63 52 62 false],qv 64 49 63 true,qm 65 64,qF 65 [qh 66 7 .lss 0],qv 68 65 67 true,qm 69 68,qF 69 [qe 70 1 2,qm 72 7,qi 73 71 72 3,qe 74 73 1,qe 76 6 0,qb 78 .neq 75 77],qv 79 69 78 true] (qH 79 (qR [qk 2 (.b false)] .ret) .skip))))) (qX [qj 29 5])))))) (qR [qe 80 1 3,qz 82 81,qc 83 .leq 82 6,qm 84 83,qT 84 [qm 85 3,qe 86 1 3,qz 88 87,qb 89 .eql 85 88],qp 90 84 89 false,qm 2 90] .ret))))⟩
def cd306:AFn:=⟨87,[.tmp 2],qR [qo 1 6 0,qk 2 (.b false)] (.seq (qR [qK 3 0] (.block 0 (.loop (.seq (qR [qm 8 3,qe 9 1 4,qz 11 10,qb 12 .lss 8 11] (qH 12 .skip (.exit 0))) (.seq (.block 1 (qR [qe 15 1 4,qm 17 3,qi 18 16 17 3,qL 19 3 18,qw 4 [qI,qI,qI],qs 3 4 19] (qR [qe 20 1 2,qe 22 4 1,qg 24 49 [21,23],qm 5 24] (.seq (qD 0 [qe 25 4 0,qc 27 .lss 26 1,qm 28 27,qF 28 [qe 29 4 0,qc 31 .gtr 30 99],qv 32 28 31 true,qm 33 32,qF 33 [qh 34 5 .lss 0],qv 36 33 35 true,qm 37 36,qF 37 [qe 38 4 2,qc 40 .lss 39 0],qv 41 37 40 true,qm 42 41,qF 42 [qe 43 4 2,qe 45 1 2,qm 47 5,qi 48 46 47 3,qe 49 48 2,qz 51 50,qb 52 .geq 44 51],qv 53 42 52 true] (qH 53 (qR [qk 2 (.b false)] .ret) .skip)) (qR [qK 6 0] (.block 2 (.loop (.seq (qR [qm 54 6,qm 55 3,qb 56 .lss 54 55] (qH 56 .skip (.exit 2))) (.seq (.block 3 (qR [qe 59 1 4,qm 61 6,qi 62 60 61 3,qL 63 3 62,qw 7 [qI,qI,qI],qs 3 7 63] (qR [qe 64 7 0,qe 66 4 0,qb 68 .geq 65 67,qm 69 68,qF 69 [qe 70 7 1,qe 72 4 1,qb 74 .eql 71 73,qm 75 74],qT 75 [qe 76 7 2,qe 78 4 2,qb 80 .eql 77 79],qF 69 [qp 81 75 80 false],qv 82 69 81 true] (qH 82 (qR [qk 2 (.b false)] .ret) .skip)))) (qX [qj 57 6])))))))))) (qX [qj 13 3])))))) (qR [qe 83 1 4,qz 85 84,qc 86 .leq 85 10,qm 2 86] .ret))⟩
def cd307:AFn:=⟨168,[.tmp 4],qR [qo 2 6 0,qo 3 7 1,qk 4 (.b false)] (qR [qe 11 2 4,qe 13 3 1,qg 15 314 [12,14],qm 5 15] (qC [qh 16 5 .lss 0,qm 18 17,qF 18 [qe 19 3 2,qc 21 .neq 20 0,qm 22 21],qT 22 [qe 23 2 4,qe 25 3 2,qg 27 314 [24,26],qc 28 .lss 27 0,qm 29 28],qF 29 [qe 30 3 2,qe 32 3 1,qb 34 .eql 31 33],qT 22 [qv 35 29 34 true],qF 18 [qp 36 22 35 false],qv 37 18 36 true,qm 38 37,qF 38 [qe 39 3 2,qc 41 .eql 40 0,qm 42 41],qT 42 [qe 43 3 4,qz 45 44,qc 46 .neq 45 0],qF 38 [qp 47 42 46 false],qv 48 38 47 true] 48 (qR [qk 4 (.b false)] .ret) (qC [qe 49 3 3,qz 51 50,qc 52 .lss 51 1,qm 53 52,qF 53 [qe 54 3 3,qz 56 55,qc 57 .gtr 56 6],qv 58 53 57 true,qm 59 58,qF 59 [qe 60 3 4,qz 62 61,qc 63 .gtr 62 2],qv 64 59 63 true,qm 65 64,qF 65 [qe 66 3 5,qz 68 67,qc 69 .gtr 68 3],qv 70 65 69 true,qm 71 70,qF 71 [qe 72 3 6,qc 74 .lss 73 1],qv 75 71 74 true,qm 76 75,qF 76 [qe 77 3 6,qc 79 .gtr 78 9],qv 80 76 79 true] 80 (qR [qk 4 (.b false)] .ret) (qR [qL 81 7 3,qg 82 315 [81],qm 6 82] (.seq (qR [qK 7 0] (.block 0 (.loop (.seq (qR [qm 83 7,qm 84 6,qz 85 84,qb 86 .lss 83 85] (qH 86 .skip (.exit 0))) (.seq (.block 1 (.seq (qD 0 [qe 89 2 2,qm 91 6,qm 92 7,qi 93 91 92 1,ql 94 93,qN (.calle (some 95) 49 [qt 90,qt 94]),qc 96 .lss 95 0,qm 97 96,qF 97 [qm 98 6,qm 99 7,qi 100 98 99 1,ql 101 100,qe 102 2 4,qm 104 5,qi 105 103 104 3,qe 106 105 1,qb 108 .eql 101 107],qv 109 97 108 true] (qH 109 (qR [qk 4 (.b false)] .ret) .skip)) (qR [qK 8 0] (.block 2 (.loop (.seq (qR [qm 110 8,qm 111 7,qb 112 .lss 110 111] (qH 112 .skip (.exit 2))) (.seq (.block 3 (qD 0 [qm 115 6,qm 116 8,qi 117 115 116 1,ql 118 117,qm 119 6,qm 120 7,qi 121 119 120 1,ql 122 121,qb 123 .eql 118 122] (qH 123 (qR [qk 4 (.b false)] .ret) .skip))) (qX [qj 113 8])))))))) (qX [qj 87 7])))))) (.seq (qR [qK 9 0] (.block 4 (.loop (.seq (qR [qm 124 9,qe 125 3 5,qz 127 126,qb 128 .lss 124 127] (qH 128 .skip (.exit 4))) (.seq (.block 5 (qR [qe 131 3 5,qm 133 9,qi 134 132 133 2,qL 135 2 134,qw 10 [qI,qI],qs 2 10 135] (qD 0 [qe 136 2 3,qe 138 10 0,qN (.calle (some 140) 316 [qt 137,qt 139]),qc 141 .lss 140 0,qm 142 141,qF 142 [qh 143 9 .gtr 0,qm 145 144],qT 145 [qe 146 3 5,qh 148 9 .sub 1,qi 150 147 149 2,qe 151 150 0,qe 153 10 0,qb 155 .geq 152 154],qF 142 [qp 156 145 155 false],qv 157 142 156 true,qm 158 157,qF 158 [qe 159 10 1,qc 161 .lss 160 1],qv 162 158 161 true,qm 163 162,qF 163 [qe 164 10 1,qc 166 .gtr 165 2],qv 167 163 166 true] (qH 167 (qR [qk 4 (.b false)] .ret) .skip)))) (qX [qj 129 9])))))) (qR [qk 4 (.b true)] .ret)))))))⟩
def cd308:AFn:=⟨102,[.tmp 4,.tmp 5,.tmp 6],qR [qo 2 6 0,qo 3 7 1,qk 4 (.s0 1),qk 5 (.s0 1),qk 6 (.b false)] (qD 1 [qe 14 2 4,qe 16 2 4,qe 18 3 1,qN (.callp 20 314 [qt 17,qt 19]),qi 21 15 20 3,qL 22 3 21,qN (.gal 7 1 [qI,qI,qI]),qs 3 7 22] (qD 1 [qe 23 2 2,qe 25 2 2,qe 27 7 1,qN (.callp 29 49 [qt 26,qt 28]),qi 30 24 29 3,qe 31 30 2,qe 33 7 2,qi 35 32 34 2,qL 36 2 35,qN (.gal 8 1 [qI,qI]),qs 2 8 36] (qR [qL 37 7 3,qg 38 315 [37],qm 9 38] (qR [qk 10 (.s0 1)] (qR [qk 11 (.s0 1)] (.seq (qR [qK 12 0] (.block 0 (.loop (.seq (qR [qm 39 12,qm 40 9,qz 41 40,qb 42 .lss 39 41] (qH 42 .skip (.exit 0))) (.seq (.block 1 (.seq (qD 0 [qe 45 8 0,qm 47 9,qm 48 12,qi 49 47 48 1,ql 50 49,qb 51 .neq 46 50] (qH 51 (qR [qk 4 (.s0 1),qk 5 (.s0 1),qk 6 (.b false)] .ret) .skip)) (qR [qm 52 10,qe 53 8 1,qN (.mksl 55 1 1 [qI] [(0,(1,qt 54))]),qN (.app 56 (qt 52) (qt 55) 1),qm 10 56] (qC [qm 57 12,qm 58 9,qz 59 58,qc 60 .sub 59 1,qb 61 .eql 57 60,qm 62 61,qT 62 [qe 63 3 4,qz 65 64,qc 66 .gtr 65 0],qp 67 62 66 false] 67 (qR [qm 68 10,qm 69 11,qN (.mksl 70 1 1 [qI] [(0,(1,.c (.i .i64 (-1))))]),qN (.app 71 (qt 69) (qt 70) 1),qm 4 68,qm 5 71,qk 6 (.b true)] .ret) (qR [qL 72 6 2,qL 73 7 3,qm 74 9,qm 75 12,qe 76 8 1,qg 78 317 [72,73,74,75,77],qm 13 78] (qC [qh 79 13 .lss 0] 80 (qR [qk 4 (.s0 1),qk 5 (.s0 1),qk 6 (.b false)] .ret) (qR [qm 81 11,qm 82 13,qN (.mksl 83 1 1 [qI] [(0,(1,qt 82))]),qN (.app 84 (qt 81) (qt 83) 1),qm 11 84] (qY 0 [qe 85 2 2,qe 87 2 2,qm 89 9,qm 90 12,qi 91 89 90 1,ql 92 91,qm 97 13,qg 93 49 [88,92],qi 94 86 93 3,qe 95 94 2,qi 98 96 97 2,qL 99 2 98,qs 2 8 99])))))))) (qX [qj 43 12])))))) (qR [qm 100 10,qm 101 11,qm 4 100,qm 5 101,qk 6 (.b true)] .ret)))))))⟩
def cd309:AFn:=⟨122,[.cell 4 (some 4)],qR [qo 2 6 0,qw 4 [qU 1,qU 1,qU 3,qI]] (qR [qe 15 2 5,qm 17 1,qi 18 16 17 7,qL 19 7 18,qg 20 318 [19],qw 5 [qI,qI,qI,qU 1,qU 1,qU 2,qI],qs 7 5 20] (qR [qL 22 6 2,qL 23 7 5,qg 24 308 [22,23],qm 21 24,qx 25 21 0,qx 26 21 1,qx 27 21 2,qm 6 25,qm 7 26,qm 8 27] (qR [qL 28 7 5,qg 29 315 [28],qm 9 29] (qD 1 [qe 30 5 3,qe 32 5 4,qe 34 2 4,qe 36 2 4,qe 38 5 1,qN (.callp 40 314 [qt 37,qt 39]),qi 41 35 40 3,qe 42 41 1,qu 44 (.build [qU 1,qU 1,qU 3,qI] [(0,(1,qt 31)),(1,(1,qt 33)),(3,(1,qt 43))]),qN (.gal 10 1 [qU 1,qU 1,qU 3,qI]),qs 4 10 44] (.seq (qR [qK 11 0] (.block 0 (.loop (.seq (qR [qm 45 11,qm 46 9,qz 47 46,qb 48 .lss 45 47] (qH 48 .skip (.exit 0))) (.seq (.block 1 (qD 1 [qe 51 2 2,qe 53 2 2,qm 55 9,qm 56 11,qi 57 55 56 1,ql 58 57,qN (.callp 59 49 [qt 54,qt 58]),qi 60 52 59 3,qL 61 3 60,qN (.gal 12 1 [qI,qI,qU 2]),qs 3 12 61] (qC [qe 62 12 1,qc 64 .eql 63 0] 64 (.exit 1) (qR [qm 65 6,qm 66 11,qi 67 65 66 1,ql 68 67,qm 13 68] (qC [qm 69 7,qm 70 11,qi 71 69 70 1,ql 72 71,qc 73 .geq 72 0] 73 (qY 0 [qL 74 3 12,qm 75 6,qm 76 11,qi 77 75 76 1,ql 78 77,qm 79 7,qm 80 11,qi 81 79 80 1,ql 82 81,qN (.calle (some 83) 44 [qt 74,qt 78,qt 82]),qm 13 83]) (qR [qh 84 13 .gtr 0] (qH 85 (qX [qe 86 10 2,qe 88 12 1,qm 90 13,qm 91 11,qu 92 (.build [qI,qI,qI] [(0,(1,qt 89)),(1,(1,qt 90)),(2,(1,qt 91))]),qN (.mksl 93 3 1 [qI,qI,qI] [(0,(3,qt 92))]),qN (.app 94 (qt 87) (qt 93) 3),qf 95 10 2,qs 1 95 94]) .skip))))))) (qX [qj 49 11])))))) (.seq (qR [qK 14 0] (.block 2 (.loop (.seq (qR [qm 96 14,qe 97 5 5,qz 99 98,qb 100 .lss 96 99] (qH 100 .skip (.exit 2))) (.seq (.block 3 (qY 0 [qe 103 10 2,qe 105 5 5,qm 107 14,qi 108 106 107 2,qe 109 108 0,qe 111 5 5,qm 113 14,qi 114 112 113 2,qe 115 114 1,qu 117 (.build [qI,qI,qI] [(0,(1,qt 110)),(1,(1,qt 116)),(2,(1,.c (.i .i64 (-1))))]),qN (.mksl 118 3 1 [qI,qI,qI] [(0,(3,qt 117))]),qN (.appe 119 (qt 104) (qt 118) 3),qf 120 10 2,qs 1 120 119])) (qX [qj 101 14])))))) (qR [qL 121 4 10,qs 4 4 121] .ret)))))))⟩
def cd310:AFn:=⟨20,[.tmp 4],qR [qK 4 0] (.seq (qR [qK 5 0] (.block 0 (.loop (.seq (qR [qm 6 5,qm 7 0,qz 8 7,qb 9 .lss 6 8] (qH 9 .skip (.exit 0))) (.seq (.block 1 (qR [qm 12 0,qm 13 5,qi 14 12 13 7,qe 15 14 0,qm 17 1,qb 18 .eql 16 17] (qH 18 (qR [qm 19 5,qm 4 19] .ret) .skip))) (qX [qj 10 5])))))) (qR [qk 4 (.i .i64 (-1))] .ret))⟩
def cd311:AFn:=⟨39,[.tmp 6],qR [qo 3 6 0,qK 6 0] (.seq (qR [qK 7 0] (.block 0 (.loop (.seq (qR [qm 8 7,qe 9 3 4,qz 11 10,qb 12 .lss 8 11] (qH 12 .skip (.exit 0))) (.seq (.block 1 (qR [qe 15 3 4,qm 17 7,qi 18 16 17 3,qe 19 18 1,qm 21 1,qb 22 .eql 20 21,qm 23 22,qT 23 [qe 24 3 4,qm 26 7,qi 27 25 26 3,qe 28 27 2,qm 30 2,qb 31 .eql 29 30],qp 32 23 31 false] (qH 32 (qR [qe 33 3 4,qm 35 7,qi 36 34 35 3,qe 37 36 0,qm 6 38] .ret) .skip))) (qX [qj 13 7])))))) (qR [qK 6 0] .ret))⟩
def cd312:AFn:=⟨8,[.cell 4 (some 4)],qR [qo 2 6 0,qw 4 [qU 1,qU 1,qU 3,qI]] (qR [qL 5 6 2,qm 6 1,qg 7 309 [5,6],qs 4 4 7] .ret)⟩
def cd313:AFn:=⟨64,[.tmp 6],qR [qo 3 4 0,qk 6 (.b false)] (qR [qe 8 3 3,qc 10 .geq 9 1,qm 11 10,qT 11 [qe 12 3 3,qm 14 2,qb 15 .leq 13 14],qp 16 11 15 false,qm 7 16] (.seq (qR [qe 17 3 1] (.block 0 (.seq (qR [qu 20 (.bin .eql .num (qt 18) (.c (.i .u8 0))),qm 19 20] (qH 19 .skip (qX [qu 21 (.bin .eql .num (qt 18) (.c (.i .u8 1))),qm 19 21]))) (qH 19 (qR [qe 22 3 2,qc 24 .eql 23 0,qm 25 24,qT 25 [qe 26 3 3,qc 28 .eql 27 0],qp 29 25 28 false,qm 6 29] .ret) (qR [qu 31 (.bin .eql .num (qt 18) (.c (.i .u8 2))),qm 30 31] (qH 30 (qR [qe 32 3 2,qc 34 .geq 33 0,qm 35 34,qT 35 [qe 36 3 2,qm 38 1,qb 39 .lss 37 38],qp 40 35 39 false,qm 41 40,qT 41 [qe 42 3 3,qc 44 .eql 43 0],qp 45 41 44 false,qm 6 45] .ret) (qR [qu 47 (.bin .eql .num (qt 18) (.c (.i .u8 3))),qm 46 47] (qH 46 (qR [qe 48 3 2,qh 50 1 .sub 1,qb 52 .eql 49 51,qm 53 52,qT 53 [qm 54 7],qp 55 53 54 false,qm 6 55] .ret) (qR [qu 57 (.bin .eql .num (qt 18) (.c (.i .u8 4))),qm 56 57] (qH 56 (qR [qe 58 3 2,qc 60 .eql 59 0,qm 61 60,qT 61 [qm 62 7],qp 63 61 62 false,qm 6 63] .ret) .skip)))))))))) (qR [qk 6 (.b false)] .ret)))⟩
def cd314:AFn:=⟨20,[.tmp 4],qR [qK 4 0] (.seq (qR [qK 5 0] (.block 0 (.loop (.seq (qR [qm 6 5,qm 7 0,qz 8 7,qb 9 .lss 6 8] (qH 9 .skip (.exit 0))) (.seq (.block 1 (qR [qm 12 0,qm 13 5,qi 14 12 13 3,qe 15 14 0,qm 17 1,qb 18 .eql 16 17] (qH 18 (qR [qm 19 5,qm 4 19] .ret) .skip))) (qX [qj 10 5])))))) (qR [qk 4 (.i .i64 (-1))] .ret))⟩
def cd315:AFn:=⟨12,[.tmp 2],qR [qo 1 7 0,qk 2 (.s0 1)] (qR [qk 3 (.s0 1)] (qR [qm 4 3,qe 5 1 3,qN (.app 7 (qt 4) (qt 6) 1),qm 3 7] (qR [qm 8 3,qe 9 1 4,qN (.app 11 (qt 8) (qt 10) 1),qm 2 11] .ret)))⟩
def cd316:AFn:=⟨20,[.tmp 4],qR [qK 4 0] (.seq (qR [qK 5 0] (.block 0 (.loop (.seq (qR [qm 6 5,qm 7 0,qz 8 7,qb 9 .lss 6 8] (qH 9 .skip (.exit 0))) (.seq (.block 1 (qR [qm 12 0,qm 13 5,qi 14 12 13 2,qe 15 14 0,qm 17 1,qb 18 .eql 16 17] (qH 18 (qR [qm 19 5,qm 4 19] .ret) .skip))) (qX [qj 10 5])))))) (qR [qk 4 (.i .i64 (-1))] .ret))⟩
def cd317:AFn:=⟨83,[.tmp 10],qR [qo 5 6 0,qo 6 7 1,qK 10 0] (qD 1 [qe 13 5 2,qe 15 5 2,qm 17 2,qm 18 3,qi 19 17 18 1,ql 20 19,qN (.callp 21 49 [qt 16,qt 20]),qi 22 14 21 3,qL 23 3 22,qN (.gal 11 1 [qI,qI,qU 2]),qs 3 11 23] (.seq (qR [qK 12 0] (.block 0 (.loop (.seq (qR [qm 24 12,qe 25 11 2,qz 27 26,qb 28 .lss 24 27] (qH 28 .skip (.exit 0))) (.seq (.block 1 (qC [qL 31 3 11,qm 32 4,qm 33 12,qg 34 44 [31,32,33],qc 35 .lss 34 0] 35 (.exit 1) (qC [qm 36 3,qe 37 6 3,qz 39 38,qc 40 .sub 39 1,qb 41 .eql 36 40] 41 (.seq (qD 0 [qe 42 6 2,qc 44 .eql 43 0,qm 45 44,qT 45 [qe 46 11 2,qm 48 12,qi 49 47 48 2,qe 50 49 0,qc 52 .eql 51 0],qp 53 45 52 false,qm 54 53,qF 54 [qe 55 6 2,qc 57 .neq 56 0,qm 58 57],qT 58 [qL 59 6 5,qe 60 11 0,qm 62 12,qe 64 6 2,qg 63 311 [59,61,62],qb 66 .eql 63 65],qF 54 [qp 67 58 66 false],qv 68 54 67 true] (qH 68 (qR [qm 69 12,qm 10 69] .ret) .skip)) (.exit 1)) (qD 0 [qe 70 11 2,qm 72 12,qi 73 71 72 2,qe 74 73 0,qm 76 2,qh 77 3 .add 1,qi 79 76 78 1,ql 80 79,qb 81 .eql 75 80] (qH 81 (qR [qm 82 12,qm 10 82] .ret) .skip))))) (qX [qj 29 12])))))) (qR [qk 10 (.i .i64 (-1))] .ret)))⟩
def cd318:AFn:=⟨32,[.cell 2 (some 7)],qR [qo 1 7 0,qw 2 [qI,qI,qI,qU 1,qU 1,qU 2,qI]] (qR [qe 4 1 0,qe 6 1 1,qe 8 1 2,qe 10 1 6,qu 12 (.build [qI,qI,qI,qU 1,qU 1,qU 2,qI] [(0,(1,qt 5)),(1,(1,qt 7)),(2,(1,qt 9)),(6,(1,qt 11))]),qw 3 [qI,qI,qI,qU 1,qU 1,qU 2,qI],qs 7 3 12] (qR [qe 13 3 3,qe 15 1 3,qN (.app 17 (qt 14) (qt 16) 1),qf 18 3 3,qs 1 18 17] (qR [qe 19 3 4,qe 21 1 4,qN (.app 23 (qt 20) (qt 22) 1),qf 24 3 4,qs 1 24 23] (qR [qe 25 3 5,qe 27 1 5,qN (.app 29 (qt 26) (qt 28) 2),qf 30 3 5,qs 1 30 29] (qR [qL 31 7 3,qs 7 2 31] .ret)))))⟩
def cd335:AFn:=⟨15,[.tmp 6],qR [qo 3 6 0,qo 4 3 1,qk 6 (.i .u8 0)] (qD 0 [qe 7 4 0,qL 9 6 3,qm 10 2,qg 11 293 [9,10],qi 12 8 11 2,qe 13 12 1,qm 6 14] .ret)⟩
def cd352:AFn:=⟨80,[.tmp 6],qR [qo 3 6 0,qo 4 3 1,qk 6 (.b false)] (qC [qe 11 4 2,qm 13 2,qi 14 12 13 4,qe 15 14 1,qu 17 (.bin .neq .num (qt 16) (.c (.i .u8 1)))] 17 (qR [qk 6 (.b false)] .ret) (qR [qL 18 6 3,qm 19 2,qg 20 312 [18,19],qw 7 [qU 1,qU 1,qU 3,qI],qs 4 7 20] (.seq (qR [qK 8 0] (.block 0 (.loop (.seq (qR [qm 21 8,qe 22 7 0,qz 24 23,qb 25 .lss 21 24] (qH 25 .skip (.exit 0))) (.seq (.block 1 (qD 0 [qL 28 6 3,qL 29 3 4,qe 30 7 0,qm 32 8,qi 33 31 32 1,ql 34 33,qN (.calle (some 35) 335 [qt 28,qt 29,qt 34]),qu 36 (.bin .neq .num (qt 35) (.c (.i .u8 0)))] (qH 36 (qR [qk 6 (.b false)] .ret) .skip))) (qX [qj 26 8])))))) (.seq (qR [qK 9 0] (.block 2 (.loop (.seq (qR [qm 37 9,qe 38 7 1,qz 40 39,qb 41 .lss 37 40] (qH 41 .skip (.exit 2))) (.seq (.block 3 (qD 0 [qL 44 6 3,qL 45 3 4,qe 46 7 1,qm 48 9,qi 49 47 48 1,ql 50 49,qN (.calle (some 51) 335 [qt 44,qt 45,qt 50]),qu 52 (.bin .neq .num (qt 51) (.c (.i .u8 0)))] (qH 52 (qR [qk 6 (.b false)] .ret) .skip))) (qX [qj 42 9])))))) (.seq (qR [qK 10 0] (.block 4 (.loop (.seq (qR [qm 53 10,qe 54 7 2,qz 56 55,qb 57 .lss 53 56] (qH 57 .skip (.exit 4))) (.seq (.block 5 (qD 0 [qe 60 4 1,qL 62 6 3,qe 63 7 2,qm 65 10,qi 66 64 65 3,qe 67 66 0,qe 73 7 2,qm 75 10,qi 76 74 75 3,qe 77 76 1,qg 69 294 [62,68],qi 70 61 69 3,qe 71 70 1,qb 79 .neq 72 78] (qH 79 (qR [qk 6 (.b false)] .ret) .skip))) (qX [qj 58 10])))))) (qR [qk 6 (.b true)] .ret))))))⟩
def cd353:AFn:=⟨30,[.tmp 6],qR [qo 3 6 0,qo 4 3 1,qK 6 0] (.seq (qR [qK 7 0] (.block 0 (.loop (.seq (qR [qm 8 7,qe 9 3 5,qz 11 10,qb 12 .lss 8 11] (qH 12 .skip (.exit 0))) (.seq (.block 1 (qR [qe 15 3 5,qm 17 7,qi 18 16 17 7,qe 19 18 1,qm 21 2,qb 22 .eql 20 21,qm 23 22,qT 23 [qL 24 6 3,qL 25 3 4,qm 26 7,qg 27 352 [24,25,26]],qp 28 23 27 false] (qH 28 (qR [qm 29 7,qm 6 29] .ret) .skip))) (qX [qj 13 7])))))) (qR [qk 6 (.i .i64 (-1))] .ret))⟩
def cd377:AFn:=⟨102,[.tmp 8],qR [qo 4 6 0,qo 5 3 1,qo 6 1 2,qo 7 4 3,qk 8 (.b false)] (qC [qL 19 6 4,qL 20 3 5,qL 21 1 6,qg 22 385 [19,20,21]] 22 (qR [qk 8 (.b true)] .ret) (qR [qL 23 1 6,qg 24 386 [23],qw 9 [qU 8],qs 1 9 24] (qR [qL 26 6 4,qL 27 3 5,qL 28 1 9,qL 29 4 7,qg 30 210 [26,27,28,29],qm 25 30,qx 31 25 0,qx 32 25 1,qx 33 25 2,qw 10 [qU 8],qs 1 10 31,qm 11 32,qm 12 33] (qR [qL 35 6 4,qL 36 3 5,qL 37 1 6,qL 38 4 7,qg 39 387 [35,36,37,38],qm 34 39,qx 40 34 0,qx 41 34 1,qx 42 34 2,qw 13 [qU 8],qs 1 13 40,qm 14 41,qm 15 42] (qD 0 [qL 43 6 4,qL 44 3 5,qL 45 1 9,qL 47 6 4,qL 48 3 5,qL 49 1 6,qg 46 225 [43,44,45],qN (.calle (some 50) 388 [qt 47,qt 48,qt 49]),qb 51 .eql 46 50,qm 52 51,qT 52 [qL 53 1 10,qL 54 1 13,qN (.calle (some 55) 389 [qt 53,qt 54])],qp 56 52 55 false,qm 57 56,qT 57 [qm 58 11,qm 59 14,qN (.calle (some 60) 390 [qt 58,qt 59])],qp 61 57 60 false,qm 62 61,qT 62 [qm 63 12,qm 64 15,qb 65 .eql 63 64],qp 66 62 65 false,qm 16 66] (.seq (qR [qK 17 0] (.block 0 (.loop (.seq (qR [qm 67 17,qe 68 10 0,qz 70 69,qb 71 .lss 67 70] (qH 71 .skip (.exit 0))) (.seq (.block 1 (qR [qK 18 0] (.block 2 (.loop (.seq (qR [qm 74 18,qe 75 10 0,qm 77 17,qi 78 76 77 8,qe 79 78 1,qz 81 80,qb 82 .lss 74 81] (qH 82 .skip (.exit 2))) (.seq (.block 3 (qX [qe 85 10 0,qm 87 17,qi 88 86 87 8,qe 89 88 1,qm 91 18,qi 92 90 91 1,ql 93 92,qc 94 .add 93 1,qi 95 90 91 1,qs 1 95 94])) (qX [qj 83 18]))))))) (qX [qj 72 17])))))) (qR [qm 96 16,qm 97 96,qT 97 [qL 98 1 9,qL 99 1 6,qg 100 389 [98,99]],qp 101 97 100 false,qm 8 101] .ret)))))))⟩
def cd385:AFn:=⟨17,[.tmp 6],qR [qo 3 6 0,qo 4 3 1,qo 5 1 2,qk 6 (.b false)] (qR [qL 7 6 3,qg 8 393 [7],qm 9 8,qF 9 [qL 10 3 4,qg 11 8 [10]],qv 12 9 11 true,qm 13 12,qF 13 [qL 14 1 5,qg 15 394 [14]],qv 16 13 15 true,qm 6 16] .ret)⟩
def cd386:AFn:=⟨31,[.cell 2 (some 1)],qR [qo 1 1 0,qw 2 [qU 8]] (qR [qw 3 [qU 8]] (.seq (qR [qK 4 0] (.block 0 (.loop (.seq (qR [qm 7 4,qe 8 1 0,qz 10 9,qb 11 .lss 7 10] (qH 11 .skip (.exit 0))) (.seq (.block 1 (qR [qe 14 1 0,qm 16 4,qi 17 15 16 8,qL 18 8 17,qw 5 [qI,qU 1,qI,qI,qI,qI,qI,qI],qs 8 5 18] (qR [qk 6 (.s0 1)] (qR [qm 19 6,qe 20 5 1,qN (.app 22 (qt 19) (qt 21) 1),qf 23 5 1,qs 1 23 22] (qX [qe 24 3 0,qL 26 8 5,qN (.mksl 27 8 1 [qI,qU 1,qI,qI,qI,qI,qI,qI] [(0,(8,qt 26))]),qN (.app 28 (qt 25) (qt 27) 8),qf 29 3 0,qs 1 29 28]))))) (qX [qj 12 4])))))) (qR [qL 30 1 3,qs 1 2 30] .ret)))⟩
def cd387:AFn:=⟨84,[.cell 8 (some 1),.tmp 9,.tmp 10],qR [qo 4 6 0,qo 5 3 1,qo 6 1 2,qo 7 4 3,qw 8 [qU 8],qk 9 (.s0 4),qK 10 0] (qR [qL 16 6 4,qL 17 3 5,qL 18 1 6,qg 19 388 [16,17,18],qm 11 19] (qC [qh 20 11 .neq 0] 21 (qR [qu 22 (.build [qU 8] []),qm 23 11,qs 1 8 22,qk 9 (.s0 4),qm 10 23] .ret) (qC [qe 24 7 0,qu 26 (.bin .lss .num (qt 25) (.c (.i .u8 1))),qm 27 26,qF 27 [qe 28 7 0,qu 30 (.bin .gtr .num (qt 29) (.c (.i .u8 5)))],qv 31 27 30 true] 31 (qR [qu 32 (.build [qU 8] []),qs 1 8 32,qk 9 (.s0 4),qK 10 2] .ret) (qR [qL 33 1 6,qg 34 386 [33],qw 12 [qU 8],qs 1 12 34] (qR [qL 35 1 6,qe 36 7 1,qg 38 391 [35,37],qm 13 38] (qR [qw 14 [qU 8]] (qR [qk 15 (.s0 4)] (.seq (.block 0 (qR [qe 50 7 0,qu 52 (.bin .eql .num (qt 51) (.c (.i .u8 1))),qm 49 52] (qH 49 (qX [qL 54 6 4,qL 55 3 5,qL 56 1 12,qL 57 4 7,qg 58 395 [54,55,56,57],qm 53 58,qx 59 53 0,qx 60 53 1,qx 61 53 2,qs 1 14 59,qm 15 60,qm 11 61]) (qR [qh 63 13 .lss 0,qm 62 64] (qH 62 (qX [qK 11 6]) (qR [qe 66 7 0,qu 68 (.bin .eql .num (qt 67) (.c (.i .u8 2))),qm 65 68] (qH 65 (qX [qL 70 6 4,qL 71 3 5,qL 72 1 12,qm 73 13,qg 74 396 [70,71,72,73],qm 69 74,qx 75 69 0,qx 76 69 1,qx 77 69 2,qs 1 14 75,qm 15 76,qm 11 77]) (qX [qL 40 6 4,qL 41 1 12,qe 42 7 0,qm 44 13,qg 45 397 [40,41,43,44],qm 39 45,qx 46 39 0,qx 47 39 1,qx 48 39 2,qs 1 14 46,qm 15 47,qm 11 48])))))))) (qC [qh 78 11 .neq 0] 79 (qR [qu 80 (.build [qU 8] []),qm 81 11,qs 1 8 80,qk 9 (.s0 4),qm 10 81] .ret) (qR [qL 82 1 14,qm 83 15,qs 1 8 82,qm 9 83,qK 10 0] .ret))))))))))⟩
def cd388:AFn:=⟨19,[.tmp 6],qR [qo 3 6 0,qo 4 3 1,qo 5 1 2,qK 6 0] (qR [qL 8 6 3,qL 9 3 4,qg 10 292 [8,9],qm 7 10] (qC [qh 11 7 .neq 0] 12 (qR [qm 13 7,qm 6 13] .ret) (qC [qL 14 6 3,qL 15 3 4,qL 16 1 5,qg 17 398 [14,15,16],qn 18 17] 18 (qR [qK 6 8] .ret) (qR [qK 6 0] .ret))))⟩
def cd389:AFn:=⟨32,[.tmp 4],qR [qo 2 1 0,qo 3 1 1,qk 4 (.b false)] (qC [qe 6 2 0,qz 8 7,qe 9 3 0,qz 11 10,qb 12 .neq 8 11] 12 (qR [qk 4 (.b false)] .ret) (.seq (qR [qK 5 0] (.block 0 (.loop (.seq (qR [qm 13 5,qe 14 2 0,qz 16 15,qb 17 .lss 13 16] (qH 17 .skip (.exit 0))) (.seq (.block 1 (qD 0 [qe 20 2 0,qm 22 5,qi 23 21 22 8,qL 24 8 23,qe 25 3 0,qm 27 5,qi 28 26 27 8,qL 29 8 28,qN (.calle (some 30) 392 [qt 24,qt 29]),qn 31 30] (qH 31 (qR [qk 4 (.b false)] .ret) .skip))) (qX [qj 18 5])))))) (qR [qk 4 (.b true)] .ret)))⟩
def cd390:AFn:=⟨72,[.tmp 4],qR [qk 4 (.b false)] (qC [qm 6 0,qz 7 6,qm 8 1,qz 9 8,qb 10 .neq 7 9] 10 (qR [qk 4 (.b false)] .ret) (.seq (qR [qK 5 0] (.block 0 (.loop (.seq (qR [qm 11 5,qm 12 0,qz 13 12,qb 14 .lss 11 13] (qH 14 .skip (.exit 0))) (.seq (.block 1 (qD 0 [qm 17 0,qm 18 5,qi 19 17 18 4,qe 20 19 0,qm 22 1,qm 23 5,qi 24 22 23 4,qe 25 24 0,qb 27 .neq 21 26,qm 28 27,qF 28 [qm 29 0,qm 30 5,qi 31 29 30 4,qe 32 31 1,qm 34 1,qm 35 5,qi 36 34 35 4,qe 37 36 1,qb 39 .neq 33 38],qv 40 28 39 true,qm 41 40,qF 41 [qm 42 0,qm 43 5,qi 44 42 43 4,qe 45 44 2,qm 47 1,qm 48 5,qi 49 47 48 4,qe 50 49 2,qb 52 .neq 46 51],qv 53 41 52 true,qm 54 53,qF 54 [qm 55 0,qm 56 5,qi 57 55 56 4,qe 58 57 3,qz 60 59,qc 61 .neq 60 0],qv 62 54 61 true,qm 63 62,qF 63 [qm 64 1,qm 65 5,qi 66 64 65 4,qe 67 66 3,qz 69 68,qc 70 .neq 69 0],qv 71 63 70 true] (qH 71 (qR [qk 4 (.b false)] .ret) .skip))) (qX [qj 15 5])))))) (qR [qk 4 (.b true)] .ret)))⟩
def cd391:AFn:=⟨22,[.tmp 4],qR [qo 2 1 0,qK 4 0] (.seq (qR [qK 5 0] (.block 0 (.loop (.seq (qR [qm 6 5,qe 7 2 0,qz 9 8,qb 10 .lss 6 9] (qH 10 .skip (.exit 0))) (.seq (.block 1 (qR [qe 13 2 0,qm 15 5,qi 16 14 15 8,qe 17 16 0,qm 19 1,qb 20 .eql 18 19] (qH 20 (qR [qm 21 5,qm 4 21] .ret) .skip))) (qX [qj 11 5])))))) (qR [qk 4 (.i .i64 (-1))] .ret))⟩
def cd392:AFn:=⟨59,[.tmp 4],qR [qo 2 8 0,qo 3 8 1,qk 4 (.b false)] (qR [qe 5 2 0,qe 7 3 0,qb 9 .eql 6 8,qm 10 9,qT 10 [qe 11 2 1,qe 13 3 1,qg 15 399 [12,14]],qp 16 10 15 false,qm 17 16,qT 17 [qe 18 2 2,qe 20 3 2,qb 22 .eql 19 21],qp 23 17 22 false,qm 24 23,qT 24 [qe 25 2 3,qe 27 3 3,qb 29 .eql 26 28],qp 30 24 29 false,qm 31 30,qT 31 [qe 32 2 4,qe 34 3 4,qb 36 .eql 33 35],qp 37 31 36 false,qm 38 37,qT 38 [qe 39 2 5,qe 41 3 5,qb 43 .eql 40 42],qp 44 38 43 false,qm 45 44,qT 45 [qe 46 2 6,qe 48 3 6,qb 50 .eql 47 49],qp 51 45 50 false,qm 52 51,qT 52 [qe 53 2 7,qe 55 3 7,qb 57 .eql 54 56],qp 58 52 57 false,qm 4 58] .ret)⟩
def cd393:AFn:=⟨64,[.tmp 2],qR [qo 1 6 0,qk 2 (.b false)] (.seq (qR [qK 3 0] (.block 0 (.loop (.seq (qR [qm 4 3,qe 5 1 5,qz 7 6,qb 8 .lss 4 7,qm 9 8,qT 9 [qh 10 3 .lss 40],qp 12 9 11 false] (qH 12 .skip (.exit 0))) (.seq (.block 1 (qR [qe 15 1 5,qm 17 3,qi 18 16 17 7,qe 19 18 3,qz 21 20,qc 22 .gtr 21 20,qm 23 22,qF 23 [qe 24 1 5,qm 26 3,qi 27 25 26 7,qe 28 27 4,qz 30 29,qc 31 .gtr 30 20],qv 32 23 31 true,qm 33 32,qF 33 [qe 34 1 5,qm 36 3,qi 37 35 36 7,qe 38 37 5,qz 40 39,qc 41 .gtr 40 20],qv 42 33 41 true] (qH 42 (qR [qk 2 (.b true)] .ret) .skip))) (qX [qj 13 3])))))) (qR [qe 43 1 2,qg 45 21 [44],qm 46 45,qF 46 [qe 47 1 3,qz 49 48,qc 50 .gtr 49 40],qv 51 46 50 true,qm 52 51,qF 52 [qe 53 1 4,qz 55 54,qc 56 .gtr 55 40],qv 57 52 56 true,qm 58 57,qF 58 [qe 59 1 5,qz 61 60,qc 62 .gtr 61 40],qv 63 58 62 true,qm 2 63] .ret))⟩
def cd394:AFn:=⟨27,[.tmp 2],qR [qo 1 1 0,qk 2 (.b false)] (.seq (qR [qK 3 0] (.block 0 (.loop (.seq (qR [qm 4 3,qe 5 1 0,qz 7 6,qb 8 .lss 4 7,qm 9 8,qT 9 [qh 10 3 .lss 30],qp 12 9 11 false] (qH 12 .skip (.exit 0))) (.seq (.block 1 (qR [qe 15 1 0,qm 17 3,qi 18 16 17 8,qe 19 18 1,qz 21 20,qc 22 .gtr 21 30] (qH 22 (qR [qk 2 (.b true)] .ret) .skip))) (qX [qj 13 3])))))) (qR [qe 23 1 0,qz 25 24,qc 26 .gtr 25 30,qm 2 26] .ret))⟩
def cd395:AFn:=⟨156,[.cell 8 (some 1),.tmp 9,.tmp 10],qR [qo 4 6 0,qo 5 3 1,qo 6 1 2,qo 7 4 3,qw 8 [qU 8],qk 9 (.s0 4),qK 10 0] (qC [qe 17 6 0,qz 19 18,qc 20 .geq 19 8] 20 (qR [qL 21 1 6,qs 1 8 21,qk 9 (.s0 4),qK 10 9] .ret) (qC [qe 22 7 1,qc 24 .lss 23 1,qm 25 24,qF 25 [qe 26 7 1,qc 28 .gtr 27 99],qv 29 25 28 true,qm 30 29,qF 30 [qL 31 1 6,qe 32 7 1,qg 34 391 [31,33],qc 35 .geq 34 0],qv 36 30 35 true] 36 (qR [qL 37 1 6,qs 1 8 37,qk 9 (.s0 4),qK 10 2] .ret) (qR [qe 38 4 2,qe 40 7 2,qg 42 49 [39,41],qm 11 42] (qC [qh 43 11 .lss 0] 44 (qR [qL 45 1 6,qs 1 8 45,qk 9 (.s0 4),qK 10 6] .ret) (qC [qe 46 4 2,qm 48 11,qi 49 47 48 3,qe 50 49 1,qc 52 .neq 51 0,qm 53 52,qF 53 [qe 54 7 3,qc 56 .lss 55 0],qv 57 53 56 true,qm 58 57,qF 58 [qe 59 7 3,qc 61 .gtr 60 1],qv 62 58 61 true] 62 (qR [qL 63 1 6,qs 1 8 63,qk 9 (.s0 4),qK 10 2] .ret) (.seq (qR [qK 12 0] (.block 0 (.loop (.seq (qR [qm 64 12,qe 65 6 0,qz 67 66,qb 68 .lss 64 67] (qH 68 .skip (.exit 0))) (.seq (.block 1 (qD 0 [qe 71 6 0,qm 73 12,qi 74 72 73 8,qe 75 74 1,qe 77 7 2,qN (.calle (some 79) 400 [qt 76,qt 78])] (qH 79 (qR [qL 80 1 6,qs 1 8 80,qk 9 (.s0 4),qK 10 182] .ret) .skip))) (qX [qj 69 12])))))) (qC [qe 81 5 0,qm 83 11,qi 84 82 83 2,qe 85 84 1,qu 87 (.bin .neq .num (qt 86) (.c (.i .u8 0))),qm 88 87,qF 88 [qL 89 6 4,qL 90 3 5,qe 91 7 2,qg 93 296 [89,90,92],qc 94 .neq 93 0],qv 95 88 94 true] 95 (qR [qL 96 1 6,qs 1 8 96,qk 9 (.s0 4),qK 10 182] .ret) (qR [qe 97 7 1,qe 99 7 2,qN (.mksl 101 1 1 [qI] [(0,(1,qt 100))]),qe 102 7 3,qu 104 (.bin .sub .num (.c (.i .i64 1)) (qt 103)),qe 105 7 3,qu 107 (.build [qI,qU 1,qI,qI,qI,qI,qI,qI] [(0,(1,qt 98)),(1,(1,qt 101)),(2,(1,qt 104)),(3,(1,qt 106))]),qw 13 [qI,qU 1,qI,qI,qI,qI,qI,qI],qs 8 13 107] (qR [qw 14 [qU 8]] (qR [qk 15 (.b false)] (.seq (qR [qK 16 0] (.block 2 (.loop (.seq (qR [qm 108 16,qe 109 6 0,qz 111 110,qb 112 .lss 108 111] (qH 112 .skip (.exit 2))) (.seq (.block 3 (.seq (qD 0 [qm 115 15,qn 116 115,qm 117 116,qT 117 [qe 118 6 0,qm 120 16,qi 121 119 120 8,qe 122 121 0,qe 124 13 0,qb 126 .gtr 123 125],qp 127 117 126 false] (qH 127 (qR [qe 128 14 0,qL 130 8 13,qN (.mksl 131 8 1 [qI,qU 1,qI,qI,qI,qI,qI,qI] [(0,(8,qt 130))]),qN (.app 132 (qt 129) (qt 131) 8),qf 133 14 0,qs 1 133 132] (qX [qk 15 (.b true)])) .skip)) (qY 0 [qe 134 14 0,qe 136 6 0,qm 138 16,qi 139 137 138 8,qL 140 8 139,qN (.mksl 141 8 1 [qI,qU 1,qI,qI,qI,qI,qI,qI] [(0,(8,qt 140))]),qN (.appe 142 (qt 135) (qt 141) 8),qf 143 14 0,qs 1 143 142]))) (qX [qj 113 16])))))) (qC [qm 144 15,qn 145 144] 145 (qX [qe 146 14 0,qL 148 8 13,qN (.mksl 149 8 1 [qI,qU 1,qI,qI,qI,qI,qI,qI] [(0,(8,qt 148))]),qN (.app 150 (qt 147) (qt 149) 8),qf 151 14 0,qs 1 151 150]) (qD 0 [qL 152 1 14,qe 153 7 2,qN (.call (some 155) 401 [qt 154,.c (.i .i64 1)]),qs 1 8 152,qm 9 155,qK 10 0] .ret)))))))))))))⟩
def cd396:AFn:=⟨117,[.cell 8 (some 1),.tmp 9,.tmp 10],qR [qo 4 6 0,qo 5 3 1,qo 6 1 2,qw 8 [qU 8],qk 9 (.s0 4),qK 10 0] (qR [qe 20 6 0,qm 22 3,qi 23 21 22 8,qL 24 8 23,qw 11 [qI,qU 1,qI,qI,qI,qI,qI,qI],qs 8 11 24] (qC [qe 25 11 1,qz 27 26,qc 28 .geq 27 4] 28 (qR [qL 29 1 6,qs 1 8 29,qk 9 (.s0 4),qK 10 9] .ret) (qR [qL 31 6 4,qL 32 3 5,qL 33 8 11,qg 34 402 [31,32,33],qm 30 34,qx 35 30 0,qx 36 30 1,qx 37 30 2,qm 12 35,qm 13 36,qm 14 37] (qD 1 [qe 38 4 2,qe 40 4 2,qe 42 11 1,qu 44 (.iadr (qt 43) (.c (.i .i64 0)) 1 none),ql 45 44,qN (.callp 46 49 [qt 41,qt 45]),qi 47 39 46 3,qe 48 47 2,qe 50 11 3,qi 52 49 51 2,qL 53 2 52,qN (.gal 15 1 [qI,qI]),qs 2 15 53] (qC [qm 54 14,qn 55 54,qm 56 55,qF 56 [qe 57 15 0,qc 59 .eql 58 0],qv 60 56 59 true] 60 (qR [qL 61 1 6,qs 1 8 61,qk 9 (.s0 4),qK 10 310] .ret) (qD 1 [qe 62 4 2,qe 64 4 2,qe 66 15 0,qN (.callp 68 49 [qt 65,qt 67]),qi 69 63 68 3,qL 70 3 69,qN (.gal 16 1 [qI,qI,qU 2]),qs 3 16 70] (qR [qK 17 0] (qC [qe 71 16 1,qc 73 .neq 72 0] 73 (qY 0 [qe 74 5 1,qe 76 4 3,qe 78 16 1,qg 80 316 [77,79],qi 81 75 80 3,qe 82 81 1,qm 17 83]) (qR [qL 85 3 16,qe 86 15 1,qm 88 17,qg 89 19 [85,87,88],qm 84 89,qx 90 84 0,qx 91 84 1,qm 18 90,qm 19 91] (qC [qh 92 19 .neq 0] 93 (qR [qL 94 1 6,qs 1 8 94,qk 9 (.s0 4),qK 10 310] .ret) (qD 0 [qe 95 6 0,qm 97 3,qe 98 11 0,qe 100 16 0,qe 103 11 1,qe 106 15 1,qm 108 18,qm 109 12,qm 110 13,qN (.mksr 102 1 1 [qI] [(0,(1,qt 101))]),qN (.appA 105 (qt 102) (qt 104) 1 [qt 6,qt 95,qt 11,qt 98,qt 15,qt 106]),qu 111 (.build [qI,qU 1,qI,qI,qI,qI,qI,qI] [(0,(1,qt 99)),(1,(1,qt 105)),(2,(1,qt 107)),(3,(1,qt 108)),(4,(1,qt 109)),(5,(1,qt 110))]),qi 112 96 97 8,qs 8 112 111] (qD 0 [qL 113 1 6,qe 114 16 0,qN (.call (some 116) 401 [qt 115,.c (.i .i64 1)]),qs 1 8 113,qm 9 116,qK 10 0] .ret))))))))))))⟩
def cd397:AFn:=⟨110,[.cell 8 (some 1),.tmp 9,.tmp 10],qR [qo 4 6 0,qo 5 1 1,qw 8 [qU 8],qk 9 (.s0 4),qK 10 0] (qR [qe 15 5 0,qm 17 3,qi 18 16 17 8,qL 19 8 18,qw 11 [qI,qU 1,qI,qI,qI,qI,qI,qI],qs 8 11 19] (qR [qe 20 11 1,qz 22 21,qm 12 22] (qC [qm 23 2,qu 24 (.bin .eql .num (qt 23) (.c (.i .u8 3)))] 24 (qC [qh 25 12 .eql 1] 26 (qR [qL 27 1 5,qs 1 8 27,qk 9 (.s0 4),qK 10 2] .ret) (qD 0 [qe 28 5 0,qm 30 3,qe 31 11 1,qh 33 12 .sub 1,qu 35 (.slc (qt 32) none (some (qt 34)) none 1),qi 36 29 30 8,qf 37 36 1,qs 1 37 35] (qD 0 [qL 38 1 5,qe 39 11 1,qh 41 12 .sub 1,qi 43 40 42 1,ql 44 43,qN (.call (some 45) 401 [qt 44,.c (.i .i64 0)]),qs 1 8 38,qm 9 45,qK 10 0] .ret))) (qC [qh 46 12 .gtr 1] 47 (qR [qL 48 1 5,qs 1 8 48,qk 9 (.s0 4),qK 10 2] .ret) (qC [qm 49 2,qu 50 (.bin .eql .num (qt 49) (.c (.i .u8 4)))] 50 (qR [qe 51 5 0,qm 53 3,qe 54 11 0,qe 56 11 1,qe 58 11 3,qe 60 11 2,qu 62 (.build [qI,qU 1,qI,qI,qI,qI,qI,qI] [(0,(1,qt 55)),(1,(1,qt 57)),(2,(1,qt 59)),(3,(1,qt 61))]),qi 63 52 53 8,qs 8 63 62] (qR [qL 64 1 5,qs 1 8 64,qk 9 (.s0 4),qK 10 0] .ret)) (.seq (qD 0 [qe 65 4 2,qe 67 4 2,qe 69 11 1,qu 71 (.iadr (qt 70) (.c (.i .i64 0)) 1 none),ql 72 71,qe 77 11 3,qg 73 49 [68,72],qi 74 66 73 3,qe 75 74 2,qi 79 76 78 2,qe 80 79 0,qc 82 .neq 81 0] (qH 82 (qR [qL 83 1 5,qs 1 8 83,qk 9 (.s0 4),qK 10 2] .ret) .skip)) (qR [qw 13 [qU 8]] (.seq (qR [qK 14 0] (.block 0 (.loop (.seq (qR [qm 84 14,qe 85 5 0,qz 87 86,qb 88 .lss 84 87] (qH 88 .skip (.exit 0))) (.seq (.block 1 (qR [qm 91 14,qm 92 3,qb 93 .neq 91 92] (qH 93 (qY 0 [qe 94 13 0,qe 96 5 0,qm 98 14,qi 99 97 98 8,qL 100 8 99,qN (.mksl 101 8 1 [qI,qU 1,qI,qI,qI,qI,qI,qI] [(0,(8,qt 100))]),qN (.appe 102 (qt 95) (qt 101) 8),qf 103 13 0,qs 1 103 102]) .skip))) (qX [qj 89 14])))))) (qD 0 [qL 104 1 13,qe 105 11 1,qu 107 (.iadr (qt 106) (.c (.i .i64 0)) 1 none),ql 108 107,qN (.call (some 109) 401 [qt 108,.c (.i .i64 0)]),qs 1 8 104,qm 9 109,qK 10 0] .ret)))))))))⟩
def cd398:AFn:=⟨70,[.tmp 6],qR [qo 3 6 0,qo 4 3 1,qo 5 1 2,qk 6 (.b false)] (qR [qk 7 (.s0 1)] (.seq (qR [qK 8 0] (.block 0 (.loop (.seq (qR [qm 11 8,qe 12 5 0,qz 14 13,qb 15 .lss 11 14] (qH 15 .skip (.exit 0))) (.seq (.block 1 (qR [qe 18 5 0,qm 20 8,qi 21 19 20 8,qL 22 8 21,qw 9 [qI,qU 1,qI,qI,qI,qI,qI,qI],qs 8 9 22] (.seq (qD 0 [qh 23 8 .gtr 0,qm 25 24,qT 25 [qe 26 5 0,qh 28 8 .sub 1,qi 30 27 29 8,qe 31 30 0,qe 33 9 0,qb 35 .geq 32 34],qp 36 25 35 false,qm 37 36,qF 37 [qL 38 6 3,qL 39 3 4,qL 40 8 9,qN (.calle (some 41) 403 [qt 38,qt 39,qt 40]),qn 42 41],qv 43 37 42 true] (qH 43 (qR [qk 6 (.b false)] .ret) .skip)) (qR [qK 10 0] (.block 2 (.loop (.seq (qR [qm 44 10,qe 45 9 1,qz 47 46,qb 48 .lss 44 47] (qH 48 .skip (.exit 2))) (.seq (.block 3 (qC [qm 51 7,qe 52 9 1,qm 54 10,qi 55 53 54 1,ql 56 55,qg 57 400 [51,56]] 57 (qR [qk 6 (.b false)] .ret) (qX [qm 58 7,qe 59 9 1,qm 61 10,qi 62 60 61 1,ql 63 62,qN (.mksl 64 1 1 [qI] [(0,(1,qt 63))]),qN (.app 65 (qt 58) (qt 64) 1),qm 7 65]))) (qX [qj 49 10]))))))))) (qX [qj 16 8])))))) (qR [qe 66 5 0,qz 68 67,qc 69 .leq 68 8,qm 6 69] .ret)))⟩
def cd399:AFn:=⟨26,[.tmp 4],qR [qk 4 (.b false)] (qC [qm 6 0,qz 7 6,qm 8 1,qz 9 8,qb 10 .neq 7 9] 10 (qR [qk 4 (.b false)] .ret) (.seq (qR [qK 5 0] (.block 0 (.loop (.seq (qR [qm 11 5,qm 12 0,qz 13 12,qb 14 .lss 11 13] (qH 14 .skip (.exit 0))) (.seq (.block 1 (qD 0 [qm 17 0,qm 18 5,qi 19 17 18 1,ql 20 19,qm 21 1,qm 22 5,qi 23 21 22 1,ql 24 23,qb 25 .neq 20 24] (qH 25 (qR [qk 4 (.b false)] .ret) .skip))) (qX [qj 15 5])))))) (qR [qk 4 (.b true)] .ret)))⟩
def cd400:AFn:=⟨18,[.tmp 4],qR [qk 4 (.b false)] (.seq (qR [qK 5 0] (.block 0 (.loop (.seq (qR [qm 6 5,qm 7 0,qz 8 7,qb 9 .lss 6 8] (qH 9 .skip (.exit 0))) (.seq (.block 1 (qR [qm 12 0,qm 13 5,qi 14 12 13 1,ql 15 14,qm 16 1,qb 17 .eql 15 16] (qH 17 (qR [qk 4 (.b true)] .ret) .skip))) (qX [qj 10 5])))))) (qR [qk 4 (.b false)] .ret))⟩
def cd401:AFn:=⟨9,[.tmp 4],qR [qk 4 (.s0 4)] (qR [qm 5 0,qm 6 1,qu 7 (.build [(1,.i .u8 0),qI,qI,qU 1] [(0,(1,.c (.i .u8 1))),(1,(1,qt 5)),(2,(1,qt 6))]),qN (.mksl 8 4 1 [(1,.i .u8 0),qI,qI,qU 1] [(0,(4,qt 7))]),qm 4 8] .ret)⟩
def cd402:AFn:=⟨63,[.tmp 6,.tmp 7,.tmp 8],qR [qo 3 6 0,qo 4 3 1,qo 5 8 2,qK 6 0,qK 7 0,qk 8 (.b false)] (qC [qe 12 5 4,qc 14 .neq 13 0] 14 (qR [qe 15 3 5,qe 17 5 4,qg 19 310 [16,18],qm 9 19] (qD 0 [qe 20 5 5,qe 22 3 5,qm 24 9,qi 25 23 24 7,qe 26 25 3,qz 28 27,qc 29 .sub 28 1,qb 30 .lss 21 29] (qH 30 (qD 0 [qe 31 5 4,qe 33 5 5,qc 35 .add 34 1,qm 6 32,qm 7 35,qk 8 (.b true)] .ret) .skip))) (qD 0 [qL 36 6 3,qe 37 5 1,qu 39 (.iadr (qt 38) (.c (.i .i64 0)) 1 none),ql 40 39,qe 41 5 3,qN (.calle (some 43) 311 [qt 36,qt 40,qt 42]),qm 10 43] (qC [qh 44 10 .eql 0] 45 (qR [qK 6 0,qK 7 0,qk 8 (.b false)] .ret) (qR [qL 46 6 3,qL 47 3 4,qm 48 10,qg 49 353 [46,47,48],qm 11 49] (qC [qh 50 11 .geq 0] 51 (qR [qe 52 3 5,qm 54 11,qi 55 53 54 7,qe 56 55 0,qm 6 57,qK 7 0,qk 8 (.b true)] .ret) (qD 0 [qe 58 5 7,qe 60 5 6,qc 62 .gtr 61 0,qm 6 59,qK 7 0,qm 8 62] .ret))))))⟩
def cd403:AFn:=⟨184,[.tmp 6],qR [qo 3 6 0,qo 4 3 1,qo 5 8 2,qk 6 (.b false)] (qC [qe 12 5 0,qc 14 .lss 13 1,qm 15 14,qF 15 [qe 16 5 0,qc 18 .gtr 17 99],qv 19 15 18 true,qm 20 19,qF 20 [qe 21 5 1,qz 23 22,qc 24 .lss 23 1],qv 25 20 24 true,qm 26 25,qF 26 [qe 27 5 1,qz 29 28,qc 30 .gtr 29 4],qv 31 26 30 true,qm 32 31,qF 32 [qe 33 5 6,qc 35 .lss 34 0],qv 36 32 35 true,qm 37 36,qF 37 [qe 38 5 6,qc 40 .gtr 39 9],qv 41 37 40 true] 41 (qR [qk 6 (.b false)] .ret) (.seq (qR [qK 7 0] (.block 0 (.loop (.seq (qR [qm 42 7,qe 43 5 1,qz 45 44,qb 46 .lss 42 45] (qH 46 .skip (.exit 0))) (.seq (.block 1 (qD 0 [qe 49 3 2,qe 51 5 1,qm 53 7,qi 54 52 53 1,ql 55 54,qN (.calle (some 56) 49 [qt 50,qt 55]),qm 8 56] (qD 0 [qh 57 8 .lss 0,qm 59 58,qF 59 [qe 60 4 0,qm 62 8,qi 63 61 62 2,qe 64 63 1,qu 66 (.bin .eql .num (qt 65) (.c (.i .u8 0)))],qv 67 59 66 true,qm 68 67,qF 68 [qh 69 7 .gtr 0,qm 71 70],qT 71 [qL 72 6 3,qe 73 5 1,qh 75 7 .sub 1,qi 77 74 76 1,ql 78 77,qe 79 5 1,qm 81 7,qi 82 80 81 1,ql 83 82,qN (.calle (some 84) 404 [qt 72,qt 78,qt 83]),qn 85 84],qF 68 [qp 86 71 85 false],qv 87 68 86 true] (qH 87 (qR [qk 6 (.b false)] .ret) .skip)))) (qX [qj 47 7])))))) (qD 1 [qe 88 3 2,qe 90 3 2,qe 92 5 1,qu 94 (.iadr (qt 93) (.c (.i .i64 0)) 1 none),ql 95 94,qN (.callp 96 49 [qt 91,qt 95]),qi 97 89 96 3,qL 98 3 97,qN (.gal 9 1 [qI,qI,qU 2]),qs 3 9 98] (qC [qL 99 3 9,qe 100 5 2,qe 102 5 3,qg 104 44 [99,101,103],qc 105 .lss 104 0] 105 (qR [qk 6 (.b false)] .ret) (qC [qe 106 5 4,qc 108 .eql 107 0,qm 109 108,qT 109 [qe 110 5 5,qc 112 .neq 111 0],qp 113 109 112 false] 113 (qR [qk 6 (.b false)] .ret) (qC [qe 114 5 4,qc 116 .neq 115 0] 116 (qR [qe 117 3 5,qe 119 5 4,qg 121 310 [118,120],qm 10 121] (qD 0 [qh 122 10 .lss 0,qm 124 123,qF 124 [qe 125 5 5,qc 127 .lss 126 0],qv 128 124 127 true,qm 129 128,qF 129 [qe 130 5 5,qe 132 3 5,qm 134 10,qi 135 133 134 7,qe 136 135 3,qz 138 137,qb 139 .geq 131 138],qv 140 129 139 true,qm 141 140,qF 141 [qe 142 3 5,qm 144 10,qi 145 143 144 7,qe 146 145 3,qe 148 5 5,qi 150 147 149 1,ql 151 150,qe 152 9 0,qb 154 .neq 151 153],qv 155 141 154 true] (qH 155 (qR [qk 6 (.b false)] .ret) .skip))) (qC [qe 156 5 6,qc 158 .eql 157 0] 158 (qR [qe 159 5 7,qc 161 .eql 160 0,qm 6 161] .ret) (qR [qe 162 3 5,qe 164 5 7,qg 166 310 [163,165],qm 11 166] (qD 0 [qh 167 11 .geq 0,qm 169 168,qT 169 [qL 170 6 3,qe 171 9 0,qe 173 5 3,qe 176 3 5,qm 178 11,qi 179 177 178 7,qe 180 179 1,qg 175 311 [170,172,174],qb 182 .eql 175 181],qp 183 169 182 false,qm 6 183] .ret)))))))))⟩
def cd404:AFn:=⟨32,[.tmp 6],qR [qo 3 6 0,qk 6 (.b false)] (qD 1 [qe 9 3 2,qe 11 3 2,qm 13 1,qN (.callp 14 49 [qt 12,qt 13]),qi 15 10 14 3,qL 16 3 15,qN (.gal 7 1 [qI,qI,qU 2]),qs 3 7 16] (.seq (qR [qK 8 0] (.block 0 (.loop (.seq (qR [qm 17 8,qe 18 7 2,qz 20 19,qb 21 .lss 17 20] (qH 21 .skip (.exit 0))) (.seq (.block 1 (qR [qe 24 7 2,qm 26 8,qi 27 25 26 2,qe 28 27 0,qm 30 2,qb 31 .eql 29 30] (qH 31 (qR [qk 6 (.b true)] .ret) .skip))) (qX [qj 22 8])))))) (qR [qk 6 (.b false)] .ret)))⟩
def code:Nat->Option AFn
 |8=>some cd8
 |15=>some cd15
 |16=>some cd16
 |18=>some cd18
 |19=>some cd19
 |21=>some cd21
 |22=>some cd22
 |23=>some cd23
 |24=>some cd24
 |26=>some cd26
 |27=>some cd27
 |41=>some cd41
 |42=>some cd42
 |43=>some cd43
 |44=>some cd44
 |45=>some cd45
 |46=>some cd46
 |47=>some cd47
 |48=>some cd48
 |49=>some cd49
 |50=>some cd50
 |51=>some cd51
 |52=>some cd52
 |53=>some cd53
 |54=>some cd54
 |55=>some cd55
 |67=>some cd67
 |69=>some cd69
 |70=>some cd70
 |76=>some cd76
 |79=>some cd79
 |80=>some cd80
 |81=>some cd81
 |82=>some cd82
 |83=>some cd83
 |84=>some cd84
 |89=>some cd89
 |90=>some cd90
 |91=>some cd91
 |93=>some cd93
 |94=>some cd94
 |95=>some cd95
 |96=>some cd96
 |97=>some cd97
 |98=>some cd98
 |99=>some cd99
 |100=>some cd100
 |101=>some cd101
 |102=>some cd102
 |103=>some cd103
 |104=>some cd104
 |105=>some cd105
 |106=>some cd106
 |107=>some cd107
 |108=>some cd108
 |109=>some cd109
 |110=>some cd110
 |111=>some cd111
 |112=>some cd112
 |113=>some cd113
 |114=>some cd114
 |115=>some cd115
 |116=>some cd116
 |117=>some cd117
 |118=>some cd118
 |119=>some cd119
 |120=>some cd120
 |121=>some cd121
 |122=>some cd122
 |123=>some cd123
 |124=>some cd124
 |125=>some cd125
 |126=>some cd126
 |127=>some cd127
 |128=>some cd128
 |129=>some cd129
 |130=>some cd130
 |131=>some cd131
 |132=>some cd132
 |133=>some cd133
 |134=>some cd134
 |135=>some cd135
 |136=>some cd136
 |137=>some cd137
 |138=>some cd138
 |139=>some cd139
 |140=>some cd140
 |141=>some cd141
 |142=>some cd142
 |143=>some cd143
 |144=>some cd144
 |145=>some cd145
 |176=>some cd176
 |177=>some cd177
 |184=>some cd184
 |185=>some cd185
 |198=>some cd198
 |210=>some cd210
 |213=>some cd213
 |214=>some cd214
 |225=>some cd225
 |226=>some cd226
 |227=>some cd227
 |228=>some cd228
 |229=>some cd229
 |230=>some cd230
 |231=>some cd231
 |232=>some cd232
 |233=>some cd233
 |234=>some cd234
 |235=>some cd235
 |236=>some cd236
 |237=>some cd237
 |238=>some cd238
 |239=>some cd239
 |240=>some cd240
 |241=>some cd241
 |242=>some cd242
 |243=>some cd243
 |244=>some cd244
 |245=>some cd245
 |246=>some cd246
 |247=>some cd247
 |248=>some cd248
 |249=>some cd249
 |250=>some cd250
 |251=>some cd251
 |252=>some cd252
 |253=>some cd253
 |254=>some cd254
 |255=>some cd255
 |256=>some cd256
 |257=>some cd257
 |258=>some cd258
 |259=>some cd259
 |260=>some cd260
 |261=>some cd261
 |262=>some cd262
 |263=>some cd263
 |264=>some cd264
 |265=>some cd265
 |266=>some cd266
 |267=>some cd267
 |268=>some cd268
 |269=>some cd269
 |270=>some cd270
 |271=>some cd271
 |272=>some cd272
 |274=>some cd274
 |275=>some cd275
 |277=>some cd277
 |278=>some cd278
 |279=>some cd279
 |280=>some cd280
 |281=>some cd281
 |282=>some cd282
 |292=>some cd292
 |293=>some cd293
 |294=>some cd294
 |295=>some cd295
 |296=>some cd296
 |299=>some cd299
 |300=>some cd300
 |301=>some cd301
 |302=>some cd302
 |303=>some cd303
 |304=>some cd304
 |305=>some cd305
 |306=>some cd306
 |307=>some cd307
 |308=>some cd308
 |309=>some cd309
 |310=>some cd310
 |311=>some cd311
 |312=>some cd312
 |313=>some cd313
 |314=>some cd314
 |315=>some cd315
 |316=>some cd316
 |317=>some cd317
 |318=>some cd318
 |335=>some cd335
 |352=>some cd352
 |353=>some cd353
 |377=>some cd377
 |385=>some cd385
 |386=>some cd386
 |387=>some cd387
 |388=>some cd388
 |389=>some cd389
 |390=>some cd390
 |391=>some cd391
 |392=>some cd392
 |393=>some cd393
 |394=>some cd394
 |395=>some cd395
 |396=>some cd396
 |397=>some cd397
 |398=>some cd398
 |399=>some cd399
 |400=>some cd400
 |401=>some cd401
 |402=>some cd402
 |403=>some cd403
 |404=>some cd404
 |_=>none
structure HasAll (P:Program) (inv:Nat->Option Nat):Prop where
 callable:zcs P inv
 has:∀ j F,code j=some F->Has P inv j F
end Go.Eng
