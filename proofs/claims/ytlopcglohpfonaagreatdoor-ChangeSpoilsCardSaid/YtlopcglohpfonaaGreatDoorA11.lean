/- A part of the proof: functions of the program and what they compute. -/
import Derived.Test.YtlopcglohpfonaaGreatDoorA5
import Derived.Test.YtlopcglohpfonaaGreatDoorA9
import Derived.Test.YtlopcglohpfonaaGreatDoorA10
import Derived.Test.YtlopcglohpfonaaGreatDoorA8
section
set_option linter.unusedVariables false
set_option linter.unusedSimpArgs false
set_option maxRecDepth 4000
set_option maxHeartbeats 4000000
namespace Go.Gp
open Go.Vd Go.RowKit Go.Proofs
def k10 : IC := (.seq (.reg [jn 1 (.box 28 (.t 0)), jc 2 (.bool false)]) (.seq (.seq (.reg [ja 5 0 1, jg 6 3 5, jn 7 (.call 24 [(.t 6)]), jn 8 (.un .not (.t 7)), jm 9 8, jf 9 10 (.fda 0 (.t 1)), jf 9 11 (.load 3 true (.t 10)), jf 9 12 (.call 25 [(.t 11)]), jo 13 9 12, jm 14 13, jf 14 15 (.fda 4 (.t 1)), jf 14 16 (.load 3 true (.t 15)), jf 14 17 (.call 24 [(.t 16)]), jf 14 18 (.un .not (.t 17)), jo 19 14 18, jm 20 19, jf 20 21 (.fda 7 (.t 1)), jf 20 22 (.load 3 true (.t 21)), jf 20 23 (.call 24 [(.t 22)]), jf 20 24 (.un .not (.t 23)), jo 25 20 24]) (.cond (.t 25) (.seq (.reg [jc 2 (.bool false)]) .ret) .skip)) (.seq (.reg [jn 26 (.mkf 26 [(.t 1)]), jm 3 26]) (.seq (.reg [ja 27 7 1, jg 28 3 27, jn 29 (.call 25 [(.t 28)]), jm 30 29, jt 30 31 (.fda 10 (.t 1)), jt 30 32 (.load 1 false (.t 31)), jt 30 33 (.len false (.t 32)), jt 30 34 (.bin .eql (.t 33) (ji 0)), jp 35 30 34, jm 36 35, jt 36 37 (.fda 11 (.t 1)), jt 36 38 (.load 1 false (.t 37)), jt 36 39 (.un .not (.t 38)), jp 40 36 39, jm 4 40]) (.seq (.seq (.reg [ja 41 3 1, jl 42 1 41]) (.block 0 (.seq (.reg [ju .eql 44 42 1, jm 43 44]) (.cond (.t 43) (.seq (.reg [ja 45 4 1, jg 46 3 45, ja 47 0 1, jg 48 3 47, jn 49 (.eqs false [(.i .i64), (.i .i64), (.i .i64)] (.t 46) (.t 48)), jm 50 49, jt 50 51 (.mov (.t 3)), jt 50 52 (.fda 7 (.t 1)), jt 50 53 (.load 3 true (.t 52)), jt 50 54 (.calv (.t 51) [(.t 53)]), jp 55 50 54, jm 56 55, jt 56 57 (.fda 10 (.t 1)), jt 56 58 (.load 1 false (.t 57)), jt 56 59 (.call 28 [(.t 58)]), jp 60 56 59, jm 61 60, jt 61 62 (.fda 12 (.t 1)), jt 61 63 (.load 1 false (.t 62)), jt 61 64 (.call 29 [(.t 63), (ji 1)]), jp 65 61 64, jm 66 65, jt 66 67 (.fda 11 (.t 1)), jt 66 68 (.load 1 false (.t 67)), jt 66 69 (.un .not (.t 68)), jp 70 66 69, jm 2 70]) .ret) (.seq (.reg [ju .eql 72 42 2, jm 71 72]) (.cond (.t 71) (.seq (.reg [ja 73 4 1, jg 74 3 73, jn 75 (.call 25 [(.t 74)]), jn 76 (.un .not (.t 75)), jm 77 76, jt 77 78 (.mov (.t 3)), jt 77 79 (.fda 4 (.t 1)), jt 77 80 (.load 3 true (.t 79)), jt 77 81 (.calv (.t 78) [(.t 80)]), jp 82 77 81, jm 83 82, jt 83 84 (.mov (.t 4)), jp 85 83 84, jm 86 85, jt 86 87 (.fda 12 (.t 1)), jt 86 88 (.load 1 false (.t 87)), jt 86 89 (.len false (.t 88)), jt 86 90 (.bin .eql (.t 89) (ji 0)), jp 91 86 90, jm 2 91]) .ret) (.seq (.reg [ju .eql 93 42 3, jm 92 93]) (.cond (.t 92) (.seq (.reg [jm 94 3, ja 95 4 1, jg 96 3 95, jn 97 (.calv (.t 94) [(.t 96)]), jm 98 97, jt 98 99 (.mov (.t 4)), jp 100 98 99, jm 101 100, jt 101 102 (.fda 12 (.t 1)), jt 101 103 (.load 1 false (.t 102)), jt 101 104 (.len false (.t 103)), jt 101 105 (.bin .gtr (.t 104) (ji 0)), jp 106 101 105, jm 107 106, jt 107 108 (.fda 12 (.t 1)), jt 107 109 (.load 1 false (.t 108)), jt 107 110 (.call 29 [(.t 109), (ji 3)]), jp 111 107 110, jm 2 111]) .ret) (.seq (.reg [ju .eql 113 42 4, jm 112 113]) (.cond (.t 112) (.seq (.reg [ja 114 4 1, jg 115 3 114, jn 116 (.call 25 [(.t 115)]), jn 117 (.un .not (.t 116)), jm 118 117, jt 118 119 (.mov (.t 3)), jt 118 120 (.fda 4 (.t 1)), jt 118 121 (.load 3 true (.t 120)), jt 118 122 (.calv (.t 119) [(.t 121)]), jp 123 118 122, jm 124 123, jt 124 125 (.mov (.t 3)), jt 124 126 (.fda 7 (.t 1)), jt 124 127 (.load 3 true (.t 126)), jt 124 128 (.calv (.t 125) [(.t 127)]), jp 129 124 128, jm 130 129, jt 130 131 (.fda 10 (.t 1)), jt 130 132 (.load 1 false (.t 131)), jt 130 133 (.call 28 [(.t 132)]), jp 134 130 133, jm 135 134, jt 135 136 (.fda 12 (.t 1)), jt 135 137 (.load 1 false (.t 136)), jt 135 138 (.len false (.t 137)), jt 135 139 (.bin .eql (.t 138) (ji 0)), jp 140 135 139, jm 2 140]) .ret) .skip)))))))))) (.seq (.reg [jc 2 (.bool false)]) .ret))))))
theorem Kg : C9 Tryz.prog Tryz.f10 = some ⟨141, k10, [(.tmp 2)]⟩ := by kernel_rfl
theorem LU (N : Nat) (a0 : AR) (r : Bool) (h : NF N a0 = some r) : Sat Tryz.prog 10 AC [AL a0] (.bool r) AC := by
 refine EO mixed Tryz.func10 Kg (rs := [.bool r]) rfl rfl ?_
 refine AA (AB ?_)
 refine CX rfl (FE 16001 rfl rfl rfl rfl rfl) ?_
 refine wq rfl ?_
 refine AA ?_
 obtain ⟨g1, hg1, h⟩ := AQ h
 refine GV ⟨AX [(1, .ptr 16001 0 0), (25, .bool g1)], AX [(16001, ⟨13, false, [AL a0]⟩)]⟩ ?_ ?_
 have h := hg1
 refine AB ?_
 refine wq rfl ?_
 refine AY (p := .agg [j6 a0.CSN.Time, j6 a0.CSN.Seq, j6 a0.CSN.Rep]) rfl rfl ?_
 obtain ⟨x7, hx7, h⟩ := AQ h
 refine CX rfl (CZ (TV N _ _ hx7) rfl (.cons A8 .nil) rfl rfl rfl) ?_
 iterate 2 refine wq rfl ?_
 rcases D7 h with ⟨c2, h⟩ | ⟨c2, h⟩
 iterate 3 refine D8 (gn rfl c2) ?_
 refine AY rfl (BF c2 rfl rfl) ?_
 refine wq rfl ?_
 iterate 4 refine D8 rfl ?_
 iterate 2 refine wq rfl ?_
 iterate 4 refine D8 rfl ?_
 refine wq rfl ?_
 obtain rfl := AP h
 exact cq rfl
 refine AY (gy rfl c2) rfl ?_
 refine AY (p := .agg [j6 a0.CSN.Time, j6 a0.CSN.Seq, j6 a0.CSN.Rep]) (gy rfl c2) rfl ?_
 obtain ⟨LF, ZA, h⟩ := AQ h
 refine CX (gy rfl c2) (CZ (PY N _ _ ZA) rfl (.cons A8 .nil) rfl rfl rfl) ?_
 refine AY rfl (BD c2 rfl rfl) ?_
 refine wq rfl ?_
 rcases D7 h with ⟨c3, h⟩ | ⟨c3, h⟩
 iterate 4 refine D8 (gn rfl c3) ?_
 refine AY rfl (BF c3 rfl rfl) ?_
 refine wq rfl ?_
 iterate 4 refine D8 rfl ?_
 refine wq rfl ?_
 obtain rfl := AP h
 exact cq rfl
 refine AY (gy rfl c3) rfl ?_
 refine AY (p := .agg [j6 a0.ID.Time, j6 a0.ID.Seq, j6 a0.ID.Rep]) (gy rfl c3) rfl ?_
 obtain ⟨EA, U3, h⟩ := AQ h
 refine CX (gy rfl c3) (CZ (TV N _ _ U3) rfl (.cons A8 .nil) rfl rfl rfl) ?_
 refine AY (gy rfl c3) rfl ?_
 refine AY rfl (BD c3 rfl rfl) ?_
 refine wq rfl ?_
 rcases D7 h with ⟨c4, h⟩ | ⟨c4, h⟩
 iterate 4 refine D8 (gn rfl c4) ?_
 refine AY rfl (BF c4 rfl rfl) ?_
 obtain rfl := AP h
 exact cq rfl
 refine AY (gy rfl c4) rfl ?_
 refine AY (p := .agg [j6 a0.Parent.Time, j6 a0.Parent.Seq, j6 a0.Parent.Rep]) (gy rfl c4) rfl ?_
 obtain ⟨iB, nX, h⟩ := AQ h
 refine CX (gy rfl c4) (CZ (TV N _ _ nX) rfl (.cons A8 .nil) rfl rfl rfl) ?_
 refine AY (gy rfl c4) rfl ?_
 refine AY rfl (BD c4 rfl rfl) ?_
 cases AP h
 exact cq rfl
 clear hg1
 refine EN h rfl (fun c5 h => ?_) (fun c5 h => ?_)
 refine AA (AB ?_)
 refine wq rfl ?_
 obtain rfl := AP h
 refine BZ ?_
 exact ⟨nofun, rfl, rfl⟩
 refine BH (AA (AB ?_))
 iterate 2 refine wq rfl ?_
 obtain ⟨g6, hg6, h⟩ := AQ h
 refine GV ⟨AX [(1, .ptr 16001 0 0), (3, .clo 26 [.ptr 16001 0 0]), (4, .bool g6)], AX [(16001, ⟨13, false, [AL a0]⟩)]⟩ ?_ ?_
 have h := hg6
 refine AB ?_
 refine wq rfl ?_
 refine AY (p := .agg [j6 a0.Parent.Time, j6 a0.Parent.Seq, j6 a0.Parent.Rep]) rfl rfl ?_
 obtain ⟨x29, hx29, h⟩ := AQ h
 refine CX rfl (CZ (PY N _ _ hx29) rfl (.cons A8 .nil) rfl rfl rfl) ?_
 refine wq rfl ?_
 rcases D7 h with ⟨c7, h⟩ | ⟨c7, h⟩
 iterate 2 refine AY (gy rfl c7) rfl ?_
 refine AY (gy rfl c7) (CR rfl) ?_
 refine AY (gy rfl c7) rfl ?_
 refine AY rfl (BF c7 rfl rfl) ?_
 refine wq rfl ?_
 rcases D7 h with ⟨c8, h⟩ | ⟨c8, h⟩
 iterate 3 refine AY (gy rfl c8) rfl ?_
 refine AY rfl (BF c8 rfl rfl) ?_
 refine wq rfl ?_
 cases AP h
 exact cq rfl
 iterate 3 refine D8 (gn rfl c8) ?_
 refine AY rfl (BD c8 rfl rfl) ?_
 refine wq rfl ?_
 obtain rfl := AP h
 exact cq rfl
 iterate 4 refine D8 (gn rfl c7) ?_
 refine AY rfl (BD c7 rfl rfl) ?_
 refine wq rfl ?_
 iterate 3 refine D8 rfl ?_
 iterate 2 refine wq rfl ?_
 obtain rfl := AP h
 exact cq rfl
 clear hg6
 iterate 2 refine AA ?_
 refine AB ?_
 iterate 2 refine wq rfl ?_
 refine CS (AA (AB ?_))
 iterate 2 refine wq rfl ?_
 refine EN h rfl (fun c9 h => ?_) (fun c9 h => ?_)
 obtain ⟨g10, lD, h⟩ := AQ h
 refine GV ⟨AX [(2, .bool g10)], AX []⟩ ?_ ?_
 have h := lD
 refine AB ?_
 refine wq rfl ?_
 refine AY (p := .agg [j6 a0.ID.Time, j6 a0.ID.Seq, j6 a0.ID.Rep]) rfl rfl ?_
 refine wq rfl ?_
 refine AY (p := .agg [j6 a0.CSN.Time, j6 a0.CSN.Seq, j6 a0.CSN.Rep]) rfl rfl ?_
 refine AY (p := .bool (a0.ID.Time == a0.CSN.Time && (a0.ID.Seq == a0.CSN.Seq && (a0.ID.Rep == a0.CSN.Rep && true)))) rfl rfl ?_
 refine wq rfl ?_
 rcases D7 h with ⟨c11, h⟩ | ⟨c11, h⟩
 iterate 2 refine AY (gy rfl c11) rfl ?_
 refine AY (p := .agg [j6 a0.Parent.Time, j6 a0.Parent.Seq, j6 a0.Parent.Rep]) (gy rfl c11) rfl ?_
 refine wn (RO 16001 rfl rfl rfl) ?_
 obtain ⟨x54, Ku, h⟩ := AQ h
 refine CX (gy rfl c11) (WI (JS N _ _ _ Ku) rfl rfl rfl (.cons A8 (.cons A8 .nil)) rfl rfl rfl) ?_
 refine AY rfl (BF c11 rfl rfl) ?_
 refine wq rfl ?_
 rcases D7 h with ⟨c12, h⟩ | ⟨c12, h⟩
 refine AY (p := .ep [.sl 2 (List.map AV a0.RDN), .bool a0.DelOld, .sl 3 (List.map AJ a0.Mods)]) (gy rfl c12) rfl ?_
 refine AY (gy rfl c12) rfl ?_
 obtain ⟨uO, xO, h⟩ := AQ h
 refine CX (gy rfl c12) (CZ (TA N _ _ xO) rfl (.cons A8 .nil) rfl rfl rfl) ?_
 refine AY rfl (BF c12 rfl rfl) ?_
 refine wq rfl ?_
 rcases D7 h with ⟨c13, h⟩ | ⟨c13, h⟩
 refine AY (p := .ep [.sl 3 (List.map AJ a0.Mods)]) (gy rfl c13) rfl ?_
 refine AY (gy rfl c13) rfl ?_
 obtain ⟨x64, Ko, h⟩ := AQ h
 refine CX (gy rfl c13) (CZ (RD N _ _ _ Ko) rfl (.cons A8 (.cons A8 .nil)) rfl rfl rfl) ?_
 refine AY rfl (BF c13 rfl rfl) ?_
 refine wq rfl ?_
 rcases D7 h with ⟨c14, h⟩ | ⟨c14, h⟩
 refine AY (p := .ep [.bool a0.DelOld, .sl 3 (List.map AJ a0.Mods)]) (gy rfl c14) rfl ?_
 iterate 2 refine AY (gy rfl c14) rfl ?_
 refine AY rfl (BF c14 rfl rfl) ?_
 refine wq rfl ?_
 cases AP h
 exact cq rfl
 iterate 3 refine D8 (gn rfl c14) ?_
 refine AY rfl (BD c14 rfl rfl) ?_
 refine wq rfl ?_
 obtain rfl := AP h
 exact cq rfl
 iterate 3 refine D8 (gn rfl c13) ?_
 refine AY rfl (BD c13 rfl rfl) ?_
 refine wq rfl ?_
 iterate 3 refine D8 rfl ?_
 iterate 2 refine wq rfl ?_
 obtain rfl := AP h
 exact cq rfl
 iterate 3 refine D8 (gn rfl c12) ?_
 refine AY rfl (BD c12 rfl rfl) ?_
 refine wq rfl ?_
 iterate 3 refine D8 rfl ?_
 iterate 2 refine wq rfl ?_
 iterate 3 refine D8 rfl ?_
 iterate 2 refine wq rfl ?_
 obtain rfl := AP h
 exact cq rfl
 iterate 4 refine D8 (gn rfl c11) ?_
 refine AY rfl (BD c11 rfl rfl) ?_
 refine wq rfl ?_
 iterate 3 refine D8 rfl ?_
 iterate 2 refine wq rfl ?_
 iterate 3 refine D8 rfl ?_
 iterate 2 refine wq rfl ?_
 iterate 3 refine D8 rfl ?_
 iterate 2 refine wq rfl ?_
 obtain rfl := AP h
 exact cq rfl
 clear lD
 obtain rfl := AP h
 refine BZ ?_
 exact ⟨nofun, rfl, rfl⟩
 refine AA (AB ?_)
 iterate 2 refine wq rfl ?_
 refine EN h rfl (fun c15 h => ?_) (fun c15 h => ?_)
 obtain ⟨g16, yB, h⟩ := AQ h
 refine GV ⟨AX [(2, .bool g16)], AX []⟩ ?_ ?_
 have h := yB
 refine AB ?_
 refine wq rfl ?_
 refine AY (p := .agg [j6 a0.ID.Time, j6 a0.ID.Seq, j6 a0.ID.Rep]) rfl rfl ?_
 obtain ⟨x75, Kl, h⟩ := AQ h
 refine CX rfl (CZ (PY N _ _ Kl) rfl (.cons A8 .nil) rfl rfl rfl) ?_
 iterate 2 refine wq rfl ?_
 rcases D7 h with ⟨c17, h⟩ | ⟨c17, h⟩
 iterate 2 refine AY (gy rfl c17) rfl ?_
 refine AY (p := .agg [j6 a0.ID.Time, j6 a0.ID.Seq, j6 a0.ID.Rep]) (gy rfl c17) rfl ?_
 refine wn (RO 16001 rfl rfl rfl) ?_
 obtain ⟨x81, Kj, h⟩ := AQ h
 refine CX (gy rfl c17) (WI (JS N _ _ _ Kj) rfl rfl rfl (.cons A8 (.cons A8 .nil)) rfl rfl rfl) ?_
 refine AY rfl (BF c17 rfl rfl) ?_
 refine wq rfl ?_
 rcases D7 h with ⟨c18, h⟩ | ⟨c18, h⟩
 refine AY (gy rfl c18) rfl ?_
 refine AY rfl (BF c18 rfl rfl) ?_
 refine wq rfl ?_
 rcases D7 h with ⟨c19, h⟩ | ⟨c19, h⟩
 refine AY (p := .ep [.sl 3 (List.map AJ a0.Mods)]) (gy rfl c19) rfl ?_
 refine AY (gy rfl c19) rfl ?_
 refine AY (gy rfl c19) (CR rfl) ?_
 refine AY (gy rfl c19) rfl ?_
 refine AY rfl (BF c19 rfl rfl) ?_
 refine wq rfl ?_
 cases AP h
 exact cq rfl
 iterate 4 refine D8 (gn rfl c19) ?_
 refine AY rfl (BD c19 rfl rfl) ?_
 refine wq rfl ?_
 obtain rfl := AP h
 exact cq rfl
 refine D8 (gn rfl c18) ?_
 refine AY rfl (BD c18 rfl rfl) ?_
 refine wq rfl ?_
 iterate 4 refine D8 rfl ?_
 iterate 2 refine wq rfl ?_
 obtain rfl := AP h
 exact cq rfl
 iterate 4 refine D8 (gn rfl c17) ?_
 refine AY rfl (BD c17 rfl rfl) ?_
 refine wq rfl ?_
 refine D8 rfl ?_
 iterate 2 refine wq rfl ?_
 iterate 4 refine D8 rfl ?_
 iterate 2 refine wq rfl ?_
 obtain rfl := AP h
 exact cq rfl
 clear yB
 obtain rfl := AP h
 refine BZ ?_
 exact ⟨nofun, rfl, rfl⟩
 refine AA (AB ?_)
 iterate 2 refine wq rfl ?_
 refine EN h rfl (fun c20 h => ?_) (fun c20 h => ?_)
 obtain ⟨g21, hg21, h⟩ := AQ h
 refine GV ⟨AX [(2, .bool g21)], AX []⟩ ?_ ?_
 have h := hg21
 refine AB ?_
 iterate 2 refine wq rfl ?_
 refine AY (p := .agg [j6 a0.ID.Time, j6 a0.ID.Seq, j6 a0.ID.Rep]) rfl rfl ?_
 refine wn (RO 16001 rfl rfl rfl) ?_
 obtain ⟨x97, hx97, h⟩ := AQ h
 refine CX rfl (WI (JS N _ _ _ hx97) rfl rfl rfl (.cons A8 (.cons A8 .nil)) rfl rfl rfl) ?_
 refine wq rfl ?_
 rcases D7 h with ⟨c22, h⟩ | ⟨c22, h⟩
 refine AY (gy rfl c22) rfl ?_
 refine AY rfl (BF c22 rfl rfl) ?_
 refine wq rfl ?_
 rcases D7 h with ⟨c23, h⟩ | ⟨c23, h⟩
 refine AY (p := .ep [.sl 3 (List.map AJ a0.Mods)]) (gy rfl c23) rfl ?_
 refine AY (gy rfl c23) rfl ?_
 refine AY (gy rfl c23) (CR rfl) ?_
 refine AY (gy rfl c23) rfl ?_
 refine AY rfl (BF c23 rfl rfl) ?_
 refine wq rfl ?_
 rcases D7 h with ⟨c24, h⟩ | ⟨c24, h⟩
 refine AY (p := .ep [.sl 3 (List.map AJ a0.Mods)]) (gy rfl c24) rfl ?_
 refine AY (gy rfl c24) rfl ?_
 obtain ⟨x110, hx110, h⟩ := AQ h
 refine CX (gy rfl c24) (CZ (RD N _ _ _ hx110) rfl (.cons A8 (.cons A8 .nil)) rfl rfl rfl) ?_
 refine AY rfl (BF c24 rfl rfl) ?_
 refine wq rfl ?_
 obtain rfl := AP h
 exact cq rfl
 iterate 3 refine D8 (gn rfl c24) ?_
 refine AY rfl (BD c24 rfl rfl) ?_
 refine wq rfl ?_
 obtain rfl := AP h
 exact cq rfl
 iterate 4 refine D8 (gn rfl c23) ?_
 refine AY rfl (BD c23 rfl rfl) ?_
 refine wq rfl ?_
 iterate 3 refine D8 rfl ?_
 iterate 2 refine wq rfl ?_
 obtain rfl := AP h
 exact cq rfl
 refine D8 (gn rfl c22) ?_
 refine AY rfl (BD c22 rfl rfl) ?_
 refine wq rfl ?_
 iterate 4 refine D8 rfl ?_
 iterate 2 refine wq rfl ?_
 iterate 3 refine D8 rfl ?_
 iterate 2 refine wq rfl ?_
 obtain rfl := AP h
 exact cq rfl
 clear hg21
 obtain rfl := AP h
 refine BZ ?_
 exact ⟨nofun, rfl, rfl⟩
 refine AA (AB ?_)
 iterate 2 refine wq rfl ?_
 refine EN h rfl (fun c25 h => ?_) (fun c25 h => ?_)
 obtain ⟨g26, hg26, h⟩ := AQ h
 refine GV ⟨AX [(2, .bool g26)], AX []⟩ ?_ ?_
 have h := hg26
 refine AB ?_
 refine wq rfl ?_
 refine AY (p := .agg [j6 a0.ID.Time, j6 a0.ID.Seq, j6 a0.ID.Rep]) rfl rfl ?_
 obtain ⟨mO, xY, h⟩ := AQ h
 refine CX rfl (CZ (PY N _ _ xY) rfl (.cons A8 .nil) rfl rfl rfl) ?_
 iterate 2 refine wq rfl ?_
 rcases D7 h with ⟨Lu, h⟩ | ⟨Lu, h⟩
 iterate 2 refine AY (gy rfl Lu) rfl ?_
 refine AY (p := .agg [j6 a0.ID.Time, j6 a0.ID.Seq, j6 a0.ID.Rep]) (gy rfl Lu) rfl ?_
 refine wn (RO 16001 rfl rfl rfl) ?_
 obtain ⟨JX, xX, h⟩ := AQ h
 refine CX (gy rfl Lu) (WI (JS N _ _ _ xX) rfl rfl rfl (.cons A8 (.cons A8 .nil)) rfl rfl rfl) ?_
 refine AY rfl (BF Lu rfl rfl) ?_
 refine wq rfl ?_
 rcases D7 h with ⟨c28, h⟩ | ⟨c28, h⟩
 refine AY (gy rfl c28) rfl ?_
 refine AY (p := .ep [j6 a0.Parent.Time, j6 a0.Parent.Seq, j6 a0.Parent.Rep, .sl 2 (List.map AV a0.RDN), .bool a0.DelOld, .sl 3 (List.map AJ a0.Mods)]) (gy rfl c28) rfl ?_
 refine AY (p := .agg [j6 a0.Parent.Time, j6 a0.Parent.Seq, j6 a0.Parent.Rep]) (gy rfl c28) rfl ?_
 obtain ⟨x128, hx128, h⟩ := AQ h
 refine CX (gy rfl c28) (WI (JS N _ _ _ hx128) rfl rfl rfl (.cons A8 (.cons A8 .nil)) rfl rfl rfl) ?_
 refine AY rfl (BF c28 rfl rfl) ?_
 refine wq rfl ?_
 rcases D7 h with ⟨Lt, h⟩ | ⟨Lt, h⟩
 refine AY (p := .ep [.sl 2 (List.map AV a0.RDN), .bool a0.DelOld, .sl 3 (List.map AJ a0.Mods)]) (gy rfl Lt) rfl ?_
 refine AY (gy rfl Lt) rfl ?_
 obtain ⟨x133, hx133, h⟩ := AQ h
 refine CX (gy rfl Lt) (CZ (TA N _ _ hx133) rfl (.cons A8 .nil) rfl rfl rfl) ?_
 refine AY rfl (BF Lt rfl rfl) ?_
 refine wq rfl ?_
 rcases D7 h with ⟨Ey, h⟩ | ⟨Ey, h⟩
 refine AY (p := .ep [.sl 3 (List.map AJ a0.Mods)]) (gy rfl Ey) rfl ?_
 refine AY (gy rfl Ey) rfl ?_
 refine AY (gy rfl Ey) (CR rfl) ?_
 refine AY (gy rfl Ey) rfl ?_
 refine AY rfl (BF Ey rfl rfl) ?_
 refine wq rfl ?_
 cases AP h
 exact cq rfl
 iterate 4 refine D8 (gn rfl Ey) ?_
 refine AY rfl (BD Ey rfl rfl) ?_
 refine wq rfl ?_
 obtain rfl := AP h
 exact cq rfl
 iterate 3 refine D8 (gn rfl Lt) ?_
 refine AY rfl (BD Lt rfl rfl) ?_
 refine wq rfl ?_
 iterate 4 refine D8 rfl ?_
 iterate 2 refine wq rfl ?_
 obtain rfl := AP h
 exact cq rfl
 iterate 4 refine D8 (gn rfl c28) ?_
 refine AY rfl (BD c28 rfl rfl) ?_
 refine wq rfl ?_
 iterate 3 refine D8 rfl ?_
 iterate 2 refine wq rfl ?_
 iterate 4 refine D8 rfl ?_
 iterate 2 refine wq rfl ?_
 obtain rfl := AP h
 exact cq rfl
 iterate 4 refine D8 (gn rfl Lu) ?_
 refine AY rfl (BD Lu rfl rfl) ?_
 refine wq rfl ?_
 iterate 4 refine D8 rfl ?_
 iterate 2 refine wq rfl ?_
 iterate 3 refine D8 rfl ?_
 iterate 2 refine wq rfl ?_
 iterate 4 refine D8 rfl ?_
 iterate 2 refine wq rfl ?_
 obtain rfl := AP h
 exact cq rfl
 clear hg26
 obtain rfl := AP h
 refine BZ ?_
 exact ⟨nofun, rfl, rfl⟩
 refine BH (AA (AB ?_))
 refine wq rfl ?_
 obtain rfl := AP h
 refine BZ ?_
 exact ⟨nofun, rfl, rfl⟩
def k19 : IC := (.seq (.reg [jn 4 (.box 52 (.c (.agg [(.int .u8 0), (.str []), .nl])))]) (.seq (.reg [jm 5 0, jm 6 1, jn 7 (.build [(.int .u8 0), (.str []), .nl] [(0, (1, (.t 5))), (1, (1, (.t 6)))]), js 3 4 7]) .ret))
theorem Jy : C9 Tryz.prog Tryz.f19 = some ⟨8, k19, [(.cell 3 true 4)]⟩ := by kernel_rfl
theorem J3 (N : Nat) (a0 : UInt8) (a1 : List UInt8) (r : A7) (h : GQ N a0 a1 = some r) : Sat Tryz.prog 19 AC [eb a0, .str a1] (A9 r) AC := by
 refine EO mixed Tryz.func19 Jy (rs := [A9 r]) rfl rfl ?_
 refine AA (AB ?_)
 refine CX rfl (FE 30404 rfl rfl rfl rfl rfl) ?_
 refine AA (AB ?_)
 iterate 2 refine wq rfl ?_
 refine AY (p := .agg [eb a0, .str a1, .nl]) rfl rfl ?_
 refine uH (KS 7 (I6 (.cons A8 (.cons A8 (.cons (FM 3) .nil))) rfl) rfl) ?_
 refine EC (e' := .agg [eb a0, .str a1, .sl 3 (List.map A9 [])]) rfl rfl rfl rfl rfl rfl rfl rfl nofun rfl ?_
 cases AP h
 refine BZ ?_
 exact ⟨nofun, rfl, rfl⟩
def wX : IC := (.seq (.block 1 (.seq (.reg [jc 5 (j6 0)]) (.seq (.seq (.reg [jm 13 3, jn 14 (.ixp 1 (.t 13) (ji 0)), jl 15 1 14, jn 16 (.bin .and (.t 15) (.c (.int .u8 128))), jn 17 (.bin .neq (.t 16) (.c (.int .u8 0)))]) (.cond (.t 17) (.reg [jc 5 (j6 (-1))]) .skip)) (.seq (.seq (.reg [jm 18 4, jm 19 5, jb .eql 20 18 19]) (.cond (.t 20) (.seq (.reg [jm 21 3, jn 22 (.cvb (.t 21)), jm 2 22]) .ret) .skip)) (.reg [jm 23 4, jn 24 (.cvi .u8 (.t 23)), jn 25 (.bsl 1 [(.t 24)]), jm 26 3, jn 27 (.app 5 1 1 (.t 25) (.t 26)), jm 3 27]))))) (.reg [jm 11 4, jn 12 (.bin .shr (.t 11) (.c (.int .u64 8))), jm 4 12]))
def k46 : IC := (.seq (.reg [jc 2 (.str [])]) (.seq (.reg [jm 6 0, jn 7 (.cvi .u8 (.t 6)), jn 8 (.bsl 1 [(.t 7)]), jm 3 8]) (.seq (.reg [jm 9 0, jn 10 (.bin .shr (.t 9) (.c (.int .u64 8))), jm 4 10]) (.block 0 (.loop wX)))))
theorem Je : C9 Tryz.prog Tryz.f46 = some ⟨28, k46, [(.tmp 2)]⟩ := by kernel_rfl
theorem aY (N : Nat) : ∀ (n : Nat) (x : Int × List UInt8) (y : List UInt8), NK N n x = some y → WX Tryz.prog (fun _ => false) (.loop wX) ((fun (x : Int × List UInt8) => ⟨AX [(3, .slr 74403 0 x.2.length), (4, j6 x.1)], AX [(74403, ⟨1, true, List.map eb x.2⟩)]⟩) x) ((fun y e s => e = .ret ∧ s = ⟨AX [(2, .str y)], AX []⟩ : (List UInt8) → Xt → St → Prop) y) := by
 refine FB _ _ (NK N) (UW N) (fun _ => rfl) (fun _ _ => rfl) ?_
 rintro rec ⟨bD, I1⟩ y h
 refine AA (CS (AA (AB ?_)))
 refine wq rfl ?_
 refine R6 (fun (x : Int) => ⟨AX [(3, .slr 74403 0 I1.length), (4, j6 bD), (5, j6 x)], AX [(74403, ⟨1, true, List.map eb I1⟩)]⟩) (fun x => RV bD I1 rec x = some y) ?_ ?_
 rintro Eg h
 iterate 2 refine AA ?_
 refine AB ?_
 iterate 3 refine wq rfl ?_
 refine EN h rfl (fun c1 h => ?_) (fun c1 h => ?_)
 refine AA (AB ?_)
 refine wq rfl ?_
 refine AY rfl (V4 (l := I1) rfl rfl (BP (f := eb) (l := I1))) ?_
 refine wq rfl ?_
 obtain rfl := AP h
 exact F4 (st1 := ⟨AX [(2, .str I1)], AX []⟩) (cq rfl) ⟨rfl, rfl⟩
 refine BH (AB ?_)
 refine wq rfl ?_
 refine AY rfl (WW rfl) ?_
 refine CX rfl (QK 73625 rfl rfl rfl) ?_
 refine wq rfl ?_
 obtain ⟨x27, hx27, h⟩ := AQ h
 refine UQ (f := eb) 73627 hx27 rfl rfl rfl rfl rfl (JZ rfl (BP (f := eb) (l := I1))) rfl rfl rfl rfl ?_
 refine wq rfl ?_
 refine AB ?_
 refine wq rfl ?_
 refine AY rfl (vY (by decide) rfl rfl) ?_
 refine wq rfl ?_
 exact ⟨((jY bD 8), x27), (BX.trans ((cn (st := _) (l := [(3, .slr 73627 0 x27.length), (4, j6 (jY bD 8))]) (m := [(73627, ⟨1, true, List.map eb x27⟩)]) rfl rfl rfl rfl)) (BX.trans (rename 73627 74403 rfl rfl) (cq rfl))), h⟩
 refine AA (AB ?_)
 refine wq rfl ?_
 obtain ⟨M7, QL, h⟩ := AQ h
 refine AY rfl (QJ QL rfl rfl rfl rfl) ?_
 obtain ⟨W9, WY, h⟩ := AQ h
 refine AY rfl (V3 (f := eb) (v := eb W9) WY rfl rfl rfl) ?_
 refine AY rfl (VO (a := W9) (b := (128 : UInt8)) rfl rfl) ?_
 refine AY (p := .bool ((((W9 &&& (128 : UInt8))).toNat : Int) != (0 : Int))) rfl rfl ?_
 refine EN h rfl (fun c2 h => ?_) (fun c2 h => ?_)
 refine AB ?_
 refine wq rfl ?_
 exact ⟨(-1), (cq rfl), h⟩
 refine BH ?_
 exact ⟨0, (cq rfl), h⟩
theorem WF (N : Nat) (a0 : Int) (r : List UInt8) (h : SL N a0 = some r) : Sat Tryz.prog 46 AC [j6 a0] (.str r) AC := by
 refine EO mixed Tryz.func46 Je (rs := [.str r]) rfl rfl ?_
 refine AA (AB ?_)
 refine wq rfl ?_
 refine AA (AB ?_)
 refine wq rfl ?_
 refine AY rfl (WW rfl) ?_
 refine CX rfl (QK 73608 rfl rfl rfl) ?_
 refine wq rfl ?_
 refine AA (AB ?_)
 refine wq rfl ?_
 refine AY rfl (vY (by decide) rfl rfl) ?_
 refine wq rfl ?_
 refine CS ?_
 obtain ⟨y3, hy3, h⟩ := AQ h
 refine R5 (aY N N _ _ hy3) (BX.trans (rename 73608 74403 rfl rfl) (cq rfl)) ?_
 rintro e s ⟨rfl, rfl⟩
 obtain rfl := AP h
 exact ⟨nofun, rfl, rfl⟩
def k20 : IC := (.seq (.reg [jn 4 (.box 52 (.c (.agg [(.int .u8 0), (.str []), .nl])))]) (.seq (.reg [jm 5 0, jm 6 1, jn 7 (.call 46 [(.t 6)]), jn 8 (.call 19 [(.t 5), (.t 7)]), js 3 4 8]) .ret))
theorem Jw : C9 Tryz.prog Tryz.f20 = some ⟨9, k20, [(.cell 3 true 4)]⟩ := by kernel_rfl
theorem SS (N : Nat) (a0 : UInt8) (a1 : Int) (r : A7) (h : NJ N a0 a1 = some r) : Sat Tryz.prog 20 AC [eb a0, j6 a1] (A9 r) AC := by
 refine EO mixed Tryz.func20 Jw (rs := [A9 r]) rfl rfl ?_
 refine AA (AB ?_)
 refine CX rfl (FE 32004 rfl rfl rfl rfl rfl) ?_
 refine AA (AB ?_)
 iterate 2 refine wq rfl ?_
 obtain ⟨x7, hx7, h⟩ := AQ h
 refine CX rfl (CZ (WF N _ _ hx7) rfl (.cons A8 .nil) rfl rfl rfl) ?_
 obtain ⟨x8, De, h⟩ := AQ h
 refine CX rfl (CZ (J3 N _ _ _ De) rfl (.cons A8 (.cons A8 .nil)) rfl rfl rfl) ?_
 refine EC (e' := A9 x8) rfl rfl rfl rfl rfl rfl rfl rfl nofun rfl ?_
 obtain rfl := AP h
 refine BZ ?_
 exact ⟨nofun, rfl, rfl⟩
def k21 : IC := (.seq (.reg [jn 4 (.box 52 (.c (.agg [(.int .u8 0), (.str []), .nl])))]) (.seq (.reg [jm 5 0, jm 6 1, jn 7 (.build [(.int .u8 0), (.str []), .nl] [(0, (1, (.t 5))), (2, (1, (.t 6)))]), js 3 4 7]) .ret))
theorem Jv : C9 Tryz.prog Tryz.f21 = some ⟨8, k21, [(.cell 3 true 4)]⟩ := by kernel_rfl
theorem NQ (N : Nat) (a0 : UInt8) (a1 : List A7) (r : A7) (h : M9 N a0 a1 = some r) : Sat Tryz.prog 21 AC [eb a0, .sl 3 (List.map A9 a1)] (A9 r) AC := by
 refine EO mixed Tryz.func21 Jv (rs := [A9 r]) rfl rfl ?_
 refine AA (AB ?_)
 refine CX rfl (FE 33604 rfl rfl rfl rfl rfl) ?_
 refine AA (AB ?_)
 iterate 2 refine wq rfl ?_
 refine AY (p := .agg [eb a0, .str ([] : List UInt8), .sl 3 (List.map A9 a1)]) rfl rfl ?_
 refine EC (e' := .agg [eb a0, .str ([] : List UInt8), .sl 3 (List.map A9 a1)]) rfl rfl rfl rfl rfl rfl rfl rfl nofun rfl ?_
 cases AP h
 refine BZ ?_
 exact ⟨nofun, rfl, rfl⟩
def k50 : IC := (.seq (.reg [jn 1 (.box 23 (.t 0)), jc 2 (.str [])]) (.seq (.regd 14 [ja 3 0 1, jl 4 1 3, jn 5 (.call 70 [(.t 4), (ji 10)]), jn 6 (.bin .add (.t 5) (.c (.str [46]))), ja 7 1 1, jl 8 1 7, jn 9 (.call 71 [(.t 8)]), jb .add 10 6 9, jn 11 (.bin .add (.t 10) (.c (.str [46]))), ja 12 2 1, jl 13 1 12, jn 14 (.call 71 [(.t 13)]), jb .add 15 11 14, jm 2 15]) .ret))
theorem Ja : C9 Tryz.prog Tryz.f50 = some ⟨16, k50, [(.tmp 2)]⟩ := by kernel_rfl
theorem XX (N : Nat) (a0 : AO) (r : List UInt8) (h : VC N a0 = some r) : Sat Tryz.prog 50 AC [GM a0] (.str r) AC := by
 refine EO mixed Tryz.func50 Ja (rs := [.str r]) rfl rfl ?_
 refine AA (AB ?_)
 refine CX rfl (FE 80001 rfl rfl rfl rfl rfl) ?_
 refine wq rfl ?_
 refine AA (Q8 ?_)
 iterate 2 refine dq rfl ?_
 obtain ⟨x5, hx5, h⟩ := AQ h
 refine UO rfl (OG (UT N _ _ _ hx5) rfl (.cons A8 (.cons A8 .nil)) rfl rfl rfl) DD ?_
 obtain ⟨x6, hx6, h⟩ := AQ h
 refine LM rfl (fQ hx6 rfl rfl) ?_
 iterate 2 refine dq rfl ?_
 obtain ⟨x9, Dc, h⟩ := AQ h
 refine UO rfl (OG (SV N _ _ Dc) rfl (.cons A8 .nil) rfl rfl rfl) DD ?_
 obtain ⟨PI, U4, h⟩ := AQ h
 refine LM rfl (fQ U4 rfl rfl) ?_
 obtain ⟨PG, WZ, h⟩ := AQ h
 refine LM rfl (fQ WZ rfl rfl) ?_
 iterate 2 refine dq rfl ?_
 obtain ⟨M7, QL, h⟩ := AQ h
 refine UO rfl (OG (SV N _ _ QL) rfl (.cons A8 .nil) rfl rfl rfl) DD ?_
 obtain ⟨W9, WY, h⟩ := AQ h
 refine LM rfl (fQ WY rfl rfl) ?_
 refine dq rfl ?_
 obtain rfl := AP h
 refine BZ ?_
 exact ⟨nofun, rfl, rfl⟩
def k23 : IC := (.seq (.reg [jn 1 (.box 23 (.t 0)), jn 2 (.box 52 (.c (.agg [(.int .u8 0), (.str []), .nl])))]) (.seq (.reg [jg 3 3 1, jn 4 (.call 50 [(.t 3)]), jn 5 (.call 19 [(.c (.int .u8 4)), (.t 4)]), js 3 2 5]) .ret))
theorem Jt : C9 Tryz.prog Tryz.f23 = some ⟨6, k23, [(.cell 3 true 2)]⟩ := by kernel_rfl
theorem NS (N : Nat) (a0 : AO) (r : A7) (h : JW N a0 = some r) : Sat Tryz.prog 23 AC [GM a0] (A9 r) AC := by
 refine EO mixed Tryz.func23 Jt (rs := [A9 r]) rfl rfl ?_
 refine AA (AB ?_)
 refine CX rfl (FE 36801 rfl rfl rfl rfl rfl) ?_
 refine CX rfl (FE 36802 rfl rfl rfl rfl rfl) ?_
 refine AA (AB ?_)
 refine AY (p := GM a0) rfl rfl ?_
 obtain ⟨x4, hx4, h⟩ := AQ h
 refine CX rfl (CZ (XX N _ _ hx4) rfl (.cons A8 .nil) rfl rfl rfl) ?_
 obtain ⟨x5, hx5, h⟩ := AQ h
 refine CX rfl (CZ (J3 N _ _ _ hx5) rfl (.cons A8 (.cons A8 .nil)) rfl rfl rfl) ?_
 refine EC (e' := A9 x5) rfl rfl rfl rfl rfl rfl rfl rfl nofun rfl ?_
 obtain rfl := AP h
 refine BZ ?_
 exact ⟨nofun, rfl, rfl⟩
def k68 : IC := (.seq (.reg [jn 1 (.box 52 (.t 0)), jc 2 (.bool false)]) (.seq (.reg [jg 3 3 1, jn 4 (.call 47 [(.t 3)]), jn 5 (.un .not (.t 4)), jm 2 5]) .ret))
theorem Ih : C9 Tryz.prog Tryz.f68 = some ⟨6, k68, [(.tmp 2)]⟩ := by kernel_rfl
theorem Z5 (N : Nat) (IU : A7 → Option (Bool)) (SF : ∀ (a0 : A7) (r : Bool), IU a0 = some r → Sat Tryz.prog 47 AC [A9 a0] (.bool r) AC) (a0 : A7) (r : Bool) (h : U7 N IU a0 = some r) : Sat Tryz.prog 68 AC [A9 a0] (.bool r) AC := by
 refine EO mixed Tryz.func68 Ih (rs := [.bool r]) rfl rfl ?_
 refine AA (AB ?_)
 refine CX rfl (FE 108801 rfl rfl rfl rfl rfl) ?_
 refine wq rfl ?_
 refine AA (AB ?_)
 refine AY (p := A9 a0) rfl rfl ?_
 obtain ⟨x4, hx4, h⟩ := AQ h
 refine CX rfl (CZ (SF _ _ hx4) rfl (.cons A8 .nil) rfl rfl rfl) ?_
 iterate 2 refine wq rfl ?_
 cases AP h
 refine BZ ?_
 exact ⟨nofun, rfl, rfl⟩
def gD : IC := (.seq (.reg [jb .lss 9 8 7]) (.seq (.cond (.t 9) .skip (.exit 0)) (.seq (.block 1 (.seq (.reg [jm 10 8, jm 5 10]) (.seq (.reg [jm 11 1, jm 12 0, jm 13 5, jx 14 3 12 13, jg 15 3 14, jn 16 (.calv (.t 11) [(.t 15)])]) (.cond (.t 16) (.seq (.reg [jm 17 5, jm 4 17]) .ret) .skip)))) (.reg [ju .add 18 8 1, jm 8 18]))))
def Hm : IC := (.seq (.reg [jc 4 (j6 0)]) (.seq (.seq (.reg [jm 6 0, jL 7 6, jc 8 (j6 0)]) (.block 0 (.loop gD))) (.seq (.reg [jc 4 (j6 (-1))]) .ret)))
theorem sG : C9 Tryz.prog Tryz.f90 = some ⟨19, Hm, [(.tmp 4)]⟩ := by kernel_rfl
theorem FT (N : Nat) (IU : A7 → Option (Bool)) (SF : ∀ (a0 : A7) (r : Bool), IU a0 = some r → Sat Tryz.prog 47 AC [A9 a0] (.bool r) AC) (a0 : List A7) : ∀ (n : Nat) (x : Int) (y : Unit ⊕ Int), BI N IU a0 n x = some y → WX Tryz.prog (fun _ => false) (.loop gD) ((fun (x : Int) => ⟨AX [(0, .sl 3 (List.map A9 a0)), (1, .clo 68 []), (7, j6 (a0.length : Int)), (8, j6 x)], AX []⟩) x) ((Sum.elim (fun y e s => e = .exit 0 ∧ s = ⟨AX [], AX []⟩) (fun y e s => e = .ret ∧ s = ⟨AX [(4, j6 y)], AX []⟩) : (Unit ⊕ Int) → Xt → St → Prop) y) := by
 refine FB _ _ (BI N IU a0) (BV N IU a0) (fun _ => rfl) (fun _ _ => rfl) ?_
 rintro rec v8l6 y h
 refine AA (AB ?_)
 refine wq rfl ?_
 refine AA ?_
 refine EN h rfl (fun c1 h => ?_) (fun c1 h => ?_)
 refine BH (AA (CS (AA (AB ?_))))
 iterate 2 refine wq rfl ?_
 refine AA (AB ?_)
 iterate 3 refine wq rfl ?_
 obtain ⟨M7, QL, h⟩ := AQ h
 refine AY rfl (EW (cs := [eb M7.Tag, .str M7.Body, .sl 3 M7.Kids]) QL rfl rfl rfl) ?_
 refine AY (p := A9 M7) rfl rfl ?_
 obtain ⟨YM, hx16, h⟩ := AQ h
 refine CX rfl (WI (Z5 N IU SF _ _ hx16) rfl rfl rfl (.cons A8 .nil) rfl rfl rfl) ?_
 refine EN h rfl (fun c2 h => ?_) (fun c2 h => ?_)
 refine AA (AB ?_)
 iterate 2 refine wq rfl ?_
 obtain rfl := AP h
 exact F4 (st1 := ⟨AX [(4, j6 v8l6)], AX []⟩) (cq rfl) ⟨rfl, rfl⟩
 refine BH (AB ?_)
 refine AY (p := j6 (CE (v8l6 + (1 : Int)))) rfl rfl ?_
 refine wq rfl ?_
 exact ⟨(CE (v8l6 + (1 : Int))), (cq rfl), h⟩
 cases AP h
 exact ED (st1 := ⟨AX [], AX []⟩) (cq rfl) ⟨rfl, rfl⟩
theorem FZ (N : Nat) (IU : A7 → Option (Bool)) (SF : ∀ (a0 : A7) (r : Bool), IU a0 = some r → Sat Tryz.prog 47 AC [A9 a0] (.bool r) AC) (a0 : List A7) (r : Int) (h : CY N IU a0 = some r) : Sat Tryz.prog 90 AC [.sl 3 (List.map A9 a0), .clo 68 []] (j6 r) AC := by
 refine EO mixed Tryz.func90 sG (rs := [j6 r]) rfl rfl ?_
 refine AA (AB ?_)
 refine wq rfl ?_
 iterate 2 refine AA ?_
 refine AB ?_
 refine wq rfl ?_
 refine AY rfl (CR rfl) ?_
 refine wq rfl ?_
 refine CS ?_
 obtain ⟨y3, hy3, h⟩ := AQ h
 refine R5 (FT N IU SF a0 N _ _ hy3) (cq rfl) ?_
 clear hy3
 rcases y3 with y3 | y3
 rintro e s ⟨rfl, rfl⟩
 refine AA (AB ?_)
 refine wq rfl ?_
 cases AP h
 refine BZ ?_
 exact ⟨nofun, rfl, rfl⟩
 rintro e s ⟨rfl, rfl⟩
 obtain rfl := AP h
 exact ⟨nofun, rfl, rfl⟩
def Ii : IC := (.seq (.reg [jc 4 (.bool false)]) (.seq (.reg [jm 5 0, jm 6 1, jn 7 (.call 90 [(.t 5), (.t 6)]), ju .geq 8 7 0, jm 4 8]) .ret))
theorem sK : C9 Tryz.prog Tryz.f67 = some ⟨9, Ii, [(.tmp 4)]⟩ := by kernel_rfl
theorem FO (N : Nat) (IU : A7 → Option (Bool)) (SF : ∀ (a0 : A7) (r : Bool), IU a0 = some r → Sat Tryz.prog 47 AC [A9 a0] (.bool r) AC) (a0 : List A7) (r : Bool) (h : CV N IU a0 = some r) : Sat Tryz.prog 67 AC [.sl 3 (List.map A9 a0), .clo 68 []] (.bool r) AC := by
 refine EO mixed Tryz.func67 sK (rs := [.bool r]) rfl rfl ?_
 refine AA (AB ?_)
 refine wq rfl ?_
 refine AA (AB ?_)
 iterate 2 refine wq rfl ?_
 obtain ⟨x7, hx7, h⟩ := AQ h
 refine CX rfl (CZ (FZ N IU SF _ _ hx7) rfl (.cons A8 (.cons A8 .nil)) rfl rfl rfl) ?_
 iterate 2 refine wq rfl ?_
 cases AP h
 refine BZ ?_
 exact ⟨nofun, rfl, rfl⟩
def k47 : IC := (.seq (.reg [jn 1 (.box 52 (.t 0)), jc 2 (.bool false)]) (.seq (.block 0 (.seq (.reg [ja 4 0 1, jl 5 1 4, jn 6 (.bin .and (.t 5) (.c (.int .u8 31))), jn 7 (.bin .eql (.t 6) (.c (.int .u8 31))), jm 3 7]) (.cond (.t 3) (.seq (.reg [jc 2 (.bool false)]) .ret) (.seq (.reg [ja 9 0 1, jl 10 1 9, jn 11 (.bin .and (.t 10) (.c (.int .u8 32))), jn 12 (.bin .eql (.t 11) (.c (.int .u8 0))), jm 8 12]) (.cond (.t 8) (.seq (.reg [ja 13 2 1, jl 14 1 13, jL 15 14, ju .eql 16 15 0, jm 2 16]) .ret) .skip))))) (.seq (.reg [ja 17 1 1, jl 18 1 17, jn 19 (.bin .eql (.t 18) (.c (.str []))), jm 20 19, jt 20 21 (.fda 2 (.t 1)), jt 20 22 (.load 1 false (.t 21)), jt 20 23 (.call 67 [(.t 22), (.c (.clo 68 []))]), jt 20 24 (.un .not (.t 23)), jp 25 20 24, jm 2 25]) .ret)))
theorem Jd : C9 Tryz.prog Tryz.f47 = some ⟨26, k47, [(.tmp 2)]⟩ := by kernel_rfl
theorem Z0 (N : Nat) (IU : A7 → Option (Bool)) (SF : ∀ (a0 : A7) (r : Bool), IU a0 = some r → Sat Tryz.prog 47 AC [A9 a0] (.bool r) AC) (a0 : A7) (r : Bool) (h : O1 N IU a0 = some r) : Sat Tryz.prog 47 AC [A9 a0] (.bool r) AC := by
 refine EO mixed Tryz.func47 Jd (rs := [.bool r]) rfl rfl ?_
 refine AA (AB ?_)
 refine CX rfl (FE 75201 rfl rfl rfl rfl rfl) ?_
 refine wq rfl ?_
 refine AA (CS (AA (AB ?_)))
 iterate 2 refine wq rfl ?_
 refine AY rfl (VO (a := a0.Tag) (b := (31 : UInt8)) rfl rfl) ?_
 refine AY (p := .bool ((((a0.Tag &&& (31 : UInt8))).toNat : Int) == (31 : Int))) rfl rfl ?_
 refine wq rfl ?_
 refine EN h rfl (fun c1 h => ?_) (fun c1 h => ?_)
 refine AA (AB ?_)
 refine wq rfl ?_
 obtain rfl := AP h
 refine BZ ?_
 exact ⟨nofun, rfl, rfl⟩
 refine AA (AB ?_)
 iterate 2 refine wq rfl ?_
 refine AY rfl (VO (a := a0.Tag) (b := (32 : UInt8)) rfl rfl) ?_
 refine AY (p := .bool ((((a0.Tag &&& (32 : UInt8))).toNat : Int) == (0 : Int))) rfl rfl ?_
 refine wq rfl ?_
 refine EN h rfl (fun c2 h => ?_) (fun c2 h => ?_)
 refine AA (AB ?_)
 refine wq rfl ?_
 obtain ⟨M7, QL, h⟩ := AQ h
 refine AY (p := .sl 3 (List.map A9 M7)) rfl (congrArg (fun z => some (PV.sl 3 z)) (G5 (e := A9) C8 QL)) ?_
 refine AY rfl (CR rfl) ?_
 iterate 2 refine wq rfl ?_
 cases AP h
 refine BZ ?_
 exact ⟨nofun, rfl, rfl⟩
 refine BH ?_
 obtain ⟨g3, hg3, h⟩ := AQ h
 refine GV ⟨AX [(2, .bool g3)], AX []⟩ ?_ ?_
 have h := hg3
 refine AB ?_
 iterate 4 refine wq rfl ?_
 rcases D7 h with ⟨c4, h⟩ | ⟨c4, h⟩
 refine AY (gy rfl c4) rfl ?_
 obtain ⟨ZK, dB, h⟩ := AQ h
 refine AY (p := .sl 3 (List.map A9 ZK)) (gy rfl c4) (congrArg (fun z => some (PV.sl 3 z)) (G5 (e := A9) C8 dB)) ?_
 obtain ⟨iB, nX, h⟩ := AQ h
 refine CX (gy rfl c4) (CZ (FO N IU SF _ _ nX) rfl (.cons A8 (.cons A8 .nil)) rfl rfl rfl) ?_
 refine AY (gy rfl c4) rfl ?_
 refine AY rfl (BF c4 rfl rfl) ?_
 refine wq rfl ?_
 cases AP h
 exact cq rfl
 iterate 4 refine D8 (gn rfl c4) ?_
 refine AY rfl (BD c4 rfl rfl) ?_
 refine wq rfl ?_
 obtain rfl := AP h
 exact cq rfl
 clear hg3
 obtain rfl := AP h
 refine BZ ?_
 exact ⟨nofun, rfl, rfl⟩
theorem Z4 (N : Nat) : ∀ (n : Nat) (a0 : A7) (r : Bool) (h : IR N n a0 = some r), Sat Tryz.prog 47 AC [A9 a0] (.bool r) AC := by
 intro n
 induction n with
 | zero => intro a0 r h; cases h
 | succ n ih => intro a0 r h; exact Z0 N (IR N n) ih a0 r h
theorem bO (N : Nat) (a0 : A7) (r : Bool) (h : XE N a0 = some r) : Sat Tryz.prog 47 AC [A9 a0] (.bool r) AC := Z4 N N a0 r h
def wW : IC := (.seq (.reg [jb .lss 10 9 8]) (.seq (.cond (.t 10) .skip (.exit 0)) (.seq (.block 1 (.seq (.reg [jx 11 3 7 9, jg 12 3 11, jn 5 (.box 52 (.c (.agg [(.int .u8 0), (.str []), .nl]))), js 3 5 12]) (.reg [jm 13 3, jg 14 3 5, jn 15 (.call 48 [(.t 14)]), jn 16 (.mm true (.t 13) [(.t 15)]), jm 3 16]))) (.reg [ju .add 17 9 1, jm 9 17]))))
def k48 : IC := (.seq (.reg [jn 1 (.box 52 (.t 0)), jc 2 (j6 0)]) (.seq (.reg [jc 3 (j6 0)]) (.seq (.seq (.reg [ja 6 2 1, jl 7 1 6, jL 8 7, jc 9 (j6 0)]) (.block 0 (.loop wW))) (.seq (.reg [jm 18 3, ju .add 19 18 1, jm 2 19]) .ret))))
theorem Jc : C9 Tryz.prog Tryz.f48 = some ⟨20, k48, [(.tmp 2)]⟩ := by kernel_rfl
theorem eH (N : Nat) (IU : A7 → Option (Int)) (SF : ∀ (a0 : A7) (r : Int), IU a0 = some r → Sat Tryz.prog 48 AC [A9 a0] (j6 r) AC) (x7 : List A7) : ∀ (n : Nat) (x : Int × Int) (y : Int), KY N IU x7 n x = some y → WX Tryz.prog (fun _ => false) (.loop wW) ((fun (x : Int × Int) => ⟨AX [(3, j6 x.1), (7, .sl 3 (List.map A9 x7)), (8, j6 (x7.length : Int)), (9, j6 x.2)], AX []⟩) x) ((fun y e s => e = .exit 0 ∧ s = ⟨AX [(3, j6 y)], AX []⟩ : Int → Xt → St → Prop) y) := by
 refine FB _ _ (KY N IU x7) (OW N IU x7) (fun _ => rfl) (fun _ _ => rfl) ?_
 rintro rec ⟨rP, rO⟩ y h
 refine AA (AB ?_)
 refine wq rfl ?_
 refine AA ?_
 refine EN h rfl (fun c1 h => ?_) (fun c1 h => ?_)
 refine BH (AA (CS (AA (AB ?_))))
 obtain ⟨PG, WZ, h⟩ := AQ h
 refine AY rfl (EW (cs := [eb PG.Tag, .str PG.Body, .sl 3 PG.Kids]) WZ rfl rfl rfl) ?_
 refine AY (p := A9 PG) rfl rfl ?_
 refine CX rfl (FE 76805 rfl rfl rfl rfl rfl) ?_
 refine EC (e' := A9 PG) rfl rfl rfl rfl rfl rfl rfl rfl nofun rfl ?_
 refine AB ?_
 refine wq rfl ?_
 refine AY (p := A9 PG) rfl rfl ?_
 obtain ⟨W9, WY, h⟩ := AQ h
 refine CX rfl (CZ (SF _ _ WY) rfl (.cons A8 .nil) rfl rfl rfl) ?_
 refine AY (p := j6 (mx rP W9)) rfl rfl ?_
 refine wq rfl ?_
 refine AB ?_
 refine AY (p := j6 (CE (rO + (1 : Int)))) rfl rfl ?_
 refine wq rfl ?_
 exact ⟨((mx rP W9), (CE (rO + (1 : Int)))), (cq rfl), h⟩
 obtain rfl := AP h
 exact ED (st1 := ⟨AX [(3, j6 rP)], AX []⟩) (cq rfl) ⟨rfl, rfl⟩
theorem bP (N : Nat) (IU : A7 → Option (Int)) (SF : ∀ (a0 : A7) (r : Int), IU a0 = some r → Sat Tryz.prog 48 AC [A9 a0] (j6 r) AC) (a0 : A7) (r : Int) (h : U8 N IU a0 = some r) : Sat Tryz.prog 48 AC [A9 a0] (j6 r) AC := by
 refine EO mixed Tryz.func48 Jc (rs := [j6 r]) rfl rfl ?_
 refine AA (AB ?_)
 refine CX rfl (FE 76801 rfl rfl rfl rfl rfl) ?_
 refine wq rfl ?_
 refine AA (AB ?_)
 refine wq rfl ?_
 iterate 2 refine AA ?_
 refine AB ?_
 refine wq rfl ?_
 obtain ⟨x7, hx7, h⟩ := AQ h
 refine AY (p := .sl 3 (List.map A9 x7)) rfl (congrArg (fun z => some (PV.sl 3 z)) (G5 (e := A9) C8 hx7)) ?_
 refine AY rfl (CR rfl) ?_
 refine wq rfl ?_
 refine CS ?_
 obtain ⟨y2, hy2, h⟩ := AQ h
 refine R5 (eH N IU SF x7 N _ _ hy2) (cq rfl) ?_
 rintro e s ⟨rfl, rfl⟩
 refine AA (AB ?_)
 refine wq rfl ?_
 refine AY (p := j6 (CE (y2 + (1 : Int)))) rfl rfl ?_
 refine wq rfl ?_
 cases AP h
 refine BZ ?_
 exact ⟨nofun, rfl, rfl⟩
theorem bQ (N : Nat) : ∀ (n : Nat) (a0 : A7) (r : Int) (h : MN N n a0 = some r), Sat Tryz.prog 48 AC [A9 a0] (j6 r) AC := by
 intro n
 induction n with
 | zero => intro a0 r h; cases h
 | succ n ih => intro a0 r h; exact bP N (MN N n) ih a0 r h
theorem iK (N : Nat) (a0 : A7) (r : Int) (h : dV N a0 = some r) : Sat Tryz.prog 48 AC [A9 a0] (j6 r) AC := bQ N N a0 r h
def k69 : IC := (.seq (.reg [jc 2 (.str [])]) (.seq (.block 0 (.seq (.reg [jm 4 0, ju .lss 5 4 128, jm 3 5]) (.cond (.t 3) (.seq (.reg [jm 6 0, jn 7 (.cvi .u8 (.t 6)), jn 8 (.bsl 1 [(.t 7)]), jn 9 (.cvb (.t 8)), jm 2 9]) .ret) (.seq (.reg [jm 11 0, ju .lss 12 11 256, jm 10 12]) (.cond (.t 10) (.seq (.reg [jm 13 0, jn 14 (.cvi .u8 (.t 13)), jn 15 (.bsl 1 [(.c (.int .u8 129)), (.t 14)]), jn 16 (.cvb (.t 15)), jm 2 16]) .ret) .skip))))) (.seq (.reg [jm 17 0, jn 18 (.bin .shr (.t 17) (.c (.int .u64 8))), jn 19 (.cvi .u8 (.t 18)), jm 20 0, jn 21 (.cvi .u8 (.t 20)), jn 22 (.bsl 1 [(.c (.int .u8 130)), (.t 19), (.t 21)]), jn 23 (.cvb (.t 22)), jm 2 23]) .ret)))
theorem Ig : C9 Tryz.prog Tryz.f69 = some ⟨24, k69, [(.tmp 2)]⟩ := by kernel_rfl
theorem bN (N : Nat) (a0 : Int) (r : List UInt8) (h : U6 N a0 = some r) : Sat Tryz.prog 69 AC [j6 a0] (.str r) AC := by
 refine EO mixed Tryz.func69 Ig (rs := [.str r]) rfl rfl ?_
 refine AA (AB ?_)
 refine wq rfl ?_
 refine AA (CS (AA (AB ?_)))
 iterate 3 refine wq rfl ?_
 refine EN h rfl (fun c1 h => ?_) (fun c1 h => ?_)
 refine AA (AB ?_)
 refine wq rfl ?_
 refine AY rfl (WW rfl) ?_
 refine CX rfl (QK 110408 rfl rfl rfl) ?_
 refine AY rfl (V4 (l := [(byte a0)]) rfl rfl (BP (f := eb) (l := [(byte a0)]))) ?_
 refine wq rfl ?_
 cases AP h
 refine BZ ?_
 exact ⟨nofun, rfl, rfl⟩
 refine AA (AB ?_)
 iterate 3 refine wq rfl ?_
 refine EN h rfl (fun c2 h => ?_) (fun c2 h => ?_)
 refine AA (AB ?_)
 refine wq rfl ?_
 refine AY rfl (WW rfl) ?_
 refine CX rfl (QK 110415 rfl rfl rfl) ?_
 refine AY rfl (V4 (l := [(129 : UInt8), (byte a0)]) rfl rfl (BP (f := eb) (l := [(129 : UInt8), (byte a0)]))) ?_
 refine wq rfl ?_
 cases AP h
 refine BZ ?_
 exact ⟨nofun, rfl, rfl⟩
 refine BH (AA (AB ?_))
 refine wq rfl ?_
 refine AY rfl (vY (by decide) rfl rfl) ?_
 refine AY rfl (WW rfl) ?_
 refine wq rfl ?_
 refine AY rfl (WW rfl) ?_
 refine CX rfl (QK 110422 rfl rfl rfl) ?_
 refine AY rfl (V4 (l := [(130 : UInt8), (byte (jY a0 8)), (byte a0)]) rfl rfl (BP (f := eb) (l := [(130 : UInt8), (byte (jY a0 8)), (byte a0)]))) ?_
 refine wq rfl ?_
 cases AP h
 refine BZ ?_
 exact ⟨nofun, rfl, rfl⟩
def wV : IC := (.seq (.reg [jb .lss 16 15 14]) (.seq (.cond (.t 16) .skip (.exit 0)) (.seq (.block 1 (.seq (.reg [jx 17 3 13 15, jg 18 3 17, jn 6 (.box 52 (.c (.agg [(.int .u8 0), (.str []), .nl]))), js 3 6 18]) (.seq (.reg [jg 20 3 6, jn 21 (.call 49 [(.t 20)]), jm 19 21, je 22 0 19, je 23 1 19, jm 7 22, jm 8 23]) (.seq (.seq (.reg [jm 24 8, jn 25 (.un .not (.t 24)), jm 26 25, jf 26 27 (.mov (.t 4)), jf 26 28 (.len false (.t 27)), jf 26 29 (.mov (.t 7)), jf 26 30 (.len true (.t 29)), jf 26 31 (.bin .add (.t 28) (.t 30)), jf 26 32 (.bin .gtr (.t 31) (ji 4000)), jo 33 26 32]) (.cond (.t 33) (.seq (.reg [jc 2 (.str []), jc 3 (.bool false)]) .ret) .skip)) (.reg [jm 34 4, jm 35 7, jn 36 (.aps 5 (.t 34) (.t 35)), jm 4 36]))))) (.reg [ju .add 37 15 1, jm 15 37]))))
def k49 : IC := (.seq (.reg [jn 1 (.box 52 (.t 0)), jc 2 (.str []), jc 3 (.bool false)]) (.seq (.reg [ja 9 1 1, jl 10 1 9, jn 11 (.cvs (.t 10)), jm 4 11]) (.seq (.seq (.reg [ja 12 2 1, jl 13 1 12, jL 14 13, jc 15 (j6 0)]) (.block 0 (.loop wV))) (.seq (.seq (.reg [jm 38 4, jL 39 38, ju .gtr 40 39 4000]) (.cond (.t 40) (.seq (.reg [jc 2 (.str []), jc 3 (.bool false)]) .ret) .skip)) (.seq (.regd 13 [ja 41 0 1, jl 42 1 41, jn 43 (.bsl 1 [(.t 42)]), jn 44 (.cvb (.t 43)), jm 45 4, jL 46 45, jn 47 (.call 69 [(.t 46)]), jb .add 48 44 47, jm 49 4, jn 50 (.cvb (.t 49)), jb .add 51 48 50, jm 2 51, jc 3 (.bool true)]) .ret)))))
theorem Jb : C9 Tryz.prog Tryz.f49 = some ⟨52, k49, [(.tmp 2), (.tmp 3)]⟩ := by kernel_rfl
theorem bA (N : Nat) (IU : A7 → Option (List UInt8 × Bool)) (SF : ∀ (a0 : A7) (r : List UInt8 × Bool), IU a0 = some r → Sat Tryz.prog 49 AC [A9 a0] (.tup [.str r.1, .bool r.2]) AC) (a0 : A7) (K5 : List A7) : ∀ (n : Nat) (x : Int × List UInt8) (y : (List UInt8) ⊕ (List UInt8 × Bool)), JR N IU a0 K5 n x = some y → WX Tryz.prog (fun _ => false) (.loop wV) ((fun (x : Int × List UInt8) => ⟨AX [(1, .ptr 78401 0 0), (4, .slr 79204 0 x.2.length), (13, .sl 3 (List.map A9 K5)), (14, j6 (K5.length : Int)), (15, j6 x.1)], AX [(78401, ⟨3, false, [A9 a0]⟩), (79204, ⟨1, true, List.map eb x.2⟩)]⟩) x) ((Sum.elim (fun y e s => e = .exit 0 ∧ s = ⟨AX [(1, .ptr 78401 0 0), (4, .slr 79204 0 y.length)], AX [(78401, ⟨3, false, [A9 a0]⟩), (79204, ⟨1, true, List.map eb y⟩)]⟩) (fun y e s => e = .ret ∧ s = ⟨AX [(2, .str y.1), (3, .bool y.2)], AX []⟩) : ((List UInt8) ⊕ (List UInt8 × Bool)) → Xt → St → Prop) y) := by
 refine FB _ _ (JR N IU a0 K5) (O3 N IU a0 K5) (fun _ => rfl) (fun _ _ => rfl) ?_
 rintro rec ⟨QB, NT⟩ y h
 refine AA (AB ?_)
 refine wq rfl ?_
 refine AA ?_
 refine EN h rfl (fun c1 h => ?_) (fun c1 h => ?_)
 refine BH (AA (CS (AA (AB ?_))))
 obtain ⟨EA, U3, h⟩ := AQ h
 refine AY rfl (EW (cs := [eb EA.Tag, .str EA.Body, .sl 3 EA.Kids]) U3 rfl rfl rfl) ?_
 refine AY (p := A9 EA) rfl rfl ?_
 refine CX rfl (FE 78406 rfl rfl rfl rfl rfl) ?_
 refine EC (e' := A9 EA) rfl rfl rfl rfl rfl rfl rfl rfl nofun rfl ?_
 refine AA (AB ?_)
 refine AY (p := A9 EA) rfl rfl ?_
 obtain ⟨XF, dC, h⟩ := AQ h
 refine CX rfl (CZ (SF _ _ dC) rfl (.cons A8 .nil) rfl rfl rfl) ?_
 iterate 5 refine wq rfl ?_
 refine AA ?_
 obtain ⟨g2, hg2, h⟩ := AQ h
 refine GV ⟨AX [(1, .ptr 78401 0 0), (4, .slr 79204 0 NT.length), (7, .str XF.1), (13, .sl 3 (List.map A9 K5)), (14, j6 (K5.length : Int)), (15, j6 QB), (33, .bool g2)], AX [(78401, ⟨3, false, [A9 a0]⟩), (79204, ⟨1, true, List.map eb NT⟩)]⟩ ?_ ?_
 have h := hg2
 refine AB ?_
 iterate 3 refine wq rfl ?_
 rcases D7 h with ⟨c3, h⟩ | ⟨c3, h⟩
 iterate 6 refine D8 (gn rfl c3) ?_
 refine AY rfl (BF c3 rfl rfl) ?_
 obtain rfl := AP h
 exact cq rfl
 iterate 4 refine AY (gy rfl c3) rfl ?_
 refine AY (p := j6 (CE ((NT.length : Int) + (XF.1.length : Int)))) (gy rfl c3) rfl ?_
 refine AY (gy rfl c3) rfl ?_
 refine AY rfl (BD c3 rfl rfl) ?_
 cases AP h
 exact cq rfl
 clear hg2
 refine EN h rfl (fun c4 h => ?_) (fun c4 h => ?_)
 refine AA (AB ?_)
 iterate 2 refine wq rfl ?_
 cases AP h
 exact F4 (st1 := ⟨AX [(2, .str ([] : List UInt8)), (3, .bool false)], AX []⟩) (cq rfl) ⟨rfl, rfl⟩
 refine BH (AB ?_)
 iterate 2 refine wq rfl ?_
 obtain ⟨Gd, Kz, h⟩ := AQ h
 refine waps 78436 Kz rfl rfl rfl rfl rfl rfl rfl rfl ?_
 refine wq rfl ?_
 refine AB ?_
 refine AY (p := j6 (CE (QB + (1 : Int)))) rfl rfl ?_
 refine wq rfl ?_
 exact ⟨((CE (QB + (1 : Int))), Gd), (BX.trans (rename 78436 79204 rfl rfl) (cq rfl)), h⟩
 obtain rfl := AP h
 exact ED (st1 := ⟨AX [(1, .ptr 78401 0 0), (4, .slr 79204 0 NT.length)], AX [(78401, ⟨3, false, [A9 a0]⟩), (79204, ⟨1, true, List.map eb NT⟩)]⟩) (cq rfl) ⟨rfl, rfl⟩
theorem aL (N : Nat) (IU : A7 → Option (List UInt8 × Bool)) (SF : ∀ (a0 : A7) (r : List UInt8 × Bool), IU a0 = some r → Sat Tryz.prog 49 AC [A9 a0] (.tup [.str r.1, .bool r.2]) AC) (a0 : A7) (r : List UInt8 × Bool) (h : RP N IU a0 = some r) : Sat Tryz.prog 49 AC [A9 a0] (.tup [.str r.1, .bool r.2]) AC := by
 refine EO mixed Tryz.func49 Jb (rs := [.str r.1, .bool r.2]) rfl rfl ?_
 refine AA (AB ?_)
 refine CX rfl (FE 78401 rfl rfl rfl rfl rfl) ?_
 iterate 2 refine wq rfl ?_
 refine AA (AB ?_)
 iterate 2 refine wq rfl ?_
 refine CX rfl (nH 78411 rfl rfl) ?_
 refine wq rfl ?_
 iterate 2 refine AA ?_
 refine AB ?_
 refine wq rfl ?_
 obtain ⟨K5, Z9, h⟩ := AQ h
 refine AY (p := .sl 3 (List.map A9 K5)) rfl (congrArg (fun z => some (PV.sl 3 z)) (G5 (e := A9) C8 Z9)) ?_
 refine AY rfl (CR rfl) ?_
 refine wq rfl ?_
 refine CS ?_
 obtain ⟨y5, Eo, h⟩ := AQ h
 refine R5 (bA N IU SF a0 K5 N _ _ Eo) (BX.trans (rename 78411 79204 rfl rfl) (cq rfl)) ?_
 clear Eo
 rcases y5 with y5 | y5
 rintro e s ⟨rfl, rfl⟩
 iterate 2 refine AA ?_
 refine AB ?_
 iterate 3 refine wq rfl ?_
 refine EN h rfl (fun c6 h => ?_) (fun c6 h => ?_)
 refine AA (AB ?_)
 iterate 2 refine wq rfl ?_
 cases AP h
 refine BZ ?_
 exact ⟨nofun, rfl, rfl⟩
 refine BH (AA (Q8 ?_))
 iterate 2 refine dq rfl ?_
 refine UO rfl (.bsl _ 78443 rfl (ND rfl) rfl) (PL rfl) ?_
 refine LM rfl (V4 (l := [a0.Tag]) rfl rfl (BP (f := eb) (l := [a0.Tag]))) ?_
 iterate 2 refine dq rfl ?_
 obtain ⟨YK, iZ, h⟩ := AQ h
 refine UO rfl (OG (bN N _ _ iZ) rfl (.cons A8 .nil) rfl rfl rfl) DD ?_
 obtain ⟨mJ, nV, h⟩ := AQ h
 refine LM rfl (fQ nV rfl rfl) ?_
 refine dq rfl ?_
 refine LM rfl (V4 (l := y5) rfl rfl (BP (f := eb) (l := y5))) ?_
 obtain ⟨Gc, Kv, h⟩ := AQ h
 refine LM rfl (fQ Kv rfl rfl) ?_
 iterate 2 refine dq rfl ?_
 cases AP h
 refine BZ ?_
 exact ⟨nofun, rfl, rfl⟩
 rintro e s ⟨rfl, rfl⟩
 cases AP h
 exact ⟨nofun, rfl, rfl⟩
theorem aM (N : Nat) : ∀ (n : Nat) (a0 : A7) (r : List UInt8 × Bool) (h : KZ N n a0 = some r), Sat Tryz.prog 49 AC [A9 a0] (.tup [.str r.1, .bool r.2]) AC := by
 intro n
 induction n with
 | zero => intro a0 r h; cases h
 | succ n ih => intro a0 r h; exact aL N (KZ N n) ih a0 r h
theorem eP (N : Nat) (a0 : A7) (r : List UInt8 × Bool) (h : ZF N a0 = some r) : Sat Tryz.prog 49 AC [A9 a0] (.tup [.str r.1, .bool r.2]) AC := aM N N a0 r h
def k22 : IC := (.seq (.reg [jn 1 (.box 52 (.t 0)), jc 2 (.str []), jc 3 (j6 0)]) (.seq (.seq (.reg [jg 6 3 1, jn 7 (.call 47 [(.t 6)]), jn 8 (.un .not (.t 7))]) (.cond (.t 8) (.seq (.reg [jc 2 (.str []), jc 3 (j6 14)]) .ret) .skip)) (.seq (.seq (.reg [jg 9 3 1, jn 10 (.call 48 [(.t 9)]), ju .gtr 11 10 20]) (.cond (.t 11) (.seq (.reg [jc 2 (.str []), jc 3 (j6 12)]) .ret) .skip)) (.seq (.reg [jg 13 3 1, jn 14 (.call 49 [(.t 13)]), jm 12 14, je 15 0 12, je 16 1 12, jm 4 15, jm 5 16]) (.seq (.seq (.reg [jm 17 5, jn 18 (.un .not (.t 17))]) (.cond (.t 18) (.seq (.reg [jc 2 (.str []), jc 3 (j6 13)]) .ret) .skip)) (.seq (.reg [jm 19 4, jm 2 19, jc 3 (j6 0)]) .ret))))))
theorem Ju : C9 Tryz.prog Tryz.f22 = some ⟨20, k22, [(.tmp 2), (.tmp 3)]⟩ := by kernel_rfl
theorem eQ (N : Nat) (a0 : A7) (r : List UInt8 × Int) (h : VX N a0 = some r) : Sat Tryz.prog 22 AC [A9 a0] (.tup [.str r.1, j6 r.2]) AC := by
 refine EO mixed Tryz.func22 Ju (rs := [.str r.1, j6 r.2]) rfl rfl ?_
 refine AA (AB ?_)
 refine CX rfl (FE 35201 rfl rfl rfl rfl rfl) ?_
 iterate 2 refine wq rfl ?_
 iterate 2 refine AA ?_
 refine AB ?_
 refine AY (p := A9 a0) rfl rfl ?_
 obtain ⟨x7, hx7, h⟩ := AQ h
 refine CX rfl (CZ (bO N _ _ hx7) rfl (.cons A8 .nil) rfl rfl rfl) ?_
 refine wq rfl ?_
 refine EN h rfl (fun c1 h => ?_) (fun c1 h => ?_)
 refine AA (AB ?_)
 iterate 2 refine wq rfl ?_
 cases AP h
 refine BZ ?_
 exact ⟨nofun, rfl, rfl⟩
 refine BH ?_
 iterate 2 refine AA ?_
 refine AB ?_
 refine AY (p := A9 a0) rfl rfl ?_
 obtain ⟨PI, U4, h⟩ := AQ h
 refine CX rfl (CZ (iK N _ _ U4) rfl (.cons A8 .nil) rfl rfl rfl) ?_
 refine wq rfl ?_
 refine EN h rfl (fun c2 h => ?_) (fun c2 h => ?_)
 refine AA (AB ?_)
 iterate 2 refine wq rfl ?_
 cases AP h
 refine BZ ?_
 exact ⟨nofun, rfl, rfl⟩
 refine BH (AA (AB ?_))
 refine AY (p := A9 a0) rfl rfl ?_
 obtain ⟨M7, QL, h⟩ := AQ h
 refine CX rfl (CZ (eP N _ _ QL) rfl (.cons A8 .nil) rfl rfl rfl) ?_
 iterate 5 refine wq rfl ?_
 iterate 2 refine AA ?_
 refine AB ?_
 iterate 2 refine wq rfl ?_
 refine EN h rfl (fun c3 h => ?_) (fun c3 h => ?_)
 refine AA (AB ?_)
 iterate 2 refine wq rfl ?_
 cases AP h
 refine BZ ?_
 exact ⟨nofun, rfl, rfl⟩
 refine BH (AA (AB ?_))
 iterate 3 refine wq rfl ?_
 cases AP h
 refine BZ ?_
 exact ⟨nofun, rfl, rfl⟩
def wO : IC := (.seq (.reg [jb .lss 23 22 21]) (.seq (.cond (.t 23) .skip (.exit 0)) (.seq (.block 1 (.seq (.reg [jx 24 2 20 22, jg 25 2 24, jn 7 (.box 41 (.c (.agg [(.str []), (.str [])]))), js 2 7 25]) (.regd 8 [jm 26 4, ja 27 0 7, jl 28 1 27, jn 29 (.call 19 [(.c (.int .u8 4)), (.t 28)]), ja 30 1 7, jl 31 1 30, jn 32 (.call 19 [(.c (.int .u8 4)), (.t 31)]), jn 33 (.bsl 3 [(.t 29), (.t 32)]), jn 34 (.app 52 3 48 (.t 26) (.t 33)), jm 4 34]))) (.reg [ju .add 35 22 1, jm 22 35]))))
def wM : IC := (.seq (.reg [jb .lss 54 53 52]) (.seq (.cond (.t 54) .skip (.exit 4)) (.seq (.block 5 (.seq (.reg [jx 55 1 51 53, jl 56 1 55, jm 12 56]) (.reg [jm 57 10, jm 58 12, jn 59 (.call 19 [(.c (.int .u8 4)), (.t 58)]), jn 60 (.bsl 3 [(.t 59)]), jn 61 (.app 52 3 48 (.t 57) (.t 60)), jm 10 61]))) (.reg [ju .add 62 53 1, jm 53 62]))))
def wN : IC := (.seq (.reg [jb .lss 40 39 38]) (.seq (.cond (.t 40) .skip (.exit 2)) (.seq (.block 3 (.seq (.reg [jx 41 3 37 39, jg 42 3 41, jn 9 (.box 44 (.c (.agg [(j6 0), (.str []), .nl]))), js 3 9 42]) (.seq (.regd 8 [ja 43 0 9, jl 44 1 43, jn 45 (.call 20 [(.c (.int .u8 2)), (.t 44)]), ja 46 1 9, jl 47 1 46, jn 48 (.call 19 [(.c (.int .u8 4)), (.t 47)]), jn 49 (.bsl 3 [(.t 45), (.t 48)]), jm 10 49]) (.seq (.seq (.reg [ja 50 2 9, jl 51 1 50, jL 52 51, jc 53 (j6 0)]) (.block 4 (.loop wM))) (.reg [jm 63 5, jm 64 10, jn 65 (.call 21 [(.c (.int .u8 48)), (.t 64)]), jn 66 (.bsl 3 [(.t 65)]), jn 67 (.app 52 3 48 (.t 63) (.t 66)), jm 5 67]))))) (.reg [ju .add 68 39 1, jm 39 68]))))
def k9 : IC := (.seq (.reg [jn 1 (.box 28 (.t 0)), jc 2 (.str []), jc 3 (j6 0)]) (.seq (.seq (.reg [jg 16 13 1, jn 17 (.call 10 [(.t 16)]), jn 18 (.un .not (.t 17))]) (.cond (.t 18) (.seq (.reg [jc 2 (.str []), jc 3 (j6 14)]) .ret) .skip)) (.seq (.reg [jc 4 .nl, jc 5 .nl]) (.seq (.seq (.reg [ja 19 10 1, jl 20 1 19, jL 21 20, jc 22 (j6 0)]) (.block 0 (.loop wO))) (.seq (.seq (.reg [ja 36 12 1, jl 37 1 36, jL 38 37, jc 39 (j6 0)]) (.block 2 (.loop wN))) (.seq (.reg [ja 69 3 1, jl 70 1 69, jm 13 70]) (.seq (.seq (.reg [ja 71 11 1, jl 72 1 71]) (.cond (.t 72) (.reg [jm 73 13, jn 74 (.un .neg (.t 73)), jm 13 74]) .skip)) (.seq (.regd 23 [jm 76 13, jn 77 (.call 20 [(.c (.int .u8 2)), (.t 76)]), ja 78 0 1, jg 79 3 78, jn 80 (.call 23 [(.t 79)]), ja 81 4 1, jg 82 3 81, jn 83 (.call 23 [(.t 82)]), ja 84 7 1, jg 85 3 84, jn 86 (.call 23 [(.t 85)]), jm 87 4, jn 88 (.call 21 [(.c (.int .u8 48)), (.t 87)]), jm 89 5, jn 90 (.call 21 [(.c (.int .u8 48)), (.t 89)]), jn 91 (.bsl 3 [(.t 77), (.t 80), (.t 83), (.t 86), (.t 88), (.t 90)]), jn 92 (.call 21 [(.c (.int .u8 48)), (.t 91)]), jn 93 (.call 22 [(.t 92)]), jm 75 93, je 94 0 75, je 95 1 75, jm 14 94, jm 15 95]) (.seq (.seq (.reg [jm 96 15, ju .eql 97 96 0, jm 98 97, jt 98 99 (.mov (.t 14)), jt 98 100 (.len true (.t 99)), jt 98 101 (.bin .gtr (.t 100) (ji 4000)), jp 102 98 101]) (.cond (.t 102) (.seq (.reg [jc 2 (.str []), jc 3 (j6 13)]) .ret) .skip)) (.seq (.reg [jm 103 14, jm 104 15, jm 2 103, jm 3 104]) .ret))))))))))
theorem k9_cf : C9 Tryz.prog Tryz.f9 = some ⟨105, k9, [(.tmp 2), (.tmp 3)]⟩ := by kernel_rfl
theorem WP (N : Nat) (a0 : AR) : ∀ (n : Nat) (x : Int × List A7) (y : List A7), GA N a0 n x = some y → WX Tryz.prog (fun _ => false) (.loop wO) ((fun (x : Int × List A7) => ⟨AX [(1, .ptr 14401 0 0), (4, .slr 15204 0 x.2.length), (5, .nl), (20, .sl 2 (List.map AV a0.RDN)), (21, j6 (a0.RDN.length : Int)), (22, j6 x.1)], AX [(14401, ⟨13, false, [AL a0]⟩), (15204, ⟨3, true, List.map A9 x.2⟩)]⟩) x) ((fun y e s => e = .exit 0 ∧ s = ⟨AX [(1, .ptr 14401 0 0), (4, .slr 15204 0 y.length), (5, .nl)], AX [(14401, ⟨13, false, [AL a0]⟩), (15204, ⟨3, true, List.map A9 y⟩)]⟩ : (List A7) → Xt → St → Prop) y) := by
 refine FB _ _ (GA N a0) (JN N a0) (fun _ => rfl) (fun _ _ => rfl) ?_
 rintro rec ⟨YS, TC⟩ y h
 refine AA (AB ?_)
 refine wq rfl ?_
 refine AA ?_
 refine EN h rfl (fun c2 h => ?_) (fun c2 h => ?_)
 refine BH (AA (CS (AA (AB ?_))))
 obtain ⟨x24, hx24, h⟩ := AQ h
 refine AY rfl (EW (cs := [.str x24.Attr, .str x24.Value]) hx24 rfl rfl rfl) ?_
 refine AY (p := AV x24) rfl rfl ?_
 refine CX rfl (FE 14407 rfl rfl rfl rfl rfl) ?_
 refine EC (e' := AV x24) rfl rfl rfl rfl rfl rfl rfl rfl nofun rfl ?_
 refine Q8 ?_
 iterate 3 refine dq rfl ?_
 obtain ⟨x29, hx29, h⟩ := AQ h
 refine UO rfl (OG (J3 N _ _ _ hx29) rfl (.cons A8 (.cons A8 .nil)) rfl rfl rfl) DD ?_
 iterate 2 refine dq rfl ?_
 obtain ⟨x32, hx32, h⟩ := AQ h
 refine UO rfl (OG (J3 N _ _ _ hx32) rfl (.cons A8 (.cons A8 .nil)) rfl rfl rfl) DD ?_
 refine UO rfl (.bsl _ 14433 rfl (ND rfl) rfl) (PL rfl) ?_
 obtain ⟨x34, hx34, h⟩ := AQ h
 refine UQ (f := A9) 14434 hx34 rfl rfl rfl rfl rfl (JZ rfl (BP (f := A9) (l := [x29, x32]))) rfl rfl rfl rfl ?_
 refine wq rfl ?_
 refine AB ?_
 refine AY (p := j6 (CE (YS + (1 : Int)))) rfl rfl ?_
 refine wq rfl ?_
 exact ⟨((CE (YS + (1 : Int))), x34), (BX.trans (rename 14434 15204 rfl rfl) (cq rfl)), h⟩
 obtain rfl := AP h
 exact ED (st1 := ⟨AX [(1, .ptr 14401 0 0), (4, .slr 15204 0 TC.length), (5, .nl)], AX [(14401, ⟨13, false, [AL a0]⟩), (15204, ⟨3, true, List.map A9 TC⟩)]⟩) (cq rfl) ⟨rfl, rfl⟩
theorem WN (N : Nat) (a0 : AR) (y3 : List A7) (JB : Int) (ET : List A7) (x41 : BA) : ∀ (n : Nat) (x : Int × List A7) (y : List A7), G8 N a0 y3 JB ET x41 n x = some y → WX Tryz.prog (fun _ => false) (.loop wM) ((fun (x : Int × List A7) => ⟨AX [(1, .ptr 14401 0 0), (4, .slr 15204 0 y3.length), (5, .slr 15205 0 ET.length), (10, .slr 15210 0 x.2.length), (37, .sl 3 (List.map AJ a0.Mods)), (38, j6 (a0.Mods.length : Int)), (39, j6 JB), (51, .sl 1 (List.map PV.str x41.Values)), (52, j6 (x41.Values.length : Int)), (53, j6 x.1)], AX [(14401, ⟨13, false, [AL a0]⟩), (15204, ⟨3, true, List.map A9 y3⟩), (15205, ⟨3, true, List.map A9 ET⟩), (15210, ⟨3, true, List.map A9 x.2⟩)]⟩) x) ((fun y e s => e = .exit 4 ∧ s = ⟨AX [(1, .ptr 14401 0 0), (4, .slr 15204 0 y3.length), (5, .slr 15205 0 ET.length), (10, .slr 15210 0 y.length), (37, .sl 3 (List.map AJ a0.Mods)), (38, j6 (a0.Mods.length : Int)), (39, j6 JB)], AX [(14401, ⟨13, false, [AL a0]⟩), (15204, ⟨3, true, List.map A9 y3⟩), (15205, ⟨3, true, List.map A9 ET⟩), (15210, ⟨3, true, List.map A9 y⟩)]⟩ : (List A7) → Xt → St → Prop) y) := by
 refine FB _ _ (G8 N a0 y3 JB ET x41) (JL N a0 y3 JB ET x41) (fun _ => rfl) (fun _ _ => rfl) ?_
 rintro rec ⟨YP, TB⟩ y h
 refine AA (AB ?_)
 refine wq rfl ?_
 refine AA ?_
 refine EN h rfl (fun c5 h => ?_) (fun c5 h => ?_)
 refine BH (AA (CS (AA (AB ?_))))
 obtain ⟨x55, Kt, h⟩ := AQ h
 refine AY rfl (EW (cs := [.str x55]) Kt rfl rfl rfl) ?_
 iterate 2 refine wq rfl ?_
 refine AB ?_
 iterate 2 refine wq rfl ?_
 obtain ⟨uO, xO, h⟩ := AQ h
 refine CX rfl (CZ (J3 N _ _ _ xO) rfl (.cons A8 (.cons A8 .nil)) rfl rfl rfl) ?_
 refine CX rfl (QK 14460 rfl rfl rfl) ?_
 obtain ⟨Ga, Kr, h⟩ := AQ h
 refine UQ (f := A9) 14461 Kr rfl rfl rfl rfl rfl (JZ rfl (BP (f := A9) (l := [uO]))) rfl rfl rfl rfl ?_
 refine wq rfl ?_
 refine AB ?_
 refine AY (p := j6 (CE (YP + (1 : Int)))) rfl rfl ?_
 refine wq rfl ?_
 exact ⟨((CE (YP + (1 : Int))), Ga), (BX.trans (rename 14461 15210 rfl rfl) (cq rfl)), h⟩
 obtain rfl := AP h
 exact ED (st1 := ⟨AX [(1, .ptr 14401 0 0), (4, .slr 15204 0 y3.length), (5, .slr 15205 0 ET.length), (10, .slr 15210 0 TB.length), (37, .sl 3 (List.map AJ a0.Mods)), (38, j6 (a0.Mods.length : Int)), (39, j6 JB)], AX [(14401, ⟨13, false, [AL a0]⟩), (15204, ⟨3, true, List.map A9 y3⟩), (15205, ⟨3, true, List.map A9 ET⟩), (15210, ⟨3, true, List.map A9 TB⟩)]⟩) (cq rfl) ⟨rfl, rfl⟩
theorem WO (N : Nat) (a0 : AR) (y3 : List A7) : ∀ (n : Nat) (x : Int × List A7) (y : List A7), G9 N a0 y3 n x = some y → WX Tryz.prog (fun _ => false) (.loop wN) ((fun (x : Int × List A7) => ⟨AX [(1, .ptr 14401 0 0), (4, .slr 15204 0 y3.length), (5, .slr 15205 0 x.2.length), (37, .sl 3 (List.map AJ a0.Mods)), (38, j6 (a0.Mods.length : Int)), (39, j6 x.1)], AX [(14401, ⟨13, false, [AL a0]⟩), (15204, ⟨3, true, List.map A9 y3⟩), (15205, ⟨3, true, List.map A9 x.2⟩)]⟩) x) ((fun y e s => e = .exit 2 ∧ s = ⟨AX [(1, .ptr 14401 0 0), (4, .slr 15204 0 y3.length), (5, .slr 15205 0 y.length)], AX [(14401, ⟨13, false, [AL a0]⟩), (15204, ⟨3, true, List.map A9 y3⟩), (15205, ⟨3, true, List.map A9 y⟩)]⟩ : (List A7) → Xt → St → Prop) y) := by
 refine FB _ _ (G9 N a0 y3) (JM N a0 y3) (fun _ => rfl) (fun _ _ => rfl) ?_
 rintro rec ⟨JB, ET⟩ y h
 refine AA (AB ?_)
 refine wq rfl ?_
 refine AA ?_
 refine EN h rfl (fun c4 h => ?_) (fun c4 h => ?_)
 refine BH (AA (CS (AA (AB ?_))))
 obtain ⟨x41, nW, h⟩ := AQ h
 refine AY rfl (EW (cs := [j6 x41.Kind, .str x41.Attr, .sl 1 (List.map PV.str x41.Values)]) nW rfl rfl rfl) ?_
 refine AY (p := AJ x41) rfl rfl ?_
 refine CX rfl (FE 14409 rfl rfl rfl rfl rfl) ?_
 refine EC (e' := AJ x41) rfl rfl rfl rfl rfl rfl rfl rfl nofun rfl ?_
 refine AA (Q8 ?_)
 iterate 2 refine dq rfl ?_
 obtain ⟨jP, xR, h⟩ := AQ h
 refine UO rfl (OG (SS N _ _ _ xR) rfl (.cons A8 (.cons A8 .nil)) rfl rfl rfl) DD ?_
 iterate 2 refine dq rfl ?_
 obtain ⟨mJ, nV, h⟩ := AQ h
 refine UO rfl (OG (J3 N _ _ _ nV) rfl (.cons A8 (.cons A8 .nil)) rfl rfl rfl) DD ?_
 refine UO rfl (.bsl _ 14449 rfl (ND rfl) rfl) (PL rfl) ?_
 refine dq rfl ?_
 iterate 2 refine AA ?_
 refine AB ?_
 iterate 2 refine wq rfl ?_
 refine AY rfl (CR rfl) ?_
 refine wq rfl ?_
 refine CS ?_
 obtain ⟨y6, rA, h⟩ := AQ h
 refine R5 (WN N a0 y3 JB ET x41 N _ _ rA) (BX.trans (rename 14449 15210 rfl rfl) (cq rfl)) ?_
 rintro e s ⟨rfl, rfl⟩
 refine AB ?_
 iterate 2 refine wq rfl ?_
 refine wn (BX.trans (Vd.freeze 15210 _ rfl rfl rfl) (BX.trans (KS 10 (GG (congrArg (PV.sl 3) (BP (f := A9) (l := y6)))) rfl) (KS 64 (GG (congrArg (PV.sl 3) (BP (f := A9) (l := y6)))) rfl))) ?_
 obtain ⟨pE, sZ, h⟩ := AQ h
 refine CX rfl (CZ (NQ N _ _ _ sZ) rfl (.cons A8 (.cons A8 .nil)) rfl rfl rfl) ?_
 refine CX rfl (QK 14466 rfl rfl rfl) ?_
 obtain ⟨x67, Kn, h⟩ := AQ h
 refine UQ (f := A9) 14467 Kn rfl rfl rfl rfl rfl (JZ rfl (BP (f := A9) (l := [pE]))) rfl rfl rfl rfl ?_
 refine wq rfl ?_
 refine AB ?_
 refine AY (p := j6 (CE (JB + (1 : Int)))) rfl rfl ?_
 refine wq rfl ?_
 exact ⟨((CE (JB + (1 : Int))), x67), (BX.trans (rename 14467 15205 rfl rfl) (cq rfl)), h⟩
 obtain rfl := AP h
 exact ED (st1 := ⟨AX [(1, .ptr 14401 0 0), (4, .slr 15204 0 y3.length), (5, .slr 15205 0 ET.length)], AX [(14401, ⟨13, false, [AL a0]⟩), (15204, ⟨3, true, List.map A9 y3⟩), (15205, ⟨3, true, List.map A9 ET⟩)]⟩) (cq rfl) ⟨rfl, rfl⟩
theorem L9 (N : Nat) (a0 : AR) (r : List UInt8 × Int) (h : JO N a0 = some r) : Sat Tryz.prog 9 AC [AL a0] (.tup [.str r.1, j6 r.2]) AC := by
 refine EO mixed Tryz.func9 k9_cf (rs := [.str r.1, j6 r.2]) rfl rfl ?_
 refine AA (AB ?_)
 refine CX rfl (FE 14401 rfl rfl rfl rfl rfl) ?_
 iterate 2 refine wq rfl ?_
 iterate 2 refine AA ?_
 refine AB ?_
 refine AY (p := AL a0) rfl rfl ?_
 obtain ⟨EA, U3, h⟩ := AQ h
 refine CX rfl (CZ (LU N _ _ U3) rfl (.cons A8 .nil) rfl rfl rfl) ?_
 refine wq rfl ?_
 refine EN h rfl (fun c1 h => ?_) (fun c1 h => ?_)
 refine AA (AB ?_)
 iterate 2 refine wq rfl ?_
 cases AP h
 refine BZ ?_
 exact ⟨nofun, rfl, rfl⟩
 refine BH (AA (AB ?_))
 iterate 2 refine wq rfl ?_
 iterate 2 refine AA ?_
 refine AB ?_
 iterate 2 refine wq rfl ?_
 refine AY rfl (CR rfl) ?_
 refine wq rfl ?_
 refine CS ?_
 obtain ⟨y3, hy3, h⟩ := AQ h
 refine R5 (WP N a0 N _ _ hy3) (BX.trans (fT 4 15204 3 true rfl rfl rfl) (cq rfl)) ?_
 rintro e s ⟨rfl, rfl⟩
 iterate 2 refine AA ?_
 refine AB ?_
 iterate 2 refine wq rfl ?_
 refine AY rfl (CR rfl) ?_
 refine wq rfl ?_
 refine CS ?_
 obtain ⟨y7, hy7, h⟩ := AQ h
 refine R5 (WO N a0 y3 N _ _ hy7) (BX.trans (fT 5 15205 3 true rfl rfl rfl) (cq rfl)) ?_
 rintro e s ⟨rfl, rfl⟩
 refine AA (AB ?_)
 iterate 3 refine wq rfl ?_
 refine R6 (fun (x : Int) => ⟨AX [(1, .ptr 14401 0 0), (4, .slr 15204 0 y3.length), (5, .slr 15205 0 y7.length), (13, j6 x)], AX [(14401, ⟨13, false, [AL a0]⟩), (15204, ⟨3, true, List.map A9 y3⟩), (15205, ⟨3, true, List.map A9 y7⟩)]⟩) (fun x => J6 a0 N y3 y7 x = some r) ?_ ?_
 rintro uW h
 refine AA ?_
 refine SI (BX.trans (Vd.freeze 15204 _ rfl rfl rfl) (KS 4 (GG (congrArg (PV.sl 3) (BP (f := A9) (l := y3)))) rfl)) ?_
 refine SI (BX.trans (Vd.freeze 15205 _ rfl rfl rfl) (KS 5 (GG (congrArg (PV.sl 3) (BP (f := A9) (l := y7)))) rfl)) ?_
 refine Q8 ?_
 refine dq rfl ?_
 obtain ⟨x77, hx77, h⟩ := AQ h
 refine UO rfl (OG (SS N _ _ _ hx77) rfl (.cons A8 (.cons A8 .nil)) rfl rfl rfl) DD ?_
 refine dq rfl ?_
 refine LM (p := .agg [j6 a0.CSN.Time, j6 a0.CSN.Seq, j6 a0.CSN.Rep]) rfl rfl ?_
 obtain ⟨x80, Kk, h⟩ := AQ h
 refine UO rfl (OG (NS N _ _ Kk) rfl (.cons A8 .nil) rfl rfl rfl) DD ?_
 refine dq rfl ?_
 refine LM (p := .agg [j6 a0.ID.Time, j6 a0.ID.Seq, j6 a0.ID.Rep]) rfl rfl ?_
 obtain ⟨x83, hx83, h⟩ := AQ h
 refine UO rfl (OG (NS N _ _ hx83) rfl (.cons A8 .nil) rfl rfl rfl) DD ?_
 refine dq rfl ?_
 refine LM (p := .agg [j6 a0.Parent.Time, j6 a0.Parent.Seq, j6 a0.Parent.Rep]) rfl rfl ?_
 obtain ⟨x86, hx86, h⟩ := AQ h
 refine UO rfl (OG (NS N _ _ hx86) rfl (.cons A8 .nil) rfl rfl rfl) DD ?_
 refine dq rfl ?_
 obtain ⟨x88, hx88, h⟩ := AQ h
 refine UO rfl (OG (NQ N _ _ _ hx88) rfl (.cons A8 (.cons A8 .nil)) rfl rfl rfl) DD ?_
 refine dq rfl ?_
 obtain ⟨x90, hx90, h⟩ := AQ h
 refine UO rfl (OG (NQ N _ _ _ hx90) rfl (.cons A8 (.cons A8 .nil)) rfl rfl rfl) DD ?_
 refine UO rfl (.bslf _ 14491 rfl (ND rfl) rfl rfl) (PL rfl) ?_
 obtain ⟨x92, hx92, h⟩ := AQ h
 refine UO rfl (OG (NQ N _ _ _ hx92) rfl (.cons A8 (.cons A8 .nil)) rfl rfl rfl) DD ?_
 obtain ⟨x93, hx93, h⟩ := AQ h
 refine UO rfl (OG (eQ N _ _ hx93) rfl (.cons A8 .nil) rfl rfl rfl) DD ?_
 iterate 5 refine dq rfl ?_
 refine AA ?_
 obtain ⟨g8, hg8, h⟩ := AQ h
 refine GV ⟨AX [(14, .str x93.1), (15, j6 x93.2), (102, .bool g8)], AX []⟩ ?_ ?_
 have h := hg8
 refine AB ?_
 iterate 3 refine wq rfl ?_
 rcases D7 h with ⟨c9, h⟩ | ⟨c9, h⟩
 iterate 3 refine AY (gy rfl c9) rfl ?_
 refine AY rfl (BF c9 rfl rfl) ?_
 cases AP h
 exact cq rfl
 iterate 3 refine D8 (gn rfl c9) ?_
 refine AY rfl (BD c9 rfl rfl) ?_
 obtain rfl := AP h
 exact cq rfl
 clear hg8
 refine EN h rfl (fun c10 h => ?_) (fun c10 h => ?_)
 refine AA (AB ?_)
 iterate 2 refine wq rfl ?_
 cases AP h
 refine BZ ?_
 exact ⟨nofun, rfl, rfl⟩
 refine BH (AA (AB ?_))
 iterate 4 refine wq rfl ?_
 cases AP h
 refine BZ ?_
 exact ⟨nofun, rfl, rfl⟩
 refine AA (AB ?_)
 iterate 2 refine wq rfl ?_
 refine EN h rfl (fun c11 h => ?_) (fun c11 h => ?_)
 refine AB ?_
 refine wq rfl ?_
 refine AY (p := j6 (CE (0 - a0.Kind))) rfl rfl ?_
 refine wq rfl ?_
 exact ⟨(CE (0 - a0.Kind)), (cq rfl), h⟩
 refine BH ?_
 exact ⟨a0.Kind, (cq rfl), h⟩
def qF : IC := (.seq (.reg [jb .lss 45 44 43]) (.seq (.cond (.t 45) .skip (.exit 4)) (.seq (.block 5 (.seq (.reg [jx 46 1 42 44, jl 47 1 46, jm 8 47]) (.reg [jm 48 5, jn 49 (.bin .shl (.t 48) (.c (.int .u64 8))), jm 50 8, jn 51 (.cvi .i64 (.t 50)), jb .or 52 49 51, jm 5 52]))) (.reg [ju .add 53 44 1, jm 44 53]))))
def k86 : IC := (.seq (.reg [jc 2 (j6 0), jc 3 (j6 0), jc 4 (j6 0)]) (.seq (.seq (.reg [jm 9 0, jn 10 (.bin .eql (.t 9) (.c (.str [])))]) (.cond (.t 10) (.seq (.reg [jc 2 (j6 0), jc 3 (j6 0), jc 4 (j6 10)]) .ret) .skip)) (.seq (.seq (.reg [jm 11 0, jn 12 (.idxs (.t 11) (ji 0)), jn 13 (.bin .and (.t 12) (.c (.int .u8 31))), jn 14 (.bin .eql (.t 13) (.c (.int .u8 31)))]) (.cond (.t 14) (.seq (.reg [jc 2 (j6 0), jc 3 (j6 0), jc 4 (j6 14)]) .ret) .skip)) (.seq (.seq (.reg [jm 15 0, jS 16 15, ju .eql 17 16 1]) (.cond (.t 17) (.seq (.reg [jc 2 (j6 0), jc 3 (j6 0), jc 4 (j6 10)]) .ret) .skip)) (.seq (.reg [jm 18 0, jn 19 (.idxs (.t 18) (ji 1)), jn 20 (.cvi .i64 (.t 19)), jm 5 20]) (.seq (.reg [jc 6 (j6 0)]) (.seq (.block 0 (.seq (.block 3 (.seq (.block 2 (.seq (.block 1 (.seq (.seq (.seq (.reg [jm 22 5, ju .eql 23 22 128, jm 24 23, jf 24 25 (.mov (.t 5)), jf 24 26 (.bin .gtr (.t 25) (ji 132)), jo 27 24 26, jm 21 27]) (.cond (.t 21) (.exit 1) .skip)) (.seq (.reg [jm 29 5, ju .gtr 30 29 128, jm 28 30]) (.cond (.t 28) (.exit 2) .skip))) (.exit 3))) (.seq (.seq (.reg [jc 2 (j6 0), jc 3 (j6 0), jc 4 (j6 11)]) .ret) (.exit 0)))) (.seq (.reg [jm 31 5, ju .sub 32 31 128, jm 6 32]) (.seq (.seq (.reg [jm 33 0, jS 34 33, jm 35 6, jn 36 (.bin .add (ji 2) (.t 35)), jb .lss 37 34 36]) (.cond (.t 37) (.seq (.reg [jc 2 (j6 0), jc 3 (j6 0), jc 4 (j6 10)]) .ret) .skip)) (.seq (.reg [jc 5 (j6 0)]) (.seq (.reg [jm 38 0, jm 39 6, jn 40 (.bin .add (ji 2) (.t 39)), jn 41 (.slcs (.t 38) (some (ji 2)) (some (.t 40))), jn 42 (.cvs (.t 41)), jL 43 42, jc 44 (j6 0)]) (.block 4 (.loop qF)))))))) (.seq (.seq (.reg [jm 54 5, ju .gtr 55 54 4000]) (.cond (.t 55) (.seq (.reg [jc 2 (j6 0), jc 3 (j6 0), jc 4 (j6 13)]) .ret) .skip)) (.exit 0)))) (.seq (.reg [jm 56 6, jn 57 (.bin .add (ji 2) (.t 56)), jm 58 5, jm 2 57, jm 3 58, jc 4 (j6 0)]) .ret))))))))
theorem Hq : C9 Tryz.prog Tryz.f86 = some ⟨59, k86, [(.tmp 2), (.tmp 3), (.tmp 4)]⟩ := by kernel_rfl
theorem bB (N : Nat) (BQ : UInt8) (x41 : List UInt8) : ∀ (n : Nat) (x : Int × Int) (y : Int), Q5 N BQ x41 n x = some y → WX Tryz.prog (fun _ => false) (.loop qF) ((fun (x : Int × Int) => ⟨AX [(5, j6 x.1), (6, j6 (CE (((BQ).toNat : Int) - (128 : Int)))), (42, .slr 137642 0 x41.length), (43, j6 (x41.length : Int)), (44, j6 x.2)], AX [(137642, ⟨1, true, List.map eb x41⟩)]⟩) x) ((fun y e s => e = .exit 4 ∧ s = ⟨AX [(5, j6 y), (6, j6 (CE (((BQ).toNat : Int) - (128 : Int))))], AX []⟩ : Int → Xt → St → Prop) y) := by
 refine FB _ _ (Q5 N BQ x41) (VG N BQ x41) (fun _ => rfl) (fun _ _ => rfl) ?_
 rintro rec ⟨fG, YQ⟩ y h
 refine AA (AB ?_)
 refine wq rfl ?_
 refine AA ?_
 refine EN h rfl (fun c10 h => ?_) (fun c10 h => ?_)
 refine BH (AA (CS (AA (AB ?_))))
 obtain ⟨x46, Kw, h⟩ := AQ h
 refine AY rfl (QJ Kw rfl rfl rfl rfl) ?_
 obtain ⟨YK, iZ, h⟩ := AQ h
 refine AY rfl (V3 (f := eb) (v := eb YK) iZ rfl rfl rfl) ?_
 refine wq rfl ?_
 refine AB ?_
 refine wq rfl ?_
 refine AY rfl (El (by decide) rfl rfl) ?_
 refine wq rfl ?_
 refine AY rfl (nG (a := YK) rfl) ?_
 refine AY (p := j6 (iop .or .i64 (mY fG 8) ((YK).toNat : Int))) rfl rfl ?_
 refine wq rfl ?_
 refine AB ?_
 refine AY (p := j6 (CE (YQ + (1 : Int)))) rfl rfl ?_
 refine wq rfl ?_
 exact ⟨((iop .or .i64 (mY fG 8) ((YK).toNat : Int)), (CE (YQ + (1 : Int)))), (cq rfl), h⟩
 obtain rfl := AP h
 exact ED (st1 := ⟨AX [(5, j6 fG), (6, j6 (CE (((BQ).toNat : Int) - (128 : Int))))], AX []⟩) (cq rfl) ⟨rfl, rfl⟩
theorem iM (N : Nat) (a0 : List UInt8) (r : Int × Int × Int) (h : mE N a0 = some r) : Sat Tryz.prog 86 AC [.str a0] (.tup [j6 r.1, j6 r.2.1, j6 r.2.2]) AC := by
 refine EO mixed Tryz.func86 Hq (rs := [j6 r.1, j6 r.2.1, j6 r.2.2]) rfl rfl ?_
 refine AA (AB ?_)
 iterate 3 refine wq rfl ?_
 iterate 2 refine AA ?_
 refine AB ?_
 iterate 2 refine wq rfl ?_
 refine EN h rfl (fun c1 h => ?_) (fun c1 h => ?_)
 refine AA (AB ?_)
 iterate 3 refine wq rfl ?_
 cases AP h
 refine BZ ?_
 exact ⟨nofun, rfl, rfl⟩
 refine BH ?_
 iterate 2 refine AA ?_
 refine AB ?_
 refine wq rfl ?_
 obtain ⟨LF, ZA, h⟩ := AQ h
 refine AY rfl (P6 ZA rfl rfl) ?_
 refine AY rfl (VO (a := LF) (b := (31 : UInt8)) rfl rfl) ?_
 refine AY (p := .bool ((((LF &&& (31 : UInt8))).toNat : Int) == (31 : Int))) rfl rfl ?_
 refine EN h rfl (fun c2 h => ?_) (fun c2 h => ?_)
 refine AA (AB ?_)
 iterate 3 refine wq rfl ?_
 cases AP h
 refine BZ ?_
 exact ⟨nofun, rfl, rfl⟩
 refine BH ?_
 iterate 2 refine AA ?_
 refine AB ?_
 iterate 3 refine wq rfl ?_
 refine EN h rfl (fun c3 h => ?_) (fun c3 h => ?_)
 refine AA (AB ?_)
 iterate 3 refine wq rfl ?_
 cases AP h
 refine BZ ?_
 exact ⟨nofun, rfl, rfl⟩
 refine BH (AA (AB ?_))
 refine wq rfl ?_
 obtain ⟨BQ, Z8, h⟩ := AQ h
 refine AY rfl (P6 Z8 rfl rfl) ?_
 refine AY rfl (nG (a := BQ) rfl) ?_
 refine wq rfl ?_
 refine AA (AB ?_)
 refine wq rfl ?_
 refine AA (CS ?_)
 refine R6 (fun (x : Int × Int) => ⟨AX [(5, j6 x.1), (6, j6 x.2)], AX []⟩) (fun x => U9 x.1 x.2 = some r) ?_ ?_
 rintro ⟨uT, uQ⟩ h
 iterate 2 refine AA ?_
 refine AB ?_
 iterate 2 refine wq rfl ?_
 refine EN h rfl (fun c4 h => ?_) (fun c4 h => ?_)
 refine AA (AB ?_)
 iterate 3 refine wq rfl ?_
 cases AP h
 refine BZ ?_
 exact ⟨nofun, rfl, rfl⟩
 refine BH ?_
 refine O7 ?_
 refine AA (AB ?_)
 refine wq rfl ?_
 refine AY (p := j6 (CE ((2 : Int) + uQ))) rfl rfl ?_
 iterate 4 refine wq rfl ?_
 cases AP h
 refine BZ ?_
 exact ⟨nofun, rfl, rfl⟩
 refine CS (AA (CS (AA (CS ?_))))
 iterate 2 refine AA ?_
 obtain ⟨g5, hg5, h⟩ := AQ h
 refine GV ⟨AX [(0, .str a0), (5, j6 ((BQ).toNat : Int)), (6, j6 0), (21, .bool g5)], AX []⟩ ?_ ?_
 have h := hg5
 refine AB ?_
 iterate 3 refine wq rfl ?_
 rcases D7 h with ⟨c6, h⟩ | ⟨c6, h⟩
 iterate 2 refine D8 (gn rfl c6) ?_
 refine AY rfl (BF c6 rfl rfl) ?_
 refine wq rfl ?_
 obtain rfl := AP h
 exact cq rfl
 iterate 2 refine AY (gy rfl c6) rfl ?_
 refine AY rfl (BD c6 rfl rfl) ?_
 refine wq rfl ?_
 cases AP h
 exact cq rfl
 clear hg5
 refine EN h rfl (fun c7 h => ?_) (fun c7 h => ?_)
 refine O7 ?_
 iterate 2 refine AA ?_
 refine AB ?_
 iterate 3 refine wq rfl ?_
 cases AP h
 refine BZ ?_
 exact ⟨nofun, rfl, rfl⟩
 refine BH (AA (AB ?_))
 iterate 3 refine wq rfl ?_
 refine EN h rfl (fun c8 h => ?_) (fun c8 h => ?_)
 refine O7 ?_
 refine AA (AB ?_)
 refine wq rfl ?_
 refine AY (p := j6 (CE (((BQ).toNat : Int) - (128 : Int)))) rfl rfl ?_
 refine wq rfl ?_
 iterate 2 refine AA ?_
 refine AB ?_
 iterate 3 refine wq rfl ?_
 refine AY (p := j6 (CE ((2 : Int) + (CE (((BQ).toNat : Int) - (128 : Int)))))) rfl rfl ?_
 refine wq rfl ?_
 refine EN h rfl (fun c9 h => ?_) (fun c9 h => ?_)
 refine AA (AB ?_)
 iterate 3 refine wq rfl ?_
 cases AP h
 refine BZ ?_
 exact ⟨nofun, rfl, rfl⟩
 refine BH (AA (AB ?_))
 refine wq rfl ?_
 refine AA (AB ?_)
 iterate 2 refine wq rfl ?_
 refine AY (p := j6 (CE ((2 : Int) + (CE (((BQ).toNat : Int) - (128 : Int)))))) rfl rfl ?_
 obtain ⟨x41, nW, h⟩ := AQ h
 refine AY rfl (kK nW rfl rfl rfl) ?_
 refine CX rfl (nH 137642 rfl rfl) ?_
 iterate 2 refine wq rfl ?_
 refine CS ?_
 obtain ⟨y11, hy11, h⟩ := AQ h
 refine R5 (bB N BQ x41 N _ _ hy11) (cq rfl) ?_
 rintro e s ⟨rfl, rfl⟩
 exact ⟨(y11, (CE (((BQ).toNat : Int) - (128 : Int)))), (cq rfl), h⟩
 refine BH ?_
 refine O7 ?_
 exact ⟨(((BQ).toNat : Int), 0), (cq rfl), h⟩
def gI : IC := (.seq (.seq (.reg [jm 89 16, jm 90 14, jm 91 12, jb .add 92 90 91, jb .lss 93 89 92]) (.cond (.t 93) .skip (.exit 0))) (.block 1 (.seq (.reg [jm 95 0, jm 96 16, jm 97 14, jm 98 12, jb .add 99 97 98, jm 100 3, ju .add 101 100 1, jn 102 (.call 64 [(.t 95), (.t 96), (.t 99), (.t 101)]), jm 94 102, je 103 0 94, je 104 1 94, je 105 2 94, jn 17 (.box 52 (.c (.agg [(.int .u8 0), (.str []), .nl]))), js 3 17 103, jm 18 104, jm 19 105]) (.seq (.seq (.reg [jm 106 19, ju .neq 107 106 0]) (.cond (.t 107) (.seq (.reg [jn 108 (.build [(.int .u8 0), (.str []), .nl] []), jm 109 19, js 3 8 108, jc 9 (j6 0), jm 10 109]) .ret) .skip)) (.seq (.reg [ja 110 2 15, jl 111 1 110, jg 112 3 17, jn 113 (.bsl 3 [(.t 112)]), jn 114 (.app 52 3 48 (.t 111) (.t 113)), ja 115 2 15, js 1 115 114]) (.reg [jm 116 18, jm 16 116]))))))
def k64o0 : IC := (.seq (.reg [jn 8 (.box 52 (.c (.agg [(.int .u8 0), (.str []), .nl]))), jc 9 (j6 0), jc 10 (j6 0)]) (.seq (.reg [jm 20 0, jm 21 1, jn 22 (.nck (.t 20)), ja 23 1 22, js 1 23 21]) (.seq (.seq (.reg [jm 24 3, ju .gtr 25 24 20]) (.cond (.t 25) (.seq (.reg [jn 26 (.build [(.int .u8 0), (.str []), .nl] []), js 3 8 26, jc 9 (j6 0), jc 10 (j6 12)]) .ret) .skip)) (.seq (.reg [jm 28 0, jn 29 (.nck (.t 28)), ja 30 0 29, jl 31 1 30, jm 32 1, jm 33 2, jn 34 (.slcs (.t 31) (some (.t 32)) (some (.t 33))), jn 35 (.call 86 [(.t 34)]), jm 27 35, je 36 0 27, je 37 1 27, je 38 2 27, jm 11 36, jm 12 37, jm 13 38]) (.seq (.seq (.reg [jm 39 13, ju .eql 40 39 0, jm 41 40, jt 41 42 (.mov (.t 12)), jt 41 43 (.mov (.t 2)), jt 41 44 (.mov (.t 1)), jt 41 45 (.bin .sub (.t 43) (.t 44)), jt 41 46 (.mov (.t 11)), jt 41 47 (.bin .sub (.t 45) (.t 46)), jt 41 48 (.bin .gtr (.t 42) (.t 47)), jp 49 41 48]) (.cond (.t 49) (.reg [jc 13 (j6 10)]) .skip)) (.seq (.seq (.reg [jm 50 13, ju .eql 51 50 10, jm 52 51, jt 52 53 (.mov (.t 3)), jt 52 54 (.bin .gtr (.t 53) (ji 1)), jp 55 52 54]) (.cond (.t 55) (.reg [jc 13 (j6 11)]) .skip)) (.seq (.seq (.reg [jm 56 13, ju .neq 57 56 0]) (.cond (.t 57) (.seq (.reg [jn 58 (.build [(.int .u8 0), (.str []), .nl] []), jm 59 13, js 3 8 58, jc 9 (j6 0), jm 10 59]) .ret) .skip)) (.seq (.reg [jm 60 1, jm 61 11, jb .add 62 60 61, jm 14 62]) (.seq (.reg [jm 63 0, jn 64 (.nck (.t 63)), ja 65 0 64, jl 66 1 65, jm 67 1, jn 68 (.idxs (.t 66) (.t 67)), jn 69 (.build [(.int .u8 0), (.str []), .nl] [(0, (1, (.t 68)))]), jn 15 (.box 52 (.c (.agg [(.int .u8 0), (.str []), .nl]))), js 3 15 69]) (.seq (.seq (.reg [ja 70 0 15, jl 71 1 70, jn 72 (.bin .and (.t 71) (.c (.int .u8 32))), jn 73 (.bin .eql (.t 72) (.c (.int .u8 0)))]) (.cond (.t 73) (.seq (.reg [jm 74 0, jn 75 (.nck (.t 74)), ja 76 0 75, jl 77 1 76, jm 78 14, jm 79 14, jm 80 12, jb .add 81 79 80, jn 82 (.slcs (.t 77) (some (.t 78)) (some (.t 81))), ja 83 1 15, js 1 83 82]) (.seq (.reg [jg 84 3 15, jm 85 14, jm 86 12, jb .add 87 85 86, js 3 8 84, jm 9 87, jc 10 (j6 0)]) .ret)) .skip)) (.seq (.seq (.reg [jm 88 14, jm 16 88]) (.block 0 (.loop gI))) (.seq (.reg [jg 117 3 15, jm 118 14, jm 119 12, jb .add 120 118 119, js 3 8 117, jm 9 120, jc 10 (j6 0)]) .ret))))))))))))
theorem wR : C9 Tryz.prog Tryz.f64 = some ⟨121, k64o0, [(.cell 3 true 8), (.tmp 9), (.tmp 10)]⟩ := by kernel_rfl
theorem RS (N : Nat) (IU : BC → Int → Int → Int → Option (A7 × Int × Int × BC)) (SF : ∀ (a0 : BC) (a1 : Int) (a2 : Int) (a3 : Int) (r : A7 × Int × Int × BC), IU a0 a1 a2 a3 = some r → Sat Tryz.prog 64 (AX [(700970, ⟨2, false, [BG a0]⟩)]) [.ptr 700970 0 0, j6 a1, j6 a2, j6 a3] (.tup [A9 r.1, j6 r.2.1, j6 r.2.2.1]) (AX [(700970, ⟨2, false, [BG r.2.2.2]⟩)])) (a1 : Int) (a3 : Int) (K4 : Int × Int × Int) : ∀ (n : Nat) (x : Int × UInt8 × List UInt8 × List A7 × BC) (y : (UInt8 × List UInt8 × List A7 × BC) ⊕ (A7 × Int × Int × BC)), H8 N IU a1 a3 K4 n x = some y → WX Tryz.prog (ZU [700970]) (.loop gI) ((fun (x : Int × UInt8 × List UInt8 × List A7 × BC) => ⟨AX [(0, .ptr 700970 0 0), (3, j6 a3), (8, .ptr 102408 0 0), (12, j6 K4.2.1), (14, j6 (CE (a1 + K4.1))), (15, .ptr 102415 0 0), (16, j6 x.1)], AX [(102408, ⟨3, false, [.agg [eb (0 : UInt8), .str ([] : List UInt8), .nl]]⟩), (102415, ⟨3, false, [.agg [eb x.2.1, .str x.2.2.1, .slr 524152 0 x.2.2.2.1.length]]⟩), (524152, ⟨3, true, List.map A9 x.2.2.2.1⟩), (700970, ⟨2, false, [BG x.2.2.2.2]⟩)]⟩) x) ((Sum.elim (fun y e s => e = .exit 0 ∧ s = ⟨AX [(8, .ptr 102408 0 0), (12, j6 K4.2.1), (14, j6 (CE (a1 + K4.1))), (15, .ptr 102415 0 0)], AX [(102408, ⟨3, false, [.agg [eb (0 : UInt8), .str ([] : List UInt8), .nl]]⟩), (102415, ⟨3, false, [.agg [eb y.1, .str y.2.1, .slr 524152 0 y.2.2.1.length]]⟩), (524152, ⟨3, true, List.map A9 y.2.2.1⟩), (700970, ⟨2, false, [BG y.2.2.2]⟩)]⟩) (fun y e s => e = .ret ∧ s = ⟨AX [(8, .ptr 102408 0 0), (9, j6 y.2.1), (10, j6 y.2.2.1)], AX [(102408, ⟨3, false, [A9 y.1]⟩), (700970, ⟨2, false, [BG y.2.2.2]⟩)]⟩) : ((UInt8 × List UInt8 × List A7 × BC) ⊕ (A7 × Int × Int × BC)) → Xt → St → Prop) y) := by
 refine FB _ _ (H8 N IU a1 a3 K4) (LX N IU a1 a3 K4) (fun _ => rfl) (fun _ _ => rfl) ?_
 rintro rec ⟨mQ, JH, JG, QI, QF⟩ y h
 iterate 2 refine AA ?_
 refine AB ?_
 iterate 3 refine wq rfl ?_
 refine AY (p := j6 (CE ((CE (a1 + K4.1)) + K4.2.1))) rfl rfl ?_
 refine wq rfl ?_
 refine EN h rfl (fun c4 h => ?_) (fun c4 h => ?_)
 refine BH (CS (AA (AB ?_)))
 iterate 4 refine wq rfl ?_
 refine AY (p := j6 (CE ((CE (a1 + K4.1)) + K4.2.1))) rfl rfl ?_
 refine wq rfl ?_
 refine AY (p := j6 (CE (a3 + (1 : Int)))) rfl rfl ?_
 obtain ⟨x102, hx102, h⟩ := AQ h
 refine CX rfl (wC [(700970, ⟨2, false, [BG QF]⟩)] [(700970, ⟨2, false, [BG x102.2.2.2]⟩)] (SF _ _ _ _ _ hx102) rfl (.cons A8 (.cons A8 (.cons A8 (.cons A8 .nil)))) ⟨rfl, trivial⟩ rfl rfl rfl) ?_
 iterate 4 refine wq rfl ?_
 refine CX rfl (FE 102417 rfl rfl rfl rfl rfl) ?_
 refine EC (e' := A9 x102.1) rfl rfl rfl rfl rfl rfl rfl rfl nofun rfl ?_
 iterate 2 refine wq rfl ?_
 iterate 2 refine AA ?_
 refine AB ?_
 iterate 2 refine wq rfl ?_
 refine EN h rfl (fun c5 h => ?_) (fun c5 h => ?_)
 refine AA (AB ?_)
 refine AY (p := .agg [eb (0 : UInt8), .str ([] : List UInt8), .nl]) rfl rfl ?_
 refine uH (KS 108 (I6 (.cons A8 (.cons A8 (.cons (FM 3) .nil))) rfl) rfl) ?_
 refine wq rfl ?_
 refine EC (e' := .agg [eb (0 : UInt8), .str ([] : List UInt8), .sl 3 (List.map A9 [])]) rfl rfl rfl rfl rfl rfl rfl rfl nofun rfl ?_
 iterate 2 refine wq rfl ?_
 cases AP h
 exact F4 (st1 := ⟨AX [(8, .ptr 102408 0 0), (9, j6 0), (10, j6 x102.2.2.1)], AX [(102408, ⟨3, false, [A9 (⟨(0 : UInt8), ([] : List UInt8), []⟩ : A7)]⟩), (700970, ⟨2, false, [BG x102.2.2.2]⟩)]⟩) (jN [700970] rfl rfl rfl rfl rfl) ⟨rfl, rfl⟩
 refine BH (AA (AB ?_))
 iterate 2 refine wq rfl ?_
 refine AY (p := A9 x102.1) rfl rfl ?_
 refine CX rfl (QK 102513 rfl rfl rfl) ?_
 obtain ⟨x114, hx114, h⟩ := AQ h
 refine UQ (f := A9) 102514 hx114 rfl rfl rfl rfl rfl (JZ rfl (BP (f := A9) (l := [x102.1]))) rfl rfl rfl rfl ?_
 refine wq rfl ?_
 refine EC (e' := .agg [eb JH, .str JG, .slr 102514 0 x114.length]) rfl rfl rfl rfl rfl rfl rfl rfl nofun rfl ?_
 refine SI (jN [700970] rfl (st := _) (l := [(0, .ptr 700970 0 0), (3, j6 a3), (8, .ptr 102408 0 0), (12, j6 K4.2.1), (14, j6 (CE (a1 + K4.1))), (15, .ptr 102415 0 0), (18, j6 x102.2.1)]) (m := [(102408, ⟨3, false, [.agg [eb (0 : UInt8), .str ([] : List UInt8), .nl]]⟩), (102415, ⟨3, false, [.agg [eb JH, .str JG, .slr 102514 0 x114.length]]⟩), (102514, ⟨3, true, List.map A9 x114⟩), (700970, ⟨2, false, [BG x102.2.2.2]⟩)]) rfl rfl rfl rfl) ?_
 refine AB ?_
 iterate 2 refine wq rfl ?_
 exact ⟨(x102.2.1, JH, JG, x114, x102.2.2.2), (BX.trans (rename 102514 524152 rfl rfl) (jN [700970] rfl rfl rfl rfl rfl)), h⟩
 cases AP h
 exact ED (st1 := ⟨AX [(8, .ptr 102408 0 0), (12, j6 K4.2.1), (14, j6 (CE (a1 + K4.1))), (15, .ptr 102415 0 0)], AX [(102408, ⟨3, false, [.agg [eb (0 : UInt8), .str ([] : List UInt8), .nl]]⟩), (102415, ⟨3, false, [.agg [eb JH, .str JG, .slr 524152 0 QI.length]]⟩), (524152, ⟨3, true, List.map A9 QI⟩), (700970, ⟨2, false, [BG QF]⟩)]⟩) (jN [700970] rfl rfl rfl rfl rfl) ⟨rfl, rfl⟩
theorem SA (N : Nat) (IU : BC → Int → Int → Int → Option (A7 × Int × Int × BC)) (SF : ∀ (a0 : BC) (a1 : Int) (a2 : Int) (a3 : Int) (r : A7 × Int × Int × BC), IU a0 a1 a2 a3 = some r → Sat Tryz.prog 64 (AX [(700970, ⟨2, false, [BG a0]⟩)]) [.ptr 700970 0 0, j6 a1, j6 a2, j6 a3] (.tup [A9 r.1, j6 r.2.1, j6 r.2.2.1]) (AX [(700970, ⟨2, false, [BG r.2.2.2]⟩)])) (a0 : BC) (a1 : Int) (a2 : Int) (a3 : Int) (r : A7 × Int × Int × BC) (h : PD N IU a0 a1 a2 a3 = some r) : Sat Tryz.prog 64 (AX [(700970, ⟨2, false, [BG a0]⟩)]) [.ptr 700970 0 0, j6 a1, j6 a2, j6 a3] (.tup [A9 r.1, j6 r.2.1, j6 r.2.2.1]) (AX [(700970, ⟨2, false, [BG r.2.2.2]⟩)]) := by
 refine xsatO [(700970, ⟨2, false, [BG a0]⟩)] [(700970, ⟨2, false, [BG r.2.2.2]⟩)] mixed Tryz.func64 wR (rs := [A9 r.1, j6 r.2.1, j6 r.2.2.1]) rfl rfl rfl ?_
 refine AA (AB ?_)
 refine CX rfl (FE 102408 rfl rfl rfl rfl rfl) ?_
 iterate 2 refine wq rfl ?_
 refine AA (AB ?_)
 iterate 4 refine wq rfl ?_
 refine EC (e' := .agg [.str a0.s, j6 a1]) rfl rfl rfl rfl rfl rfl rfl rfl nofun rfl ?_
 iterate 2 refine AA ?_
 refine AB ?_
 iterate 2 refine wq rfl ?_
 refine EN h rfl (fun c1 h => ?_) (fun c1 h => ?_)
 refine AA (AB ?_)
 refine AY (p := .agg [eb (0 : UInt8), .str ([] : List UInt8), .nl]) rfl rfl ?_
 refine uH (KS 26 (I6 (.cons A8 (.cons A8 (.cons (FM 3) .nil))) rfl) rfl) ?_
 refine EC (e' := .agg [eb (0 : UInt8), .str ([] : List UInt8), .sl 3 (List.map A9 [])]) rfl rfl rfl rfl rfl rfl rfl rfl nofun rfl ?_
 iterate 2 refine wq rfl ?_
 cases AP h
 refine F4 (st1 := ⟨AX [(8, .ptr 102408 0 0), (9, j6 0), (10, j6 12)], AX [(102408, ⟨3, false, [A9 (⟨(0 : UInt8), ([] : List UInt8), []⟩ : A7)]⟩), (700970, ⟨2, false, [BG (⟨a0.s, a1⟩ : BC)]⟩)]⟩) (jN [700970] rfl rfl rfl rfl rfl) ?_
 exact ⟨nofun, rfl, rfl, ⟨rfl, trivial⟩, rfl⟩
 refine BH (AA (AB ?_))
 iterate 6 refine wq rfl ?_
 obtain ⟨x34, hx34, h⟩ := AQ h
 refine AY rfl (kK hx34 rfl rfl rfl) ?_
 obtain ⟨K4, La, h⟩ := AQ h
 refine CX rfl (CZ (iM N _ _ La) rfl (.cons A8 .nil) rfl rfl rfl) ?_
 iterate 7 refine wq rfl ?_
 refine R6 (fun (x : Int) => ⟨AX [(0, .ptr 700970 0 0), (1, j6 a1), (3, j6 a3), (8, .ptr 102408 0 0), (11, j6 K4.1), (12, j6 K4.2.1), (13, j6 x)], AX [(102408, ⟨3, false, [.agg [eb (0 : UInt8), .str ([] : List UInt8), .nl]]⟩), (700970, ⟨2, false, [.agg [.str a0.s, j6 a1]]⟩)]⟩) (fun x => JQ IU a0 a1 a3 N K4 x = some r) ?_ ?_
 rintro bE h
 refine R6 (fun (x : Int) => ⟨AX [(0, .ptr 700970 0 0), (1, j6 a1), (3, j6 a3), (8, .ptr 102408 0 0), (11, j6 K4.1), (12, j6 K4.2.1), (13, j6 x)], AX [(102408, ⟨3, false, [.agg [eb (0 : UInt8), .str ([] : List UInt8), .nl]]⟩), (700970, ⟨2, false, [.agg [.str a0.s, j6 a1]]⟩)]⟩) (fun x => JP IU a0 a1 a3 N K4 x = some r) ?_ ?_
 rintro iH h
 iterate 2 refine AA ?_
 refine AB ?_
 iterate 2 refine wq rfl ?_
 refine EN h rfl (fun c2 h => ?_) (fun c2 h => ?_)
 refine AA (AB ?_)
 refine AY (p := .agg [eb (0 : UInt8), .str ([] : List UInt8), .nl]) rfl rfl ?_
 refine uH (KS 58 (I6 (.cons A8 (.cons A8 (.cons (FM 3) .nil))) rfl) rfl) ?_
 refine wq rfl ?_
 refine EC (e' := .agg [eb (0 : UInt8), .str ([] : List UInt8), .sl 3 (List.map A9 [])]) rfl rfl rfl rfl rfl rfl rfl rfl nofun rfl ?_
 iterate 2 refine wq rfl ?_
 cases AP h
 refine F4 (st1 := ⟨AX [(8, .ptr 102408 0 0), (9, j6 0), (10, j6 iH)], AX [(102408, ⟨3, false, [A9 (⟨(0 : UInt8), ([] : List UInt8), []⟩ : A7)]⟩), (700970, ⟨2, false, [BG (⟨a0.s, a1⟩ : BC)]⟩)]⟩) (jN [700970] rfl rfl rfl rfl rfl) ?_
 exact ⟨nofun, rfl, rfl, ⟨rfl, trivial⟩, rfl⟩
 refine BH (AA (AB ?_))
 iterate 2 refine wq rfl ?_
 refine AY (p := j6 (CE (a1 + K4.1))) rfl rfl ?_
 refine wq rfl ?_
 refine AA (AB ?_)
 iterate 5 refine wq rfl ?_
 obtain ⟨iA, hx68, h⟩ := AQ h
 refine AY rfl (P6 hx68 rfl rfl) ?_
 refine AY (p := .agg [eb iA, .str ([] : List UInt8), .nl]) rfl rfl ?_
 refine CX rfl (FE 102415 rfl rfl rfl rfl rfl) ?_
 refine EC (e' := .agg [eb iA, .str ([] : List UInt8), .nl]) rfl rfl rfl rfl rfl rfl rfl rfl nofun rfl ?_
 iterate 2 refine AA ?_
 refine AB ?_
 iterate 2 refine wq rfl ?_
 refine AY rfl (VO (a := iA) (b := (32 : UInt8)) rfl rfl) ?_
 refine AY (p := .bool ((((iA &&& (32 : UInt8))).toNat : Int) == (0 : Int))) rfl rfl ?_
 refine EN h rfl (fun c3 h => ?_) (fun c3 h => ?_)
 refine AA (AB ?_)
 iterate 7 refine wq rfl ?_
 refine AY (p := j6 (CE ((CE (a1 + K4.1)) + K4.2.1))) rfl rfl ?_
 obtain ⟨x82, hx82, h⟩ := AQ h
 refine AY rfl (kK hx82 rfl rfl rfl) ?_
 refine wq rfl ?_
 refine EC (e' := .agg [eb iA, .str x82, .nl]) rfl rfl rfl rfl rfl rfl rfl rfl nofun rfl ?_
 refine AA ?_
 refine SI (jN [700970] rfl (st := _) (l := [(8, .ptr 102408 0 0), (12, j6 K4.2.1), (14, j6 (CE (a1 + K4.1))), (15, .ptr 102415 0 0)]) (m := [(102408, ⟨3, false, [.agg [eb (0 : UInt8), .str ([] : List UInt8), .nl]]⟩), (102415, ⟨3, false, [.agg [eb iA, .str x82, .nl]]⟩), (700970, ⟨2, false, [.agg [.str a0.s, j6 a1]]⟩)]) rfl rfl rfl rfl) ?_
 refine AB ?_
 refine AY (p := .agg [eb iA, .str x82, .nl]) rfl rfl ?_
 iterate 2 refine wq rfl ?_
 refine AY (p := j6 (CE ((CE (a1 + K4.1)) + K4.2.1))) rfl rfl ?_
 refine EC (e' := .agg [eb iA, .str x82, .nl]) rfl rfl rfl rfl rfl rfl rfl rfl nofun rfl ?_
 iterate 2 refine wq rfl ?_
 cases AP h
 refine F4 (st1 := ⟨AX [(8, .ptr 102408 0 0), (9, j6 (CE ((CE (a1 + K4.1)) + K4.2.1))), (10, j6 0)], AX [(102408, ⟨3, false, [A9 (⟨iA, x82, []⟩ : A7)]⟩), (700970, ⟨2, false, [BG (⟨a0.s, a1⟩ : BC)]⟩)]⟩) (BX.trans (nC 102408 (x := .agg [eb iA, .str x82, .nl]) (y := .agg [eb ((⟨iA, x82, []⟩ : A7).Tag), .str ((⟨iA, x82, []⟩ : A7).Body), .sl 3 ((⟨iA, x82, []⟩ : A7).Kids)]) (.cons A8 (.cons A8 (.cons (FM 3) .nil))) rfl rfl) (jN [700970] rfl rfl rfl rfl rfl)) ?_
 exact ⟨nofun, rfl, rfl, ⟨rfl, trivial⟩, rfl⟩
 refine BH ?_
 iterate 2 refine AA ?_
 refine AB ?_
 iterate 2 refine wq rfl ?_
 refine CS ?_
 obtain ⟨y6, rA, h⟩ := AQ h
 refine R5 (RS N IU SF a1 a3 K4 N _ _ rA) (BX.trans (iR 524152 3 true rfl rfl) (BX.trans (pM 102415 (Q := fun R => R 524152 = some ⟨3, true, []⟩) (x := .agg [eb iA, .str ([] : List UInt8), .nl]) (y := .agg [eb iA, .str ([] : List UInt8), .slr 524152 0 0]) (.cons (fun _ _ _ _ _ _ h => h) (.cons (fun _ _ _ _ _ _ h => h) (.cons aR (SN _)))) rfl rfl rfl) (jN [700970] rfl rfl rfl rfl rfl))) ?_
 clear rA
 rcases y6 with y6 | y6
 rintro e s ⟨rfl, rfl⟩
 refine AA (AB ?_)
 refine AY (p := .agg [eb y6.1, .str y6.2.1, .slr 524152 0 y6.2.2.1.length]) rfl rfl ?_
 iterate 2 refine wq rfl ?_
 refine AY (p := j6 (CE ((CE (a1 + K4.1)) + K4.2.1))) rfl rfl ?_
 refine EC (e' := .agg [eb y6.1, .str y6.2.1, .slr 524152 0 y6.2.2.1.length]) rfl rfl rfl rfl rfl rfl rfl rfl nofun rfl ?_
 iterate 2 refine wq rfl ?_
 cases AP h
 refine F4 (st1 := ⟨AX [(8, .ptr 102408 0 0), (9, j6 (CE ((CE (a1 + K4.1)) + K4.2.1))), (10, j6 0)], AX [(102408, ⟨3, false, [A9 (⟨y6.1, y6.2.1, (List.map A9 y6.2.2.1)⟩ : A7)]⟩), (700970, ⟨2, false, [BG y6.2.2.2]⟩)]⟩) (BX.trans (Vd.freeze 524152 _ rfl rfl rfl) (BX.trans (nC 102408 (x := .agg [eb y6.1, .str y6.2.1, .sl 3 (List.take y6.2.2.1.length (List.drop 0 (List.map A9 y6.2.2.1)))]) (y := .agg [eb ((⟨y6.1, y6.2.1, (List.map A9 y6.2.2.1)⟩ : A7).Tag), .str ((⟨y6.1, y6.2.1, (List.map A9 y6.2.2.1)⟩ : A7).Body), .sl 3 ((⟨y6.1, y6.2.1, (List.map A9 y6.2.2.1)⟩ : A7).Kids)]) (.cons A8 (.cons A8 (.cons (GG (congrArg (PV.sl 3) (BP (f := A9) (l := y6.2.2.1)))) .nil))) rfl rfl) (jN [700970] rfl rfl rfl rfl rfl))) ?_
 exact ⟨nofun, rfl, rfl, ⟨rfl, trivial⟩, rfl⟩
 rintro e s ⟨rfl, rfl⟩
 cases AP h
 exact ⟨nofun, rfl, rfl, ⟨rfl, trivial⟩, rfl⟩
 obtain ⟨g7, Ep, h⟩ := AQ h
 refine GV ⟨AX [(0, .ptr 700970 0 0), (1, j6 a1), (3, j6 a3), (8, .ptr 102408 0 0), (11, j6 K4.1), (12, j6 K4.2.1), (13, j6 bE), (55, .bool g7)], AX [(102408, ⟨3, false, [.agg [eb (0 : UInt8), .str ([] : List UInt8), .nl]]⟩), (700970, ⟨2, false, [.agg [.str a0.s, j6 a1]]⟩)]⟩ ?_ ?_
 have h := Ep
 refine AB ?_
 iterate 3 refine wq rfl ?_
 rcases D7 h with ⟨c8, h⟩ | ⟨c8, h⟩
 iterate 2 refine AY (gy rfl c8) rfl ?_
 refine AY rfl (BF c8 rfl rfl) ?_
 cases AP h
 exact (jN [700970] rfl rfl rfl rfl rfl)
 iterate 2 refine D8 (gn rfl c8) ?_
 refine AY rfl (BD c8 rfl rfl) ?_
 obtain rfl := AP h
 exact (jN [700970] rfl rfl rfl rfl rfl)
 clear Ep
 refine EN h rfl (fun c9 h => ?_) (fun c9 h => ?_)
 refine AB ?_
 refine wq rfl ?_
 exact ⟨11, (jN [700970] rfl rfl rfl rfl rfl), h⟩
 refine BH ?_
 exact ⟨bE, (jN [700970] rfl rfl rfl rfl rfl), h⟩
 obtain ⟨g10, lD, h⟩ := AQ h
 refine GV ⟨AX [(0, .ptr 700970 0 0), (1, j6 a1), (3, j6 a3), (8, .ptr 102408 0 0), (11, j6 K4.1), (12, j6 K4.2.1), (13, j6 K4.2.2), (49, .bool g10)], AX [(102408, ⟨3, false, [.agg [eb (0 : UInt8), .str ([] : List UInt8), .nl]]⟩), (700970, ⟨2, false, [.agg [.str a0.s, j6 a1]]⟩)]⟩ ?_ ?_
 have h := lD
 refine AB ?_
 iterate 3 refine wq rfl ?_
 rcases D7 h with ⟨c11, h⟩ | ⟨c11, h⟩
 iterate 3 refine AY (gy rfl c11) rfl ?_
 refine AY (p := j6 (CE (a2 - a1))) (gy rfl c11) rfl ?_
 refine AY (gy rfl c11) rfl ?_
 refine AY (p := j6 (CE ((CE (a2 - a1)) - K4.1))) (gy rfl c11) rfl ?_
 refine AY (gy rfl c11) rfl ?_
 refine AY rfl (BF c11 rfl rfl) ?_
 cases AP h
 exact (jN [700970] rfl rfl rfl rfl rfl)
 iterate 7 refine D8 (gn rfl c11) ?_
 refine AY rfl (BD c11 rfl rfl) ?_
 obtain rfl := AP h
 exact (jN [700970] rfl rfl rfl rfl rfl)
 clear lD
 refine EN h rfl (fun c12 h => ?_) (fun c12 h => ?_)
 refine AB ?_
 refine wq rfl ?_
 exact ⟨10, (jN [700970] rfl rfl rfl rfl rfl), h⟩
 refine BH ?_
 exact ⟨K4.2.2, (jN [700970] rfl rfl rfl rfl rfl), h⟩
theorem SB (N : Nat) : ∀ (n : Nat) (a0 : BC) (a1 : Int) (a2 : Int) (a3 : Int) (r : A7 × Int × Int × BC) (h : IQ N n a0 a1 a2 a3 = some r), Sat Tryz.prog 64 (AX [(700970, ⟨2, false, [BG a0]⟩)]) [.ptr 700970 0 0, j6 a1, j6 a2, j6 a3] (.tup [A9 r.1, j6 r.2.1, j6 r.2.2.1]) (AX [(700970, ⟨2, false, [BG r.2.2.2]⟩)]) := by
 intro n
 induction n with
 | zero => intro a0 a1 a2 a3 r h; cases h
 | succ n ih => intro a0 a1 a2 a3 r h; exact SA N (IQ N n) ih a0 a1 a2 a3 r h
theorem TW (N : Nat) (a0 : BC) (a1 : Int) (a2 : Int) (a3 : Int) (r : A7 × Int × Int × BC) (h : QW N a0 a1 a2 a3 = some r) : Sat Tryz.prog 64 (AX [(700970, ⟨2, false, [BG a0]⟩)]) [.ptr 700970 0 0, j6 a1, j6 a2, j6 a3] (.tup [A9 r.1, j6 r.2.1, j6 r.2.2.1]) (AX [(700970, ⟨2, false, [BG r.2.2.2]⟩)]) := SB N N a0 a1 a2 a3 r h
end Go.Gp
end
