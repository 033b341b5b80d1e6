/- A part of the proof: functions of the program and what they compute. -/
import Derived.Test.YtlopcglohpfonaaGreatDoorA5
import Derived.Test.YtlopcglohpfonaaGreatDoorA6
import Derived.Test.YtlopcglohpfonaaGreatDoorA10
import Derived.Test.YtlopcglohpfonaaGreatDoorA11
import Derived.Test.YtlopcglohpfonaaGreatDoorA9
section
set_option linter.unusedVariables false
set_option linter.unusedSimpArgs false
set_option maxRecDepth 4000
set_option maxHeartbeats 4000000
namespace Go.Gp
open Go.Vd Go.RowKit Go.Proofs
def k10 : IC := (.seq (.reg [jn 1 (.box 28 (.t 0)), jc 2 (.bool false)]) (.seq (.seq (.reg [ja 5 0 1, jg 6 3 5, jn 7 (.call 24 [(.t 6)]), jn 8 (.un .not (.t 7)), jm 9 8, jf 9 10 (.fda 0 (.t 1)), jf 9 11 (.load 3 true (.t 10)), jf 9 12 (.call 25 [(.t 11)]), jo 13 9 12, jm 14 13, jf 14 15 (.fda 4 (.t 1)), jf 14 16 (.load 3 true (.t 15)), jf 14 17 (.call 24 [(.t 16)]), jf 14 18 (.un .not (.t 17)), jo 19 14 18, jm 20 19, jf 20 21 (.fda 7 (.t 1)), jf 20 22 (.load 3 true (.t 21)), jf 20 23 (.call 24 [(.t 22)]), jf 20 24 (.un .not (.t 23)), jo 25 20 24]) (.cond (.t 25) (.seq (.reg [jc 2 (.bool false)]) .ret) .skip)) (.seq (.reg [jn 26 (.mkf 26 [(.t 1)]), jm 3 26]) (.seq (.reg [ja 27 7 1, jg 28 3 27, jn 29 (.call 25 [(.t 28)]), jm 30 29, jt 30 31 (.fda 10 (.t 1)), jt 30 32 (.load 1 false (.t 31)), jt 30 33 (.len false (.t 32)), jt 30 34 (.bin .eql (.t 33) (ji 0)), jp 35 30 34, jm 36 35, jt 36 37 (.fda 11 (.t 1)), jt 36 38 (.load 1 false (.t 37)), jt 36 39 (.un .not (.t 38)), jp 40 36 39, jm 4 40]) (.seq (.seq (.reg [ja 41 3 1, jl 42 1 41]) (.block 0 (.seq (.reg [ju .eql 44 42 1, jm 43 44]) (.cond (.t 43) (.seq (.reg [ja 45 4 1, jg 46 3 45, ja 47 0 1, jg 48 3 47, jn 49 (.eqs false [(.i .i64), (.i .i64), (.i .i64)] (.t 46) (.t 48)), jm 50 49, jt 50 51 (.mov (.t 3)), jt 50 52 (.fda 7 (.t 1)), jt 50 53 (.load 3 true (.t 52)), jt 50 54 (.calv (.t 51) [(.t 53)]), jp 55 50 54, jm 56 55, jt 56 57 (.fda 10 (.t 1)), jt 56 58 (.load 1 false (.t 57)), jt 56 59 (.call 28 [(.t 58)]), jp 60 56 59, jm 61 60, jt 61 62 (.fda 12 (.t 1)), jt 61 63 (.load 1 false (.t 62)), jt 61 64 (.call 29 [(.t 63), (ji 1)]), jp 65 61 64, jm 66 65, jt 66 67 (.fda 11 (.t 1)), jt 66 68 (.load 1 false (.t 67)), jt 66 69 (.un .not (.t 68)), jp 70 66 69, jm 2 70]) .ret) (.seq (.reg [ju .eql 72 42 2, jm 71 72]) (.cond (.t 71) (.seq (.reg [ja 73 4 1, jg 74 3 73, jn 75 (.call 25 [(.t 74)]), jn 76 (.un .not (.t 75)), jm 77 76, jt 77 78 (.mov (.t 3)), jt 77 79 (.fda 4 (.t 1)), jt 77 80 (.load 3 true (.t 79)), jt 77 81 (.calv (.t 78) [(.t 80)]), jp 82 77 81, jm 83 82, jt 83 84 (.mov (.t 4)), jp 85 83 84, jm 86 85, jt 86 87 (.fda 12 (.t 1)), jt 86 88 (.load 1 false (.t 87)), jt 86 89 (.len false (.t 88)), jt 86 90 (.bin .eql (.t 89) (ji 0)), jp 91 86 90, jm 2 91]) .ret) (.seq (.reg [ju .eql 93 42 3, jm 92 93]) (.cond (.t 92) (.seq (.reg [jm 94 3, ja 95 4 1, jg 96 3 95, jn 97 (.calv (.t 94) [(.t 96)]), jm 98 97, jt 98 99 (.mov (.t 4)), jp 100 98 99, jm 101 100, jt 101 102 (.fda 12 (.t 1)), jt 101 103 (.load 1 false (.t 102)), jt 101 104 (.len false (.t 103)), jt 101 105 (.bin .gtr (.t 104) (ji 0)), jp 106 101 105, jm 107 106, jt 107 108 (.fda 12 (.t 1)), jt 107 109 (.load 1 false (.t 108)), jt 107 110 (.call 29 [(.t 109), (ji 3)]), jp 111 107 110, jm 2 111]) .ret) (.seq (.reg [ju .eql 113 42 4, jm 112 113]) (.cond (.t 112) (.seq (.reg [ja 114 4 1, jg 115 3 114, jn 116 (.call 25 [(.t 115)]), jn 117 (.un .not (.t 116)), jm 118 117, jt 118 119 (.mov (.t 3)), jt 118 120 (.fda 4 (.t 1)), jt 118 121 (.load 3 true (.t 120)), jt 118 122 (.calv (.t 119) [(.t 121)]), jp 123 118 122, jm 124 123, jt 124 125 (.mov (.t 3)), jt 124 126 (.fda 7 (.t 1)), jt 124 127 (.load 3 true (.t 126)), jt 124 128 (.calv (.t 125) [(.t 127)]), jp 129 124 128, jm 130 129, jt 130 131 (.fda 10 (.t 1)), jt 130 132 (.load 1 false (.t 131)), jt 130 133 (.call 28 [(.t 132)]), jp 134 130 133, jm 135 134, jt 135 136 (.fda 12 (.t 1)), jt 135 137 (.load 1 false (.t 136)), jt 135 138 (.len false (.t 137)), jt 135 139 (.bin .eql (.t 138) (ji 0)), jp 140 135 139, jm 2 140]) .ret) .skip)))))))))) (.seq (.reg [jc 2 (.bool false)]) .ret))))))
theorem Uu : BX Tryz.prog Tryz.f10 = some ⟨141, k10, [(.tmp 2)]⟩ := by kernel_rfl
theorem RA (N : Nat) (a0 : AX) (r : Bool) (h : R5 N a0 = some r) : Sat Tryz.prog 10 AO [AQ a0] (.bool r) AO := by
 refine DT mixed Tryz.func10 Uu (rs := [.bool r]) rfl rfl ?_
 refine AJ ?_
 refine AC ?_
 refine CS rfl (FZ 16001 rfl rfl rfl rfl rfl) ?_
 refine A7 rfl rfl ?_
 refine AJ ?_
 obtain ⟨g1, hg1, h⟩ := AL h
 refine F9 ⟨AY [(1, .ptr 16001 0 0), (25, .bool g1)], AY [(16001, ⟨13, false, [AQ a0]⟩)]⟩ ?_ ?_
 have h := hg1
 refine AC ?_
 refine A7 rfl rfl ?_
 refine A7 (p := .agg [.int .i64 a0.CSN.Time, .int .i64 a0.CSN.Seq, .int .i64 a0.CSN.Rep]) rfl rfl ?_
 obtain ⟨x7, hx7, h⟩ := AL h
 refine CS rfl (CG (X8 N _ _ hx7) rfl (.cons A9 .nil) rfl rfl rfl) ?_
 iterate 2 refine A7 rfl rfl ?_
 rcases BO h with ⟨c2, h⟩ | ⟨c2, h⟩
 iterate 3 refine BK (gn rfl c2) ?_
 refine A7 rfl (BA c2 rfl rfl) ?_
 refine A7 rfl rfl ?_
 iterate 4 refine BK rfl ?_
 iterate 2 refine A7 rfl rfl ?_
 iterate 4 refine BK rfl ?_
 refine A7 rfl rfl ?_
 obtain rfl := AB h
 exact (cn rfl rfl rfl rfl)
 refine A7 (gy rfl c2) rfl ?_
 refine A7 (p := .agg [.int .i64 a0.CSN.Time, .int .i64 a0.CSN.Seq, .int .i64 a0.CSN.Rep]) (gy rfl c2) rfl ?_
 obtain ⟨IP, YI, h⟩ := AL h
 refine CS (gy rfl c2) (CG (SX N _ _ YI) rfl (.cons A9 .nil) rfl rfl rfl) ?_
 refine A7 rfl (AZ c2 rfl rfl) ?_
 refine A7 rfl rfl ?_
 rcases BO h with ⟨c3, h⟩ | ⟨c3, h⟩
 iterate 4 refine BK (gn rfl c3) ?_
 refine A7 rfl (BA c3 rfl rfl) ?_
 refine A7 rfl rfl ?_
 iterate 4 refine BK rfl ?_
 refine A7 rfl rfl ?_
 obtain rfl := AB h
 exact (cn rfl rfl rfl rfl)
 refine A7 (gy rfl c3) rfl ?_
 refine A7 (p := .agg [.int .i64 a0.ID.Time, .int .i64 a0.ID.Seq, .int .i64 a0.ID.Rep]) (gy rfl c3) rfl ?_
 obtain ⟨EC, VJ, h⟩ := AL h
 refine CS (gy rfl c3) (CG (X8 N _ _ VJ) rfl (.cons A9 .nil) rfl rfl rfl) ?_
 refine A7 (gy rfl c3) rfl ?_
 refine A7 rfl (AZ c3 rfl rfl) ?_
 refine A7 rfl rfl ?_
 rcases BO h with ⟨c4, h⟩ | ⟨c4, h⟩
 iterate 4 refine BK (gn rfl c4) ?_
 refine A7 rfl (BA c4 rfl rfl) ?_
 obtain rfl := AB h
 exact (cn rfl rfl rfl rfl)
 refine A7 (gy rfl c4) rfl ?_
 refine A7 (p := .agg [.int .i64 a0.Parent.Time, .int .i64 a0.Parent.Seq, .int .i64 a0.Parent.Rep]) (gy rfl c4) rfl ?_
 obtain ⟨XV, fE, h⟩ := AL h
 refine CS (gy rfl c4) (CG (X8 N _ _ fE) rfl (.cons A9 .nil) rfl rfl rfl) ?_
 refine A7 (gy rfl c4) rfl ?_
 refine A7 rfl (AZ c4 rfl rfl) ?_
 cases AB h
 exact (cn rfl rfl rfl rfl)
 clear hg1
 refine D8 h rfl (fun c5 h => ?_) (fun c5 h => ?_)
 refine AJ ?_
 refine AC ?_
 refine A7 rfl rfl ?_
 obtain rfl := AB h
 refine BS ?_
 exact ⟨nofun, rfl, rfl⟩
 refine BF ?_
 refine AJ ?_
 refine AC ?_
 iterate 2 refine A7 rfl rfl ?_
 obtain ⟨g6, yK, h⟩ := AL h
 refine F9 ⟨AY [(1, .ptr 16001 0 0), (3, .clo 26 [.ptr 16001 0 0]), (4, .bool g6)], AY [(16001, ⟨13, false, [AQ a0]⟩)]⟩ ?_ ?_
 have h := yK
 refine AC ?_
 refine A7 rfl rfl ?_
 refine A7 (p := .agg [.int .i64 a0.Parent.Time, .int .i64 a0.Parent.Seq, .int .i64 a0.Parent.Rep]) rfl rfl ?_
 obtain ⟨x29, hx29, h⟩ := AL h
 refine CS rfl (CG (SX N _ _ hx29) rfl (.cons A9 .nil) rfl rfl rfl) ?_
 refine A7 rfl rfl ?_
 rcases BO h with ⟨c7, h⟩ | ⟨c7, h⟩
 iterate 2 refine A7 (gy rfl c7) rfl ?_
 refine A7 (gy rfl c7) (BV rfl) ?_
 refine A7 (gy rfl c7) rfl ?_
 refine A7 rfl (BA c7 rfl rfl) ?_
 refine A7 rfl rfl ?_
 rcases BO h with ⟨c8, h⟩ | ⟨c8, h⟩
 iterate 3 refine A7 (gy rfl c8) rfl ?_
 refine A7 rfl (BA c8 rfl rfl) ?_
 refine A7 rfl rfl ?_
 cases AB h
 exact (cn rfl rfl rfl rfl)
 iterate 3 refine BK (gn rfl c8) ?_
 refine A7 rfl (AZ c8 rfl rfl) ?_
 refine A7 rfl rfl ?_
 obtain rfl := AB h
 exact (cn rfl rfl rfl rfl)
 iterate 4 refine BK (gn rfl c7) ?_
 refine A7 rfl (AZ c7 rfl rfl) ?_
 refine A7 rfl rfl ?_
 iterate 3 refine BK rfl ?_
 iterate 2 refine A7 rfl rfl ?_
 obtain rfl := AB h
 exact (cn rfl rfl rfl rfl)
 clear yK
 iterate 2 refine AJ ?_
 refine AC ?_
 iterate 2 refine A7 rfl rfl ?_
 refine C9 ?_
 refine AJ ?_
 refine AC ?_
 iterate 2 refine A7 rfl rfl ?_
 refine D8 h rfl (fun c9 h => ?_) (fun c9 h => ?_)
 obtain ⟨g10, rU, h⟩ := AL h
 refine F9 ⟨AY [(2, .bool g10)], AY []⟩ ?_ ?_
 have h := rU
 refine AC ?_
 refine A7 rfl rfl ?_
 refine A7 (p := .agg [.int .i64 a0.ID.Time, .int .i64 a0.ID.Seq, .int .i64 a0.ID.Rep]) rfl rfl ?_
 refine A7 rfl rfl ?_
 refine A7 (p := .agg [.int .i64 a0.CSN.Time, .int .i64 a0.CSN.Seq, .int .i64 a0.CSN.Rep]) rfl rfl ?_
 refine A7 (p := .bool (a0.ID.Time == a0.CSN.Time && (a0.ID.Seq == a0.CSN.Seq && (a0.ID.Rep == a0.CSN.Rep && true)))) rfl rfl ?_
 refine A7 rfl rfl ?_
 rcases BO h with ⟨c11, h⟩ | ⟨c11, h⟩
 iterate 2 refine A7 (gy rfl c11) rfl ?_
 refine A7 (p := .agg [.int .i64 a0.Parent.Time, .int .i64 a0.Parent.Seq, .int .i64 a0.Parent.Rep]) (gy rfl c11) rfl ?_
 refine wn (UY 16001 rfl rfl rfl) ?_
 obtain ⟨x54, Vp, h⟩ := AL h
 refine CS (gy rfl c11) (ZY (MG N _ _ _ Vp) rfl rfl rfl (.cons A9 (.cons A9 .nil)) rfl rfl rfl) ?_
 refine A7 rfl (BA c11 rfl rfl) ?_
 refine A7 rfl rfl ?_
 rcases BO h with ⟨c12, h⟩ | ⟨c12, h⟩
 refine A7 (p := .ep [.sl 2 (List.map AV a0.RDN), .bool a0.DelOld, .sl 3 (List.map AU a0.Mods)]) (gy rfl c12) rfl ?_
 refine A7 (gy rfl c12) rfl ?_
 obtain ⟨Kg, Gd, h⟩ := AL h
 refine CS (gy rfl c12) (CG (WC N _ _ Gd) rfl (.cons A9 .nil) rfl rfl rfl) ?_
 refine A7 rfl (BA c12 rfl rfl) ?_
 refine A7 rfl rfl ?_
 rcases BO h with ⟨c13, h⟩ | ⟨c13, h⟩
 refine A7 (p := .ep [.sl 3 (List.map AU a0.Mods)]) (gy rfl c13) rfl ?_
 refine A7 (gy rfl c13) rfl ?_
 obtain ⟨x64, Vj, h⟩ := AL h
 refine CS (gy rfl c13) (CG (UL N _ _ _ Vj) rfl (.cons A9 (.cons A9 .nil)) rfl rfl rfl) ?_
 refine A7 rfl (BA c13 rfl rfl) ?_
 refine A7 rfl rfl ?_
 rcases BO h with ⟨c14, h⟩ | ⟨c14, h⟩
 refine A7 (p := .ep [.bool a0.DelOld, .sl 3 (List.map AU a0.Mods)]) (gy rfl c14) rfl ?_
 iterate 2 refine A7 (gy rfl c14) rfl ?_
 refine A7 rfl (BA c14 rfl rfl) ?_
 refine A7 rfl rfl ?_
 cases AB h
 exact (cn rfl rfl rfl rfl)
 iterate 3 refine BK (gn rfl c14) ?_
 refine A7 rfl (AZ c14 rfl rfl) ?_
 refine A7 rfl rfl ?_
 obtain rfl := AB h
 exact (cn rfl rfl rfl rfl)
 iterate 3 refine BK (gn rfl c13) ?_
 refine A7 rfl (AZ c13 rfl rfl) ?_
 refine A7 rfl rfl ?_
 iterate 3 refine BK rfl ?_
 iterate 2 refine A7 rfl rfl ?_
 obtain rfl := AB h
 exact (cn rfl rfl rfl rfl)
 iterate 3 refine BK (gn rfl c12) ?_
 refine A7 rfl (AZ c12 rfl rfl) ?_
 refine A7 rfl rfl ?_
 iterate 3 refine BK rfl ?_
 iterate 2 refine A7 rfl rfl ?_
 iterate 3 refine BK rfl ?_
 iterate 2 refine A7 rfl rfl ?_
 obtain rfl := AB h
 exact (cn rfl rfl rfl rfl)
 iterate 4 refine BK (gn rfl c11) ?_
 refine A7 rfl (AZ c11 rfl rfl) ?_
 refine A7 rfl rfl ?_
 iterate 3 refine BK rfl ?_
 iterate 2 refine A7 rfl rfl ?_
 iterate 3 refine BK rfl ?_
 iterate 2 refine A7 rfl rfl ?_
 iterate 3 refine BK rfl ?_
 iterate 2 refine A7 rfl rfl ?_
 obtain rfl := AB h
 exact (cn rfl rfl rfl rfl)
 clear rU
 obtain rfl := AB h
 refine BS ?_
 exact ⟨nofun, rfl, rfl⟩
 refine AJ ?_
 refine AC ?_
 iterate 2 refine A7 rfl rfl ?_
 refine D8 h rfl (fun c15 h => ?_) (fun c15 h => ?_)
 obtain ⟨g16, rT, h⟩ := AL h
 refine F9 ⟨AY [(2, .bool g16)], AY []⟩ ?_ ?_
 have h := rT
 refine AC ?_
 refine A7 rfl rfl ?_
 refine A7 (p := .agg [.int .i64 a0.ID.Time, .int .i64 a0.ID.Seq, .int .i64 a0.ID.Rep]) rfl rfl ?_
 obtain ⟨x75, Vf, h⟩ := AL h
 refine CS rfl (CG (SX N _ _ Vf) rfl (.cons A9 .nil) rfl rfl rfl) ?_
 iterate 2 refine A7 rfl rfl ?_
 rcases BO h with ⟨c17, h⟩ | ⟨c17, h⟩
 iterate 2 refine A7 (gy rfl c17) rfl ?_
 refine A7 (p := .agg [.int .i64 a0.ID.Time, .int .i64 a0.ID.Seq, .int .i64 a0.ID.Rep]) (gy rfl c17) rfl ?_
 refine wn (UY 16001 rfl rfl rfl) ?_
 obtain ⟨x81, Gc, h⟩ := AL h
 refine CS (gy rfl c17) (ZY (MG N _ _ _ Gc) rfl rfl rfl (.cons A9 (.cons A9 .nil)) rfl rfl rfl) ?_
 refine A7 rfl (BA c17 rfl rfl) ?_
 refine A7 rfl rfl ?_
 rcases BO h with ⟨c18, h⟩ | ⟨c18, h⟩
 refine A7 (gy rfl c18) rfl ?_
 refine A7 rfl (BA c18 rfl rfl) ?_
 refine A7 rfl rfl ?_
 rcases BO h with ⟨c19, h⟩ | ⟨c19, h⟩
 refine A7 (p := .ep [.sl 3 (List.map AU a0.Mods)]) (gy rfl c19) rfl ?_
 refine A7 (gy rfl c19) rfl ?_
 refine A7 (gy rfl c19) (BV rfl) ?_
 refine A7 (gy rfl c19) rfl ?_
 refine A7 rfl (BA c19 rfl rfl) ?_
 refine A7 rfl rfl ?_
 cases AB h
 exact (cn rfl rfl rfl rfl)
 iterate 4 refine BK (gn rfl c19) ?_
 refine A7 rfl (AZ c19 rfl rfl) ?_
 refine A7 rfl rfl ?_
 obtain rfl := AB h
 exact (cn rfl rfl rfl rfl)
 refine BK (gn rfl c18) ?_
 refine A7 rfl (AZ c18 rfl rfl) ?_
 refine A7 rfl rfl ?_
 iterate 4 refine BK rfl ?_
 iterate 2 refine A7 rfl rfl ?_
 obtain rfl := AB h
 exact (cn rfl rfl rfl rfl)
 iterate 4 refine BK (gn rfl c17) ?_
 refine A7 rfl (AZ c17 rfl rfl) ?_
 refine A7 rfl rfl ?_
 refine BK rfl ?_
 iterate 2 refine A7 rfl rfl ?_
 iterate 4 refine BK rfl ?_
 iterate 2 refine A7 rfl rfl ?_
 obtain rfl := AB h
 exact (cn rfl rfl rfl rfl)
 clear rT
 obtain rfl := AB h
 refine BS ?_
 exact ⟨nofun, rfl, rfl⟩
 refine AJ ?_
 refine AC ?_
 iterate 2 refine A7 rfl rfl ?_
 refine D8 h rfl (fun c20 h => ?_) (fun c20 h => ?_)
 obtain ⟨g21, hg21, h⟩ := AL h
 refine F9 ⟨AY [(2, .bool g21)], AY []⟩ ?_ ?_
 have h := hg21
 refine AC ?_
 iterate 2 refine A7 rfl rfl ?_
 refine A7 (p := .agg [.int .i64 a0.ID.Time, .int .i64 a0.ID.Seq, .int .i64 a0.ID.Rep]) rfl rfl ?_
 refine wn (UY 16001 rfl rfl rfl) ?_
 obtain ⟨x97, hx97, h⟩ := AL h
 refine CS rfl (ZY (MG N _ _ _ hx97) rfl rfl rfl (.cons A9 (.cons A9 .nil)) rfl rfl rfl) ?_
 refine A7 rfl rfl ?_
 rcases BO h with ⟨c22, h⟩ | ⟨c22, h⟩
 refine A7 (gy rfl c22) rfl ?_
 refine A7 rfl (BA c22 rfl rfl) ?_
 refine A7 rfl rfl ?_
 rcases BO h with ⟨c23, h⟩ | ⟨c23, h⟩
 refine A7 (p := .ep [.sl 3 (List.map AU a0.Mods)]) (gy rfl c23) rfl ?_
 refine A7 (gy rfl c23) rfl ?_
 refine A7 (gy rfl c23) (BV rfl) ?_
 refine A7 (gy rfl c23) rfl ?_
 refine A7 rfl (BA c23 rfl rfl) ?_
 refine A7 rfl rfl ?_
 rcases BO h with ⟨c24, h⟩ | ⟨c24, h⟩
 refine A7 (p := .ep [.sl 3 (List.map AU a0.Mods)]) (gy rfl c24) rfl ?_
 refine A7 (gy rfl c24) rfl ?_
 obtain ⟨x110, hx110, h⟩ := AL h
 refine CS (gy rfl c24) (CG (UL N _ _ _ hx110) rfl (.cons A9 (.cons A9 .nil)) rfl rfl rfl) ?_
 refine A7 rfl (BA c24 rfl rfl) ?_
 refine A7 rfl rfl ?_
 obtain rfl := AB h
 exact (cn rfl rfl rfl rfl)
 iterate 3 refine BK (gn rfl c24) ?_
 refine A7 rfl (AZ c24 rfl rfl) ?_
 refine A7 rfl rfl ?_
 obtain rfl := AB h
 exact (cn rfl rfl rfl rfl)
 iterate 4 refine BK (gn rfl c23) ?_
 refine A7 rfl (AZ c23 rfl rfl) ?_
 refine A7 rfl rfl ?_
 iterate 3 refine BK rfl ?_
 iterate 2 refine A7 rfl rfl ?_
 obtain rfl := AB h
 exact (cn rfl rfl rfl rfl)
 refine BK (gn rfl c22) ?_
 refine A7 rfl (AZ c22 rfl rfl) ?_
 refine A7 rfl rfl ?_
 iterate 4 refine BK rfl ?_
 iterate 2 refine A7 rfl rfl ?_
 iterate 3 refine BK rfl ?_
 iterate 2 refine A7 rfl rfl ?_
 obtain rfl := AB h
 exact (cn rfl rfl rfl rfl)
 clear hg21
 obtain rfl := AB h
 refine BS ?_
 exact ⟨nofun, rfl, rfl⟩
 refine AJ ?_
 refine AC ?_
 iterate 2 refine A7 rfl rfl ?_
 refine D8 h rfl (fun Nz h => ?_) (fun Nz h => ?_)
 obtain ⟨g26, hg26, h⟩ := AL h
 refine F9 ⟨AY [(2, .bool g26)], AY []⟩ ?_ ?_
 have h := hg26
 refine AC ?_
 refine A7 rfl rfl ?_
 refine A7 (p := .agg [.int .i64 a0.ID.Time, .int .i64 a0.ID.Seq, .int .i64 a0.ID.Rep]) rfl rfl ?_
 obtain ⟨lC, rQ, h⟩ := AL h
 refine CS rfl (CG (SX N _ _ rQ) rfl (.cons A9 .nil) rfl rfl rfl) ?_
 iterate 2 refine A7 rfl rfl ?_
 rcases BO h with ⟨Ny, h⟩ | ⟨Ny, h⟩
 iterate 2 refine A7 (gy rfl Ny) rfl ?_
 refine A7 (p := .agg [.int .i64 a0.ID.Time, .int .i64 a0.ID.Seq, .int .i64 a0.ID.Rep]) (gy rfl Ny) rfl ?_
 refine wn (UY 16001 rfl rfl rfl) ?_
 obtain ⟨LF, rP, h⟩ := AL h
 refine CS (gy rfl Ny) (ZY (MG N _ _ _ rP) rfl rfl rfl (.cons A9 (.cons A9 .nil)) rfl rfl rfl) ?_
 refine A7 rfl (BA Ny rfl rfl) ?_
 refine A7 rfl rfl ?_
 rcases BO h with ⟨c28, h⟩ | ⟨c28, h⟩
 refine A7 (gy rfl c28) rfl ?_
 refine A7 (p := .ep [.int .i64 a0.Parent.Time, .int .i64 a0.Parent.Seq, .int .i64 a0.Parent.Rep, .sl 2 (List.map AV a0.RDN), .bool a0.DelOld, .sl 3 (List.map AU a0.Mods)]) (gy rfl c28) rfl ?_
 refine A7 (p := .agg [.int .i64 a0.Parent.Time, .int .i64 a0.Parent.Seq, .int .i64 a0.Parent.Rep]) (gy rfl c28) rfl ?_
 obtain ⟨x128, hx128, h⟩ := AL h
 refine CS (gy rfl c28) (ZY (MG N _ _ _ hx128) rfl rfl rfl (.cons A9 (.cons A9 .nil)) rfl rfl rfl) ?_
 refine A7 rfl (BA c28 rfl rfl) ?_
 refine A7 rfl rfl ?_
 rcases BO h with ⟨tF, h⟩ | ⟨tF, h⟩
 refine A7 (p := .ep [.sl 2 (List.map AV a0.RDN), .bool a0.DelOld, .sl 3 (List.map AU a0.Mods)]) (gy rfl tF) rfl ?_
 refine A7 (gy rfl tF) rfl ?_
 obtain ⟨x133, hx133, h⟩ := AL h
 refine CS (gy rfl tF) (CG (WC N _ _ hx133) rfl (.cons A9 .nil) rfl rfl rfl) ?_
 refine A7 rfl (BA tF rfl rfl) ?_
 refine A7 rfl rfl ?_
 rcases BO h with ⟨yR, h⟩ | ⟨yR, h⟩
 refine A7 (p := .ep [.sl 3 (List.map AU a0.Mods)]) (gy rfl yR) rfl ?_
 refine A7 (gy rfl yR) rfl ?_
 refine A7 (gy rfl yR) (BV rfl) ?_
 refine A7 (gy rfl yR) rfl ?_
 refine A7 rfl (BA yR rfl rfl) ?_
 refine A7 rfl rfl ?_
 cases AB h
 exact (cn rfl rfl rfl rfl)
 iterate 4 refine BK (gn rfl yR) ?_
 refine A7 rfl (AZ yR rfl rfl) ?_
 refine A7 rfl rfl ?_
 obtain rfl := AB h
 exact (cn rfl rfl rfl rfl)
 iterate 3 refine BK (gn rfl tF) ?_
 refine A7 rfl (AZ tF rfl rfl) ?_
 refine A7 rfl rfl ?_
 iterate 4 refine BK rfl ?_
 iterate 2 refine A7 rfl rfl ?_
 obtain rfl := AB h
 exact (cn rfl rfl rfl rfl)
 iterate 4 refine BK (gn rfl c28) ?_
 refine A7 rfl (AZ c28 rfl rfl) ?_
 refine A7 rfl rfl ?_
 iterate 3 refine BK rfl ?_
 iterate 2 refine A7 rfl rfl ?_
 iterate 4 refine BK rfl ?_
 iterate 2 refine A7 rfl rfl ?_
 obtain rfl := AB h
 exact (cn rfl rfl rfl rfl)
 iterate 4 refine BK (gn rfl Ny) ?_
 refine A7 rfl (AZ Ny rfl rfl) ?_
 refine A7 rfl rfl ?_
 iterate 4 refine BK rfl ?_
 iterate 2 refine A7 rfl rfl ?_
 iterate 3 refine BK rfl ?_
 iterate 2 refine A7 rfl rfl ?_
 iterate 4 refine BK rfl ?_
 iterate 2 refine A7 rfl rfl ?_
 obtain rfl := AB h
 exact (cn rfl rfl rfl rfl)
 clear hg26
 obtain rfl := AB h
 refine BS ?_
 exact ⟨nofun, rfl, rfl⟩
 refine BF ?_
 refine AJ ?_
 refine AC ?_
 refine A7 rfl rfl ?_
 obtain rfl := AB h
 refine BS ?_
 exact ⟨nofun, rfl, rfl⟩
end Go.Gp
end
section
set_option linter.unusedVariables false
set_option linter.unusedSimpArgs false
set_option maxRecDepth 4000
namespace Go.Gp
open Go.Vd Go.RowKit Go.Proofs
def k19 : IC := (.seq (.reg [jn 4 (.box 52 (.c (.agg [(.int .u8 0), (.str []), .nl])))]) (.seq (.reg [jm 5 0, jm 6 1, jn 7 (.build [(.int .u8 0), (.str []), .nl] [(0, (1, (.t 5))), (1, (1, (.t 6)))]), js 3 4 7]) .ret))
theorem Ul : BX Tryz.prog Tryz.f19 = some ⟨8, k19, [(.cell 3 true 4)]⟩ := by kernel_rfl
theorem L6 (N : Nat) (a0 : UInt8) (a1 : List UInt8) (r : A8) (h : J5 N a0 a1 = some r) : Sat Tryz.prog 19 AO [eb a0, .str a1] (AA r) AO := by
 refine DT mixed Tryz.func19 Ul (rs := [AA r]) rfl rfl ?_
 refine AJ ?_
 refine AC ?_
 refine CS rfl (FZ 30404 rfl rfl rfl rfl rfl) ?_
 refine AJ ?_
 refine AC ?_
 iterate 2 refine A7 rfl rfl ?_
 refine A7 (p := .agg [eb a0, .str a1, .nl]) rfl rfl ?_
 refine Br (KN 7 (LM (.cons A9 (.cons A9 (.cons (FV 3) .nil))) rfl) rfl) ?_
 refine F3 (e' := .agg [eb a0, .str a1, .sl 3 (List.map AA [])]) rfl rfl rfl rfl rfl rfl rfl rfl nofun rfl ?_
 cases AB h
 refine BS ?_
 exact ⟨nofun, rfl, rfl⟩
def Fb : IC := (.seq (.block 1 (.seq (.reg [jc 5 (j6 0)]) (.seq (.seq (.reg [jm 13 3, jn 14 (.ixp 1 (.t 13) (ji 0)), jl 15 1 14, jn 16 (.bin .and (.t 15) (.c (.int .u8 128))), jn 17 (.bin .neq (.t 16) (.c (.int .u8 0)))]) (.cond (.t 17) (.reg [jc 5 (j6 (-1))]) .skip)) (.seq (.seq (.reg [jm 18 4, jm 19 5, jb .eql 20 18 19]) (.cond (.t 20) (.seq (.reg [jm 21 3, jn 22 (.cvb (.t 21)), jm 2 22]) .ret) .skip)) (.reg [jm 23 4, jn 24 (.cvi .u8 (.t 23)), jn 25 (.bsl 1 [(.t 24)]), jm 26 3, jn 27 (.app 5 1 1 (.t 25) (.t 26)), jm 3 27]))))) (.reg [jm 11 4, jn 12 (.bin .shr (.t 11) (.c (.int .u64 8))), jm 4 12]))
def k46 : IC := (.seq (.reg [jc 2 (.str [])]) (.seq (.reg [jm 6 0, jn 7 (.cvi .u8 (.t 6)), jn 8 (.bsl 1 [(.t 7)]), jm 3 8]) (.seq (.reg [jm 9 0, jn 10 (.bin .shr (.t 9) (.c (.int .u64 8))), jm 4 10]) (.block 0 (.loop Fb)))))
theorem Tj : BX Tryz.prog Tryz.f46 = some ⟨28, k46, [(.tmp 2)]⟩ := by kernel_rfl
theorem iG (N : Nat) : ∀ (n : Nat) (x : Int × List UInt8) (y : List UInt8), PY N n x = some y → WX Tryz.prog (fun _ => false) (.loop Fb) ((fun (x : Int × List UInt8) => ⟨AY [(3, .slr 74403 0 x.2.length), (4, .int .i64 x.1)], AY [(74403, ⟨1, true, List.map eb x.2⟩)]⟩) x) ((fun y e s => e = .ret ∧ s = ⟨AY [(2, .str y)], AY []⟩ : (List UInt8) → Xt → St → Prop) y) := by
 refine EQ _ _ (PY N) (Y7 N) (fun _ => rfl) (fun _ _ => rfl) ?_
 rintro rec ⟨iL, JQ⟩ y h
 refine AJ ?_
 refine C9 ?_
 refine AJ ?_
 refine AC ?_
 refine A7 rfl rfl ?_
 refine QO (fun (x : Int) => ⟨AY [(3, .slr 74403 0 JQ.length), (4, .int .i64 iL), (5, .int .i64 x)], AY [(74403, ⟨1, true, List.map eb JQ⟩)]⟩) (fun x => V8 iL JQ rec x = some y) ?_ ?_
 rintro Om h
 iterate 2 refine AJ ?_
 refine AC ?_
 iterate 3 refine A7 rfl rfl ?_
 refine D8 h rfl (fun c1 h => ?_) (fun c1 h => ?_)
 refine AJ ?_
 refine AC ?_
 refine A7 rfl rfl ?_
 refine A7 rfl (VH (l := JQ) rfl rfl (BR (f := eb) (l := JQ))) ?_
 refine A7 rfl rfl ?_
 obtain rfl := AB h
 exact DU (st1 := ⟨AY [(2, .str JQ)], AY []⟩) (cn rfl rfl rfl rfl) ⟨rfl, rfl⟩
 refine BF ?_
 refine AC ?_
 refine A7 rfl rfl ?_
 refine A7 rfl (YD rfl) ?_
 refine CS rfl (SB 73625 rfl rfl rfl) ?_
 refine A7 rfl rfl ?_
 obtain ⟨x27, hx27, h⟩ := AL h
 refine UC (f := eb) 73627 hx27 rfl rfl rfl rfl rfl (KA rfl (BR (f := eb) (l := JQ))) rfl rfl rfl rfl ?_
 refine A7 rfl rfl ?_
 refine AC ?_
 refine A7 rfl rfl ?_
 refine A7 rfl (Dx (by decide) rfl rfl) ?_
 refine A7 rfl rfl ?_
 exact ⟨((qC iL 8), x27), (CB.trans ((cn (st := _) (l := [(3, .slr 73627 0 x27.length), (4, .int .i64 (qC iL 8))]) (m := [(73627, ⟨1, true, List.map eb x27⟩)]) rfl rfl rfl rfl)) (CB.trans (rename 73627 74403 rfl rfl) (cn rfl rfl rfl rfl))), h⟩
 refine AJ ?_
 refine AC ?_
 refine A7 rfl rfl ?_
 obtain ⟨OB, SF, h⟩ := AL h
 refine A7 rfl (QA SF rfl rfl rfl rfl) ?_
 obtain ⟨N7, SE, h⟩ := AL h
 refine A7 rfl (UM (f := eb) (v := eb N7) SE rfl rfl rfl) ?_
 refine A7 rfl (Z6 (a := N7) (b := (128 : UInt8)) rfl rfl) ?_
 refine A7 (p := .bool ((((N7 &&& (128 : UInt8))).toNat : Int) != (0 : Int))) rfl rfl ?_
 refine D8 h rfl (fun c2 h => ?_) (fun c2 h => ?_)
 refine AC ?_
 refine A7 rfl rfl ?_
 exact ⟨(-1), (cn rfl rfl rfl rfl), h⟩
 refine BF ?_
 exact ⟨0, (cn rfl rfl rfl rfl), h⟩
theorem ZV (N : Nat) (a0 : Int) (r : List UInt8) (h : VU N a0 = some r) : Sat Tryz.prog 46 AO [.int .i64 a0] (.str r) AO := by
 refine DT mixed Tryz.func46 Tj (rs := [.str r]) rfl rfl ?_
 refine AJ ?_
 refine AC ?_
 refine A7 rfl rfl ?_
 refine AJ ?_
 refine AC ?_
 refine A7 rfl rfl ?_
 refine A7 rfl (YD rfl) ?_
 refine CS rfl (SB 73608 rfl rfl rfl) ?_
 refine A7 rfl rfl ?_
 refine AJ ?_
 refine AC ?_
 refine A7 rfl rfl ?_
 refine A7 rfl (Dx (by decide) rfl rfl) ?_
 refine A7 rfl rfl ?_
 refine C9 ?_
 obtain ⟨y3, hy3, h⟩ := AL h
 refine PT (iG N N _ _ hy3) (CB.trans (rename 73608 74403 rfl rfl) (cn rfl rfl rfl rfl)) ?_
 rintro e s ⟨rfl, rfl⟩
 obtain rfl := AB h
 exact ⟨nofun, rfl, rfl⟩
def k20 : IC := (.seq (.reg [jn 4 (.box 52 (.c (.agg [(.int .u8 0), (.str []), .nl])))]) (.seq (.reg [jm 5 0, jm 6 1, jn 7 (.call 46 [(.t 6)]), jn 8 (.call 19 [(.t 5), (.t 7)]), js 3 4 8]) .ret))
theorem Uk : BX Tryz.prog Tryz.f20 = some ⟨9, k20, [(.cell 3 true 4)]⟩ := by kernel_rfl
theorem VY (N : Nat) (a0 : UInt8) (a1 : Int) (r : A8) (h : PX N a0 a1 = some r) : Sat Tryz.prog 20 AO [eb a0, .int .i64 a1] (AA r) AO := by
 refine DT mixed Tryz.func20 Uk (rs := [AA r]) rfl rfl ?_
 refine AJ ?_
 refine AC ?_
 refine CS rfl (FZ 32004 rfl rfl rfl rfl rfl) ?_
 refine AJ ?_
 refine AC ?_
 iterate 2 refine A7 rfl rfl ?_
 obtain ⟨x7, hx7, h⟩ := AL h
 refine CS rfl (CG (ZV N _ _ hx7) rfl (.cons A9 .nil) rfl rfl rfl) ?_
 obtain ⟨x8, Nb, h⟩ := AL h
 refine CS rfl (CG (L6 N _ _ _ Nb) rfl (.cons A9 (.cons A9 .nil)) rfl rfl rfl) ?_
 refine F3 (e' := AA x8) rfl rfl rfl rfl rfl rfl rfl rfl nofun rfl ?_
 obtain rfl := AB h
 refine BS ?_
 exact ⟨nofun, rfl, rfl⟩
def k21 : IC := (.seq (.reg [jn 4 (.box 52 (.c (.agg [(.int .u8 0), (.str []), .nl])))]) (.seq (.reg [jm 5 0, jm 6 1, jn 7 (.build [(.int .u8 0), (.str []), .nl] [(0, (1, (.t 5))), (2, (1, (.t 6)))]), js 3 4 7]) .ret))
theorem Uj : BX Tryz.prog Tryz.f21 = some ⟨8, k21, [(.cell 3 true 4)]⟩ := by kernel_rfl
theorem Q4 (N : Nat) (a0 : UInt8) (a1 : List A8) (r : A8) (h : OX N a0 a1 = some r) : Sat Tryz.prog 21 AO [eb a0, .sl 3 (List.map AA a1)] (AA r) AO := by
 refine DT mixed Tryz.func21 Uj (rs := [AA r]) rfl rfl ?_
 refine AJ ?_
 refine AC ?_
 refine CS rfl (FZ 33604 rfl rfl rfl rfl rfl) ?_
 refine AJ ?_
 refine AC ?_
 iterate 2 refine A7 rfl rfl ?_
 refine A7 (p := .agg [eb a0, .str ([] : List UInt8), .sl 3 (List.map AA a1)]) rfl rfl ?_
 refine F3 (e' := .agg [eb a0, .str ([] : List UInt8), .sl 3 (List.map AA a1)]) rfl rfl rfl rfl rfl rfl rfl rfl nofun rfl ?_
 cases AB h
 refine BS ?_
 exact ⟨nofun, rfl, rfl⟩
def k50 : IC := (.seq (.reg [jn 1 (.box 23 (.t 0)), jc 2 (.str [])]) (.seq (.regd 14 [ja 3 0 1, jl 4 1 3, jn 5 (.call 70 [(.t 4), (ji 10)]), jn 6 (.bin .add (.t 5) (.c (.str [46]))), ja 7 1 1, jl 8 1 7, jn 9 (.call 71 [(.t 8)]), jb .add 10 6 9, jn 11 (.bin .add (.t 10) (.c (.str [46]))), ja 12 2 1, jl 13 1 12, jn 14 (.call 71 [(.t 13)]), jb .add 15 11 14, jm 2 15]) .ret))
theorem Te : BX Tryz.prog Tryz.f50 = some ⟨16, k50, [(.tmp 2)]⟩ := by kernel_rfl
theorem d9 (N : Nat) (a0 : AR) (r : List UInt8) (h : YQ N a0 = some r) : Sat Tryz.prog 50 AO [F7 a0] (.str r) AO := by
 refine DT mixed Tryz.func50 Te (rs := [.str r]) rfl rfl ?_
 refine AJ ?_
 refine AC ?_
 refine CS rfl (FZ 80001 rfl rfl rfl rfl rfl) ?_
 refine A7 rfl rfl ?_
 refine AJ ?_
 refine OD ?_
 iterate 2 refine DL rfl rfl ?_
 obtain ⟨x5, hx5, h⟩ := AL h
 refine TF rfl (MP (XZ N _ _ _ hx5) rfl (.cons A9 (.cons A9 .nil)) rfl rfl rfl) CP ?_
 obtain ⟨x6, hx6, h⟩ := AL h
 refine DL rfl (mO hx6 rfl rfl) ?_
 iterate 2 refine DL rfl rfl ?_
 obtain ⟨x9, Na, h⟩ := AL h
 refine TF rfl (MP (VZ N _ _ Na) rfl (.cons A9 .nil) rfl rfl rfl) CP ?_
 obtain ⟨R9, VK, h⟩ := AL h
 refine DL rfl (mO VK rfl rfl) ?_
 obtain ⟨KW, aW, h⟩ := AL h
 refine DL rfl (mO aW rfl rfl) ?_
 iterate 2 refine DL rfl rfl ?_
 obtain ⟨OB, SF, h⟩ := AL h
 refine TF rfl (MP (VZ N _ _ SF) rfl (.cons A9 .nil) rfl rfl rfl) CP ?_
 obtain ⟨N7, SE, h⟩ := AL h
 refine DL rfl (mO SE rfl rfl) ?_
 refine DL rfl rfl ?_
 obtain rfl := AB h
 refine BS ?_
 exact ⟨nofun, rfl, rfl⟩
def k23 : IC := (.seq (.reg [jn 1 (.box 23 (.t 0)), jn 2 (.box 52 (.c (.agg [(.int .u8 0), (.str []), .nl])))]) (.seq (.reg [jg 3 3 1, jn 4 (.call 50 [(.t 3)]), jn 5 (.call 19 [(.c (.int .u8 4)), (.t 4)]), js 3 2 5]) .ret))
theorem Uh : BX Tryz.prog Tryz.f23 = some ⟨6, k23, [(.cell 3 true 2)]⟩ := by kernel_rfl
theorem Q6 (N : Nat) (a0 : AR) (r : A8) (h : ML N a0 = some r) : Sat Tryz.prog 23 AO [F7 a0] (AA r) AO := by
 refine DT mixed Tryz.func23 Uh (rs := [AA r]) rfl rfl ?_
 refine AJ ?_
 refine AC ?_
 refine CS rfl (FZ 36801 rfl rfl rfl rfl rfl) ?_
 refine CS rfl (FZ 36802 rfl rfl rfl rfl rfl) ?_
 refine AJ ?_
 refine AC ?_
 refine A7 (p := F7 a0) rfl rfl ?_
 obtain ⟨x4, hx4, h⟩ := AL h
 refine CS rfl (CG (d9 N _ _ hx4) rfl (.cons A9 .nil) rfl rfl rfl) ?_
 obtain ⟨x5, hx5, h⟩ := AL h
 refine CS rfl (CG (L6 N _ _ _ hx5) rfl (.cons A9 (.cons A9 .nil)) rfl rfl rfl) ?_
 refine F3 (e' := AA x5) rfl rfl rfl rfl rfl rfl rfl rfl nofun rfl ?_
 obtain rfl := AB h
 refine BS ?_
 exact ⟨nofun, rfl, rfl⟩
def k68 : IC := (.seq (.reg [jn 1 (.box 52 (.t 0)), jc 2 (.bool false)]) (.seq (.reg [jg 3 3 1, jn 4 (.call 47 [(.t 3)]), jn 5 (.un .not (.t 4)), jm 2 5]) .ret))
theorem Sg : BX Tryz.prog Tryz.f68 = some ⟨6, k68, [(.tmp 2)]⟩ := by kernel_rfl
theorem eX (N : Nat) (KR : A8 → Option (Bool)) (VL : ∀ (a0 : A8) (r : Bool), KR a0 = some r → Sat Tryz.prog 47 AO [AA a0] (.bool r) AO) (a0 : A8) (r : Bool) (h : XF N KR a0 = some r) : Sat Tryz.prog 68 AO [AA a0] (.bool r) AO := by
 refine DT mixed Tryz.func68 Sg (rs := [.bool r]) rfl rfl ?_
 refine AJ ?_
 refine AC ?_
 refine CS rfl (FZ 108801 rfl rfl rfl rfl rfl) ?_
 refine A7 rfl rfl ?_
 refine AJ ?_
 refine AC ?_
 refine A7 (p := AA a0) rfl rfl ?_
 obtain ⟨x4, hx4, h⟩ := AL h
 refine CS rfl (CG (VL _ _ hx4) rfl (.cons A9 .nil) rfl rfl rfl) ?_
 iterate 2 refine A7 rfl rfl ?_
 cases AB h
 refine BS ?_
 exact ⟨nofun, rfl, rfl⟩
def mV : IC := (.seq (.reg [jb .lss 9 8 7]) (.seq (.cond (.t 9) .skip (.exit 0)) (.seq (.block 1 (.seq (.reg [jm 10 8, jm 5 10]) (.seq (.reg [jm 11 1, jm 12 0, jm 13 5, jx 14 3 12 13, jg 15 3 14, jn 16 (.calv (.t 11) [(.t 15)])]) (.cond (.t 16) (.seq (.reg [jm 17 5, jm 4 17]) .ret) .skip)))) (.reg [ju .add 18 8 1, jm 8 18]))))
def Rj : IC := (.seq (.reg [jc 4 (j6 0)]) (.seq (.seq (.reg [jm 6 0, jL 7 6, jc 8 (j6 0)]) (.block 0 (.loop mV))) (.seq (.reg [jc 4 (j6 (-1))]) .ret)))
theorem zX : BX Tryz.prog Tryz.f90 = some ⟨19, Rj, [(.tmp 4)]⟩ := by kernel_rfl
theorem H9 (N : Nat) (KR : A8 → Option (Bool)) (VL : ∀ (a0 : A8) (r : Bool), KR a0 = some r → Sat Tryz.prog 47 AO [AA a0] (.bool r) AO) (a0 : List A8) : ∀ (n : Nat) (x : Int) (y : Unit ⊕ Int), BJ N KR a0 n x = some y → WX Tryz.prog (fun _ => false) (.loop mV) ((fun (x : Int) => ⟨AY [(0, .sl 3 (List.map AA a0)), (1, .clo 68 []), (7, .int .i64 (a0.length : Int)), (8, .int .i64 x)], AY []⟩) x) ((Sum.elim (fun y e s => e = .exit 0 ∧ s = ⟨AY [], AY []⟩) (fun y e s => e = .ret ∧ s = ⟨AY [(4, .int .i64 y)], AY []⟩) : (Unit ⊕ Int) → Xt → St → Prop) y) := by
 refine EQ _ _ (BJ N KR a0) (CE N KR a0) (fun _ => rfl) (fun _ _ => rfl) ?_
 rintro rec v8l6 y h
 refine AJ ?_
 refine AC ?_
 refine A7 rfl rfl ?_
 refine AJ ?_
 refine D8 h rfl (fun c1 h => ?_) (fun c1 h => ?_)
 refine BF ?_
 refine AJ ?_
 refine C9 ?_
 refine AJ ?_
 refine AC ?_
 iterate 2 refine A7 rfl rfl ?_
 refine AJ ?_
 refine AC ?_
 iterate 3 refine A7 rfl rfl ?_
 obtain ⟨OB, SF, h⟩ := AL h
 refine A7 rfl (DK (cs := [eb OB.Tag, .str OB.Body, .sl 3 OB.Kids]) SF rfl rfl rfl) ?_
 refine A7 (p := AA OB) rfl rfl ?_
 obtain ⟨Y4, hx16, h⟩ := AL h
 refine CS rfl (ZY (eX N KR VL _ _ hx16) rfl rfl rfl (.cons A9 .nil) rfl rfl rfl) ?_
 refine D8 h rfl (fun c2 h => ?_) (fun c2 h => ?_)
 refine AJ ?_
 refine AC ?_
 iterate 2 refine A7 rfl rfl ?_
 obtain rfl := AB h
 exact DU (st1 := ⟨AY [(4, .int .i64 v8l6)], AY []⟩) (cn rfl rfl rfl rfl) ⟨rfl, rfl⟩
 refine BF ?_
 refine AC ?_
 refine A7 (p := .int .i64 (BQ (v8l6 + (1 : Int)))) rfl rfl ?_
 refine A7 rfl rfl ?_
 exact ⟨(BQ (v8l6 + (1 : Int))), (cn rfl rfl rfl rfl), h⟩
 cases AB h
 exact CW (st1 := ⟨AY [], AY []⟩) (cn rfl rfl rfl rfl) ⟨rfl, rfl⟩
theorem I4 (N : Nat) (KR : A8 → Option (Bool)) (VL : ∀ (a0 : A8) (r : Bool), KR a0 = some r → Sat Tryz.prog 47 AO [AA a0] (.bool r) AO) (a0 : List A8) (r : Int) (h : DF N KR a0 = some r) : Sat Tryz.prog 90 AO [.sl 3 (List.map AA a0), .clo 68 []] (.int .i64 r) AO := by
 refine DT mixed Tryz.func90 zX (rs := [.int .i64 r]) rfl rfl ?_
 refine AJ ?_
 refine AC ?_
 refine A7 rfl rfl ?_
 iterate 2 refine AJ ?_
 refine AC ?_
 refine A7 rfl rfl ?_
 refine A7 rfl (BV rfl) ?_
 refine A7 rfl rfl ?_
 refine C9 ?_
 obtain ⟨y3, hy3, h⟩ := AL h
 refine PT (H9 N KR VL a0 N _ _ hy3) (cn rfl rfl rfl rfl) ?_
 clear hy3
 rcases y3 with y3 | y3
 rintro e s ⟨rfl, rfl⟩
 refine AJ ?_
 refine AC ?_
 refine A7 rfl rfl ?_
 cases AB h
 refine BS ?_
 exact ⟨nofun, rfl, rfl⟩
 rintro e s ⟨rfl, rfl⟩
 obtain rfl := AB h
 exact ⟨nofun, rfl, rfl⟩
def Si : IC := (.seq (.reg [jc 4 (.bool false)]) (.seq (.reg [jm 5 0, jm 6 1, jn 7 (.call 90 [(.t 5), (.t 6)]), ju .geq 8 7 0, jm 4 8]) .ret))
theorem Ab : BX Tryz.prog Tryz.f67 = some ⟨9, Si, [(.tmp 4)]⟩ := by kernel_rfl
theorem GU (N : Nat) (KR : A8 → Option (Bool)) (VL : ∀ (a0 : A8) (r : Bool), KR a0 = some r → Sat Tryz.prog 47 AO [AA a0] (.bool r) AO) (a0 : List A8) (r : Bool) (h : D7 N KR a0 = some r) : Sat Tryz.prog 67 AO [.sl 3 (List.map AA a0), .clo 68 []] (.bool r) AO := by
 refine DT mixed Tryz.func67 Ab (rs := [.bool r]) rfl rfl ?_
 refine AJ ?_
 refine AC ?_
 refine A7 rfl rfl ?_
 refine AJ ?_
 refine AC ?_
 iterate 2 refine A7 rfl rfl ?_
 obtain ⟨x7, hx7, h⟩ := AL h
 refine CS rfl (CG (I4 N KR VL _ _ hx7) rfl (.cons A9 (.cons A9 .nil)) rfl rfl rfl) ?_
 iterate 2 refine A7 rfl rfl ?_
 cases AB h
 refine BS ?_
 exact ⟨nofun, rfl, rfl⟩
def k47 : IC := (.seq (.reg [jn 1 (.box 52 (.t 0)), jc 2 (.bool false)]) (.seq (.block 0 (.seq (.reg [ja 4 0 1, jl 5 1 4, jn 6 (.bin .and (.t 5) (.c (.int .u8 31))), jn 7 (.bin .eql (.t 6) (.c (.int .u8 31))), jm 3 7]) (.cond (.t 3) (.seq (.reg [jc 2 (.bool false)]) .ret) (.seq (.reg [ja 9 0 1, jl 10 1 9, jn 11 (.bin .and (.t 10) (.c (.int .u8 32))), jn 12 (.bin .eql (.t 11) (.c (.int .u8 0))), jm 8 12]) (.cond (.t 8) (.seq (.reg [ja 13 2 1, jl 14 1 13, jL 15 14, ju .eql 16 15 0, jm 2 16]) .ret) .skip))))) (.seq (.reg [ja 17 1 1, jl 18 1 17, jn 19 (.bin .eql (.t 18) (.c (.str []))), jm 20 19, jt 20 21 (.fda 2 (.t 1)), jt 20 22 (.load 1 false (.t 21)), jt 20 23 (.call 67 [(.t 22), (.c (.clo 68 []))]), jt 20 24 (.un .not (.t 23)), jp 25 20 24, jm 2 25]) .ret)))
theorem Ti : BX Tryz.prog Tryz.f47 = some ⟨26, k47, [(.tmp 2)]⟩ := by kernel_rfl
theorem eT (N : Nat) (KR : A8 → Option (Bool)) (VL : ∀ (a0 : A8) (r : Bool), KR a0 = some r → Sat Tryz.prog 47 AO [AA a0] (.bool r) AO) (a0 : A8) (r : Bool) (h : QI N KR a0 = some r) : Sat Tryz.prog 47 AO [AA a0] (.bool r) AO := by
 refine DT mixed Tryz.func47 Ti (rs := [.bool r]) rfl rfl ?_
 refine AJ ?_
 refine AC ?_
 refine CS rfl (FZ 75201 rfl rfl rfl rfl rfl) ?_
 refine A7 rfl rfl ?_
 refine AJ ?_
 refine C9 ?_
 refine AJ ?_
 refine AC ?_
 iterate 2 refine A7 rfl rfl ?_
 refine A7 rfl (Z6 (a := a0.Tag) (b := (31 : UInt8)) rfl rfl) ?_
 refine A7 (p := .bool ((((a0.Tag &&& (31 : UInt8))).toNat : Int) == (31 : Int))) rfl rfl ?_
 refine A7 rfl rfl ?_
 refine D8 h rfl (fun c1 h => ?_) (fun c1 h => ?_)
 refine AJ ?_
 refine AC ?_
 refine A7 rfl rfl ?_
 obtain rfl := AB h
 refine BS ?_
 exact ⟨nofun, rfl, rfl⟩
 refine AJ ?_
 refine AC ?_
 iterate 2 refine A7 rfl rfl ?_
 refine A7 rfl (Z6 (a := a0.Tag) (b := (32 : UInt8)) rfl rfl) ?_
 refine A7 (p := .bool ((((a0.Tag &&& (32 : UInt8))).toNat : Int) == (0 : Int))) rfl rfl ?_
 refine A7 rfl rfl ?_
 refine D8 h rfl (fun c2 h => ?_) (fun c2 h => ?_)
 refine AJ ?_
 refine AC ?_
 refine A7 rfl rfl ?_
 obtain ⟨OB, SF, h⟩ := AL h
 refine A7 (p := .sl 3 (List.map AA OB)) rfl (congrArg (fun z => some (PV.sl 3 z)) (I7 (e := AA) CL SF)) ?_
 refine A7 rfl (BV rfl) ?_
 iterate 2 refine A7 rfl rfl ?_
 cases AB h
 refine BS ?_
 exact ⟨nofun, rfl, rfl⟩
 refine BF ?_
 obtain ⟨g3, hg3, h⟩ := AL h
 refine F9 ⟨AY [(2, .bool g3)], AY []⟩ ?_ ?_
 have h := hg3
 refine AC ?_
 iterate 4 refine A7 rfl rfl ?_
 rcases BO h with ⟨c4, h⟩ | ⟨c4, h⟩
 refine A7 (gy rfl c4) rfl ?_
 obtain ⟨WO, YF, h⟩ := AL h
 refine A7 (p := .sl 3 (List.map AA WO)) (gy rfl c4) (congrArg (fun z => some (PV.sl 3 z)) (I7 (e := AA) CL YF)) ?_
 obtain ⟨XV, fE, h⟩ := AL h
 refine CS (gy rfl c4) (CG (GU N KR VL _ _ fE) rfl (.cons A9 (.cons A9 .nil)) rfl rfl rfl) ?_
 refine A7 (gy rfl c4) rfl ?_
 refine A7 rfl (BA c4 rfl rfl) ?_
 refine A7 rfl rfl ?_
 cases AB h
 exact (cn rfl rfl rfl rfl)
 iterate 4 refine BK (gn rfl c4) ?_
 refine A7 rfl (AZ c4 rfl rfl) ?_
 refine A7 rfl rfl ?_
 obtain rfl := AB h
 exact (cn rfl rfl rfl rfl)
 clear hg3
 obtain rfl := AB h
 refine BS ?_
 exact ⟨nofun, rfl, rfl⟩
theorem eU (N : Nat) : ∀ (n : Nat) (a0 : A8) (r : Bool) (h : KQ N n a0 = some r), Sat Tryz.prog 47 AO [AA a0] (.bool r) AO := by
 intro n
 induction n with
 | zero => intro a0 r h; cases h
 | succ n ih => intro a0 r h; exact eT N (KQ N n) ih a0 r h
theorem iY (N : Nat) (a0 : A8) (r : Bool) (h : bJ N a0 = some r) : Sat Tryz.prog 47 AO [AA a0] (.bool r) AO := eU N N a0 r h
def Fa : IC := (.seq (.reg [jb .lss 10 9 8]) (.seq (.cond (.t 10) .skip (.exit 0)) (.seq (.block 1 (.seq (.reg [jx 11 3 7 9, jg 12 3 11, jn 5 (.box 52 (.c (.agg [(.int .u8 0), (.str []), .nl]))), js 3 5 12]) (.reg [jm 13 3, jg 14 3 5, jn 15 (.call 48 [(.t 14)]), jn 16 (.mm true (.t 13) [(.t 15)]), jm 3 16]))) (.reg [ju .add 17 9 1, jm 9 17]))))
def k48 : IC := (.seq (.reg [jn 1 (.box 52 (.t 0)), jc 2 (j6 0)]) (.seq (.reg [jc 3 (j6 0)]) (.seq (.seq (.reg [ja 6 2 1, jl 7 1 6, jL 8 7, jc 9 (j6 0)]) (.block 0 (.loop Fa))) (.seq (.reg [jm 18 3, ju .add 19 18 1, jm 2 19]) .ret))))
theorem Tg : BX Tryz.prog Tryz.f48 = some ⟨20, k48, [(.tmp 2)]⟩ := by kernel_rfl
theorem lG (N : Nat) (KR : A8 → Option (Int)) (VL : ∀ (a0 : A8) (r : Int), KR a0 = some r → Sat Tryz.prog 48 AO [AA a0] (.int .i64 r) AO) (x7 : List A8) : ∀ (n : Nat) (x : Int × Int) (y : Int), NS N KR x7 n x = some y → WX Tryz.prog (fun _ => false) (.loop Fa) ((fun (x : Int × Int) => ⟨AY [(3, .int .i64 x.1), (7, .sl 3 (List.map AA x7)), (8, .int .i64 (x7.length : Int)), (9, .int .i64 x.2)], AY []⟩) x) ((fun y e s => e = .exit 0 ∧ s = ⟨AY [(3, .int .i64 y)], AY []⟩ : Int → Xt → St → Prop) y) := by
 refine EQ _ _ (NS N KR x7) (RJ N KR x7) (fun _ => rfl) (fun _ _ => rfl) ?_
 rintro rec ⟨yZ, yY⟩ y h
 refine AJ ?_
 refine AC ?_
 refine A7 rfl rfl ?_
 refine AJ ?_
 refine D8 h rfl (fun c1 h => ?_) (fun c1 h => ?_)
 refine BF ?_
 refine AJ ?_
 refine C9 ?_
 refine AJ ?_
 refine AC ?_
 obtain ⟨KW, aW, h⟩ := AL h
 refine A7 rfl (DK (cs := [eb KW.Tag, .str KW.Body, .sl 3 KW.Kids]) aW rfl rfl rfl) ?_
 refine A7 (p := AA KW) rfl rfl ?_
 refine CS rfl (FZ 76805 rfl rfl rfl rfl rfl) ?_
 refine F3 (e' := AA KW) rfl rfl rfl rfl rfl rfl rfl rfl nofun rfl ?_
 refine AC ?_
 refine A7 rfl rfl ?_
 refine A7 (p := AA KW) rfl rfl ?_
 obtain ⟨N7, SE, h⟩ := AL h
 refine CS rfl (CG (VL _ _ SE) rfl (.cons A9 .nil) rfl rfl rfl) ?_
 refine A7 (p := .int .i64 (mx yZ N7)) rfl rfl ?_
 refine A7 rfl rfl ?_
 refine AC ?_
 refine A7 (p := .int .i64 (BQ (yY + (1 : Int)))) rfl rfl ?_
 refine A7 rfl rfl ?_
 exact ⟨((mx yZ N7), (BQ (yY + (1 : Int)))), (cn rfl rfl rfl rfl), h⟩
 obtain rfl := AB h
 exact CW (st1 := ⟨AY [(3, .int .i64 yZ)], AY []⟩) (cn rfl rfl rfl rfl) ⟨rfl, rfl⟩
theorem iZ (N : Nat) (KR : A8 → Option (Int)) (VL : ∀ (a0 : A8) (r : Int), KR a0 = some r → Sat Tryz.prog 48 AO [AA a0] (.int .i64 r) AO) (a0 : A8) (r : Int) (h : XG N KR a0 = some r) : Sat Tryz.prog 48 AO [AA a0] (.int .i64 r) AO := by
 refine DT mixed Tryz.func48 Tg (rs := [.int .i64 r]) rfl rfl ?_
 refine AJ ?_
 refine AC ?_
 refine CS rfl (FZ 76801 rfl rfl rfl rfl rfl) ?_
 refine A7 rfl rfl ?_
 refine AJ ?_
 refine AC ?_
 refine A7 rfl rfl ?_
 iterate 2 refine AJ ?_
 refine AC ?_
 refine A7 rfl rfl ?_
 obtain ⟨x7, hx7, h⟩ := AL h
 refine A7 (p := .sl 3 (List.map AA x7)) rfl (congrArg (fun z => some (PV.sl 3 z)) (I7 (e := AA) CL hx7)) ?_
 refine A7 rfl (BV rfl) ?_
 refine A7 rfl rfl ?_
 refine C9 ?_
 obtain ⟨y2, hy2, h⟩ := AL h
 refine PT (lG N KR VL x7 N _ _ hy2) (cn rfl rfl rfl rfl) ?_
 rintro e s ⟨rfl, rfl⟩
 refine AJ ?_
 refine AC ?_
 refine A7 rfl rfl ?_
 refine A7 (p := .int .i64 (BQ (y2 + (1 : Int)))) rfl rfl ?_
 refine A7 rfl rfl ?_
 cases AB h
 refine BS ?_
 exact ⟨nofun, rfl, rfl⟩
theorem j3 (N : Nat) : ∀ (n : Nat) (a0 : A8) (r : Int) (h : OZ N n a0 = some r), Sat Tryz.prog 48 AO [AA a0] (.int .i64 r) AO := by
 intro n
 induction n with
 | zero => intro a0 r h; cases h
 | succ n ih => intro a0 r h; exact iZ N (OZ N n) ih a0 r h
theorem nW (N : Nat) (a0 : A8) (r : Int) (h : kX N a0 = some r) : Sat Tryz.prog 48 AO [AA a0] (.int .i64 r) AO := j3 N N a0 r h
def k69 : IC := (.seq (.reg [jc 2 (.str [])]) (.seq (.block 0 (.seq (.reg [jm 4 0, ju .lss 5 4 128, jm 3 5]) (.cond (.t 3) (.seq (.reg [jm 6 0, jn 7 (.cvi .u8 (.t 6)), jn 8 (.bsl 1 [(.t 7)]), jn 9 (.cvb (.t 8)), jm 2 9]) .ret) (.seq (.reg [jm 11 0, ju .lss 12 11 256, jm 10 12]) (.cond (.t 10) (.seq (.reg [jm 13 0, jn 14 (.cvi .u8 (.t 13)), jn 15 (.bsl 1 [(.c (.int .u8 129)), (.t 14)]), jn 16 (.cvb (.t 15)), jm 2 16]) .ret) .skip))))) (.seq (.reg [jm 17 0, jn 18 (.bin .shr (.t 17) (.c (.int .u64 8))), jn 19 (.cvi .u8 (.t 18)), jm 20 0, jn 21 (.cvi .u8 (.t 20)), jn 22 (.bsl 1 [(.c (.int .u8 130)), (.t 19), (.t 21)]), jn 23 (.cvb (.t 22)), jm 2 23]) .ret)))
theorem Sd : BX Tryz.prog Tryz.f69 = some ⟨24, k69, [(.tmp 2)]⟩ := by kernel_rfl
theorem iX (N : Nat) (a0 : Int) (r : List UInt8) (h : XE N a0 = some r) : Sat Tryz.prog 69 AO [.int .i64 a0] (.str r) AO := by
 refine DT mixed Tryz.func69 Sd (rs := [.str r]) rfl rfl ?_
 refine AJ ?_
 refine AC ?_
 refine A7 rfl rfl ?_
 refine AJ ?_
 refine C9 ?_
 refine AJ ?_
 refine AC ?_
 iterate 3 refine A7 rfl rfl ?_
 refine D8 h rfl (fun c1 h => ?_) (fun c1 h => ?_)
 refine AJ ?_
 refine AC ?_
 refine A7 rfl rfl ?_
 refine A7 rfl (YD rfl) ?_
 refine CS rfl (SB 110408 rfl rfl rfl) ?_
 refine A7 rfl (VH (l := [(byte a0)]) rfl rfl (BR (f := eb) (l := [(byte a0)]))) ?_
 refine A7 rfl rfl ?_
 cases AB h
 refine BS ?_
 exact ⟨nofun, rfl, rfl⟩
 refine AJ ?_
 refine AC ?_
 iterate 3 refine A7 rfl rfl ?_
 refine D8 h rfl (fun c2 h => ?_) (fun c2 h => ?_)
 refine AJ ?_
 refine AC ?_
 refine A7 rfl rfl ?_
 refine A7 rfl (YD rfl) ?_
 refine CS rfl (SB 110415 rfl rfl rfl) ?_
 refine A7 rfl (VH (l := [(129 : UInt8), (byte a0)]) rfl rfl (BR (f := eb) (l := [(129 : UInt8), (byte a0)]))) ?_
 refine A7 rfl rfl ?_
 cases AB h
 refine BS ?_
 exact ⟨nofun, rfl, rfl⟩
 refine BF ?_
 refine AJ ?_
 refine AC ?_
 refine A7 rfl rfl ?_
 refine A7 rfl (Dx (by decide) rfl rfl) ?_
 refine A7 rfl (YD rfl) ?_
 refine A7 rfl rfl ?_
 refine A7 rfl (YD rfl) ?_
 refine CS rfl (SB 110422 rfl rfl rfl) ?_
 refine A7 rfl (VH (l := [(130 : UInt8), (byte (qC a0 8)), (byte a0)]) rfl rfl (BR (f := eb) (l := [(130 : UInt8), (byte (qC a0 8)), (byte a0)]))) ?_
 refine A7 rfl rfl ?_
 cases AB h
 refine BS ?_
 exact ⟨nofun, rfl, rfl⟩
def Ez : IC := (.seq (.reg [jb .lss 16 15 14]) (.seq (.cond (.t 16) .skip (.exit 0)) (.seq (.block 1 (.seq (.reg [jx 17 3 13 15, jg 18 3 17, jn 6 (.box 52 (.c (.agg [(.int .u8 0), (.str []), .nl]))), js 3 6 18]) (.seq (.reg [jg 20 3 6, jn 21 (.call 49 [(.t 20)]), jm 19 21, je 22 0 19, je 23 1 19, jm 7 22, jm 8 23]) (.seq (.seq (.reg [jm 24 8, jn 25 (.un .not (.t 24)), jm 26 25, jf 26 27 (.mov (.t 4)), jf 26 28 (.len false (.t 27)), jf 26 29 (.mov (.t 7)), jf 26 30 (.len true (.t 29)), jf 26 31 (.bin .add (.t 28) (.t 30)), jf 26 32 (.bin .gtr (.t 31) (ji 4000)), jo 33 26 32]) (.cond (.t 33) (.seq (.reg [jc 2 (.str []), jc 3 (.bool false)]) .ret) .skip)) (.reg [jm 34 4, jm 35 7, jn 36 (.aps 5 (.t 34) (.t 35)), jm 4 36]))))) (.reg [ju .add 37 15 1, jm 15 37]))))
def k49 : IC := (.seq (.reg [jn 1 (.box 52 (.t 0)), jc 2 (.str []), jc 3 (.bool false)]) (.seq (.reg [ja 9 1 1, jl 10 1 9, jn 11 (.cvs (.t 10)), jm 4 11]) (.seq (.seq (.reg [ja 12 2 1, jl 13 1 12, jL 14 13, jc 15 (j6 0)]) (.block 0 (.loop Ez))) (.seq (.seq (.reg [jm 38 4, jL 39 38, ju .gtr 40 39 4000]) (.cond (.t 40) (.seq (.reg [jc 2 (.str []), jc 3 (.bool false)]) .ret) .skip)) (.seq (.regd 13 [ja 41 0 1, jl 42 1 41, jn 43 (.bsl 1 [(.t 42)]), jn 44 (.cvb (.t 43)), jm 45 4, jL 46 45, jn 47 (.call 69 [(.t 46)]), jb .add 48 44 47, jm 49 4, jn 50 (.cvb (.t 49)), jb .add 51 48 50, jm 2 51, jc 3 (.bool true)]) .ret)))))
theorem Tf : BX Tryz.prog Tryz.f49 = some ⟨52, k49, [(.tmp 2), (.tmp 3)]⟩ := by kernel_rfl
theorem iI (N : Nat) (KR : A8 → Option (List UInt8 × Bool)) (VL : ∀ (a0 : A8) (r : List UInt8 × Bool), KR a0 = some r → Sat Tryz.prog 49 AO [AA a0] (.tup [.str r.1, .bool r.2]) AO) (a0 : A8) (MF : List A8) : ∀ (n : Nat) (x : Int × List UInt8) (y : (List UInt8) ⊕ (List UInt8 × Bool)), ME N KR a0 MF n x = some y → WX Tryz.prog (fun _ => false) (.loop Ez) ((fun (x : Int × List UInt8) => ⟨AY [(1, .ptr 78401 0 0), (4, .slr 79204 0 x.2.length), (13, .sl 3 (List.map AA MF)), (14, .int .i64 (MF.length : Int)), (15, .int .i64 x.1)], AY [(78401, ⟨3, false, [AA a0]⟩), (79204, ⟨1, true, List.map eb x.2⟩)]⟩) x) ((Sum.elim (fun y e s => e = .exit 0 ∧ s = ⟨AY [(1, .ptr 78401 0 0), (4, .slr 79204 0 y.length)], AY [(78401, ⟨3, false, [AA a0]⟩), (79204, ⟨1, true, List.map eb y⟩)]⟩) (fun y e s => e = .ret ∧ s = ⟨AY [(2, .str y.1), (3, .bool y.2)], AY []⟩) : ((List UInt8) ⊕ (List UInt8 × Bool)) → Xt → St → Prop) y) := by
 refine EQ _ _ (ME N KR a0 MF) (QJ N KR a0 MF) (fun _ => rfl) (fun _ _ => rfl) ?_
 rintro rec ⟨TM, Q8⟩ y h
 refine AJ ?_
 refine AC ?_
 refine A7 rfl rfl ?_
 refine AJ ?_
 refine D8 h rfl (fun c1 h => ?_) (fun c1 h => ?_)
 refine BF ?_
 refine AJ ?_
 refine C9 ?_
 refine AJ ?_
 refine AC ?_
 obtain ⟨EC, VJ, h⟩ := AL h
 refine A7 rfl (DK (cs := [eb EC.Tag, .str EC.Body, .sl 3 EC.Kids]) VJ rfl rfl rfl) ?_
 refine A7 (p := AA EC) rfl rfl ?_
 refine CS rfl (FZ 78406 rfl rfl rfl rfl rfl) ?_
 refine F3 (e' := AA EC) rfl rfl rfl rfl rfl rfl rfl rfl nofun rfl ?_
 refine AJ ?_
 refine AC ?_
 refine A7 (p := AA EC) rfl rfl ?_
 obtain ⟨V3, YG, h⟩ := AL h
 refine CS rfl (CG (VL _ _ YG) rfl (.cons A9 .nil) rfl rfl rfl) ?_
 iterate 5 refine A7 rfl rfl ?_
 refine AJ ?_
 obtain ⟨g2, hg2, h⟩ := AL h
 refine F9 ⟨AY [(1, .ptr 78401 0 0), (4, .slr 79204 0 Q8.length), (7, .str V3.1), (13, .sl 3 (List.map AA MF)), (14, .int .i64 (MF.length : Int)), (15, .int .i64 TM), (33, .bool g2)], AY [(78401, ⟨3, false, [AA a0]⟩), (79204, ⟨1, true, List.map eb Q8⟩)]⟩ ?_ ?_
 have h := hg2
 refine AC ?_
 iterate 3 refine A7 rfl rfl ?_
 rcases BO h with ⟨c3, h⟩ | ⟨c3, h⟩
 iterate 6 refine BK (gn rfl c3) ?_
 refine A7 rfl (BA c3 rfl rfl) ?_
 obtain rfl := AB h
 exact (cn rfl rfl rfl rfl)
 iterate 4 refine A7 (gy rfl c3) rfl ?_
 refine A7 (p := .int .i64 (BQ ((Q8.length : Int) + (V3.1.length : Int)))) (gy rfl c3) rfl ?_
 refine A7 (gy rfl c3) rfl ?_
 refine A7 rfl (AZ c3 rfl rfl) ?_
 cases AB h
 exact (cn rfl rfl rfl rfl)
 clear hg2
 refine D8 h rfl (fun c4 h => ?_) (fun c4 h => ?_)
 refine AJ ?_
 refine AC ?_
 iterate 2 refine A7 rfl rfl ?_
 cases AB h
 exact DU (st1 := ⟨AY [(2, .str ([] : List UInt8)), (3, .bool false)], AY []⟩) (cn rfl rfl rfl rfl) ⟨rfl, rfl⟩
 refine BF ?_
 refine AC ?_
 iterate 2 refine A7 rfl rfl ?_
 obtain ⟨Qc, Vt, h⟩ := AL h
 refine waps 78436 Vt rfl rfl rfl rfl rfl rfl rfl rfl ?_
 refine A7 rfl rfl ?_
 refine AC ?_
 refine A7 (p := .int .i64 (BQ (TM + (1 : Int)))) rfl rfl ?_
 refine A7 rfl rfl ?_
 exact ⟨((BQ (TM + (1 : Int))), Qc), (CB.trans (rename 78436 79204 rfl rfl) (cn rfl rfl rfl rfl)), h⟩
 obtain rfl := AB h
 exact CW (st1 := ⟨AY [(1, .ptr 78401 0 0), (4, .slr 79204 0 Q8.length)], AY [(78401, ⟨3, false, [AA a0]⟩), (79204, ⟨1, true, List.map eb Q8⟩)]⟩) (cn rfl rfl rfl rfl) ⟨rfl, rfl⟩
theorem gQ (N : Nat) (KR : A8 → Option (List UInt8 × Bool)) (VL : ∀ (a0 : A8) (r : List UInt8 × Bool), KR a0 = some r → Sat Tryz.prog 49 AO [AA a0] (.tup [.str r.1, .bool r.2]) AO) (a0 : A8) (r : List UInt8 × Bool) (h : UZ N KR a0 = some r) : Sat Tryz.prog 49 AO [AA a0] (.tup [.str r.1, .bool r.2]) AO := by
 refine DT mixed Tryz.func49 Tf (rs := [.str r.1, .bool r.2]) rfl rfl ?_
 refine AJ ?_
 refine AC ?_
 refine CS rfl (FZ 78401 rfl rfl rfl rfl rfl) ?_
 iterate 2 refine A7 rfl rfl ?_
 refine AJ ?_
 refine AC ?_
 iterate 2 refine A7 rfl rfl ?_
 refine CS rfl (qU 78411 rfl rfl) ?_
 refine A7 rfl rfl ?_
 iterate 2 refine AJ ?_
 refine AC ?_
 refine A7 rfl rfl ?_
 obtain ⟨MF, aV, h⟩ := AL h
 refine A7 (p := .sl 3 (List.map AA MF)) rfl (congrArg (fun z => some (PV.sl 3 z)) (I7 (e := AA) CL aV)) ?_
 refine A7 rfl (BV rfl) ?_
 refine A7 rfl rfl ?_
 refine C9 ?_
 obtain ⟨y5, Kb, h⟩ := AL h
 refine PT (iI N KR VL a0 MF N _ _ Kb) (CB.trans (rename 78411 79204 rfl rfl) (cn rfl rfl rfl rfl)) ?_
 clear Kb
 rcases y5 with y5 | y5
 rintro e s ⟨rfl, rfl⟩
 iterate 2 refine AJ ?_
 refine AC ?_
 iterate 3 refine A7 rfl rfl ?_
 refine D8 h rfl (fun c6 h => ?_) (fun c6 h => ?_)
 refine AJ ?_
 refine AC ?_
 iterate 2 refine A7 rfl rfl ?_
 cases AB h
 refine BS ?_
 exact ⟨nofun, rfl, rfl⟩
 refine BF ?_
 refine AJ ?_
 refine OD ?_
 iterate 2 refine DL rfl rfl ?_
 refine TF rfl (.bsl _ 78443 rfl (O0 rfl) rfl) (QZ rfl) ?_
 refine DL rfl (VH (l := [a0.Tag]) rfl rfl (BR (f := eb) (l := [a0.Tag]))) ?_
 iterate 2 refine DL rfl rfl ?_
 obtain ⟨dV, oL, h⟩ := AL h
 refine TF rfl (MP (iX N _ _ oL) rfl (.cons A9 .nil) rfl rfl rfl) CP ?_
 obtain ⟨iF, kC, h⟩ := AL h
 refine DL rfl (mO kC rfl rfl) ?_
 refine DL rfl rfl ?_
 refine DL rfl (VH (l := y5) rfl rfl (BR (f := eb) (l := y5))) ?_
 obtain ⟨Ki, Vq, h⟩ := AL h
 refine DL rfl (mO Vq rfl rfl) ?_
 iterate 2 refine DL rfl rfl ?_
 cases AB h
 refine BS ?_
 exact ⟨nofun, rfl, rfl⟩
 rintro e s ⟨rfl, rfl⟩
 cases AB h
 exact ⟨nofun, rfl, rfl⟩
theorem gT (N : Nat) : ∀ (n : Nat) (a0 : A8) (r : List UInt8 × Bool) (h : NT N n a0 = some r), Sat Tryz.prog 49 AO [AA a0] (.tup [.str r.1, .bool r.2]) AO := by
 intro n
 induction n with
 | zero => intro a0 r h; cases h
 | succ n ih => intro a0 r h; exact gQ N (NT N n) ih a0 r h
theorem lI (N : Nat) (a0 : A8) (r : List UInt8 × Bool) (h : fJ N a0 = some r) : Sat Tryz.prog 49 AO [AA a0] (.tup [.str r.1, .bool r.2]) AO := gT N N a0 r h
def k22 : IC := (.seq (.reg [jn 1 (.box 52 (.t 0)), jc 2 (.str []), jc 3 (j6 0)]) (.seq (.seq (.reg [jg 6 3 1, jn 7 (.call 47 [(.t 6)]), jn 8 (.un .not (.t 7))]) (.cond (.t 8) (.seq (.reg [jc 2 (.str []), jc 3 (j6 14)]) .ret) .skip)) (.seq (.seq (.reg [jg 9 3 1, jn 10 (.call 48 [(.t 9)]), ju .gtr 11 10 20]) (.cond (.t 11) (.seq (.reg [jc 2 (.str []), jc 3 (j6 12)]) .ret) .skip)) (.seq (.reg [jg 13 3 1, jn 14 (.call 49 [(.t 13)]), jm 12 14, je 15 0 12, je 16 1 12, jm 4 15, jm 5 16]) (.seq (.seq (.reg [jm 17 5, jn 18 (.un .not (.t 17))]) (.cond (.t 18) (.seq (.reg [jc 2 (.str []), jc 3 (j6 13)]) .ret) .skip)) (.seq (.reg [jm 19 4, jm 2 19, jc 3 (j6 0)]) .ret))))))
theorem Ui : BX Tryz.prog Tryz.f22 = some ⟨20, k22, [(.tmp 2), (.tmp 3)]⟩ := by kernel_rfl
theorem lJ (N : Nat) (a0 : A8) (r : List UInt8 × Int) (h : ZI N a0 = some r) : Sat Tryz.prog 22 AO [AA a0] (.tup [.str r.1, .int .i64 r.2]) AO := by
 refine DT mixed Tryz.func22 Ui (rs := [.str r.1, .int .i64 r.2]) rfl rfl ?_
 refine AJ ?_
 refine AC ?_
 refine CS rfl (FZ 35201 rfl rfl rfl rfl rfl) ?_
 iterate 2 refine A7 rfl rfl ?_
 iterate 2 refine AJ ?_
 refine AC ?_
 refine A7 (p := AA a0) rfl rfl ?_
 obtain ⟨x7, hx7, h⟩ := AL h
 refine CS rfl (CG (iY N _ _ hx7) rfl (.cons A9 .nil) rfl rfl rfl) ?_
 refine A7 rfl rfl ?_
 refine D8 h rfl (fun c1 h => ?_) (fun c1 h => ?_)
 refine AJ ?_
 refine AC ?_
 iterate 2 refine A7 rfl rfl ?_
 cases AB h
 refine BS ?_
 exact ⟨nofun, rfl, rfl⟩
 refine BF ?_
 iterate 2 refine AJ ?_
 refine AC ?_
 refine A7 (p := AA a0) rfl rfl ?_
 obtain ⟨R9, VK, h⟩ := AL h
 refine CS rfl (CG (nW N _ _ VK) rfl (.cons A9 .nil) rfl rfl rfl) ?_
 refine A7 rfl rfl ?_
 refine D8 h rfl (fun c2 h => ?_) (fun c2 h => ?_)
 refine AJ ?_
 refine AC ?_
 iterate 2 refine A7 rfl rfl ?_
 cases AB h
 refine BS ?_
 exact ⟨nofun, rfl, rfl⟩
 refine BF ?_
 refine AJ ?_
 refine AC ?_
 refine A7 (p := AA a0) rfl rfl ?_
 obtain ⟨OB, SF, h⟩ := AL h
 refine CS rfl (CG (lI N _ _ SF) rfl (.cons A9 .nil) rfl rfl rfl) ?_
 iterate 5 refine A7 rfl rfl ?_
 iterate 2 refine AJ ?_
 refine AC ?_
 iterate 2 refine A7 rfl rfl ?_
 refine D8 h rfl (fun c3 h => ?_) (fun c3 h => ?_)
 refine AJ ?_
 refine AC ?_
 iterate 2 refine A7 rfl rfl ?_
 cases AB h
 refine BS ?_
 exact ⟨nofun, rfl, rfl⟩
 refine BF ?_
 refine AJ ?_
 refine AC ?_
 iterate 3 refine A7 rfl rfl ?_
 cases AB h
 refine BS ?_
 exact ⟨nofun, rfl, rfl⟩
end Go.Gp
end
section
set_option linter.unusedVariables false
set_option linter.unusedSimpArgs false
set_option maxRecDepth 4000
set_option maxHeartbeats 4000000
namespace Go.Gp
open Go.Vd Go.RowKit Go.Proofs
def Eo : IC := (.seq (.reg [jb .lss 23 22 21]) (.seq (.cond (.t 23) .skip (.exit 0)) (.seq (.block 1 (.seq (.reg [jx 24 2 20 22, jg 25 2 24, jn 7 (.box 41 (.c (.agg [(.str []), (.str [])]))), js 2 7 25]) (.regd 8 [jm 26 4, ja 27 0 7, jl 28 1 27, jn 29 (.call 19 [(.c (.int .u8 4)), (.t 28)]), ja 30 1 7, jl 31 1 30, jn 32 (.call 19 [(.c (.int .u8 4)), (.t 31)]), jn 33 (.bsl 3 [(.t 29), (.t 32)]), jn 34 (.app 52 3 48 (.t 26) (.t 33)), jm 4 34]))) (.reg [ju .add 35 22 1, jm 22 35]))))
def Em : IC := (.seq (.reg [jb .lss 54 53 52]) (.seq (.cond (.t 54) .skip (.exit 4)) (.seq (.block 5 (.seq (.reg [jx 55 1 51 53, jl 56 1 55, jm 12 56]) (.reg [jm 57 10, jm 58 12, jn 59 (.call 19 [(.c (.int .u8 4)), (.t 58)]), jn 60 (.bsl 3 [(.t 59)]), jn 61 (.app 52 3 48 (.t 57) (.t 60)), jm 10 61]))) (.reg [ju .add 62 53 1, jm 53 62]))))
def En : IC := (.seq (.reg [jb .lss 40 39 38]) (.seq (.cond (.t 40) .skip (.exit 2)) (.seq (.block 3 (.seq (.reg [jx 41 3 37 39, jg 42 3 41, jn 9 (.box 44 (.c (.agg [(j6 0), (.str []), .nl]))), js 3 9 42]) (.seq (.regd 8 [ja 43 0 9, jl 44 1 43, jn 45 (.call 20 [(.c (.int .u8 2)), (.t 44)]), ja 46 1 9, jl 47 1 46, jn 48 (.call 19 [(.c (.int .u8 4)), (.t 47)]), jn 49 (.bsl 3 [(.t 45), (.t 48)]), jm 10 49]) (.seq (.seq (.reg [ja 50 2 9, jl 51 1 50, jL 52 51, jc 53 (j6 0)]) (.block 4 (.loop Em))) (.reg [jm 63 5, jm 64 10, jn 65 (.call 21 [(.c (.int .u8 48)), (.t 64)]), jn 66 (.bsl 3 [(.t 65)]), jn 67 (.app 52 3 48 (.t 63) (.t 66)), jm 5 67]))))) (.reg [ju .add 68 39 1, jm 39 68]))))
def k9 : IC := (.seq (.reg [jn 1 (.box 28 (.t 0)), jc 2 (.str []), jc 3 (j6 0)]) (.seq (.seq (.reg [jg 16 13 1, jn 17 (.call 10 [(.t 16)]), jn 18 (.un .not (.t 17))]) (.cond (.t 18) (.seq (.reg [jc 2 (.str []), jc 3 (j6 14)]) .ret) .skip)) (.seq (.reg [jc 4 .nl, jc 5 .nl]) (.seq (.seq (.reg [ja 19 10 1, jl 20 1 19, jL 21 20, jc 22 (j6 0)]) (.block 0 (.loop Eo))) (.seq (.seq (.reg [ja 36 12 1, jl 37 1 36, jL 38 37, jc 39 (j6 0)]) (.block 2 (.loop En))) (.seq (.reg [ja 69 3 1, jl 70 1 69, jm 13 70]) (.seq (.seq (.reg [ja 71 11 1, jl 72 1 71]) (.cond (.t 72) (.reg [jm 73 13, jn 74 (.un .neg (.t 73)), jm 13 74]) .skip)) (.seq (.regd 23 [jm 76 13, jn 77 (.call 20 [(.c (.int .u8 2)), (.t 76)]), ja 78 0 1, jg 79 3 78, jn 80 (.call 23 [(.t 79)]), ja 81 4 1, jg 82 3 81, jn 83 (.call 23 [(.t 82)]), ja 84 7 1, jg 85 3 84, jn 86 (.call 23 [(.t 85)]), jm 87 4, jn 88 (.call 21 [(.c (.int .u8 48)), (.t 87)]), jm 89 5, jn 90 (.call 21 [(.c (.int .u8 48)), (.t 89)]), jn 91 (.bsl 3 [(.t 77), (.t 80), (.t 83), (.t 86), (.t 88), (.t 90)]), jn 92 (.call 21 [(.c (.int .u8 48)), (.t 91)]), jn 93 (.call 22 [(.t 92)]), jm 75 93, je 94 0 75, je 95 1 75, jm 14 94, jm 15 95]) (.seq (.seq (.reg [jm 96 15, ju .eql 97 96 0, jm 98 97, jt 98 99 (.mov (.t 14)), jt 98 100 (.len true (.t 99)), jt 98 101 (.bin .gtr (.t 100) (ji 4000)), jp 102 98 101]) (.cond (.t 102) (.seq (.reg [jc 2 (.str []), jc 3 (j6 13)]) .ret) .skip)) (.seq (.reg [jm 103 14, jm 104 15, jm 2 103, jm 3 104]) .ret))))))))))
theorem k9_cf : BX Tryz.prog Tryz.f9 = some ⟨105, k9, [(.tmp 2), (.tmp 3)]⟩ := by kernel_rfl
theorem aH (N : Nat) (a0 : AX) : ∀ (n : Nat) (x : Int × List A8) (y : List A8), IE N a0 n x = some y → WX Tryz.prog (fun _ => false) (.loop Eo) ((fun (x : Int × List A8) => ⟨AY [(1, .ptr 14401 0 0), (4, .slr 15204 0 x.2.length), (5, .nl), (20, .sl 2 (List.map AV a0.RDN)), (21, .int .i64 (a0.RDN.length : Int)), (22, .int .i64 x.1)], AY [(14401, ⟨13, false, [AQ a0]⟩), (15204, ⟨3, true, List.map AA x.2⟩)]⟩) x) ((fun y e s => e = .exit 0 ∧ s = ⟨AY [(1, .ptr 14401 0 0), (4, .slr 15204 0 y.length), (5, .nl)], AY [(14401, ⟨13, false, [AQ a0]⟩), (15204, ⟨3, true, List.map AA y⟩)]⟩ : (List A8) → Xt → St → Prop) y) := by
 refine EQ _ _ (IE N a0) (M8 N a0) (fun _ => rfl) (fun _ _ => rfl) ?_
 rintro rec ⟨eD, WF⟩ y h
 refine AJ ?_
 refine AC ?_
 refine A7 rfl rfl ?_
 refine AJ ?_
 refine D8 h rfl (fun c2 h => ?_) (fun c2 h => ?_)
 refine BF ?_
 refine AJ ?_
 refine C9 ?_
 refine AJ ?_
 refine AC ?_
 obtain ⟨x24, hx24, h⟩ := AL h
 refine A7 rfl (DK (cs := [.str x24.Attr, .str x24.Value]) hx24 rfl rfl rfl) ?_
 refine A7 (p := AV x24) rfl rfl ?_
 refine CS rfl (FZ 14407 rfl rfl rfl rfl rfl) ?_
 refine F3 (e' := AV x24) rfl rfl rfl rfl rfl rfl rfl rfl nofun rfl ?_
 refine OD ?_
 iterate 3 refine DL rfl rfl ?_
 obtain ⟨x29, hx29, h⟩ := AL h
 refine TF rfl (MP (L6 N _ _ _ hx29) rfl (.cons A9 (.cons A9 .nil)) rfl rfl rfl) CP ?_
 iterate 2 refine DL rfl rfl ?_
 obtain ⟨x32, hx32, h⟩ := AL h
 refine TF rfl (MP (L6 N _ _ _ hx32) rfl (.cons A9 (.cons A9 .nil)) rfl rfl rfl) CP ?_
 refine TF rfl (.bsl _ 14433 rfl (O0 rfl) rfl) (QZ rfl) ?_
 obtain ⟨x34, hx34, h⟩ := AL h
 refine UC (f := AA) 14434 hx34 rfl rfl rfl rfl rfl (KA rfl (BR (f := AA) (l := [x29, x32]))) rfl rfl rfl rfl ?_
 refine A7 rfl rfl ?_
 refine AC ?_
 refine A7 (p := .int .i64 (BQ (eD + (1 : Int)))) rfl rfl ?_
 refine A7 rfl rfl ?_
 exact ⟨((BQ (eD + (1 : Int))), x34), (CB.trans (rename 14434 15204 rfl rfl) (cn rfl rfl rfl rfl)), h⟩
 obtain rfl := AB h
 exact CW (st1 := ⟨AY [(1, .ptr 14401 0 0), (4, .slr 15204 0 WF.length), (5, .nl)], AY [(14401, ⟨13, false, [AQ a0]⟩), (15204, ⟨3, true, List.map AA WF⟩)]⟩) (cn rfl rfl rfl rfl) ⟨rfl, rfl⟩
theorem aF (N : Nat) (a0 : AX) (y3 : List A8) (LJ : Int) (FJ : List A8) (x41 : BC) : ∀ (n : Nat) (x : Int × List A8) (y : List A8), IA N a0 y3 LJ FJ x41 n x = some y → WX Tryz.prog (fun _ => false) (.loop Em) ((fun (x : Int × List A8) => ⟨AY [(1, .ptr 14401 0 0), (4, .slr 15204 0 y3.length), (5, .slr 15205 0 FJ.length), (10, .slr 15210 0 x.2.length), (37, .sl 3 (List.map AU a0.Mods)), (38, .int .i64 (a0.Mods.length : Int)), (39, .int .i64 LJ), (51, .sl 1 (List.map PV.str x41.Values)), (52, .int .i64 (x41.Values.length : Int)), (53, .int .i64 x.1)], AY [(14401, ⟨13, false, [AQ a0]⟩), (15204, ⟨3, true, List.map AA y3⟩), (15205, ⟨3, true, List.map AA FJ⟩), (15210, ⟨3, true, List.map AA x.2⟩)]⟩) x) ((fun y e s => e = .exit 4 ∧ s = ⟨AY [(1, .ptr 14401 0 0), (4, .slr 15204 0 y3.length), (5, .slr 15205 0 FJ.length), (10, .slr 15210 0 y.length), (37, .sl 3 (List.map AU a0.Mods)), (38, .int .i64 (a0.Mods.length : Int)), (39, .int .i64 LJ)], AY [(14401, ⟨13, false, [AQ a0]⟩), (15204, ⟨3, true, List.map AA y3⟩), (15205, ⟨3, true, List.map AA FJ⟩), (15210, ⟨3, true, List.map AA y⟩)]⟩ : (List A8) → Xt → St → Prop) y) := by
 refine EQ _ _ (IA N a0 y3 LJ FJ x41) (M6 N a0 y3 LJ FJ x41) (fun _ => rfl) (fun _ _ => rfl) ?_
 rintro rec ⟨dY, WE⟩ y h
 refine AJ ?_
 refine AC ?_
 refine A7 rfl rfl ?_
 refine AJ ?_
 refine D8 h rfl (fun c5 h => ?_) (fun c5 h => ?_)
 refine BF ?_
 refine AJ ?_
 refine C9 ?_
 refine AJ ?_
 refine AC ?_
 obtain ⟨x55, Gf, h⟩ := AL h
 refine A7 rfl (DK (cs := [.str x55]) Gf rfl rfl rfl) ?_
 iterate 2 refine A7 rfl rfl ?_
 refine AC ?_
 iterate 2 refine A7 rfl rfl ?_
 obtain ⟨Kg, Gd, h⟩ := AL h
 refine CS rfl (CG (L6 N _ _ _ Gd) rfl (.cons A9 (.cons A9 .nil)) rfl rfl rfl) ?_
 refine CS rfl (SB 14460 rfl rfl rfl) ?_
 obtain ⟨Qb, Vl, h⟩ := AL h
 refine UC (f := AA) 14461 Vl rfl rfl rfl rfl rfl (KA rfl (BR (f := AA) (l := [Kg]))) rfl rfl rfl rfl ?_
 refine A7 rfl rfl ?_
 refine AC ?_
 refine A7 (p := .int .i64 (BQ (dY + (1 : Int)))) rfl rfl ?_
 refine A7 rfl rfl ?_
 exact ⟨((BQ (dY + (1 : Int))), Qb), (CB.trans (rename 14461 15210 rfl rfl) (cn rfl rfl rfl rfl)), h⟩
 obtain rfl := AB h
 exact CW (st1 := ⟨AY [(1, .ptr 14401 0 0), (4, .slr 15204 0 y3.length), (5, .slr 15205 0 FJ.length), (10, .slr 15210 0 WE.length), (37, .sl 3 (List.map AU a0.Mods)), (38, .int .i64 (a0.Mods.length : Int)), (39, .int .i64 LJ)], AY [(14401, ⟨13, false, [AQ a0]⟩), (15204, ⟨3, true, List.map AA y3⟩), (15205, ⟨3, true, List.map AA FJ⟩), (15210, ⟨3, true, List.map AA WE⟩)]⟩) (cn rfl rfl rfl rfl) ⟨rfl, rfl⟩
theorem aG (N : Nat) (a0 : AX) (y3 : List A8) : ∀ (n : Nat) (x : Int × List A8) (y : List A8), IB N a0 y3 n x = some y → WX Tryz.prog (fun _ => false) (.loop En) ((fun (x : Int × List A8) => ⟨AY [(1, .ptr 14401 0 0), (4, .slr 15204 0 y3.length), (5, .slr 15205 0 x.2.length), (37, .sl 3 (List.map AU a0.Mods)), (38, .int .i64 (a0.Mods.length : Int)), (39, .int .i64 x.1)], AY [(14401, ⟨13, false, [AQ a0]⟩), (15204, ⟨3, true, List.map AA y3⟩), (15205, ⟨3, true, List.map AA x.2⟩)]⟩) x) ((fun y e s => e = .exit 2 ∧ s = ⟨AY [(1, .ptr 14401 0 0), (4, .slr 15204 0 y3.length), (5, .slr 15205 0 y.length)], AY [(14401, ⟨13, false, [AQ a0]⟩), (15204, ⟨3, true, List.map AA y3⟩), (15205, ⟨3, true, List.map AA y⟩)]⟩ : (List A8) → Xt → St → Prop) y) := by
 refine EQ _ _ (IB N a0 y3) (M7 N a0 y3) (fun _ => rfl) (fun _ _ => rfl) ?_
 rintro rec ⟨LJ, FJ⟩ y h
 refine AJ ?_
 refine AC ?_
 refine A7 rfl rfl ?_
 refine AJ ?_
 refine D8 h rfl (fun c4 h => ?_) (fun c4 h => ?_)
 refine BF ?_
 refine AJ ?_
 refine C9 ?_
 refine AJ ?_
 refine AC ?_
 obtain ⟨x41, oN, h⟩ := AL h
 refine A7 rfl (DK (cs := [.int .i64 x41.Kind, .str x41.Attr, .sl 1 (List.map PV.str x41.Values)]) oN rfl rfl rfl) ?_
 refine A7 (p := AU x41) rfl rfl ?_
 refine CS rfl (FZ 14409 rfl rfl rfl rfl rfl) ?_
 refine F3 (e' := AU x41) rfl rfl rfl rfl rfl rfl rfl rfl nofun rfl ?_
 refine AJ ?_
 refine OD ?_
 iterate 2 refine DL rfl rfl ?_
 obtain ⟨pR, Gh, h⟩ := AL h
 refine TF rfl (MP (VY N _ _ _ Gh) rfl (.cons A9 (.cons A9 .nil)) rfl rfl rfl) CP ?_
 iterate 2 refine DL rfl rfl ?_
 obtain ⟨iF, kC, h⟩ := AL h
 refine TF rfl (MP (L6 N _ _ _ kC) rfl (.cons A9 (.cons A9 .nil)) rfl rfl rfl) CP ?_
 refine TF rfl (.bsl _ 14449 rfl (O0 rfl) rfl) (QZ rfl) ?_
 refine DL rfl rfl ?_
 iterate 2 refine AJ ?_
 refine AC ?_
 iterate 2 refine A7 rfl rfl ?_
 refine A7 rfl (BV rfl) ?_
 refine A7 rfl rfl ?_
 refine C9 ?_
 obtain ⟨y6, tC, h⟩ := AL h
 refine PT (aF N a0 y3 LJ FJ x41 N _ _ tC) (CB.trans (rename 14449 15210 rfl rfl) (cn rfl rfl rfl rfl)) ?_
 rintro e s ⟨rfl, rfl⟩
 refine AC ?_
 iterate 2 refine A7 rfl rfl ?_
 refine wn (CB.trans (Vd.freeze 15210 _ rfl rfl rfl) (CB.trans (KN 10 (GQ (congrArg (PV.sl 3) (BR (f := AA) (l := y6)))) rfl) (KN 64 (GQ (congrArg (PV.sl 3) (BR (f := AA) (l := y6)))) rfl))) ?_
 obtain ⟨wC, Ao, h⟩ := AL h
 refine CS rfl (CG (Q4 N _ _ _ Ao) rfl (.cons A9 (.cons A9 .nil)) rfl rfl rfl) ?_
 refine CS rfl (SB 14466 rfl rfl rfl) ?_
 obtain ⟨x67, hx67, h⟩ := AL h
 refine UC (f := AA) 14467 hx67 rfl rfl rfl rfl rfl (KA rfl (BR (f := AA) (l := [wC]))) rfl rfl rfl rfl ?_
 refine A7 rfl rfl ?_
 refine AC ?_
 refine A7 (p := .int .i64 (BQ (LJ + (1 : Int)))) rfl rfl ?_
 refine A7 rfl rfl ?_
 exact ⟨((BQ (LJ + (1 : Int))), x67), (CB.trans (rename 14467 15205 rfl rfl) (cn rfl rfl rfl rfl)), h⟩
 obtain rfl := AB h
 exact CW (st1 := ⟨AY [(1, .ptr 14401 0 0), (4, .slr 15204 0 y3.length), (5, .slr 15205 0 FJ.length)], AY [(14401, ⟨13, false, [AQ a0]⟩), (15204, ⟨3, true, List.map AA y3⟩), (15205, ⟨3, true, List.map AA FJ⟩)]⟩) (cn rfl rfl rfl rfl) ⟨rfl, rfl⟩
theorem NW (N : Nat) (a0 : AX) (r : List UInt8 × Int) (h : M9 N a0 = some r) : Sat Tryz.prog 9 AO [AQ a0] (.tup [.str r.1, .int .i64 r.2]) AO := by
 refine DT mixed Tryz.func9 k9_cf (rs := [.str r.1, .int .i64 r.2]) rfl rfl ?_
 refine AJ ?_
 refine AC ?_
 refine CS rfl (FZ 14401 rfl rfl rfl rfl rfl) ?_
 iterate 2 refine A7 rfl rfl ?_
 iterate 2 refine AJ ?_
 refine AC ?_
 refine A7 (p := AQ a0) rfl rfl ?_
 obtain ⟨EC, VJ, h⟩ := AL h
 refine CS rfl (CG (RA N _ _ VJ) rfl (.cons A9 .nil) rfl rfl rfl) ?_
 refine A7 rfl rfl ?_
 refine D8 h rfl (fun c1 h => ?_) (fun c1 h => ?_)
 refine AJ ?_
 refine AC ?_
 iterate 2 refine A7 rfl rfl ?_
 cases AB h
 refine BS ?_
 exact ⟨nofun, rfl, rfl⟩
 refine BF ?_
 refine AJ ?_
 refine AC ?_
 iterate 2 refine A7 rfl rfl ?_
 iterate 2 refine AJ ?_
 refine AC ?_
 iterate 2 refine A7 rfl rfl ?_
 refine A7 rfl (BV rfl) ?_
 refine A7 rfl rfl ?_
 refine C9 ?_
 obtain ⟨y3, hy3, h⟩ := AL h
 refine PT (aH N a0 N _ _ hy3) (CB.trans (ZZ 4 15204 3 true rfl rfl rfl) (cn rfl rfl rfl rfl)) ?_
 rintro e s ⟨rfl, rfl⟩
 iterate 2 refine AJ ?_
 refine AC ?_
 iterate 2 refine A7 rfl rfl ?_
 refine A7 rfl (BV rfl) ?_
 refine A7 rfl rfl ?_
 refine C9 ?_
 obtain ⟨y7, hy7, h⟩ := AL h
 refine PT (aG N a0 y3 N _ _ hy7) (CB.trans (ZZ 5 15205 3 true rfl rfl rfl) (cn rfl rfl rfl rfl)) ?_
 rintro e s ⟨rfl, rfl⟩
 refine AJ ?_
 refine AC ?_
 iterate 3 refine A7 rfl rfl ?_
 refine QO (fun (x : Int) => ⟨AY [(1, .ptr 14401 0 0), (4, .slr 15204 0 y3.length), (5, .slr 15205 0 y7.length), (13, .int .i64 x)], AY [(14401, ⟨13, false, [AQ a0]⟩), (15204, ⟨3, true, List.map AA y3⟩), (15205, ⟨3, true, List.map AA y7⟩)]⟩) (fun x => LB a0 N y3 y7 x = some r) ?_ ?_
 rintro Cj h
 refine AJ ?_
 refine UI (CB.trans (Vd.freeze 15204 _ rfl rfl rfl) (KN 4 (GQ (congrArg (PV.sl 3) (BR (f := AA) (l := y3)))) rfl)) ?_
 refine UI (CB.trans (Vd.freeze 15205 _ rfl rfl rfl) (KN 5 (GQ (congrArg (PV.sl 3) (BR (f := AA) (l := y7)))) rfl)) ?_
 refine OD ?_
 refine DL rfl rfl ?_
 obtain ⟨x77, Ve, h⟩ := AL h
 refine TF rfl (MP (VY N _ _ _ Ve) rfl (.cons A9 (.cons A9 .nil)) rfl rfl rfl) CP ?_
 refine DL rfl rfl ?_
 refine DL (p := .agg [.int .i64 a0.CSN.Time, .int .i64 a0.CSN.Seq, .int .i64 a0.CSN.Rep]) rfl rfl ?_
 obtain ⟨x80, Va, h⟩ := AL h
 refine TF rfl (MP (Q6 N _ _ Va) rfl (.cons A9 .nil) rfl rfl rfl) CP ?_
 refine DL rfl rfl ?_
 refine DL (p := .agg [.int .i64 a0.ID.Time, .int .i64 a0.ID.Seq, .int .i64 a0.ID.Rep]) rfl rfl ?_
 obtain ⟨x83, hx83, h⟩ := AL h
 refine TF rfl (MP (Q6 N _ _ hx83) rfl (.cons A9 .nil) rfl rfl rfl) CP ?_
 refine DL rfl rfl ?_
 refine DL (p := .agg [.int .i64 a0.Parent.Time, .int .i64 a0.Parent.Seq, .int .i64 a0.Parent.Rep]) rfl rfl ?_
 obtain ⟨x86, hx86, h⟩ := AL h
 refine TF rfl (MP (Q6 N _ _ hx86) rfl (.cons A9 .nil) rfl rfl rfl) CP ?_
 refine DL rfl rfl ?_
 obtain ⟨x88, hx88, h⟩ := AL h
 refine TF rfl (MP (Q4 N _ _ _ hx88) rfl (.cons A9 (.cons A9 .nil)) rfl rfl rfl) CP ?_
 refine DL rfl rfl ?_
 obtain ⟨x90, hx90, h⟩ := AL h
 refine TF rfl (MP (Q4 N _ _ _ hx90) rfl (.cons A9 (.cons A9 .nil)) rfl rfl rfl) CP ?_
 refine TF rfl (.bslf _ 14491 rfl (O0 rfl) rfl rfl) (QZ rfl) ?_
 obtain ⟨x92, hx92, h⟩ := AL h
 refine TF rfl (MP (Q4 N _ _ _ hx92) rfl (.cons A9 (.cons A9 .nil)) rfl rfl rfl) CP ?_
 obtain ⟨x93, hx93, h⟩ := AL h
 refine TF rfl (MP (lJ N _ _ hx93) rfl (.cons A9 .nil) rfl rfl rfl) CP ?_
 iterate 5 refine DL rfl rfl ?_
 refine AJ ?_
 obtain ⟨g8, hg8, h⟩ := AL h
 refine F9 ⟨AY [(14, .str x93.1), (15, .int .i64 x93.2), (102, .bool g8)], AY []⟩ ?_ ?_
 have h := hg8
 refine AC ?_
 iterate 3 refine A7 rfl rfl ?_
 rcases BO h with ⟨c9, h⟩ | ⟨c9, h⟩
 iterate 3 refine A7 (gy rfl c9) rfl ?_
 refine A7 rfl (BA c9 rfl rfl) ?_
 cases AB h
 exact (cn rfl rfl rfl rfl)
 iterate 3 refine BK (gn rfl c9) ?_
 refine A7 rfl (AZ c9 rfl rfl) ?_
 obtain rfl := AB h
 exact (cn rfl rfl rfl rfl)
 clear hg8
 refine D8 h rfl (fun c10 h => ?_) (fun c10 h => ?_)
 refine AJ ?_
 refine AC ?_
 iterate 2 refine A7 rfl rfl ?_
 cases AB h
 refine BS ?_
 exact ⟨nofun, rfl, rfl⟩
 refine BF ?_
 refine AJ ?_
 refine AC ?_
 iterate 4 refine A7 rfl rfl ?_
 cases AB h
 refine BS ?_
 exact ⟨nofun, rfl, rfl⟩
 refine AJ ?_
 refine AC ?_
 iterate 2 refine A7 rfl rfl ?_
 refine D8 h rfl (fun c11 h => ?_) (fun c11 h => ?_)
 refine AC ?_
 refine A7 rfl rfl ?_
 refine A7 (p := .int .i64 (BQ (0 - a0.Kind))) rfl rfl ?_
 refine A7 rfl rfl ?_
 exact ⟨(BQ (0 - a0.Kind)), (cn rfl rfl rfl rfl), h⟩
 refine BF ?_
 exact ⟨a0.Kind, (cn rfl rfl rfl rfl), h⟩
end Go.Gp
end
section
set_option linter.unusedVariables false
set_option linter.unusedSimpArgs false
set_option maxRecDepth 4000
namespace Go.Gp
open Go.Vd Go.RowKit Go.Proofs
def xH : IC := (.seq (.reg [jb .lss 45 44 43]) (.seq (.cond (.t 45) .skip (.exit 4)) (.seq (.block 5 (.seq (.reg [jx 46 1 42 44, jl 47 1 46, jm 8 47]) (.reg [jm 48 5, jn 49 (.bin .shl (.t 48) (.c (.int .u64 8))), jm 50 8, jn 51 (.cvi .i64 (.t 50)), jb .or 52 49 51, jm 5 52]))) (.reg [ju .add 53 44 1, jm 44 53]))))
def k86 : IC := (.seq (.reg [jc 2 (j6 0), jc 3 (j6 0), jc 4 (j6 0)]) (.seq (.seq (.reg [jm 9 0, jn 10 (.bin .eql (.t 9) (.c (.str [])))]) (.cond (.t 10) (.seq (.reg [jc 2 (j6 0), jc 3 (j6 0), jc 4 (j6 10)]) .ret) .skip)) (.seq (.seq (.reg [jm 11 0, jn 12 (.idxs (.t 11) (ji 0)), jn 13 (.bin .and (.t 12) (.c (.int .u8 31))), jn 14 (.bin .eql (.t 13) (.c (.int .u8 31)))]) (.cond (.t 14) (.seq (.reg [jc 2 (j6 0), jc 3 (j6 0), jc 4 (j6 14)]) .ret) .skip)) (.seq (.seq (.reg [jm 15 0, jS 16 15, ju .eql 17 16 1]) (.cond (.t 17) (.seq (.reg [jc 2 (j6 0), jc 3 (j6 0), jc 4 (j6 10)]) .ret) .skip)) (.seq (.reg [jm 18 0, jn 19 (.idxs (.t 18) (ji 1)), jn 20 (.cvi .i64 (.t 19)), jm 5 20]) (.seq (.reg [jc 6 (j6 0)]) (.seq (.block 0 (.seq (.block 3 (.seq (.block 2 (.seq (.block 1 (.seq (.seq (.seq (.reg [jm 22 5, ju .eql 23 22 128, jm 24 23, jf 24 25 (.mov (.t 5)), jf 24 26 (.bin .gtr (.t 25) (ji 132)), jo 27 24 26, jm 21 27]) (.cond (.t 21) (.exit 1) .skip)) (.seq (.reg [jm 29 5, ju .gtr 30 29 128, jm 28 30]) (.cond (.t 28) (.exit 2) .skip))) (.exit 3))) (.seq (.seq (.reg [jc 2 (j6 0), jc 3 (j6 0), jc 4 (j6 11)]) .ret) (.exit 0)))) (.seq (.reg [jm 31 5, ju .sub 32 31 128, jm 6 32]) (.seq (.seq (.reg [jm 33 0, jS 34 33, jm 35 6, jn 36 (.bin .add (ji 2) (.t 35)), jb .lss 37 34 36]) (.cond (.t 37) (.seq (.reg [jc 2 (j6 0), jc 3 (j6 0), jc 4 (j6 10)]) .ret) .skip)) (.seq (.reg [jc 5 (j6 0)]) (.seq (.reg [jm 38 0, jm 39 6, jn 40 (.bin .add (ji 2) (.t 39)), jn 41 (.slcs (.t 38) (some (ji 2)) (some (.t 40))), jn 42 (.cvs (.t 41)), jL 43 42, jc 44 (j6 0)]) (.block 4 (.loop xH)))))))) (.seq (.seq (.reg [jm 54 5, ju .gtr 55 54 4000]) (.cond (.t 55) (.seq (.reg [jc 2 (j6 0), jc 3 (j6 0), jc 4 (j6 13)]) .ret) .skip)) (.exit 0)))) (.seq (.reg [jm 56 6, jn 57 (.bin .add (ji 2) (.t 56)), jm 58 5, jm 2 57, jm 3 58, jc 4 (j6 0)]) .ret))))))))
theorem Rl : BX Tryz.prog Tryz.f86 = some ⟨59, k86, [(.tmp 2), (.tmp 3), (.tmp 4)]⟩ := by kernel_rfl
theorem iJ (N : Nat) (PR : UInt8) (x41 : List UInt8) : ∀ (n : Nat) (x : Int × Int) (y : Int), TC N PR x41 n x = some y → WX Tryz.prog (fun _ => false) (.loop xH) ((fun (x : Int × Int) => ⟨AY [(5, .int .i64 x.1), (6, .int .i64 (BQ (((PR).toNat : Int) - (128 : Int)))), (42, .slr 137642 0 x41.length), (43, .int .i64 (x41.length : Int)), (44, .int .i64 x.2)], AY [(137642, ⟨1, true, List.map eb x41⟩)]⟩) x) ((fun y e s => e = .exit 4 ∧ s = ⟨AY [(5, .int .i64 y), (6, .int .i64 (BQ (((PR).toNat : Int) - (128 : Int))))], AY []⟩ : Int → Xt → St → Prop) y) := by
 refine EQ _ _ (TC N PR x41) (YU N PR x41) (fun _ => rfl) (fun _ _ => rfl) ?_
 rintro rec ⟨lW, dZ⟩ y h
 refine AJ ?_
 refine AC ?_
 refine A7 rfl rfl ?_
 refine AJ ?_
 refine D8 h rfl (fun c10 h => ?_) (fun c10 h => ?_)
 refine BF ?_
 refine AJ ?_
 refine C9 ?_
 refine AJ ?_
 refine AC ?_
 obtain ⟨sZ, oM, h⟩ := AL h
 refine A7 rfl (QA oM rfl rfl rfl rfl) ?_
 obtain ⟨dV, oL, h⟩ := AL h
 refine A7 rfl (UM (f := eb) (v := eb dV) oL rfl rfl rfl) ?_
 refine A7 rfl rfl ?_
 refine AC ?_
 refine A7 rfl rfl ?_
 refine A7 rfl (Ot (by decide) rfl rfl) ?_
 refine A7 rfl rfl ?_
 refine A7 rfl (fA (a := dV) rfl) ?_
 refine A7 (p := .int .i64 (iop .or .i64 (tZ lW 8) ((dV).toNat : Int))) rfl rfl ?_
 refine A7 rfl rfl ?_
 refine AC ?_
 refine A7 (p := .int .i64 (BQ (dZ + (1 : Int)))) rfl rfl ?_
 refine A7 rfl rfl ?_
 exact ⟨((iop .or .i64 (tZ lW 8) ((dV).toNat : Int)), (BQ (dZ + (1 : Int)))), (cn rfl rfl rfl rfl), h⟩
 obtain rfl := AB h
 exact CW (st1 := ⟨AY [(5, .int .i64 lW), (6, .int .i64 (BQ (((PR).toNat : Int) - (128 : Int))))], AY []⟩) (cn rfl rfl rfl rfl) ⟨rfl, rfl⟩
theorem nY (N : Nat) (a0 : List UInt8) (r : Int × Int × Int) (h : sU N a0 = some r) : Sat Tryz.prog 86 AO [.str a0] (.tup [.int .i64 r.1, .int .i64 r.2.1, .int .i64 r.2.2]) AO := by
 refine DT mixed Tryz.func86 Rl (rs := [.int .i64 r.1, .int .i64 r.2.1, .int .i64 r.2.2]) rfl rfl ?_
 refine AJ ?_
 refine AC ?_
 iterate 3 refine A7 rfl rfl ?_
 iterate 2 refine AJ ?_
 refine AC ?_
 iterate 2 refine A7 rfl rfl ?_
 refine D8 h rfl (fun c1 h => ?_) (fun c1 h => ?_)
 refine AJ ?_
 refine AC ?_
 iterate 3 refine A7 rfl rfl ?_
 cases AB h
 refine BS ?_
 exact ⟨nofun, rfl, rfl⟩
 refine BF ?_
 iterate 2 refine AJ ?_
 refine AC ?_
 refine A7 rfl rfl ?_
 obtain ⟨IP, YI, h⟩ := AL h
 refine A7 rfl (GN YI rfl rfl) ?_
 refine A7 rfl (Z6 (a := IP) (b := (31 : UInt8)) rfl rfl) ?_
 refine A7 (p := .bool ((((IP &&& (31 : UInt8))).toNat : Int) == (31 : Int))) rfl rfl ?_
 refine D8 h rfl (fun c2 h => ?_) (fun c2 h => ?_)
 refine AJ ?_
 refine AC ?_
 iterate 3 refine A7 rfl rfl ?_
 cases AB h
 refine BS ?_
 exact ⟨nofun, rfl, rfl⟩
 refine BF ?_
 iterate 2 refine AJ ?_
 refine AC ?_
 iterate 3 refine A7 rfl rfl ?_
 refine D8 h rfl (fun c3 h => ?_) (fun c3 h => ?_)
 refine AJ ?_
 refine AC ?_
 iterate 3 refine A7 rfl rfl ?_
 cases AB h
 refine BS ?_
 exact ⟨nofun, rfl, rfl⟩
 refine BF ?_
 refine AJ ?_
 refine AC ?_
 refine A7 rfl rfl ?_
 obtain ⟨PR, YH, h⟩ := AL h
 refine A7 rfl (GN YH rfl rfl) ?_
 refine A7 rfl (fA (a := PR) rfl) ?_
 refine A7 rfl rfl ?_
 refine AJ ?_
 refine AC ?_
 refine A7 rfl rfl ?_
 refine AJ ?_
 refine C9 ?_
 refine QO (fun (x : Int × Int) => ⟨AY [(5, .int .i64 x.1), (6, .int .i64 x.2)], AY []⟩) (fun x => XH x.1 x.2 = some r) ?_ ?_
 rintro ⟨Cg, Ce⟩ h
 iterate 2 refine AJ ?_
 refine AC ?_
 iterate 2 refine A7 rfl rfl ?_
 refine D8 h rfl (fun c4 h => ?_) (fun c4 h => ?_)
 refine AJ ?_
 refine AC ?_
 iterate 3 refine A7 rfl rfl ?_
 cases AB h
 refine BS ?_
 exact ⟨nofun, rfl, rfl⟩
 refine BF ?_
 refine PU ?_
 refine AJ ?_
 refine AC ?_
 refine A7 rfl rfl ?_
 refine A7 (p := .int .i64 (BQ ((2 : Int) + Ce))) rfl rfl ?_
 iterate 4 refine A7 rfl rfl ?_
 cases AB h
 refine BS ?_
 exact ⟨nofun, rfl, rfl⟩
 refine C9 ?_
 refine AJ ?_
 refine C9 ?_
 refine AJ ?_
 refine C9 ?_
 iterate 2 refine AJ ?_
 obtain ⟨g5, hg5, h⟩ := AL h
 refine F9 ⟨AY [(0, .str a0), (5, .int .i64 ((PR).toNat : Int)), (6, .int .i64 0), (21, .bool g5)], AY []⟩ ?_ ?_
 have h := hg5
 refine AC ?_
 iterate 3 refine A7 rfl rfl ?_
 rcases BO h with ⟨c6, h⟩ | ⟨c6, h⟩
 iterate 2 refine BK (gn rfl c6) ?_
 refine A7 rfl (BA c6 rfl rfl) ?_
 refine A7 rfl rfl ?_
 obtain rfl := AB h
 exact (cn rfl rfl rfl rfl)
 iterate 2 refine A7 (gy rfl c6) rfl ?_
 refine A7 rfl (AZ c6 rfl rfl) ?_
 refine A7 rfl rfl ?_
 cases AB h
 exact (cn rfl rfl rfl rfl)
 clear hg5
 refine D8 h rfl (fun c7 h => ?_) (fun c7 h => ?_)
 refine PU ?_
 iterate 2 refine AJ ?_
 refine AC ?_
 iterate 3 refine A7 rfl rfl ?_
 cases AB h
 refine BS ?_
 exact ⟨nofun, rfl, rfl⟩
 refine BF ?_
 refine AJ ?_
 refine AC ?_
 iterate 3 refine A7 rfl rfl ?_
 refine D8 h rfl (fun c8 h => ?_) (fun c8 h => ?_)
 refine PU ?_
 refine AJ ?_
 refine AC ?_
 refine A7 rfl rfl ?_
 refine A7 (p := .int .i64 (BQ (((PR).toNat : Int) - (128 : Int)))) rfl rfl ?_
 refine A7 rfl rfl ?_
 iterate 2 refine AJ ?_
 refine AC ?_
 iterate 3 refine A7 rfl rfl ?_
 refine A7 (p := .int .i64 (BQ ((2 : Int) + (BQ (((PR).toNat : Int) - (128 : Int)))))) rfl rfl ?_
 refine A7 rfl rfl ?_
 refine D8 h rfl (fun c9 h => ?_) (fun c9 h => ?_)
 refine AJ ?_
 refine AC ?_
 iterate 3 refine A7 rfl rfl ?_
 cases AB h
 refine BS ?_
 exact ⟨nofun, rfl, rfl⟩
 refine BF ?_
 refine AJ ?_
 refine AC ?_
 refine A7 rfl rfl ?_
 refine AJ ?_
 refine AC ?_
 iterate 2 refine A7 rfl rfl ?_
 refine A7 (p := .int .i64 (BQ ((2 : Int) + (BQ (((PR).toNat : Int) - (128 : Int)))))) rfl rfl ?_
 obtain ⟨x41, oN, h⟩ := AL h
 refine A7 rfl (mM oN rfl rfl rfl) ?_
 refine CS rfl (qU 137642 rfl rfl) ?_
 iterate 2 refine A7 rfl rfl ?_
 refine C9 ?_
 obtain ⟨Bq, Mx, h⟩ := AL h
 refine PT (iJ N PR x41 N _ _ Mx) (cn rfl rfl rfl rfl) ?_
 rintro e s ⟨rfl, rfl⟩
 exact ⟨(Bq, (BQ (((PR).toNat : Int) - (128 : Int)))), (cn rfl rfl rfl rfl), h⟩
 refine BF ?_
 refine PU ?_
 exact ⟨(((PR).toNat : Int), 0), (cn rfl rfl rfl rfl), h⟩
end Go.Gp
end
section
set_option linter.unusedVariables false
set_option linter.unusedSimpArgs false
set_option maxRecDepth 4000
set_option maxHeartbeats 4000000
namespace Go.Gp
open Go.Vd Go.RowKit Go.Proofs
def mZ : IC := (.seq (.seq (.reg [jm 89 16, jm 90 14, jm 91 12, jb .add 92 90 91, jb .lss 93 89 92]) (.cond (.t 93) .skip (.exit 0))) (.block 1 (.seq (.reg [jm 95 0, jm 96 16, jm 97 14, jm 98 12, jb .add 99 97 98, jm 100 3, ju .add 101 100 1, jn 102 (.call 64 [(.t 95), (.t 96), (.t 99), (.t 101)]), jm 94 102, je 103 0 94, je 104 1 94, je 105 2 94, jn 17 (.box 52 (.c (.agg [(.int .u8 0), (.str []), .nl]))), js 3 17 103, jm 18 104, jm 19 105]) (.seq (.seq (.reg [jm 106 19, ju .neq 107 106 0]) (.cond (.t 107) (.seq (.reg [jn 108 (.build [(.int .u8 0), (.str []), .nl] []), jm 109 19, js 3 8 108, jc 9 (j6 0), jm 10 109]) .ret) .skip)) (.seq (.reg [ja 110 2 15, jl 111 1 110, jg 112 3 17, jn 113 (.bsl 3 [(.t 112)]), jn 114 (.app 52 3 48 (.t 111) (.t 113)), ja 115 2 15, js 1 115 114]) (.reg [jm 116 18, jm 16 116]))))))
def k64o0 : IC := (.seq (.reg [jn 8 (.box 52 (.c (.agg [(.int .u8 0), (.str []), .nl]))), jc 9 (j6 0), jc 10 (j6 0)]) (.seq (.reg [jm 20 0, jm 21 1, jn 22 (.nck (.t 20)), ja 23 1 22, js 1 23 21]) (.seq (.seq (.reg [jm 24 3, ju .gtr 25 24 20]) (.cond (.t 25) (.seq (.reg [jn 26 (.build [(.int .u8 0), (.str []), .nl] []), js 3 8 26, jc 9 (j6 0), jc 10 (j6 12)]) .ret) .skip)) (.seq (.reg [jm 28 0, jn 29 (.nck (.t 28)), ja 30 0 29, jl 31 1 30, jm 32 1, jm 33 2, jn 34 (.slcs (.t 31) (some (.t 32)) (some (.t 33))), jn 35 (.call 86 [(.t 34)]), jm 27 35, je 36 0 27, je 37 1 27, je 38 2 27, jm 11 36, jm 12 37, jm 13 38]) (.seq (.seq (.reg [jm 39 13, ju .eql 40 39 0, jm 41 40, jt 41 42 (.mov (.t 12)), jt 41 43 (.mov (.t 2)), jt 41 44 (.mov (.t 1)), jt 41 45 (.bin .sub (.t 43) (.t 44)), jt 41 46 (.mov (.t 11)), jt 41 47 (.bin .sub (.t 45) (.t 46)), jt 41 48 (.bin .gtr (.t 42) (.t 47)), jp 49 41 48]) (.cond (.t 49) (.reg [jc 13 (j6 10)]) .skip)) (.seq (.seq (.reg [jm 50 13, ju .eql 51 50 10, jm 52 51, jt 52 53 (.mov (.t 3)), jt 52 54 (.bin .gtr (.t 53) (ji 1)), jp 55 52 54]) (.cond (.t 55) (.reg [jc 13 (j6 11)]) .skip)) (.seq (.seq (.reg [jm 56 13, ju .neq 57 56 0]) (.cond (.t 57) (.seq (.reg [jn 58 (.build [(.int .u8 0), (.str []), .nl] []), jm 59 13, js 3 8 58, jc 9 (j6 0), jm 10 59]) .ret) .skip)) (.seq (.reg [jm 60 1, jm 61 11, jb .add 62 60 61, jm 14 62]) (.seq (.reg [jm 63 0, jn 64 (.nck (.t 63)), ja 65 0 64, jl 66 1 65, jm 67 1, jn 68 (.idxs (.t 66) (.t 67)), jn 69 (.build [(.int .u8 0), (.str []), .nl] [(0, (1, (.t 68)))]), jn 15 (.box 52 (.c (.agg [(.int .u8 0), (.str []), .nl]))), js 3 15 69]) (.seq (.seq (.reg [ja 70 0 15, jl 71 1 70, jn 72 (.bin .and (.t 71) (.c (.int .u8 32))), jn 73 (.bin .eql (.t 72) (.c (.int .u8 0)))]) (.cond (.t 73) (.seq (.reg [jm 74 0, jn 75 (.nck (.t 74)), ja 76 0 75, jl 77 1 76, jm 78 14, jm 79 14, jm 80 12, jb .add 81 79 80, jn 82 (.slcs (.t 77) (some (.t 78)) (some (.t 81))), ja 83 1 15, js 1 83 82]) (.seq (.reg [jg 84 3 15, jm 85 14, jm 86 12, jb .add 87 85 86, js 3 8 84, jm 9 87, jc 10 (j6 0)]) .ret)) .skip)) (.seq (.seq (.reg [jm 88 14, jm 16 88]) (.block 0 (.loop mZ))) (.seq (.reg [jg 117 3 15, jm 118 14, jm 119 12, jb .add 120 118 119, js 3 8 117, jm 9 120, jc 10 (j6 0)]) .ret))))))))))))
theorem Et : BX Tryz.prog Tryz.f64 = some ⟨121, k64o0, [(.cell 3 true 8), (.tmp 9), (.tmp 10)]⟩ := by kernel_rfl
theorem V6 (N : Nat) (KR : BH → Int → Int → Int → Option (A8 × Int × Int × BH)) (VL : ∀ (a0 : BH) (a1 : Int) (a2 : Int) (a3 : Int) (r : A8 × Int × Int × BH), KR a0 a1 a2 a3 = some r → Sat Tryz.prog 64 (AY [(700970, ⟨2, false, [BI a0]⟩)]) [.ptr 700970 0 0, .int .i64 a1, .int .i64 a2, .int .i64 a3] (.tup [AA r.1, .int .i64 r.2.1, .int .i64 r.2.2.1]) (AY [(700970, ⟨2, false, [BI r.2.2.2]⟩)])) (a1 : Int) (a3 : Int) (LD : Int × Int × Int) : ∀ (n : Nat) (x : Int × UInt8 × List UInt8 × List A8 × BH) (y : (UInt8 × List UInt8 × List A8 × BH) ⊕ (A8 × Int × Int × BH)), JI N KR a1 a3 LD n x = some y → WX Tryz.prog (fT [700970]) (.loop mZ) ((fun (x : Int × UInt8 × List UInt8 × List A8 × BH) => ⟨AY [(0, .ptr 700970 0 0), (3, .int .i64 a3), (8, .ptr 102408 0 0), (12, .int .i64 LD.2.1), (14, .int .i64 (BQ (a1 + LD.1))), (15, .ptr 102415 0 0), (16, .int .i64 x.1)], AY [(102408, ⟨3, false, [.agg [eb (0 : UInt8), .str ([] : List UInt8), .nl]]⟩), (102415, ⟨3, false, [.agg [eb x.2.1, .str x.2.2.1, .slr 524152 0 x.2.2.2.1.length]]⟩), (524152, ⟨3, true, List.map AA x.2.2.2.1⟩), (700970, ⟨2, false, [BI x.2.2.2.2]⟩)]⟩) x) ((Sum.elim (fun y e s => e = .exit 0 ∧ s = ⟨AY [(8, .ptr 102408 0 0), (12, .int .i64 LD.2.1), (14, .int .i64 (BQ (a1 + LD.1))), (15, .ptr 102415 0 0)], AY [(102408, ⟨3, false, [.agg [eb (0 : UInt8), .str ([] : List UInt8), .nl]]⟩), (102415, ⟨3, false, [.agg [eb y.1, .str y.2.1, .slr 524152 0 y.2.2.1.length]]⟩), (524152, ⟨3, true, List.map AA y.2.2.1⟩), (700970, ⟨2, false, [BI y.2.2.2]⟩)]⟩) (fun y e s => e = .ret ∧ s = ⟨AY [(8, .ptr 102408 0 0), (9, .int .i64 y.2.1), (10, .int .i64 y.2.2.1)], AY [(102408, ⟨3, false, [AA y.1]⟩), (700970, ⟨2, false, [BI y.2.2.2]⟩)]⟩) : ((UInt8 × List UInt8 × List A8 × BH) ⊕ (A8 × Int × Int × BH)) → Xt → St → Prop) y) := by
 refine EQ _ _ (JI N KR a1 a3 LD) (OI N KR a1 a3 LD) (fun _ => rfl) (fun _ _ => rfl) ?_
 rintro rec ⟨tN, LX, LW, TW, TT⟩ y h
 iterate 2 refine AJ ?_
 refine AC ?_
 iterate 3 refine A7 rfl rfl ?_
 refine A7 (p := .int .i64 (BQ ((BQ (a1 + LD.1)) + LD.2.1))) rfl rfl ?_
 refine A7 rfl rfl ?_
 refine D8 h rfl (fun c4 h => ?_) (fun c4 h => ?_)
 refine BF ?_
 refine C9 ?_
 refine AJ ?_
 refine AC ?_
 iterate 4 refine A7 rfl rfl ?_
 refine A7 (p := .int .i64 (BQ ((BQ (a1 + LD.1)) + LD.2.1))) rfl rfl ?_
 refine A7 rfl rfl ?_
 refine A7 (p := .int .i64 (BQ (a3 + (1 : Int)))) rfl rfl ?_
 obtain ⟨x102, hx102, h⟩ := AL h
 refine CS rfl (Ea [(700970, ⟨2, false, [BI TT]⟩)] [(700970, ⟨2, false, [BI x102.2.2.2]⟩)] (VL _ _ _ _ _ hx102) rfl (.cons A9 (.cons A9 (.cons A9 (.cons A9 .nil)))) ⟨rfl, trivial⟩ rfl rfl rfl) ?_
 iterate 4 refine A7 rfl rfl ?_
 refine CS rfl (FZ 102417 rfl rfl rfl rfl rfl) ?_
 refine F3 (e' := AA x102.1) rfl rfl rfl rfl rfl rfl rfl rfl nofun rfl ?_
 iterate 2 refine A7 rfl rfl ?_
 iterate 2 refine AJ ?_
 refine AC ?_
 iterate 2 refine A7 rfl rfl ?_
 refine D8 h rfl (fun c5 h => ?_) (fun c5 h => ?_)
 refine AJ ?_
 refine AC ?_
 refine A7 (p := .agg [eb (0 : UInt8), .str ([] : List UInt8), .nl]) rfl rfl ?_
 refine Br (KN 108 (LM (.cons A9 (.cons A9 (.cons (FV 3) .nil))) rfl) rfl) ?_
 refine A7 rfl rfl ?_
 refine F3 (e' := .agg [eb (0 : UInt8), .str ([] : List UInt8), .sl 3 (List.map AA [])]) rfl rfl rfl rfl rfl rfl rfl rfl nofun rfl ?_
 iterate 2 refine A7 rfl rfl ?_
 cases AB h
 exact DU (st1 := ⟨AY [(8, .ptr 102408 0 0), (9, .int .i64 0), (10, .int .i64 x102.2.2.1)], AY [(102408, ⟨3, false, [AA (⟨(0 : UInt8), ([] : List UInt8), []⟩ : A8)]⟩), (700970, ⟨2, false, [BI x102.2.2.2]⟩)]⟩) (pK [700970] rfl rfl rfl rfl rfl) ⟨rfl, rfl⟩
 refine BF ?_
 refine AJ ?_
 refine AC ?_
 iterate 2 refine A7 rfl rfl ?_
 refine A7 (p := AA x102.1) rfl rfl ?_
 refine CS rfl (SB 102513 rfl rfl rfl) ?_
 obtain ⟨x114, hx114, h⟩ := AL h
 refine UC (f := AA) 102514 hx114 rfl rfl rfl rfl rfl (KA rfl (BR (f := AA) (l := [x102.1]))) rfl rfl rfl rfl ?_
 refine A7 rfl rfl ?_
 refine F3 (e' := .agg [eb LX, .str LW, .slr 102514 0 x114.length]) rfl rfl rfl rfl rfl rfl rfl rfl nofun rfl ?_
 refine UI (pK [700970] rfl (st := _) (l := [(0, .ptr 700970 0 0), (3, .int .i64 a3), (8, .ptr 102408 0 0), (12, .int .i64 LD.2.1), (14, .int .i64 (BQ (a1 + LD.1))), (15, .ptr 102415 0 0), (18, .int .i64 x102.2.1)]) (m := [(102408, ⟨3, false, [.agg [eb (0 : UInt8), .str ([] : List UInt8), .nl]]⟩), (102415, ⟨3, false, [.agg [eb LX, .str LW, .slr 102514 0 x114.length]]⟩), (102514, ⟨3, true, List.map AA x114⟩), (700970, ⟨2, false, [BI x102.2.2.2]⟩)]) rfl rfl rfl rfl) ?_
 refine AC ?_
 iterate 2 refine A7 rfl rfl ?_
 exact ⟨(x102.2.1, LX, LW, x114, x102.2.2.2), (CB.trans (rename 102514 524152 rfl rfl) (pK [700970] rfl rfl rfl rfl rfl)), h⟩
 cases AB h
 exact CW (st1 := ⟨AY [(8, .ptr 102408 0 0), (12, .int .i64 LD.2.1), (14, .int .i64 (BQ (a1 + LD.1))), (15, .ptr 102415 0 0)], AY [(102408, ⟨3, false, [.agg [eb (0 : UInt8), .str ([] : List UInt8), .nl]]⟩), (102415, ⟨3, false, [.agg [eb LX, .str LW, .slr 524152 0 TW.length]]⟩), (524152, ⟨3, true, List.map AA TW⟩), (700970, ⟨2, false, [BI TT]⟩)]⟩) (pK [700970] rfl rfl rfl rfl rfl) ⟨rfl, rfl⟩
theorem VF (N : Nat) (KR : BH → Int → Int → Int → Option (A8 × Int × Int × BH)) (VL : ∀ (a0 : BH) (a1 : Int) (a2 : Int) (a3 : Int) (r : A8 × Int × Int × BH), KR a0 a1 a2 a3 = some r → Sat Tryz.prog 64 (AY [(700970, ⟨2, false, [BI a0]⟩)]) [.ptr 700970 0 0, .int .i64 a1, .int .i64 a2, .int .i64 a3] (.tup [AA r.1, .int .i64 r.2.1, .int .i64 r.2.2.1]) (AY [(700970, ⟨2, false, [BI r.2.2.2]⟩)])) (a0 : BH) (a1 : Int) (a2 : Int) (a3 : Int) (r : A8 × Int × Int × BH) (h : RX N KR a0 a1 a2 a3 = some r) : Sat Tryz.prog 64 (AY [(700970, ⟨2, false, [BI a0]⟩)]) [.ptr 700970 0 0, .int .i64 a1, .int .i64 a2, .int .i64 a3] (.tup [AA r.1, .int .i64 r.2.1, .int .i64 r.2.2.1]) (AY [(700970, ⟨2, false, [BI r.2.2.2]⟩)]) := by
 refine xsatO [(700970, ⟨2, false, [BI a0]⟩)] [(700970, ⟨2, false, [BI r.2.2.2]⟩)] mixed Tryz.func64 Et (rs := [AA r.1, .int .i64 r.2.1, .int .i64 r.2.2.1]) rfl rfl rfl ?_
 refine AJ ?_
 refine AC ?_
 refine CS rfl (FZ 102408 rfl rfl rfl rfl rfl) ?_
 iterate 2 refine A7 rfl rfl ?_
 refine AJ ?_
 refine AC ?_
 iterate 4 refine A7 rfl rfl ?_
 refine F3 (e' := .agg [.str a0.s, .int .i64 a1]) rfl rfl rfl rfl rfl rfl rfl rfl nofun rfl ?_
 iterate 2 refine AJ ?_
 refine AC ?_
 iterate 2 refine A7 rfl rfl ?_
 refine D8 h rfl (fun c1 h => ?_) (fun c1 h => ?_)
 refine AJ ?_
 refine AC ?_
 refine A7 (p := .agg [eb (0 : UInt8), .str ([] : List UInt8), .nl]) rfl rfl ?_
 refine Br (KN 26 (LM (.cons A9 (.cons A9 (.cons (FV 3) .nil))) rfl) rfl) ?_
 refine F3 (e' := .agg [eb (0 : UInt8), .str ([] : List UInt8), .sl 3 (List.map AA [])]) rfl rfl rfl rfl rfl rfl rfl rfl nofun rfl ?_
 iterate 2 refine A7 rfl rfl ?_
 cases AB h
 refine DU (st1 := ⟨AY [(8, .ptr 102408 0 0), (9, .int .i64 0), (10, .int .i64 12)], AY [(102408, ⟨3, false, [AA (⟨(0 : UInt8), ([] : List UInt8), []⟩ : A8)]⟩), (700970, ⟨2, false, [BI (⟨a0.s, a1⟩ : BH)]⟩)]⟩) (pK [700970] rfl rfl rfl rfl rfl) ?_
 exact ⟨nofun, rfl, rfl, ⟨rfl, trivial⟩, rfl⟩
 refine BF ?_
 refine AJ ?_
 refine AC ?_
 iterate 6 refine A7 rfl rfl ?_
 obtain ⟨x34, hx34, h⟩ := AL h
 refine A7 rfl (mM hx34 rfl rfl rfl) ?_
 obtain ⟨LD, uY, h⟩ := AL h
 refine CS rfl (CG (nY N _ _ uY) rfl (.cons A9 .nil) rfl rfl rfl) ?_
 iterate 7 refine A7 rfl rfl ?_
 refine QO (fun (x : Int) => ⟨AY [(0, .ptr 700970 0 0), (1, .int .i64 a1), (3, .int .i64 a3), (8, .ptr 102408 0 0), (11, .int .i64 LD.1), (12, .int .i64 LD.2.1), (13, .int .i64 x)], AY [(102408, ⟨3, false, [.agg [eb (0 : UInt8), .str ([] : List UInt8), .nl]]⟩), (700970, ⟨2, false, [.agg [.str a0.s, .int .i64 a1]]⟩)]⟩) (fun x => MC KR a0 a1 a3 N LD x = some r) ?_ ?_
 rintro iM h
 refine QO (fun (x : Int) => ⟨AY [(0, .ptr 700970 0 0), (1, .int .i64 a1), (3, .int .i64 a3), (8, .ptr 102408 0 0), (11, .int .i64 LD.1), (12, .int .i64 LD.2.1), (13, .int .i64 x)], AY [(102408, ⟨3, false, [.agg [eb (0 : UInt8), .str ([] : List UInt8), .nl]]⟩), (700970, ⟨2, false, [.agg [.str a0.s, .int .i64 a1]]⟩)]⟩) (fun x => MB KR a0 a1 a3 N LD x = some r) ?_ ?_
 rintro nT h
 iterate 2 refine AJ ?_
 refine AC ?_
 iterate 2 refine A7 rfl rfl ?_
 refine D8 h rfl (fun c2 h => ?_) (fun c2 h => ?_)
 refine AJ ?_
 refine AC ?_
 refine A7 (p := .agg [eb (0 : UInt8), .str ([] : List UInt8), .nl]) rfl rfl ?_
 refine Br (KN 58 (LM (.cons A9 (.cons A9 (.cons (FV 3) .nil))) rfl) rfl) ?_
 refine A7 rfl rfl ?_
 refine F3 (e' := .agg [eb (0 : UInt8), .str ([] : List UInt8), .sl 3 (List.map AA [])]) rfl rfl rfl rfl rfl rfl rfl rfl nofun rfl ?_
 iterate 2 refine A7 rfl rfl ?_
 cases AB h
 refine DU (st1 := ⟨AY [(8, .ptr 102408 0 0), (9, .int .i64 0), (10, .int .i64 nT)], AY [(102408, ⟨3, false, [AA (⟨(0 : UInt8), ([] : List UInt8), []⟩ : A8)]⟩), (700970, ⟨2, false, [BI (⟨a0.s, a1⟩ : BH)]⟩)]⟩) (pK [700970] rfl rfl rfl rfl rfl) ?_
 exact ⟨nofun, rfl, rfl, ⟨rfl, trivial⟩, rfl⟩
 refine BF ?_
 refine AJ ?_
 refine AC ?_
 iterate 2 refine A7 rfl rfl ?_
 refine A7 (p := .int .i64 (BQ (a1 + LD.1))) rfl rfl ?_
 refine A7 rfl rfl ?_
 refine AJ ?_
 refine AC ?_
 iterate 5 refine A7 rfl rfl ?_
 obtain ⟨iE, Vi, h⟩ := AL h
 refine A7 rfl (GN Vi rfl rfl) ?_
 refine A7 (p := .agg [eb iE, .str ([] : List UInt8), .nl]) rfl rfl ?_
 refine CS rfl (FZ 102415 rfl rfl rfl rfl rfl) ?_
 refine F3 (e' := .agg [eb iE, .str ([] : List UInt8), .nl]) rfl rfl rfl rfl rfl rfl rfl rfl nofun rfl ?_
 iterate 2 refine AJ ?_
 refine AC ?_
 iterate 2 refine A7 rfl rfl ?_
 refine A7 rfl (Z6 (a := iE) (b := (32 : UInt8)) rfl rfl) ?_
 refine A7 (p := .bool ((((iE &&& (32 : UInt8))).toNat : Int) == (0 : Int))) rfl rfl ?_
 refine D8 h rfl (fun c3 h => ?_) (fun c3 h => ?_)
 refine AJ ?_
 refine AC ?_
 iterate 7 refine A7 rfl rfl ?_
 refine A7 (p := .int .i64 (BQ ((BQ (a1 + LD.1)) + LD.2.1))) rfl rfl ?_
 obtain ⟨x82, hx82, h⟩ := AL h
 refine A7 rfl (mM hx82 rfl rfl rfl) ?_
 refine A7 rfl rfl ?_
 refine F3 (e' := .agg [eb iE, .str x82, .nl]) rfl rfl rfl rfl rfl rfl rfl rfl nofun rfl ?_
 refine AJ ?_
 refine UI (pK [700970] rfl (st := _) (l := [(8, .ptr 102408 0 0), (12, .int .i64 LD.2.1), (14, .int .i64 (BQ (a1 + LD.1))), (15, .ptr 102415 0 0)]) (m := [(102408, ⟨3, false, [.agg [eb (0 : UInt8), .str ([] : List UInt8), .nl]]⟩), (102415, ⟨3, false, [.agg [eb iE, .str x82, .nl]]⟩), (700970, ⟨2, false, [.agg [.str a0.s, .int .i64 a1]]⟩)]) rfl rfl rfl rfl) ?_
 refine AC ?_
 refine A7 (p := .agg [eb iE, .str x82, .nl]) rfl rfl ?_
 iterate 2 refine A7 rfl rfl ?_
 refine A7 (p := .int .i64 (BQ ((BQ (a1 + LD.1)) + LD.2.1))) rfl rfl ?_
 refine F3 (e' := .agg [eb iE, .str x82, .nl]) rfl rfl rfl rfl rfl rfl rfl rfl nofun rfl ?_
 iterate 2 refine A7 rfl rfl ?_
 cases AB h
 refine DU (st1 := ⟨AY [(8, .ptr 102408 0 0), (9, .int .i64 (BQ ((BQ (a1 + LD.1)) + LD.2.1))), (10, .int .i64 0)], AY [(102408, ⟨3, false, [AA (⟨iE, x82, []⟩ : A8)]⟩), (700970, ⟨2, false, [BI (⟨a0.s, a1⟩ : BH)]⟩)]⟩) (CB.trans (uB 102408 (x := .agg [eb iE, .str x82, .nl]) (y := .agg [eb ((⟨iE, x82, []⟩ : A8).Tag), .str ((⟨iE, x82, []⟩ : A8).Body), .sl 3 ((⟨iE, x82, []⟩ : A8).Kids)]) (.cons A9 (.cons A9 (.cons (FV 3) .nil))) rfl rfl) (pK [700970] rfl rfl rfl rfl rfl)) ?_
 exact ⟨nofun, rfl, rfl, ⟨rfl, trivial⟩, rfl⟩
 refine BF ?_
 iterate 2 refine AJ ?_
 refine AC ?_
 iterate 2 refine A7 rfl rfl ?_
 refine C9 ?_
 obtain ⟨y6, tC, h⟩ := AL h
 refine PT (V6 N KR VL a1 a3 LD N _ _ tC) (CB.trans (oC 524152 3 true rfl rfl) (CB.trans (wK 102415 (Q := fun R => R 524152 = some ⟨3, true, []⟩) (x := .agg [eb iE, .str ([] : List UInt8), .nl]) (y := .agg [eb iE, .str ([] : List UInt8), .slr 524152 0 0]) (.cons (fun _ _ _ _ _ _ h => h) (.cons (fun _ _ _ _ _ _ h => h) (.cons gZ (VW _)))) rfl rfl rfl) (pK [700970] rfl rfl rfl rfl rfl))) ?_
 clear tC
 rcases y6 with y6 | y6
 rintro e s ⟨rfl, rfl⟩
 refine AJ ?_
 refine AC ?_
 refine A7 (p := .agg [eb y6.1, .str y6.2.1, .slr 524152 0 y6.2.2.1.length]) rfl rfl ?_
 iterate 2 refine A7 rfl rfl ?_
 refine A7 (p := .int .i64 (BQ ((BQ (a1 + LD.1)) + LD.2.1))) rfl rfl ?_
 refine F3 (e' := .agg [eb y6.1, .str y6.2.1, .slr 524152 0 y6.2.2.1.length]) rfl rfl rfl rfl rfl rfl rfl rfl nofun rfl ?_
 iterate 2 refine A7 rfl rfl ?_
 cases AB h
 refine DU (st1 := ⟨AY [(8, .ptr 102408 0 0), (9, .int .i64 (BQ ((BQ (a1 + LD.1)) + LD.2.1))), (10, .int .i64 0)], AY [(102408, ⟨3, false, [AA (⟨y6.1, y6.2.1, (List.map AA y6.2.2.1)⟩ : A8)]⟩), (700970, ⟨2, false, [BI y6.2.2.2]⟩)]⟩) (CB.trans (Vd.freeze 524152 _ rfl rfl rfl) (CB.trans (uB 102408 (x := .agg [eb y6.1, .str y6.2.1, .sl 3 (List.take y6.2.2.1.length (List.drop 0 (List.map AA y6.2.2.1)))]) (y := .agg [eb ((⟨y6.1, y6.2.1, (List.map AA y6.2.2.1)⟩ : A8).Tag), .str ((⟨y6.1, y6.2.1, (List.map AA y6.2.2.1)⟩ : A8).Body), .sl 3 ((⟨y6.1, y6.2.1, (List.map AA y6.2.2.1)⟩ : A8).Kids)]) (.cons A9 (.cons A9 (.cons (GQ (congrArg (PV.sl 3) (BR (f := AA) (l := y6.2.2.1)))) .nil))) rfl rfl) (pK [700970] rfl rfl rfl rfl rfl))) ?_
 exact ⟨nofun, rfl, rfl, ⟨rfl, trivial⟩, rfl⟩
 rintro e s ⟨rfl, rfl⟩
 cases AB h
 exact ⟨nofun, rfl, rfl, ⟨rfl, trivial⟩, rfl⟩
 obtain ⟨g7, rR, h⟩ := AL h
 refine F9 ⟨AY [(0, .ptr 700970 0 0), (1, .int .i64 a1), (3, .int .i64 a3), (8, .ptr 102408 0 0), (11, .int .i64 LD.1), (12, .int .i64 LD.2.1), (13, .int .i64 iM), (55, .bool g7)], AY [(102408, ⟨3, false, [.agg [eb (0 : UInt8), .str ([] : List UInt8), .nl]]⟩), (700970, ⟨2, false, [.agg [.str a0.s, .int .i64 a1]]⟩)]⟩ ?_ ?_
 have h := rR
 refine AC ?_
 iterate 3 refine A7 rfl rfl ?_
 rcases BO h with ⟨c8, h⟩ | ⟨c8, h⟩
 iterate 2 refine A7 (gy rfl c8) rfl ?_
 refine A7 rfl (BA c8 rfl rfl) ?_
 cases AB h
 exact (pK [700970] rfl rfl rfl rfl rfl)
 iterate 2 refine BK (gn rfl c8) ?_
 refine A7 rfl (AZ c8 rfl rfl) ?_
 obtain rfl := AB h
 exact (pK [700970] rfl rfl rfl rfl rfl)
 clear rR
 refine D8 h rfl (fun c9 h => ?_) (fun c9 h => ?_)
 refine AC ?_
 refine A7 rfl rfl ?_
 exact ⟨11, (pK [700970] rfl rfl rfl rfl rfl), h⟩
 refine BF ?_
 exact ⟨iM, (pK [700970] rfl rfl rfl rfl rfl), h⟩
 obtain ⟨g10, rU, h⟩ := AL h
 refine F9 ⟨AY [(0, .ptr 700970 0 0), (1, .int .i64 a1), (3, .int .i64 a3), (8, .ptr 102408 0 0), (11, .int .i64 LD.1), (12, .int .i64 LD.2.1), (13, .int .i64 LD.2.2), (49, .bool g10)], AY [(102408, ⟨3, false, [.agg [eb (0 : UInt8), .str ([] : List UInt8), .nl]]⟩), (700970, ⟨2, false, [.agg [.str a0.s, .int .i64 a1]]⟩)]⟩ ?_ ?_
 have h := rU
 refine AC ?_
 iterate 3 refine A7 rfl rfl ?_
 rcases BO h with ⟨c11, h⟩ | ⟨c11, h⟩
 iterate 3 refine A7 (gy rfl c11) rfl ?_
 refine A7 (p := .int .i64 (BQ (a2 - a1))) (gy rfl c11) rfl ?_
 refine A7 (gy rfl c11) rfl ?_
 refine A7 (p := .int .i64 (BQ ((BQ (a2 - a1)) - LD.1))) (gy rfl c11) rfl ?_
 refine A7 (gy rfl c11) rfl ?_
 refine A7 rfl (BA c11 rfl rfl) ?_
 cases AB h
 exact (pK [700970] rfl rfl rfl rfl rfl)
 iterate 7 refine BK (gn rfl c11) ?_
 refine A7 rfl (AZ c11 rfl rfl) ?_
 obtain rfl := AB h
 exact (pK [700970] rfl rfl rfl rfl rfl)
 clear rU
 refine D8 h rfl (fun c12 h => ?_) (fun c12 h => ?_)
 refine AC ?_
 refine A7 rfl rfl ?_
 exact ⟨10, (pK [700970] rfl rfl rfl rfl rfl), h⟩
 refine BF ?_
 exact ⟨LD.2.2, (pK [700970] rfl rfl rfl rfl rfl), h⟩
theorem VG (N : Nat) : ∀ (n : Nat) (a0 : BH) (a1 : Int) (a2 : Int) (a3 : Int) (r : A8 × Int × Int × BH) (h : KP N n a0 a1 a2 a3 = some r), Sat Tryz.prog 64 (AY [(700970, ⟨2, false, [BI a0]⟩)]) [.ptr 700970 0 0, .int .i64 a1, .int .i64 a2, .int .i64 a3] (.tup [AA r.1, .int .i64 r.2.1, .int .i64 r.2.2.1]) (AY [(700970, ⟨2, false, [BI r.2.2.2]⟩)]) := by
 intro n
 induction n with
 | zero => intro a0 a1 a2 a3 r h; cases h
 | succ n ih => intro a0 a1 a2 a3 r h; exact VF N (KP N n) ih a0 a1 a2 a3 r h
theorem X9 (N : Nat) (a0 : BH) (a1 : Int) (a2 : Int) (a3 : Int) (r : A8 × Int × Int × BH) (h : UA N a0 a1 a2 a3 = some r) : Sat Tryz.prog 64 (AY [(700970, ⟨2, false, [BI a0]⟩)]) [.ptr 700970 0 0, .int .i64 a1, .int .i64 a2, .int .i64 a3] (.tup [AA r.1, .int .i64 r.2.1, .int .i64 r.2.2.1]) (AY [(700970, ⟨2, false, [BI r.2.2.2]⟩)]) := VG N N a0 a1 a2 a3 r h
end Go.Gp
end
