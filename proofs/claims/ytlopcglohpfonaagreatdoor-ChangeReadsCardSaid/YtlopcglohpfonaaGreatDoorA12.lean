/- A part of the proof: functions of the program and what they compute. -/
import Derived.Test.YtlopcglohpfonaaGreatDoorA5
import Derived.Test.YtlopcglohpfonaaGreatDoorA6
import Derived.Test.YtlopcglohpfonaaGreatDoorA10
import Derived.Test.YtlopcglohpfonaaGreatDoorA11
import Derived.Test.YtlopcglohpfonaaGreatDoorA9
section
set_option linter.unusedVariables false
set_option linter.unusedSimpArgs false
set_option maxRecDepth 4000
set_option maxHeartbeats 4000000
namespace Go.Gp
open Go.Vd Go.RowKit Go.Proofs
def k10 : IC := (.seq (.reg [jn 1 (.box 28 (.t 0)), jc 2 (.bool false)]) (.seq (.seq (.reg [ja 5 0 1, jg 6 3 5, jn 7 (.call 24 [(.t 6)]), jn 8 (.un .not (.t 7)), jm 9 8, jf 9 10 (.fda 0 (.t 1)), jf 9 11 (.load 3 true (.t 10)), jf 9 12 (.call 25 [(.t 11)]), jo 13 9 12, jm 14 13, jf 14 15 (.fda 4 (.t 1)), jf 14 16 (.load 3 true (.t 15)), jf 14 17 (.call 24 [(.t 16)]), jf 14 18 (.un .not (.t 17)), jo 19 14 18, jm 20 19, jf 20 21 (.fda 7 (.t 1)), jf 20 22 (.load 3 true (.t 21)), jf 20 23 (.call 24 [(.t 22)]), jf 20 24 (.un .not (.t 23)), jo 25 20 24]) (.cond (.t 25) (.seq (.reg [jc 2 (.bool false)]) .ret) .skip)) (.seq (.reg [jn 26 (.mkf 26 [(.t 1)]), jm 3 26]) (.seq (.reg [ja 27 7 1, jg 28 3 27, jn 29 (.call 25 [(.t 28)]), jm 30 29, jt 30 31 (.fda 10 (.t 1)), jt 30 32 (.load 1 false (.t 31)), jt 30 33 (.len false (.t 32)), jt 30 34 (.bin .eql (.t 33) (ji 0)), jp 35 30 34, jm 36 35, jt 36 37 (.fda 11 (.t 1)), jt 36 38 (.load 1 false (.t 37)), jt 36 39 (.un .not (.t 38)), jp 40 36 39, jm 4 40]) (.seq (.seq (.reg [ja 41 3 1, jl 42 1 41]) (.block 0 (.seq (.reg [ju .eql 44 42 1, jm 43 44]) (.cond (.t 43) (.seq (.reg [ja 45 4 1, jg 46 3 45, ja 47 0 1, jg 48 3 47, jn 49 (.eqs false [(.i .i64), (.i .i64), (.i .i64)] (.t 46) (.t 48)), jm 50 49, jt 50 51 (.mov (.t 3)), jt 50 52 (.fda 7 (.t 1)), jt 50 53 (.load 3 true (.t 52)), jt 50 54 (.calv (.t 51) [(.t 53)]), jp 55 50 54, jm 56 55, jt 56 57 (.fda 10 (.t 1)), jt 56 58 (.load 1 false (.t 57)), jt 56 59 (.call 28 [(.t 58)]), jp 60 56 59, jm 61 60, jt 61 62 (.fda 12 (.t 1)), jt 61 63 (.load 1 false (.t 62)), jt 61 64 (.call 29 [(.t 63), (ji 1)]), jp 65 61 64, jm 66 65, jt 66 67 (.fda 11 (.t 1)), jt 66 68 (.load 1 false (.t 67)), jt 66 69 (.un .not (.t 68)), jp 70 66 69, jm 2 70]) .ret) (.seq (.reg [ju .eql 72 42 2, jm 71 72]) (.cond (.t 71) (.seq (.reg [ja 73 4 1, jg 74 3 73, jn 75 (.call 25 [(.t 74)]), jn 76 (.un .not (.t 75)), jm 77 76, jt 77 78 (.mov (.t 3)), jt 77 79 (.fda 4 (.t 1)), jt 77 80 (.load 3 true (.t 79)), jt 77 81 (.calv (.t 78) [(.t 80)]), jp 82 77 81, jm 83 82, jt 83 84 (.mov (.t 4)), jp 85 83 84, jm 86 85, jt 86 87 (.fda 12 (.t 1)), jt 86 88 (.load 1 false (.t 87)), jt 86 89 (.len false (.t 88)), jt 86 90 (.bin .eql (.t 89) (ji 0)), jp 91 86 90, jm 2 91]) .ret) (.seq (.reg [ju .eql 93 42 3, jm 92 93]) (.cond (.t 92) (.seq (.reg [jm 94 3, ja 95 4 1, jg 96 3 95, jn 97 (.calv (.t 94) [(.t 96)]), jm 98 97, jt 98 99 (.mov (.t 4)), jp 100 98 99, jm 101 100, jt 101 102 (.fda 12 (.t 1)), jt 101 103 (.load 1 false (.t 102)), jt 101 104 (.len false (.t 103)), jt 101 105 (.bin .gtr (.t 104) (ji 0)), jp 106 101 105, jm 107 106, jt 107 108 (.fda 12 (.t 1)), jt 107 109 (.load 1 false (.t 108)), jt 107 110 (.call 29 [(.t 109), (ji 3)]), jp 111 107 110, jm 2 111]) .ret) (.seq (.reg [ju .eql 113 42 4, jm 112 113]) (.cond (.t 112) (.seq (.reg [ja 114 4 1, jg 115 3 114, jn 116 (.call 25 [(.t 115)]), jn 117 (.un .not (.t 116)), jm 118 117, jt 118 119 (.mov (.t 3)), jt 118 120 (.fda 4 (.t 1)), jt 118 121 (.load 3 true (.t 120)), jt 118 122 (.calv (.t 119) [(.t 121)]), jp 123 118 122, jm 124 123, jt 124 125 (.mov (.t 3)), jt 124 126 (.fda 7 (.t 1)), jt 124 127 (.load 3 true (.t 126)), jt 124 128 (.calv (.t 125) [(.t 127)]), jp 129 124 128, jm 130 129, jt 130 131 (.fda 10 (.t 1)), jt 130 132 (.load 1 false (.t 131)), jt 130 133 (.call 28 [(.t 132)]), jp 134 130 133, jm 135 134, jt 135 136 (.fda 12 (.t 1)), jt 135 137 (.load 1 false (.t 136)), jt 135 138 (.len false (.t 137)), jt 135 139 (.bin .eql (.t 138) (ji 0)), jp 140 135 139, jm 2 140]) .ret) .skip)))))))))) (.seq (.reg [jc 2 (.bool false)]) .ret))))))
theorem Ws : BV Tryz.prog Tryz.f10 = some ⟨141, k10, [(.tmp 2)]⟩ := by kernel_rfl
theorem VQ (N : Nat) (a0 : AX) (r : Bool) (h : TW N a0 = some r) : Sat Tryz.prog 10 AO [AR a0] (.bool r) AO := by
 refine DK mixed Tryz.func10 Ws (rs := [.bool r]) rfl rfl ?_
 refine AC (AB ?_)
 refine CO rfl (G5 16001 rfl rfl rfl rfl rfl) ?_
 refine wq rfl ?_
 refine AC ?_
 obtain ⟨g1, hg1, h⟩ := AJ h
 refine F3 ⟨AY [(1, .ptr 16001 0 0), (25, .bool g1)], AY [(16001, ⟨13, false, [AR a0]⟩)]⟩ ?_ ?_
 have h := hg1
 refine AB ?_
 refine wq rfl ?_
 refine AQ (p := .agg [j6 a0.CSN.Time, j6 a0.CSN.Seq, j6 a0.CSN.Rep]) rfl rfl ?_
 obtain ⟨x7, hx7, h⟩ := AJ h
 refine CO rfl (CB (XI N _ _ hx7) rfl (.cons A8 .nil) rfl rfl rfl) ?_
 iterate 2 refine wq rfl ?_
 rcases BO h with ⟨c2, h⟩ | ⟨c2, h⟩
 iterate 3 refine BJ (gn rfl c2) ?_
 refine AQ rfl (BA c2 rfl rfl) ?_
 refine wq rfl ?_
 iterate 4 refine BJ rfl ?_
 iterate 2 refine wq rfl ?_
 iterate 4 refine BJ rfl ?_
 refine wq rfl ?_
 obtain rfl := AA h
 exact cq rfl
 refine AQ (gy rfl c2) rfl ?_
 refine AQ (p := .agg [j6 a0.CSN.Time, j6 a0.CSN.Seq, j6 a0.CSN.Rep]) (gy rfl c2) rfl ?_
 obtain ⟨IP, XN, h⟩ := AJ h
 refine CO (gy rfl c2) (CB (TN N _ _ XN) rfl (.cons A8 .nil) rfl rfl rfl) ?_
 refine AQ rfl (AZ c2 rfl rfl) ?_
 refine wq rfl ?_
 rcases BO h with ⟨c3, h⟩ | ⟨c3, h⟩
 iterate 4 refine BJ (gn rfl c3) ?_
 refine AQ rfl (BA c3 rfl rfl) ?_
 refine wq rfl ?_
 iterate 4 refine BJ rfl ?_
 refine wq rfl ?_
 obtain rfl := AA h
 exact cq rfl
 refine AQ (gy rfl c3) rfl ?_
 refine AQ (p := .agg [j6 a0.ID.Time, j6 a0.ID.Seq, j6 a0.ID.Rep]) (gy rfl c3) rfl ?_
 obtain ⟨E9, VU, h⟩ := AJ h
 refine CO (gy rfl c3) (CB (XI N _ _ VU) rfl (.cons A8 .nil) rfl rfl rfl) ?_
 refine AQ (gy rfl c3) rfl ?_
 refine AQ rfl (AZ c3 rfl rfl) ?_
 refine wq rfl ?_
 rcases BO h with ⟨c4, h⟩ | ⟨c4, h⟩
 iterate 4 refine BJ (gn rfl c4) ?_
 refine AQ rfl (BA c4 rfl rfl) ?_
 obtain rfl := AA h
 exact cq rfl
 refine AQ (gy rfl c4) rfl ?_
 refine AQ (p := .agg [j6 a0.Parent.Time, j6 a0.Parent.Seq, j6 a0.Parent.Rep]) (gy rfl c4) rfl ?_
 obtain ⟨XY, gB, h⟩ := AJ h
 refine CO (gy rfl c4) (CB (XI N _ _ gB) rfl (.cons A8 .nil) rfl rfl rfl) ?_
 refine AQ (gy rfl c4) rfl ?_
 refine AQ rfl (AZ c4 rfl rfl) ?_
 cases AA h
 exact cq rfl
 clear hg1
 refine D5 h rfl (fun c5 h => ?_) (fun c5 h => ?_)
 refine AC (AB ?_)
 refine wq rfl ?_
 obtain rfl := AA h
 refine BR ?_
 exact ⟨nofun, rfl, rfl⟩
 refine BF (AC (AB ?_))
 iterate 2 refine wq rfl ?_
 obtain ⟨g6, zT, h⟩ := AJ h
 refine F3 ⟨AY [(1, .ptr 16001 0 0), (3, .clo 26 [.ptr 16001 0 0]), (4, .bool g6)], AY [(16001, ⟨13, false, [AR a0]⟩)]⟩ ?_ ?_
 have h := zT
 refine AB ?_
 refine wq rfl ?_
 refine AQ (p := .agg [j6 a0.Parent.Time, j6 a0.Parent.Seq, j6 a0.Parent.Rep]) rfl rfl ?_
 obtain ⟨x29, hx29, h⟩ := AJ h
 refine CO rfl (CB (TN N _ _ hx29) rfl (.cons A8 .nil) rfl rfl rfl) ?_
 refine wq rfl ?_
 rcases BO h with ⟨c7, h⟩ | ⟨c7, h⟩
 iterate 2 refine AQ (gy rfl c7) rfl ?_
 refine AQ (gy rfl c7) (BU rfl) ?_
 refine AQ (gy rfl c7) rfl ?_
 refine AQ rfl (BA c7 rfl rfl) ?_
 refine wq rfl ?_
 rcases BO h with ⟨c8, h⟩ | ⟨c8, h⟩
 iterate 3 refine AQ (gy rfl c8) rfl ?_
 refine AQ rfl (BA c8 rfl rfl) ?_
 refine wq rfl ?_
 cases AA h
 exact cq rfl
 iterate 3 refine BJ (gn rfl c8) ?_
 refine AQ rfl (AZ c8 rfl rfl) ?_
 refine wq rfl ?_
 obtain rfl := AA h
 exact cq rfl
 iterate 4 refine BJ (gn rfl c7) ?_
 refine AQ rfl (AZ c7 rfl rfl) ?_
 refine wq rfl ?_
 iterate 3 refine BJ rfl ?_
 iterate 2 refine wq rfl ?_
 obtain rfl := AA h
 exact cq rfl
 clear zT
 iterate 2 refine AC ?_
 refine AB ?_
 iterate 2 refine wq rfl ?_
 refine BZ (AC (AB ?_))
 iterate 2 refine wq rfl ?_
 refine D5 h rfl (fun c9 h => ?_) (fun c9 h => ?_)
 obtain ⟨g10, tV, h⟩ := AJ h
 refine F3 ⟨AY [(2, .bool g10)], AY []⟩ ?_ ?_
 have h := tV
 refine AB ?_
 refine wq rfl ?_
 refine AQ (p := .agg [j6 a0.ID.Time, j6 a0.ID.Seq, j6 a0.ID.Rep]) rfl rfl ?_
 refine wq rfl ?_
 refine AQ (p := .agg [j6 a0.CSN.Time, j6 a0.CSN.Seq, j6 a0.CSN.Rep]) rfl rfl ?_
 refine AQ (p := .bool (a0.ID.Time == a0.CSN.Time && (a0.ID.Seq == a0.CSN.Seq && (a0.ID.Rep == a0.CSN.Rep && true)))) rfl rfl ?_
 refine wq rfl ?_
 rcases BO h with ⟨c11, h⟩ | ⟨c11, h⟩
 iterate 2 refine AQ (gy rfl c11) rfl ?_
 refine AQ (p := .agg [j6 a0.Parent.Time, j6 a0.Parent.Seq, j6 a0.Parent.Rep]) (gy rfl c11) rfl ?_
 refine wn (VD 16001 rfl rfl rfl) ?_
 obtain ⟨x54, Xl, h⟩ := AJ h
 refine CO (gy rfl c11) (aI (MZ N _ _ _ Xl) rfl rfl rfl (.cons A8 (.cons A8 .nil)) rfl rfl rfl) ?_
 refine AQ rfl (BA c11 rfl rfl) ?_
 refine wq rfl ?_
 rcases BO h with ⟨c12, h⟩ | ⟨c12, h⟩
 refine AQ (p := .ep [.sl 2 (List.map AV a0.RDN), .bool a0.DelOld, .sl 3 (List.map AU a0.Mods)]) (gy rfl c12) rfl ?_
 refine AQ (gy rfl c12) rfl ?_
 obtain ⟨Lt, Ie, h⟩ := AJ h
 refine CO (gy rfl c12) (CB (WN N _ _ Ie) rfl (.cons A8 .nil) rfl rfl rfl) ?_
 refine AQ rfl (BA c12 rfl rfl) ?_
 refine wq rfl ?_
 rcases BO h with ⟨c13, h⟩ | ⟨c13, h⟩
 refine AQ (p := .ep [.sl 3 (List.map AU a0.Mods)]) (gy rfl c13) rfl ?_
 refine AQ (gy rfl c13) rfl ?_
 obtain ⟨x64, Xg, h⟩ := AJ h
 refine CO (gy rfl c13) (CB (V7 N _ _ _ Xg) rfl (.cons A8 (.cons A8 .nil)) rfl rfl rfl) ?_
 refine AQ rfl (BA c13 rfl rfl) ?_
 refine wq rfl ?_
 rcases BO h with ⟨c14, h⟩ | ⟨c14, h⟩
 refine AQ (p := .ep [.bool a0.DelOld, .sl 3 (List.map AU a0.Mods)]) (gy rfl c14) rfl ?_
 iterate 2 refine AQ (gy rfl c14) rfl ?_
 refine AQ rfl (BA c14 rfl rfl) ?_
 refine wq rfl ?_
 cases AA h
 exact cq rfl
 iterate 3 refine BJ (gn rfl c14) ?_
 refine AQ rfl (AZ c14 rfl rfl) ?_
 refine wq rfl ?_
 obtain rfl := AA h
 exact cq rfl
 iterate 3 refine BJ (gn rfl c13) ?_
 refine AQ rfl (AZ c13 rfl rfl) ?_
 refine wq rfl ?_
 iterate 3 refine BJ rfl ?_
 iterate 2 refine wq rfl ?_
 obtain rfl := AA h
 exact cq rfl
 iterate 3 refine BJ (gn rfl c12) ?_
 refine AQ rfl (AZ c12 rfl rfl) ?_
 refine wq rfl ?_
 iterate 3 refine BJ rfl ?_
 iterate 2 refine wq rfl ?_
 iterate 3 refine BJ rfl ?_
 iterate 2 refine wq rfl ?_
 obtain rfl := AA h
 exact cq rfl
 iterate 4 refine BJ (gn rfl c11) ?_
 refine AQ rfl (AZ c11 rfl rfl) ?_
 refine wq rfl ?_
 iterate 3 refine BJ rfl ?_
 iterate 2 refine wq rfl ?_
 iterate 3 refine BJ rfl ?_
 iterate 2 refine wq rfl ?_
 iterate 3 refine BJ rfl ?_
 iterate 2 refine wq rfl ?_
 obtain rfl := AA h
 exact cq rfl
 clear tV
 obtain rfl := AA h
 refine BR ?_
 exact ⟨nofun, rfl, rfl⟩
 refine AC (AB ?_)
 iterate 2 refine wq rfl ?_
 refine D5 h rfl (fun c15 h => ?_) (fun c15 h => ?_)
 obtain ⟨g16, tT, h⟩ := AJ h
 refine F3 ⟨AY [(2, .bool g16)], AY []⟩ ?_ ?_
 have h := tT
 refine AB ?_
 refine wq rfl ?_
 refine AQ (p := .agg [j6 a0.ID.Time, j6 a0.ID.Seq, j6 a0.ID.Rep]) rfl rfl ?_
 obtain ⟨x75, Xc, h⟩ := AJ h
 refine CO rfl (CB (TN N _ _ Xc) rfl (.cons A8 .nil) rfl rfl rfl) ?_
 iterate 2 refine wq rfl ?_
 rcases BO h with ⟨c17, h⟩ | ⟨c17, h⟩
 iterate 2 refine AQ (gy rfl c17) rfl ?_
 refine AQ (p := .agg [j6 a0.ID.Time, j6 a0.ID.Seq, j6 a0.ID.Rep]) (gy rfl c17) rfl ?_
 refine wn (VD 16001 rfl rfl rfl) ?_
 obtain ⟨x81, Ic, h⟩ := AJ h
 refine CO (gy rfl c17) (aI (MZ N _ _ _ Ic) rfl rfl rfl (.cons A8 (.cons A8 .nil)) rfl rfl rfl) ?_
 refine AQ rfl (BA c17 rfl rfl) ?_
 refine wq rfl ?_
 rcases BO h with ⟨c18, h⟩ | ⟨c18, h⟩
 refine AQ (gy rfl c18) rfl ?_
 refine AQ rfl (BA c18 rfl rfl) ?_
 refine wq rfl ?_
 rcases BO h with ⟨c19, h⟩ | ⟨c19, h⟩
 refine AQ (p := .ep [.sl 3 (List.map AU a0.Mods)]) (gy rfl c19) rfl ?_
 refine AQ (gy rfl c19) rfl ?_
 refine AQ (gy rfl c19) (BU rfl) ?_
 refine AQ (gy rfl c19) rfl ?_
 refine AQ rfl (BA c19 rfl rfl) ?_
 refine wq rfl ?_
 cases AA h
 exact cq rfl
 iterate 4 refine BJ (gn rfl c19) ?_
 refine AQ rfl (AZ c19 rfl rfl) ?_
 refine wq rfl ?_
 obtain rfl := AA h
 exact cq rfl
 refine BJ (gn rfl c18) ?_
 refine AQ rfl (AZ c18 rfl rfl) ?_
 refine wq rfl ?_
 iterate 4 refine BJ rfl ?_
 iterate 2 refine wq rfl ?_
 obtain rfl := AA h
 exact cq rfl
 iterate 4 refine BJ (gn rfl c17) ?_
 refine AQ rfl (AZ c17 rfl rfl) ?_
 refine wq rfl ?_
 refine BJ rfl ?_
 iterate 2 refine wq rfl ?_
 iterate 4 refine BJ rfl ?_
 iterate 2 refine wq rfl ?_
 obtain rfl := AA h
 exact cq rfl
 clear tT
 obtain rfl := AA h
 refine BR ?_
 exact ⟨nofun, rfl, rfl⟩
 refine AC (AB ?_)
 iterate 2 refine wq rfl ?_
 refine D5 h rfl (fun c20 h => ?_) (fun c20 h => ?_)
 obtain ⟨g21, hg21, h⟩ := AJ h
 refine F3 ⟨AY [(2, .bool g21)], AY []⟩ ?_ ?_
 have h := hg21
 refine AB ?_
 iterate 2 refine wq rfl ?_
 refine AQ (p := .agg [j6 a0.ID.Time, j6 a0.ID.Seq, j6 a0.ID.Rep]) rfl rfl ?_
 refine wn (VD 16001 rfl rfl rfl) ?_
 obtain ⟨x97, hx97, h⟩ := AJ h
 refine CO rfl (aI (MZ N _ _ _ hx97) rfl rfl rfl (.cons A8 (.cons A8 .nil)) rfl rfl rfl) ?_
 refine wq rfl ?_
 rcases BO h with ⟨c22, h⟩ | ⟨c22, h⟩
 refine AQ (gy rfl c22) rfl ?_
 refine AQ rfl (BA c22 rfl rfl) ?_
 refine wq rfl ?_
 rcases BO h with ⟨c23, h⟩ | ⟨c23, h⟩
 refine AQ (p := .ep [.sl 3 (List.map AU a0.Mods)]) (gy rfl c23) rfl ?_
 refine AQ (gy rfl c23) rfl ?_
 refine AQ (gy rfl c23) (BU rfl) ?_
 refine AQ (gy rfl c23) rfl ?_
 refine AQ rfl (BA c23 rfl rfl) ?_
 refine wq rfl ?_
 rcases BO h with ⟨c24, h⟩ | ⟨c24, h⟩
 refine AQ (p := .ep [.sl 3 (List.map AU a0.Mods)]) (gy rfl c24) rfl ?_
 refine AQ (gy rfl c24) rfl ?_
 obtain ⟨x110, hx110, h⟩ := AJ h
 refine CO (gy rfl c24) (CB (V7 N _ _ _ hx110) rfl (.cons A8 (.cons A8 .nil)) rfl rfl rfl) ?_
 refine AQ rfl (BA c24 rfl rfl) ?_
 refine wq rfl ?_
 obtain rfl := AA h
 exact cq rfl
 iterate 3 refine BJ (gn rfl c24) ?_
 refine AQ rfl (AZ c24 rfl rfl) ?_
 refine wq rfl ?_
 obtain rfl := AA h
 exact cq rfl
 iterate 4 refine BJ (gn rfl c23) ?_
 refine AQ rfl (AZ c23 rfl rfl) ?_
 refine wq rfl ?_
 iterate 3 refine BJ rfl ?_
 iterate 2 refine wq rfl ?_
 obtain rfl := AA h
 exact cq rfl
 refine BJ (gn rfl c22) ?_
 refine AQ rfl (AZ c22 rfl rfl) ?_
 refine wq rfl ?_
 iterate 4 refine BJ rfl ?_
 iterate 2 refine wq rfl ?_
 iterate 3 refine BJ rfl ?_
 iterate 2 refine wq rfl ?_
 obtain rfl := AA h
 exact cq rfl
 clear hg21
 obtain rfl := AA h
 refine BR ?_
 exact ⟨nofun, rfl, rfl⟩
 refine AC (AB ?_)
 iterate 2 refine wq rfl ?_
 refine D5 h rfl (fun Pw h => ?_) (fun Pw h => ?_)
 obtain ⟨g26, hg26, h⟩ := AJ h
 refine F3 ⟨AY [(2, .bool g26)], AY []⟩ ?_ ?_
 have h := hg26
 refine AB ?_
 refine wq rfl ?_
 refine AQ (p := .agg [j6 a0.ID.Time, j6 a0.ID.Seq, j6 a0.ID.Rep]) rfl rfl ?_
 obtain ⟨mM, tO, h⟩ := AJ h
 refine CO rfl (CB (TN N _ _ tO) rfl (.cons A8 .nil) rfl rfl rfl) ?_
 iterate 2 refine wq rfl ?_
 rcases BO h with ⟨Pv, h⟩ | ⟨Pv, h⟩
 iterate 2 refine AQ (gy rfl Pv) rfl ?_
 refine AQ (p := .agg [j6 a0.ID.Time, j6 a0.ID.Seq, j6 a0.ID.Rep]) (gy rfl Pv) rfl ?_
 refine wn (VD 16001 rfl rfl rfl) ?_
 obtain ⟨M8, tN, h⟩ := AJ h
 refine CO (gy rfl Pv) (aI (MZ N _ _ _ tN) rfl rfl rfl (.cons A8 (.cons A8 .nil)) rfl rfl rfl) ?_
 refine AQ rfl (BA Pv rfl rfl) ?_
 refine wq rfl ?_
 rcases BO h with ⟨c28, h⟩ | ⟨c28, h⟩
 refine AQ (gy rfl c28) rfl ?_
 refine AQ (p := .ep [j6 a0.Parent.Time, j6 a0.Parent.Seq, j6 a0.Parent.Rep, .sl 2 (List.map AV a0.RDN), .bool a0.DelOld, .sl 3 (List.map AU a0.Mods)]) (gy rfl c28) rfl ?_
 refine AQ (p := .agg [j6 a0.Parent.Time, j6 a0.Parent.Seq, j6 a0.Parent.Rep]) (gy rfl c28) rfl ?_
 obtain ⟨x128, hx128, h⟩ := AJ h
 refine CO (gy rfl c28) (aI (MZ N _ _ _ hx128) rfl rfl rfl (.cons A8 (.cons A8 .nil)) rfl rfl rfl) ?_
 refine AQ rfl (BA c28 rfl rfl) ?_
 refine wq rfl ?_
 rcases BO h with ⟨uP, h⟩ | ⟨uP, h⟩
 refine AQ (p := .ep [.sl 2 (List.map AV a0.RDN), .bool a0.DelOld, .sl 3 (List.map AU a0.Mods)]) (gy rfl uP) rfl ?_
 refine AQ (gy rfl uP) rfl ?_
 obtain ⟨x133, hx133, h⟩ := AJ h
 refine CO (gy rfl uP) (CB (WN N _ _ hx133) rfl (.cons A8 .nil) rfl rfl rfl) ?_
 refine AQ rfl (BA uP rfl rfl) ?_
 refine wq rfl ?_
 rcases BO h with ⟨zZ, h⟩ | ⟨zZ, h⟩
 refine AQ (p := .ep [.sl 3 (List.map AU a0.Mods)]) (gy rfl zZ) rfl ?_
 refine AQ (gy rfl zZ) rfl ?_
 refine AQ (gy rfl zZ) (BU rfl) ?_
 refine AQ (gy rfl zZ) rfl ?_
 refine AQ rfl (BA zZ rfl rfl) ?_
 refine wq rfl ?_
 cases AA h
 exact cq rfl
 iterate 4 refine BJ (gn rfl zZ) ?_
 refine AQ rfl (AZ zZ rfl rfl) ?_
 refine wq rfl ?_
 obtain rfl := AA h
 exact cq rfl
 iterate 3 refine BJ (gn rfl uP) ?_
 refine AQ rfl (AZ uP rfl rfl) ?_
 refine wq rfl ?_
 iterate 4 refine BJ rfl ?_
 iterate 2 refine wq rfl ?_
 obtain rfl := AA h
 exact cq rfl
 iterate 4 refine BJ (gn rfl c28) ?_
 refine AQ rfl (AZ c28 rfl rfl) ?_
 refine wq rfl ?_
 iterate 3 refine BJ rfl ?_
 iterate 2 refine wq rfl ?_
 iterate 4 refine BJ rfl ?_
 iterate 2 refine wq rfl ?_
 obtain rfl := AA h
 exact cq rfl
 iterate 4 refine BJ (gn rfl Pv) ?_
 refine AQ rfl (AZ Pv rfl rfl) ?_
 refine wq rfl ?_
 iterate 4 refine BJ rfl ?_
 iterate 2 refine wq rfl ?_
 iterate 3 refine BJ rfl ?_
 iterate 2 refine wq rfl ?_
 iterate 4 refine BJ rfl ?_
 iterate 2 refine wq rfl ?_
 obtain rfl := AA h
 exact cq rfl
 clear hg26
 obtain rfl := AA h
 refine BR ?_
 exact ⟨nofun, rfl, rfl⟩
 refine BF (AC (AB ?_))
 refine wq rfl ?_
 obtain rfl := AA h
 refine BR ?_
 exact ⟨nofun, rfl, rfl⟩
def k19 : IC := (.seq (.reg [jn 4 (.box 52 (.c (.agg [(.int .u8 0), (.str []), .nl])))]) (.seq (.reg [jm 5 0, jm 6 1, jn 7 (.build [(.int .u8 0), (.str []), .nl] [(0, (1, (.t 5))), (1, (1, (.t 6)))]), js 3 4 7]) .ret))
theorem We : BV Tryz.prog Tryz.f19 = some ⟨8, k19, [(.cell 3 true 4)]⟩ := by kernel_rfl
theorem LY (N : Nat) (a0 : UInt8) (a1 : List UInt8) (r : A7) (h : JE N a0 a1 = some r) : Sat Tryz.prog 19 AO [eb a0, .str a1] (A9 r) AO := by
 refine DK mixed Tryz.func19 We (rs := [A9 r]) rfl rfl ?_
 refine AC (AB ?_)
 refine CO rfl (G5 30404 rfl rfl rfl rfl rfl) ?_
 refine AC (AB ?_)
 iterate 2 refine wq rfl ?_
 refine AQ (p := .agg [eb a0, .str a1, .nl]) rfl rfl ?_
 refine Ag (KP 7 (LQ (.cons A8 (.cons A8 (.cons (FM 3) .nil))) rfl) rfl) ?_
 refine EW (e' := .agg [eb a0, .str a1, .sl 3 (List.map A9 [])]) rfl rfl rfl rfl rfl rfl rfl rfl nofun rfl ?_
 cases AA h
 refine BR ?_
 exact ⟨nofun, rfl, rfl⟩
def Gz : IC := (.seq (.block 1 (.seq (.reg [jc 5 (j6 0)]) (.seq (.seq (.reg [jm 13 3, jn 14 (.ixp 1 (.t 13) (ji 0)), jl 15 1 14, jn 16 (.bin .and (.t 15) (.c (.int .u8 128))), jn 17 (.bin .neq (.t 16) (.c (.int .u8 0)))]) (.cond (.t 17) (.reg [jc 5 (j6 (-1))]) .skip)) (.seq (.seq (.reg [jm 18 4, jm 19 5, jb .eql 20 18 19]) (.cond (.t 20) (.seq (.reg [jm 21 3, jn 22 (.cvb (.t 21)), jm 2 22]) .ret) .skip)) (.reg [jm 23 4, jn 24 (.cvi .u8 (.t 23)), jn 25 (.bsl 1 [(.t 24)]), jm 26 3, jn 27 (.app 5 1 1 (.t 25) (.t 26)), jm 3 27]))))) (.reg [jm 11 4, jn 12 (.bin .shr (.t 11) (.c (.int .u64 8))), jm 4 12]))
def k46 : IC := (.seq (.reg [jc 2 (.str [])]) (.seq (.reg [jm 6 0, jn 7 (.cvi .u8 (.t 6)), jn 8 (.bsl 1 [(.t 7)]), jm 3 8]) (.seq (.reg [jm 9 0, jn 10 (.bin .shr (.t 9) (.c (.int .u64 8))), jm 4 10]) (.block 0 (.loop Gz)))))
theorem Vb : BV Tryz.prog Tryz.f46 = some ⟨28, k46, [(.tmp 2)]⟩ := by kernel_rfl
theorem jD (N : Nat) : ∀ (n : Nat) (x : Int × List UInt8) (y : List UInt8), GQ N n x = some y → WX Tryz.prog (fun _ => false) (.loop Gz) ((fun (x : Int × List UInt8) => ⟨AY [(3, .slr 74403 0 x.2.length), (4, j6 x.1)], AY [(74403, ⟨1, true, List.map eb x.2⟩)]⟩) x) ((fun y e s => e = .ret ∧ s = ⟨AY [(2, .str y)], AY []⟩ : (List UInt8) → Xt → St → Prop) y) := by
 refine EP _ _ (GQ N) (QN N) (fun _ => rfl) (fun _ _ => rfl) ?_
 rintro rec ⟨jI, K6⟩ y h
 refine AC (BZ (AC (AB ?_)))
 refine wq rfl ?_
 refine QJ (fun (x : Int) => ⟨AY [(3, .slr 74403 0 K6.length), (4, j6 jI), (5, j6 x)], AY [(74403, ⟨1, true, List.map eb K6⟩)]⟩) (fun x => P8 jI K6 rec x = some y) ?_ ?_
 rintro Qe h
 iterate 2 refine AC ?_
 refine AB ?_
 iterate 3 refine wq rfl ?_
 refine D5 h rfl (fun c1 h => ?_) (fun c1 h => ?_)
 refine AC (AB ?_)
 refine wq rfl ?_
 refine AQ rfl (UF (l := K6) rfl rfl (BQ (f := eb) (l := K6))) ?_
 refine wq rfl ?_
 obtain rfl := AA h
 exact DL (st1 := ⟨AY [(2, .str K6)], AY []⟩) (cq rfl) ⟨rfl, rfl⟩
 refine BF (AB ?_)
 refine wq rfl ?_
 refine AQ rfl (YQ rfl) ?_
 refine CO rfl (TC 73625 rfl rfl rfl) ?_
 refine wq rfl ?_
 obtain ⟨x27, hx27, h⟩ := AJ h
 refine UU (f := eb) 73627 hx27 rfl rfl rfl rfl rfl (KR rfl (BQ (f := eb) (l := K6))) rfl rfl rfl rfl ?_
 refine wq rfl ?_
 refine AB ?_
 refine wq rfl ?_
 refine AQ rfl (Fq (by decide) rfl rfl) ?_
 refine wq rfl ?_
 exact ⟨((jO jI 8), x27), (C8.trans ((cn (st := _) (l := [(3, .slr 73627 0 x27.length), (4, j6 (jO jI 8))]) (m := [(73627, ⟨1, true, List.map eb x27⟩)]) rfl rfl rfl rfl)) (C8.trans (rename 73627 74403 rfl rfl) (cq rfl))), h⟩
 refine AC (AB ?_)
 refine wq rfl ?_
 obtain ⟨PO, UG, h⟩ := AJ h
 refine AQ rfl (PE UG rfl rfl rfl rfl) ?_
 obtain ⟨NK, RX, h⟩ := AJ h
 refine AQ rfl (UE (f := eb) (v := eb NK) RX rfl rfl rfl) ?_
 refine AQ rfl (ZI (a := NK) (b := (128 : UInt8)) rfl rfl) ?_
 refine AQ (p := .bool ((((NK &&& (128 : UInt8))).toNat : Int) != (0 : Int))) rfl rfl ?_
 refine D5 h rfl (fun c2 h => ?_) (fun c2 h => ?_)
 refine AB ?_
 refine wq rfl ?_
 exact ⟨(-1), (cq rfl), h⟩
 refine BF ?_
 exact ⟨0, (cq rfl), h⟩
theorem aD (N : Nat) (a0 : Int) (r : List UInt8) (h : RP N a0 = some r) : Sat Tryz.prog 46 AO [j6 a0] (.str r) AO := by
 refine DK mixed Tryz.func46 Vb (rs := [.str r]) rfl rfl ?_
 refine AC (AB ?_)
 refine wq rfl ?_
 refine AC (AB ?_)
 refine wq rfl ?_
 refine AQ rfl (YQ rfl) ?_
 refine CO rfl (TC 73608 rfl rfl rfl) ?_
 refine wq rfl ?_
 refine AC (AB ?_)
 refine wq rfl ?_
 refine AQ rfl (Fq (by decide) rfl rfl) ?_
 refine wq rfl ?_
 refine BZ ?_
 obtain ⟨y3, hy3, h⟩ := AJ h
 refine QI (jD N N _ _ hy3) (C8.trans (rename 73608 74403 rfl rfl) (cq rfl)) ?_
 rintro e s ⟨rfl, rfl⟩
 obtain rfl := AA h
 exact ⟨nofun, rfl, rfl⟩
def k20 : IC := (.seq (.reg [jn 4 (.box 52 (.c (.agg [(.int .u8 0), (.str []), .nl])))]) (.seq (.reg [jm 5 0, jm 6 1, jn 7 (.call 46 [(.t 6)]), jn 8 (.call 19 [(.t 5), (.t 7)]), js 3 4 8]) .ret))
theorem Wd : BV Tryz.prog Tryz.f20 = some ⟨9, k20, [(.cell 3 true 4)]⟩ := by kernel_rfl
theorem WI (N : Nat) (a0 : UInt8) (a1 : Int) (r : A7) (h : QM N a0 a1 = some r) : Sat Tryz.prog 20 AO [eb a0, j6 a1] (A9 r) AO := by
 refine DK mixed Tryz.func20 Wd (rs := [A9 r]) rfl rfl ?_
 refine AC (AB ?_)
 refine CO rfl (G5 32004 rfl rfl rfl rfl rfl) ?_
 refine AC (AB ?_)
 iterate 2 refine wq rfl ?_
 obtain ⟨x7, hx7, h⟩ := AJ h
 refine CO rfl (CB (aD N _ _ hx7) rfl (.cons A8 .nil) rfl rfl rfl) ?_
 obtain ⟨x8, Ov, h⟩ := AJ h
 refine CO rfl (CB (LY N _ _ _ Ov) rfl (.cons A8 (.cons A8 .nil)) rfl rfl rfl) ?_
 refine EW (e' := A9 x8) rfl rfl rfl rfl rfl rfl rfl rfl nofun rfl ?_
 obtain rfl := AA h
 refine BR ?_
 exact ⟨nofun, rfl, rfl⟩
def k21 : IC := (.seq (.reg [jn 4 (.box 52 (.c (.agg [(.int .u8 0), (.str []), .nl])))]) (.seq (.reg [jm 5 0, jm 6 1, jn 7 (.build [(.int .u8 0), (.str []), .nl] [(0, (1, (.t 5))), (2, (1, (.t 6)))]), js 3 4 7]) .ret))
theorem Vz : BV Tryz.prog Tryz.f21 = some ⟨8, k21, [(.cell 3 true 4)]⟩ := by kernel_rfl
theorem QQ (N : Nat) (a0 : UInt8) (a1 : List A7) (r : A7) (h : PQ N a0 a1 = some r) : Sat Tryz.prog 21 AO [eb a0, .sl 3 (List.map A9 a1)] (A9 r) AO := by
 refine DK mixed Tryz.func21 Vz (rs := [A9 r]) rfl rfl ?_
 refine AC (AB ?_)
 refine CO rfl (G5 33604 rfl rfl rfl rfl rfl) ?_
 refine AC (AB ?_)
 iterate 2 refine wq rfl ?_
 refine AQ (p := .agg [eb a0, .str ([] : List UInt8), .sl 3 (List.map A9 a1)]) rfl rfl ?_
 refine EW (e' := .agg [eb a0, .str ([] : List UInt8), .sl 3 (List.map A9 a1)]) rfl rfl rfl rfl rfl rfl rfl rfl nofun rfl ?_
 cases AA h
 refine BR ?_
 exact ⟨nofun, rfl, rfl⟩
def k50 : IC := (.seq (.reg [jn 1 (.box 23 (.t 0)), jc 2 (.str [])]) (.seq (.regd 14 [ja 3 0 1, jl 4 1 3, jn 5 (.call 70 [(.t 4), (ji 10)]), jn 6 (.bin .add (.t 5) (.c (.str [46]))), ja 7 1 1, jl 8 1 7, jn 9 (.call 71 [(.t 8)]), jb .add 10 6 9, jn 11 (.bin .add (.t 10) (.c (.str [46]))), ja 12 2 1, jl 13 1 12, jn 14 (.call 71 [(.t 13)]), jb .add 15 11 14, jm 2 15]) .ret))
theorem Ux : BV Tryz.prog Tryz.f50 = some ⟨16, k50, [(.tmp 2)]⟩ := by kernel_rfl
theorem dM (N : Nat) (a0 : AP) (r : List UInt8) (h : Z6 N a0 = some r) : Sat Tryz.prog 50 AO [F7 a0] (.str r) AO := by
 refine DK mixed Tryz.func50 Ux (rs := [.str r]) rfl rfl ?_
 refine AC (AB ?_)
 refine CO rfl (G5 80001 rfl rfl rfl rfl rfl) ?_
 refine wq rfl ?_
 refine AC (P6 ?_)
 iterate 2 refine dq rfl ?_
 obtain ⟨x5, hx5, h⟩ := AJ h
 refine VG rfl (PD (YB N _ _ _ hx5) rfl (.cons A8 (.cons A8 .nil)) rfl rfl rfl) CZ ?_
 obtain ⟨x6, hx6, h⟩ := AJ h
 refine JN rfl (nU hx6 rfl rfl) ?_
 iterate 2 refine dq rfl ?_
 obtain ⟨x9, Ib, h⟩ := AJ h
 refine VG rfl (PD (WJ N _ _ Ib) rfl (.cons A8 .nil) rfl rfl rfl) CZ ?_
 obtain ⟨SX, XO, h⟩ := AJ h
 refine JN rfl (nU XO rfl rfl) ?_
 obtain ⟨LK, bI, h⟩ := AJ h
 refine JN rfl (nU bI rfl rfl) ?_
 iterate 2 refine dq rfl ?_
 obtain ⟨PO, UG, h⟩ := AJ h
 refine VG rfl (PD (WJ N _ _ UG) rfl (.cons A8 .nil) rfl rfl rfl) CZ ?_
 obtain ⟨NK, RX, h⟩ := AJ h
 refine JN rfl (nU RX rfl rfl) ?_
 refine dq rfl ?_
 obtain rfl := AA h
 refine BR ?_
 exact ⟨nofun, rfl, rfl⟩
def k23 : IC := (.seq (.reg [jn 1 (.box 23 (.t 0)), jn 2 (.box 52 (.c (.agg [(.int .u8 0), (.str []), .nl])))]) (.seq (.reg [jg 3 3 1, jn 4 (.call 50 [(.t 3)]), jn 5 (.call 19 [(.c (.int .u8 4)), (.t 4)]), js 3 2 5]) .ret))
theorem Vx : BV Tryz.prog Tryz.f23 = some ⟨6, k23, [(.cell 3 true 2)]⟩ := by kernel_rfl
theorem QT (N : Nat) (a0 : AP) (r : A7) (h : NE N a0 = some r) : Sat Tryz.prog 23 AO [F7 a0] (A9 r) AO := by
 refine DK mixed Tryz.func23 Vx (rs := [A9 r]) rfl rfl ?_
 refine AC (AB ?_)
 refine CO rfl (G5 36801 rfl rfl rfl rfl rfl) ?_
 refine CO rfl (G5 36802 rfl rfl rfl rfl rfl) ?_
 refine AC (AB ?_)
 refine AQ (p := F7 a0) rfl rfl ?_
 obtain ⟨x4, hx4, h⟩ := AJ h
 refine CO rfl (CB (dM N _ _ hx4) rfl (.cons A8 .nil) rfl rfl rfl) ?_
 obtain ⟨x5, hx5, h⟩ := AJ h
 refine CO rfl (CB (LY N _ _ _ hx5) rfl (.cons A8 (.cons A8 .nil)) rfl rfl rfl) ?_
 refine EW (e' := A9 x5) rfl rfl rfl rfl rfl rfl rfl rfl nofun rfl ?_
 obtain rfl := AA h
 refine BR ?_
 exact ⟨nofun, rfl, rfl⟩
def k68 : IC := (.seq (.reg [jn 1 (.box 52 (.t 0)), jc 2 (.bool false)]) (.seq (.reg [jg 3 3 1, jn 4 (.call 47 [(.t 3)]), jn 5 (.un .not (.t 4)), jm 2 5]) .ret))
theorem Uf : BV Tryz.prog Tryz.f68 = some ⟨6, k68, [(.tmp 2)]⟩ := by kernel_rfl
theorem fK (N : Nat) (LD : A7 → Option (Bool)) (VV : ∀ (a0 : A7) (r : Bool), LD a0 = some r → Sat Tryz.prog 47 AO [A9 a0] (.bool r) AO) (a0 : A7) (r : Bool) (h : XU N LD a0 = some r) : Sat Tryz.prog 68 AO [A9 a0] (.bool r) AO := by
 refine DK mixed Tryz.func68 Uf (rs := [.bool r]) rfl rfl ?_
 refine AC (AB ?_)
 refine CO rfl (G5 108801 rfl rfl rfl rfl rfl) ?_
 refine wq rfl ?_
 refine AC (AB ?_)
 refine AQ (p := A9 a0) rfl rfl ?_
 obtain ⟨x4, hx4, h⟩ := AJ h
 refine CO rfl (CB (VV _ _ hx4) rfl (.cons A8 .nil) rfl rfl rfl) ?_
 iterate 2 refine wq rfl ?_
 cases AA h
 refine BR ?_
 exact ⟨nofun, rfl, rfl⟩
def nZ : IC := (.seq (.reg [jb .lss 9 8 7]) (.seq (.cond (.t 9) .skip (.exit 0)) (.seq (.block 1 (.seq (.reg [jm 10 8, jm 5 10]) (.seq (.reg [jm 11 1, jm 12 0, jm 13 5, jx 14 3 12 13, jg 15 3 14, jn 16 (.calv (.t 11) [(.t 15)])]) (.cond (.t 16) (.seq (.reg [jm 17 5, jm 4 17]) .ret) .skip)))) (.reg [ju .add 18 8 1, jm 8 18]))))
def Ti : IC := (.seq (.reg [jc 4 (j6 0)]) (.seq (.seq (.reg [jm 6 0, jL 7 6, jc 8 (j6 0)]) (.block 0 (.loop nZ))) (.seq (.reg [jc 4 (j6 (-1))]) .ret)))
theorem Bo : BV Tryz.prog Tryz.f90 = some ⟨19, Ti, [(.tmp 4)]⟩ := by kernel_rfl
theorem I6 (N : Nat) (LD : A7 → Option (Bool)) (VV : ∀ (a0 : A7) (r : Bool), LD a0 = some r → Sat Tryz.prog 47 AO [A9 a0] (.bool r) AO) (a0 : List A7) : ∀ (n : Nat) (x : Int) (y : Unit ⊕ Int), BI N LD a0 n x = some y → WX Tryz.prog (fun _ => false) (.loop nZ) ((fun (x : Int) => ⟨AY [(0, .sl 3 (List.map A9 a0)), (1, .clo 68 []), (7, j6 (a0.length : Int)), (8, j6 x)], AY []⟩) x) ((Sum.elim (fun y e s => e = .exit 0 ∧ s = ⟨AY [], AY []⟩) (fun y e s => e = .ret ∧ s = ⟨AY [(4, j6 y)], AY []⟩) : (Unit ⊕ Int) → Xt → St → Prop) y) := by
 refine EP _ _ (BI N LD a0) (C9 N LD a0) (fun _ => rfl) (fun _ _ => rfl) ?_
 rintro rec v8l6 y h
 refine AC (AB ?_)
 refine wq rfl ?_
 refine AC ?_
 refine D5 h rfl (fun c1 h => ?_) (fun c1 h => ?_)
 refine BF (AC (BZ (AC (AB ?_))))
 iterate 2 refine wq rfl ?_
 refine AC (AB ?_)
 iterate 3 refine wq rfl ?_
 obtain ⟨PO, UG, h⟩ := AJ h
 refine AQ rfl (DF (cs := [eb PO.Tag, .str PO.Body, .sl 3 PO.Kids]) UG rfl rfl rfl) ?_
 refine AQ (p := A9 PO) rfl rfl ?_
 obtain ⟨YH, hx16, h⟩ := AJ h
 refine CO rfl (aI (fK N LD VV _ _ hx16) rfl rfl rfl (.cons A8 .nil) rfl rfl rfl) ?_
 refine D5 h rfl (fun c2 h => ?_) (fun c2 h => ?_)
 refine AC (AB ?_)
 iterate 2 refine wq rfl ?_
 obtain rfl := AA h
 exact DL (st1 := ⟨AY [(4, j6 v8l6)], AY []⟩) (cq rfl) ⟨rfl, rfl⟩
 refine BF (AB ?_)
 refine AQ (p := j6 (BM (v8l6 + (1 : Int)))) rfl rfl ?_
 refine wq rfl ?_
 exact ⟨(BM (v8l6 + (1 : Int))), (cq rfl), h⟩
 cases AA h
 exact CU (st1 := ⟨AY [], AY []⟩) (cq rfl) ⟨rfl, rfl⟩
theorem IB (N : Nat) (LD : A7 → Option (Bool)) (VV : ∀ (a0 : A7) (r : Bool), LD a0 = some r → Sat Tryz.prog 47 AO [A9 a0] (.bool r) AO) (a0 : List A7) (r : Int) (h : DC N LD a0 = some r) : Sat Tryz.prog 90 AO [.sl 3 (List.map A9 a0), .clo 68 []] (j6 r) AO := by
 refine DK mixed Tryz.func90 Bo (rs := [j6 r]) rfl rfl ?_
 refine AC (AB ?_)
 refine wq rfl ?_
 iterate 2 refine AC ?_
 refine AB ?_
 refine wq rfl ?_
 refine AQ rfl (BU rfl) ?_
 refine wq rfl ?_
 refine BZ ?_
 obtain ⟨y3, hy3, h⟩ := AJ h
 refine QI (I6 N LD VV a0 N _ _ hy3) (cq rfl) ?_
 clear hy3
 rcases y3 with y3 | y3
 rintro e s ⟨rfl, rfl⟩
 refine AC (AB ?_)
 refine wq rfl ?_
 cases AA h
 refine BR ?_
 exact ⟨nofun, rfl, rfl⟩
 rintro e s ⟨rfl, rfl⟩
 obtain rfl := AA h
 exact ⟨nofun, rfl, rfl⟩
def Ug : IC := (.seq (.reg [jc 4 (.bool false)]) (.seq (.reg [jm 5 0, jm 6 1, jn 7 (.call 90 [(.t 5), (.t 6)]), ju .geq 8 7 0, jm 4 8]) .ret))
theorem Bt : BV Tryz.prog Tryz.f67 = some ⟨9, Ug, [(.tmp 4)]⟩ := by kernel_rfl
theorem H6 (N : Nat) (LD : A7 → Option (Bool)) (VV : ∀ (a0 : A7) (r : Bool), LD a0 = some r → Sat Tryz.prog 47 AO [A9 a0] (.bool r) AO) (a0 : List A7) (r : Bool) (h : D6 N LD a0 = some r) : Sat Tryz.prog 67 AO [.sl 3 (List.map A9 a0), .clo 68 []] (.bool r) AO := by
 refine DK mixed Tryz.func67 Bt (rs := [.bool r]) rfl rfl ?_
 refine AC (AB ?_)
 refine wq rfl ?_
 refine AC (AB ?_)
 iterate 2 refine wq rfl ?_
 obtain ⟨x7, hx7, h⟩ := AJ h
 refine CO rfl (CB (IB N LD VV _ _ hx7) rfl (.cons A8 (.cons A8 .nil)) rfl rfl rfl) ?_
 iterate 2 refine wq rfl ?_
 cases AA h
 refine BR ?_
 exact ⟨nofun, rfl, rfl⟩
def k47 : IC := (.seq (.reg [jn 1 (.box 52 (.t 0)), jc 2 (.bool false)]) (.seq (.block 0 (.seq (.reg [ja 4 0 1, jl 5 1 4, jn 6 (.bin .and (.t 5) (.c (.int .u8 31))), jn 7 (.bin .eql (.t 6) (.c (.int .u8 31))), jm 3 7]) (.cond (.t 3) (.seq (.reg [jc 2 (.bool false)]) .ret) (.seq (.reg [ja 9 0 1, jl 10 1 9, jn 11 (.bin .and (.t 10) (.c (.int .u8 32))), jn 12 (.bin .eql (.t 11) (.c (.int .u8 0))), jm 8 12]) (.cond (.t 8) (.seq (.reg [ja 13 2 1, jl 14 1 13, jL 15 14, ju .eql 16 15 0, jm 2 16]) .ret) .skip))))) (.seq (.reg [ja 17 1 1, jl 18 1 17, jn 19 (.bin .eql (.t 18) (.c (.str []))), jm 20 19, jt 20 21 (.fda 2 (.t 1)), jt 20 22 (.load 1 false (.t 21)), jt 20 23 (.call 67 [(.t 22), (.c (.clo 68 []))]), jt 20 24 (.un .not (.t 23)), jp 25 20 24, jm 2 25]) .ret)))
theorem Va : BV Tryz.prog Tryz.f47 = some ⟨26, k47, [(.tmp 2)]⟩ := by kernel_rfl
theorem fI (N : Nat) (LD : A7 → Option (Bool)) (VV : ∀ (a0 : A7) (r : Bool), LD a0 = some r → Sat Tryz.prog 47 AO [A9 a0] (.bool r) AO) (a0 : A7) (r : Bool) (h : R8 N LD a0 = some r) : Sat Tryz.prog 47 AO [A9 a0] (.bool r) AO := by
 refine DK mixed Tryz.func47 Va (rs := [.bool r]) rfl rfl ?_
 refine AC (AB ?_)
 refine CO rfl (G5 75201 rfl rfl rfl rfl rfl) ?_
 refine wq rfl ?_
 refine AC (BZ (AC (AB ?_)))
 iterate 2 refine wq rfl ?_
 refine AQ rfl (ZI (a := a0.Tag) (b := (31 : UInt8)) rfl rfl) ?_
 refine AQ (p := .bool ((((a0.Tag &&& (31 : UInt8))).toNat : Int) == (31 : Int))) rfl rfl ?_
 refine wq rfl ?_
 refine D5 h rfl (fun c1 h => ?_) (fun c1 h => ?_)
 refine AC (AB ?_)
 refine wq rfl ?_
 obtain rfl := AA h
 refine BR ?_
 exact ⟨nofun, rfl, rfl⟩
 refine AC (AB ?_)
 iterate 2 refine wq rfl ?_
 refine AQ rfl (ZI (a := a0.Tag) (b := (32 : UInt8)) rfl rfl) ?_
 refine AQ (p := .bool ((((a0.Tag &&& (32 : UInt8))).toNat : Int) == (0 : Int))) rfl rfl ?_
 refine wq rfl ?_
 refine D5 h rfl (fun c2 h => ?_) (fun c2 h => ?_)
 refine AC (AB ?_)
 refine wq rfl ?_
 obtain ⟨PO, UG, h⟩ := AJ h
 refine AQ (p := .sl 3 (List.map A9 PO)) rfl (congrArg (fun z => some (PV.sl 3 z)) (IG (e := A9) CJ UG)) ?_
 refine AQ rfl (BU rfl) ?_
 iterate 2 refine wq rfl ?_
 cases AA h
 refine BR ?_
 exact ⟨nofun, rfl, rfl⟩
 refine BF ?_
 obtain ⟨g3, hg3, h⟩ := AJ h
 refine F3 ⟨AY [(2, .bool g3)], AY []⟩ ?_ ?_
 have h := hg3
 refine AB ?_
 iterate 4 refine wq rfl ?_
 rcases BO h with ⟨c4, h⟩ | ⟨c4, h⟩
 refine AQ (gy rfl c4) rfl ?_
 obtain ⟨WY, YT, h⟩ := AJ h
 refine AQ (p := .sl 3 (List.map A9 WY)) (gy rfl c4) (congrArg (fun z => some (PV.sl 3 z)) (IG (e := A9) CJ YT)) ?_
 obtain ⟨XY, gB, h⟩ := AJ h
 refine CO (gy rfl c4) (CB (H6 N LD VV _ _ gB) rfl (.cons A8 (.cons A8 .nil)) rfl rfl rfl) ?_
 refine AQ (gy rfl c4) rfl ?_
 refine AQ rfl (BA c4 rfl rfl) ?_
 refine wq rfl ?_
 cases AA h
 exact cq rfl
 iterate 4 refine BJ (gn rfl c4) ?_
 refine AQ rfl (AZ c4 rfl rfl) ?_
 refine wq rfl ?_
 obtain rfl := AA h
 exact cq rfl
 clear hg3
 obtain rfl := AA h
 refine BR ?_
 exact ⟨nofun, rfl, rfl⟩
theorem fJ (N : Nat) : ∀ (n : Nat) (a0 : A7) (r : Bool) (h : LC N n a0 = some r), Sat Tryz.prog 47 AO [A9 a0] (.bool r) AO := by
 intro n
 induction n with
 | zero => intro a0 r h; cases h
 | succ n ih => intro a0 r h; exact fI N (LC N n) ih a0 r h
theorem kC (N : Nat) (a0 : A7) (r : Bool) (h : bW N a0 = some r) : Sat Tryz.prog 47 AO [A9 a0] (.bool r) AO := fJ N N a0 r h
def Gy : IC := (.seq (.reg [jb .lss 10 9 8]) (.seq (.cond (.t 10) .skip (.exit 0)) (.seq (.block 1 (.seq (.reg [jx 11 3 7 9, jg 12 3 11, jn 5 (.box 52 (.c (.agg [(.int .u8 0), (.str []), .nl]))), js 3 5 12]) (.reg [jm 13 3, jg 14 3 5, jn 15 (.call 48 [(.t 14)]), jn 16 (.mm true (.t 13) [(.t 15)]), jm 3 16]))) (.reg [ju .add 17 9 1, jm 9 17]))))
def k48 : IC := (.seq (.reg [jn 1 (.box 52 (.t 0)), jc 2 (j6 0)]) (.seq (.reg [jc 3 (j6 0)]) (.seq (.seq (.reg [ja 6 2 1, jl 7 1 6, jL 8 7, jc 9 (j6 0)]) (.block 0 (.loop Gy))) (.seq (.reg [jm 18 3, ju .add 19 18 1, jm 2 19]) .ret))))
theorem Uz : BV Tryz.prog Tryz.f48 = some ⟨20, k48, [(.tmp 2)]⟩ := by kernel_rfl
theorem mQ (N : Nat) (LD : A7 → Option (Int)) (VV : ∀ (a0 : A7) (r : Int), LD a0 = some r → Sat Tryz.prog 48 AO [A9 a0] (j6 r) AO) (x7 : List A7) : ∀ (n : Nat) (x : Int × Int) (y : Int), OH N LD x7 n x = some y → WX Tryz.prog (fun _ => false) (.loop Gy) ((fun (x : Int × Int) => ⟨AY [(3, j6 x.1), (7, .sl 3 (List.map A9 x7)), (8, j6 (x7.length : Int)), (9, j6 x.2)], AY []⟩) x) ((fun y e s => e = .exit 0 ∧ s = ⟨AY [(3, j6 y)], AY []⟩ : Int → Xt → St → Prop) y) := by
 refine EP _ _ (OH N LD x7) (SH N LD x7) (fun _ => rfl) (fun _ _ => rfl) ?_
 rintro rec ⟨Ak, Aj⟩ y h
 refine AC (AB ?_)
 refine wq rfl ?_
 refine AC ?_
 refine D5 h rfl (fun c1 h => ?_) (fun c1 h => ?_)
 refine BF (AC (BZ (AC (AB ?_))))
 obtain ⟨LK, bI, h⟩ := AJ h
 refine AQ rfl (DF (cs := [eb LK.Tag, .str LK.Body, .sl 3 LK.Kids]) bI rfl rfl rfl) ?_
 refine AQ (p := A9 LK) rfl rfl ?_
 refine CO rfl (G5 76805 rfl rfl rfl rfl rfl) ?_
 refine EW (e' := A9 LK) rfl rfl rfl rfl rfl rfl rfl rfl nofun rfl ?_
 refine AB ?_
 refine wq rfl ?_
 refine AQ (p := A9 LK) rfl rfl ?_
 obtain ⟨NK, RX, h⟩ := AJ h
 refine CO rfl (CB (VV _ _ RX) rfl (.cons A8 .nil) rfl rfl rfl) ?_
 refine AQ (p := j6 (mx Ak NK)) rfl rfl ?_
 refine wq rfl ?_
 refine AB ?_
 refine AQ (p := j6 (BM (Aj + (1 : Int)))) rfl rfl ?_
 refine wq rfl ?_
 exact ⟨((mx Ak NK), (BM (Aj + (1 : Int)))), (cq rfl), h⟩
 obtain rfl := AA h
 exact CU (st1 := ⟨AY [(3, j6 Ak)], AY []⟩) (cq rfl) ⟨rfl, rfl⟩
theorem kD (N : Nat) (LD : A7 → Option (Int)) (VV : ∀ (a0 : A7) (r : Int), LD a0 = some r → Sat Tryz.prog 48 AO [A9 a0] (j6 r) AO) (a0 : A7) (r : Int) (h : XV N LD a0 = some r) : Sat Tryz.prog 48 AO [A9 a0] (j6 r) AO := by
 refine DK mixed Tryz.func48 Uz (rs := [j6 r]) rfl rfl ?_
 refine AC (AB ?_)
 refine CO rfl (G5 76801 rfl rfl rfl rfl rfl) ?_
 refine wq rfl ?_
 refine AC (AB ?_)
 refine wq rfl ?_
 iterate 2 refine AC ?_
 refine AB ?_
 refine wq rfl ?_
 obtain ⟨x7, hx7, h⟩ := AJ h
 refine AQ (p := .sl 3 (List.map A9 x7)) rfl (congrArg (fun z => some (PV.sl 3 z)) (IG (e := A9) CJ hx7)) ?_
 refine AQ rfl (BU rfl) ?_
 refine wq rfl ?_
 refine BZ ?_
 obtain ⟨y2, hy2, h⟩ := AJ h
 refine QI (mQ N LD VV x7 N _ _ hy2) (cq rfl) ?_
 rintro e s ⟨rfl, rfl⟩
 refine AC (AB ?_)
 refine wq rfl ?_
 refine AQ (p := j6 (BM (y2 + (1 : Int)))) rfl rfl ?_
 refine wq rfl ?_
 cases AA h
 refine BR ?_
 exact ⟨nofun, rfl, rfl⟩
theorem kE (N : Nat) : ∀ (n : Nat) (a0 : A7) (r : Int) (h : PU N n a0 = some r), Sat Tryz.prog 48 AO [A9 a0] (j6 r) AO := by
 intro n
 induction n with
 | zero => intro a0 r h; cases h
 | succ n ih => intro a0 r h; exact kD N (PU N n) ih a0 r h
theorem pF (N : Nat) (a0 : A7) (r : Int) (h : mD N a0 = some r) : Sat Tryz.prog 48 AO [A9 a0] (j6 r) AO := kE N N a0 r h
def k69 : IC := (.seq (.reg [jc 2 (.str [])]) (.seq (.block 0 (.seq (.reg [jm 4 0, ju .lss 5 4 128, jm 3 5]) (.cond (.t 3) (.seq (.reg [jm 6 0, jn 7 (.cvi .u8 (.t 6)), jn 8 (.bsl 1 [(.t 7)]), jn 9 (.cvb (.t 8)), jm 2 9]) .ret) (.seq (.reg [jm 11 0, ju .lss 12 11 256, jm 10 12]) (.cond (.t 10) (.seq (.reg [jm 13 0, jn 14 (.cvi .u8 (.t 13)), jn 15 (.bsl 1 [(.c (.int .u8 129)), (.t 14)]), jn 16 (.cvb (.t 15)), jm 2 16]) .ret) .skip))))) (.seq (.reg [jm 17 0, jn 18 (.bin .shr (.t 17) (.c (.int .u64 8))), jn 19 (.cvi .u8 (.t 18)), jm 20 0, jn 21 (.cvi .u8 (.t 20)), jn 22 (.bsl 1 [(.c (.int .u8 130)), (.t 19), (.t 21)]), jn 23 (.cvb (.t 22)), jm 2 23]) .ret)))
theorem Ue : BV Tryz.prog Tryz.f69 = some ⟨24, k69, [(.tmp 2)]⟩ := by kernel_rfl
theorem jZ (N : Nat) (a0 : Int) (r : List UInt8) (h : XT N a0 = some r) : Sat Tryz.prog 69 AO [j6 a0] (.str r) AO := by
 refine DK mixed Tryz.func69 Ue (rs := [.str r]) rfl rfl ?_
 refine AC (AB ?_)
 refine wq rfl ?_
 refine AC (BZ (AC (AB ?_)))
 iterate 3 refine wq rfl ?_
 refine D5 h rfl (fun c1 h => ?_) (fun c1 h => ?_)
 refine AC (AB ?_)
 refine wq rfl ?_
 refine AQ rfl (YQ rfl) ?_
 refine CO rfl (TC 110408 rfl rfl rfl) ?_
 refine AQ rfl (UF (l := [(byte a0)]) rfl rfl (BQ (f := eb) (l := [(byte a0)]))) ?_
 refine wq rfl ?_
 cases AA h
 refine BR ?_
 exact ⟨nofun, rfl, rfl⟩
 refine AC (AB ?_)
 iterate 3 refine wq rfl ?_
 refine D5 h rfl (fun c2 h => ?_) (fun c2 h => ?_)
 refine AC (AB ?_)
 refine wq rfl ?_
 refine AQ rfl (YQ rfl) ?_
 refine CO rfl (TC 110415 rfl rfl rfl) ?_
 refine AQ rfl (UF (l := [(129 : UInt8), (byte a0)]) rfl rfl (BQ (f := eb) (l := [(129 : UInt8), (byte a0)]))) ?_
 refine wq rfl ?_
 cases AA h
 refine BR ?_
 exact ⟨nofun, rfl, rfl⟩
 refine BF (AC (AB ?_))
 refine wq rfl ?_
 refine AQ rfl (Fq (by decide) rfl rfl) ?_
 refine AQ rfl (YQ rfl) ?_
 refine wq rfl ?_
 refine AQ rfl (YQ rfl) ?_
 refine CO rfl (TC 110422 rfl rfl rfl) ?_
 refine AQ rfl (UF (l := [(130 : UInt8), (byte (jO a0 8)), (byte a0)]) rfl rfl (BQ (f := eb) (l := [(130 : UInt8), (byte (jO a0 8)), (byte a0)]))) ?_
 refine wq rfl ?_
 cases AA h
 refine BR ?_
 exact ⟨nofun, rfl, rfl⟩
def Gx : IC := (.seq (.reg [jb .lss 16 15 14]) (.seq (.cond (.t 16) .skip (.exit 0)) (.seq (.block 1 (.seq (.reg [jx 17 3 13 15, jg 18 3 17, jn 6 (.box 52 (.c (.agg [(.int .u8 0), (.str []), .nl]))), js 3 6 18]) (.seq (.reg [jg 20 3 6, jn 21 (.call 49 [(.t 20)]), jm 19 21, je 22 0 19, je 23 1 19, jm 7 22, jm 8 23]) (.seq (.seq (.reg [jm 24 8, jn 25 (.un .not (.t 24)), jm 26 25, jf 26 27 (.mov (.t 4)), jf 26 28 (.len false (.t 27)), jf 26 29 (.mov (.t 7)), jf 26 30 (.len true (.t 29)), jf 26 31 (.bin .add (.t 28) (.t 30)), jf 26 32 (.bin .gtr (.t 31) (ji 4000)), jo 33 26 32]) (.cond (.t 33) (.seq (.reg [jc 2 (.str []), jc 3 (.bool false)]) .ret) .skip)) (.reg [jm 34 4, jm 35 7, jn 36 (.aps 5 (.t 34) (.t 35)), jm 4 36]))))) (.reg [ju .add 37 15 1, jm 15 37]))))
def k49 : IC := (.seq (.reg [jn 1 (.box 52 (.t 0)), jc 2 (.str []), jc 3 (.bool false)]) (.seq (.reg [ja 9 1 1, jl 10 1 9, jn 11 (.cvs (.t 10)), jm 4 11]) (.seq (.seq (.reg [ja 12 2 1, jl 13 1 12, jL 14 13, jc 15 (j6 0)]) (.block 0 (.loop Gx))) (.seq (.seq (.reg [jm 38 4, jL 39 38, ju .gtr 40 39 4000]) (.cond (.t 40) (.seq (.reg [jc 2 (.str []), jc 3 (.bool false)]) .ret) .skip)) (.seq (.regd 13 [ja 41 0 1, jl 42 1 41, jn 43 (.bsl 1 [(.t 42)]), jn 44 (.cvb (.t 43)), jm 45 4, jL 46 45, jn 47 (.call 69 [(.t 46)]), jb .add 48 44 47, jm 49 4, jn 50 (.cvb (.t 49)), jb .add 51 48 50, jm 2 51, jc 3 (.bool true)]) .ret)))))
theorem Uy : BV Tryz.prog Tryz.f49 = some ⟨52, k49, [(.tmp 2), (.tmp 3)]⟩ := by kernel_rfl
theorem jF (N : Nat) (LD : A7 → Option (List UInt8 × Bool)) (VV : ∀ (a0 : A7) (r : List UInt8 × Bool), LD a0 = some r → Sat Tryz.prog 49 AO [A9 a0] (.tup [.str r.1, .bool r.2]) AO) (a0 : A7) (MX : List A7) : ∀ (n : Nat) (x : Int × List UInt8) (y : (List UInt8) ⊕ (List UInt8 × Bool)), MV N LD a0 MX n x = some y → WX Tryz.prog (fun _ => false) (.loop Gx) ((fun (x : Int × List UInt8) => ⟨AY [(1, .ptr 78401 0 0), (4, .slr 79204 0 x.2.length), (13, .sl 3 (List.map A9 MX)), (14, j6 (MX.length : Int)), (15, j6 x.1)], AY [(78401, ⟨3, false, [A9 a0]⟩), (79204, ⟨1, true, List.map eb x.2⟩)]⟩) x) ((Sum.elim (fun y e s => e = .exit 0 ∧ s = ⟨AY [(1, .ptr 78401 0 0), (4, .slr 79204 0 y.length)], AY [(78401, ⟨3, false, [A9 a0]⟩), (79204, ⟨1, true, List.map eb y⟩)]⟩) (fun y e s => e = .ret ∧ s = ⟨AY [(2, .str y.1), (3, .bool y.2)], AY []⟩) : ((List UInt8) ⊕ (List UInt8 × Bool)) → Xt → St → Prop) y) := by
 refine EP _ _ (MV N LD a0 MX) (R9 N LD a0 MX) (fun _ => rfl) (fun _ _ => rfl) ?_
 rintro rec ⟨U2, QU⟩ y h
 refine AC (AB ?_)
 refine wq rfl ?_
 refine AC ?_
 refine D5 h rfl (fun c1 h => ?_) (fun c1 h => ?_)
 refine BF (AC (BZ (AC (AB ?_))))
 obtain ⟨E9, VU, h⟩ := AJ h
 refine AQ rfl (DF (cs := [eb E9.Tag, .str E9.Body, .sl 3 E9.Kids]) VU rfl rfl rfl) ?_
 refine AQ (p := A9 E9) rfl rfl ?_
 refine CO rfl (G5 78406 rfl rfl rfl rfl rfl) ?_
 refine EW (e' := A9 E9) rfl rfl rfl rfl rfl rfl rfl rfl nofun rfl ?_
 refine AC (AB ?_)
 refine AQ (p := A9 E9) rfl rfl ?_
 obtain ⟨VF, YU, h⟩ := AJ h
 refine CO rfl (CB (VV _ _ YU) rfl (.cons A8 .nil) rfl rfl rfl) ?_
 iterate 5 refine wq rfl ?_
 refine AC ?_
 obtain ⟨g2, hg2, h⟩ := AJ h
 refine F3 ⟨AY [(1, .ptr 78401 0 0), (4, .slr 79204 0 QU.length), (7, .str VF.1), (13, .sl 3 (List.map A9 MX)), (14, j6 (MX.length : Int)), (15, j6 U2), (33, .bool g2)], AY [(78401, ⟨3, false, [A9 a0]⟩), (79204, ⟨1, true, List.map eb QU⟩)]⟩ ?_ ?_
 have h := hg2
 refine AB ?_
 iterate 3 refine wq rfl ?_
 rcases BO h with ⟨c3, h⟩ | ⟨c3, h⟩
 iterate 6 refine BJ (gn rfl c3) ?_
 refine AQ rfl (BA c3 rfl rfl) ?_
 obtain rfl := AA h
 exact cq rfl
 iterate 4 refine AQ (gy rfl c3) rfl ?_
 refine AQ (p := j6 (BM ((QU.length : Int) + (VF.1.length : Int)))) (gy rfl c3) rfl ?_
 refine AQ (gy rfl c3) rfl ?_
 refine AQ rfl (AZ c3 rfl rfl) ?_
 cases AA h
 exact cq rfl
 clear hg2
 refine D5 h rfl (fun c4 h => ?_) (fun c4 h => ?_)
 refine AC (AB ?_)
 iterate 2 refine wq rfl ?_
 cases AA h
 exact DL (st1 := ⟨AY [(2, .str ([] : List UInt8)), (3, .bool false)], AY []⟩) (cq rfl) ⟨rfl, rfl⟩
 refine BF (AB ?_)
 iterate 2 refine wq rfl ?_
 obtain ⟨Rs, Xp, h⟩ := AJ h
 refine waps 78436 Xp rfl rfl rfl rfl rfl rfl rfl rfl ?_
 refine wq rfl ?_
 refine AB ?_
 refine AQ (p := j6 (BM (U2 + (1 : Int)))) rfl rfl ?_
 refine wq rfl ?_
 exact ⟨((BM (U2 + (1 : Int))), Rs), (C8.trans (rename 78436 79204 rfl rfl) (cq rfl)), h⟩
 obtain rfl := AA h
 exact CU (st1 := ⟨AY [(1, .ptr 78401 0 0), (4, .slr 79204 0 QU.length)], AY [(78401, ⟨3, false, [A9 a0]⟩), (79204, ⟨1, true, List.map eb QU⟩)]⟩) (cq rfl) ⟨rfl, rfl⟩
theorem iN (N : Nat) (LD : A7 → Option (List UInt8 × Bool)) (VV : ∀ (a0 : A7) (r : List UInt8 × Bool), LD a0 = some r → Sat Tryz.prog 49 AO [A9 a0] (.tup [.str r.1, .bool r.2]) AO) (a0 : A7) (r : List UInt8 × Bool) (h : VE N LD a0 = some r) : Sat Tryz.prog 49 AO [A9 a0] (.tup [.str r.1, .bool r.2]) AO := by
 refine DK mixed Tryz.func49 Uy (rs := [.str r.1, .bool r.2]) rfl rfl ?_
 refine AC (AB ?_)
 refine CO rfl (G5 78401 rfl rfl rfl rfl rfl) ?_
 iterate 2 refine wq rfl ?_
 refine AC (AB ?_)
 iterate 2 refine wq rfl ?_
 refine CO rfl (pU 78411 rfl rfl) ?_
 refine wq rfl ?_
 iterate 2 refine AC ?_
 refine AB ?_
 refine wq rfl ?_
 obtain ⟨MX, bH, h⟩ := AJ h
 refine AQ (p := .sl 3 (List.map A9 MX)) rfl (congrArg (fun z => some (PV.sl 3 z)) (IG (e := A9) CJ bH)) ?_
 refine AQ rfl (BU rfl) ?_
 refine wq rfl ?_
 refine BZ ?_
 obtain ⟨y5, Lm, h⟩ := AJ h
 refine QI (jF N LD VV a0 MX N _ _ Lm) (C8.trans (rename 78411 79204 rfl rfl) (cq rfl)) ?_
 clear Lm
 rcases y5 with y5 | y5
 rintro e s ⟨rfl, rfl⟩
 iterate 2 refine AC ?_
 refine AB ?_
 iterate 3 refine wq rfl ?_
 refine D5 h rfl (fun c6 h => ?_) (fun c6 h => ?_)
 refine AC (AB ?_)
 iterate 2 refine wq rfl ?_
 cases AA h
 refine BR ?_
 exact ⟨nofun, rfl, rfl⟩
 refine BF (AC (P6 ?_))
 iterate 2 refine dq rfl ?_
 refine VG rfl (.bsl _ 78443 rfl (OP rfl) rfl) (RY rfl) ?_
 refine JN rfl (UF (l := [a0.Tag]) rfl rfl (BQ (f := eb) (l := [a0.Tag]))) ?_
 iterate 2 refine dq rfl ?_
 obtain ⟨bY, lC, h⟩ := AJ h
 refine VG rfl (PD (jZ N _ _ lC) rfl (.cons A8 .nil) rfl rfl rfl) CZ ?_
 obtain ⟨gL, fZ, h⟩ := AJ h
 refine JN rfl (nU fZ rfl rfl) ?_
 refine dq rfl ?_
 refine JN rfl (UF (l := y5) rfl rfl (BQ (f := eb) (l := y5))) ?_
 obtain ⟨Lv, Xm, h⟩ := AJ h
 refine JN rfl (nU Xm rfl rfl) ?_
 iterate 2 refine dq rfl ?_
 cases AA h
 refine BR ?_
 exact ⟨nofun, rfl, rfl⟩
 rintro e s ⟨rfl, rfl⟩
 cases AA h
 exact ⟨nofun, rfl, rfl⟩
theorem iO (N : Nat) : ∀ (n : Nat) (a0 : A7) (r : List UInt8 × Bool) (h : OI N n a0 = some r), Sat Tryz.prog 49 AO [A9 a0] (.tup [.str r.1, .bool r.2]) AO := by
 intro n
 induction n with
 | zero => intro a0 r h; cases h
 | succ n ih => intro a0 r h; exact iN N (OI N n) ih a0 r h
theorem mU (N : Nat) (a0 : A7) (r : List UInt8 × Bool) (h : gJ N a0 = some r) : Sat Tryz.prog 49 AO [A9 a0] (.tup [.str r.1, .bool r.2]) AO := iO N N a0 r h
def k22 : IC := (.seq (.reg [jn 1 (.box 52 (.t 0)), jc 2 (.str []), jc 3 (j6 0)]) (.seq (.seq (.reg [jg 6 3 1, jn 7 (.call 47 [(.t 6)]), jn 8 (.un .not (.t 7))]) (.cond (.t 8) (.seq (.reg [jc 2 (.str []), jc 3 (j6 14)]) .ret) .skip)) (.seq (.seq (.reg [jg 9 3 1, jn 10 (.call 48 [(.t 9)]), ju .gtr 11 10 20]) (.cond (.t 11) (.seq (.reg [jc 2 (.str []), jc 3 (j6 12)]) .ret) .skip)) (.seq (.reg [jg 13 3 1, jn 14 (.call 49 [(.t 13)]), jm 12 14, je 15 0 12, je 16 1 12, jm 4 15, jm 5 16]) (.seq (.seq (.reg [jm 17 5, jn 18 (.un .not (.t 17))]) (.cond (.t 18) (.seq (.reg [jc 2 (.str []), jc 3 (j6 13)]) .ret) .skip)) (.seq (.reg [jm 19 4, jm 2 19, jc 3 (j6 0)]) .ret))))))
theorem Vy : BV Tryz.prog Tryz.f22 = some ⟨20, k22, [(.tmp 2), (.tmp 3)]⟩ := by kernel_rfl
theorem mV (N : Nat) (a0 : A7) (r : List UInt8 × Int) (h : ZT N a0 = some r) : Sat Tryz.prog 22 AO [A9 a0] (.tup [.str r.1, j6 r.2]) AO := by
 refine DK mixed Tryz.func22 Vy (rs := [.str r.1, j6 r.2]) rfl rfl ?_
 refine AC (AB ?_)
 refine CO rfl (G5 35201 rfl rfl rfl rfl rfl) ?_
 iterate 2 refine wq rfl ?_
 iterate 2 refine AC ?_
 refine AB ?_
 refine AQ (p := A9 a0) rfl rfl ?_
 obtain ⟨x7, hx7, h⟩ := AJ h
 refine CO rfl (CB (kC N _ _ hx7) rfl (.cons A8 .nil) rfl rfl rfl) ?_
 refine wq rfl ?_
 refine D5 h rfl (fun c1 h => ?_) (fun c1 h => ?_)
 refine AC (AB ?_)
 iterate 2 refine wq rfl ?_
 cases AA h
 refine BR ?_
 exact ⟨nofun, rfl, rfl⟩
 refine BF ?_
 iterate 2 refine AC ?_
 refine AB ?_
 refine AQ (p := A9 a0) rfl rfl ?_
 obtain ⟨SX, XO, h⟩ := AJ h
 refine CO rfl (CB (pF N _ _ XO) rfl (.cons A8 .nil) rfl rfl rfl) ?_
 refine wq rfl ?_
 refine D5 h rfl (fun c2 h => ?_) (fun c2 h => ?_)
 refine AC (AB ?_)
 iterate 2 refine wq rfl ?_
 cases AA h
 refine BR ?_
 exact ⟨nofun, rfl, rfl⟩
 refine BF (AC (AB ?_))
 refine AQ (p := A9 a0) rfl rfl ?_
 obtain ⟨PO, UG, h⟩ := AJ h
 refine CO rfl (CB (mU N _ _ UG) rfl (.cons A8 .nil) rfl rfl rfl) ?_
 iterate 5 refine wq rfl ?_
 iterate 2 refine AC ?_
 refine AB ?_
 iterate 2 refine wq rfl ?_
 refine D5 h rfl (fun c3 h => ?_) (fun c3 h => ?_)
 refine AC (AB ?_)
 iterate 2 refine wq rfl ?_
 cases AA h
 refine BR ?_
 exact ⟨nofun, rfl, rfl⟩
 refine BF (AC (AB ?_))
 iterate 3 refine wq rfl ?_
 cases AA h
 refine BR ?_
 exact ⟨nofun, rfl, rfl⟩
def Gm : IC := (.seq (.reg [jb .lss 23 22 21]) (.seq (.cond (.t 23) .skip (.exit 0)) (.seq (.block 1 (.seq (.reg [jx 24 2 20 22, jg 25 2 24, jn 7 (.box 41 (.c (.agg [(.str []), (.str [])]))), js 2 7 25]) (.regd 8 [jm 26 4, ja 27 0 7, jl 28 1 27, jn 29 (.call 19 [(.c (.int .u8 4)), (.t 28)]), ja 30 1 7, jl 31 1 30, jn 32 (.call 19 [(.c (.int .u8 4)), (.t 31)]), jn 33 (.bsl 3 [(.t 29), (.t 32)]), jn 34 (.app 52 3 48 (.t 26) (.t 33)), jm 4 34]))) (.reg [ju .add 35 22 1, jm 22 35]))))
def Gj : IC := (.seq (.reg [jb .lss 54 53 52]) (.seq (.cond (.t 54) .skip (.exit 4)) (.seq (.block 5 (.seq (.reg [jx 55 1 51 53, jl 56 1 55, jm 12 56]) (.reg [jm 57 10, jm 58 12, jn 59 (.call 19 [(.c (.int .u8 4)), (.t 58)]), jn 60 (.bsl 3 [(.t 59)]), jn 61 (.app 52 3 48 (.t 57) (.t 60)), jm 10 61]))) (.reg [ju .add 62 53 1, jm 53 62]))))
def Gl : IC := (.seq (.reg [jb .lss 40 39 38]) (.seq (.cond (.t 40) .skip (.exit 2)) (.seq (.block 3 (.seq (.reg [jx 41 3 37 39, jg 42 3 41, jn 9 (.box 44 (.c (.agg [(j6 0), (.str []), .nl]))), js 3 9 42]) (.seq (.regd 8 [ja 43 0 9, jl 44 1 43, jn 45 (.call 20 [(.c (.int .u8 2)), (.t 44)]), ja 46 1 9, jl 47 1 46, jn 48 (.call 19 [(.c (.int .u8 4)), (.t 47)]), jn 49 (.bsl 3 [(.t 45), (.t 48)]), jm 10 49]) (.seq (.seq (.reg [ja 50 2 9, jl 51 1 50, jL 52 51, jc 53 (j6 0)]) (.block 4 (.loop Gj))) (.reg [jm 63 5, jm 64 10, jn 65 (.call 21 [(.c (.int .u8 48)), (.t 64)]), jn 66 (.bsl 3 [(.t 65)]), jn 67 (.app 52 3 48 (.t 63) (.t 66)), jm 5 67]))))) (.reg [ju .add 68 39 1, jm 39 68]))))
def k9 : IC := (.seq (.reg [jn 1 (.box 28 (.t 0)), jc 2 (.str []), jc 3 (j6 0)]) (.seq (.seq (.reg [jg 16 13 1, jn 17 (.call 10 [(.t 16)]), jn 18 (.un .not (.t 17))]) (.cond (.t 18) (.seq (.reg [jc 2 (.str []), jc 3 (j6 14)]) .ret) .skip)) (.seq (.reg [jc 4 .nl, jc 5 .nl]) (.seq (.seq (.reg [ja 19 10 1, jl 20 1 19, jL 21 20, jc 22 (j6 0)]) (.block 0 (.loop Gm))) (.seq (.seq (.reg [ja 36 12 1, jl 37 1 36, jL 38 37, jc 39 (j6 0)]) (.block 2 (.loop Gl))) (.seq (.reg [ja 69 3 1, jl 70 1 69, jm 13 70]) (.seq (.seq (.reg [ja 71 11 1, jl 72 1 71]) (.cond (.t 72) (.reg [jm 73 13, jn 74 (.un .neg (.t 73)), jm 13 74]) .skip)) (.seq (.regd 23 [jm 76 13, jn 77 (.call 20 [(.c (.int .u8 2)), (.t 76)]), ja 78 0 1, jg 79 3 78, jn 80 (.call 23 [(.t 79)]), ja 81 4 1, jg 82 3 81, jn 83 (.call 23 [(.t 82)]), ja 84 7 1, jg 85 3 84, jn 86 (.call 23 [(.t 85)]), jm 87 4, jn 88 (.call 21 [(.c (.int .u8 48)), (.t 87)]), jm 89 5, jn 90 (.call 21 [(.c (.int .u8 48)), (.t 89)]), jn 91 (.bsl 3 [(.t 77), (.t 80), (.t 83), (.t 86), (.t 88), (.t 90)]), jn 92 (.call 21 [(.c (.int .u8 48)), (.t 91)]), jn 93 (.call 22 [(.t 92)]), jm 75 93, je 94 0 75, je 95 1 75, jm 14 94, jm 15 95]) (.seq (.seq (.reg [jm 96 15, ju .eql 97 96 0, jm 98 97, jt 98 99 (.mov (.t 14)), jt 98 100 (.len true (.t 99)), jt 98 101 (.bin .gtr (.t 100) (ji 4000)), jp 102 98 101]) (.cond (.t 102) (.seq (.reg [jc 2 (.str []), jc 3 (j6 13)]) .ret) .skip)) (.seq (.reg [jm 103 14, jm 104 15, jm 2 103, jm 3 104]) .ret))))))))))
theorem k9_cf : BV Tryz.prog Tryz.f9 = some ⟨105, k9, [(.tmp 2), (.tmp 3)]⟩ := by kernel_rfl
theorem aR (N : Nat) (a0 : AX) : ∀ (n : Nat) (x : Int × List A7) (y : List A7), IM N a0 n x = some y → WX Tryz.prog (fun _ => false) (.loop Gm) ((fun (x : Int × List A7) => ⟨AY [(1, .ptr 14401 0 0), (4, .slr 15204 0 x.2.length), (5, .nl), (20, .sl 2 (List.map AV a0.RDN)), (21, j6 (a0.RDN.length : Int)), (22, j6 x.1)], AY [(14401, ⟨13, false, [AR a0]⟩), (15204, ⟨3, true, List.map A9 x.2⟩)]⟩) x) ((fun y e s => e = .exit 0 ∧ s = ⟨AY [(1, .ptr 14401 0 0), (4, .slr 15204 0 y.length), (5, .nl)], AY [(14401, ⟨13, false, [AR a0]⟩), (15204, ⟨3, true, List.map A9 y⟩)]⟩ : (List A7) → Xt → St → Prop) y) := by
 refine EP _ _ (IM N a0) (MU N a0) (fun _ => rfl) (fun _ _ => rfl) ?_
 rintro rec ⟨fB, WP⟩ y h
 refine AC (AB ?_)
 refine wq rfl ?_
 refine AC ?_
 refine D5 h rfl (fun c2 h => ?_) (fun c2 h => ?_)
 refine BF (AC (BZ (AC (AB ?_))))
 obtain ⟨x24, hx24, h⟩ := AJ h
 refine AQ rfl (DF (cs := [.str x24.Attr, .str x24.Value]) hx24 rfl rfl rfl) ?_
 refine AQ (p := AV x24) rfl rfl ?_
 refine CO rfl (G5 14407 rfl rfl rfl rfl rfl) ?_
 refine EW (e' := AV x24) rfl rfl rfl rfl rfl rfl rfl rfl nofun rfl ?_
 refine P6 ?_
 iterate 3 refine dq rfl ?_
 obtain ⟨x29, hx29, h⟩ := AJ h
 refine VG rfl (PD (LY N _ _ _ hx29) rfl (.cons A8 (.cons A8 .nil)) rfl rfl rfl) CZ ?_
 iterate 2 refine dq rfl ?_
 obtain ⟨x32, hx32, h⟩ := AJ h
 refine VG rfl (PD (LY N _ _ _ hx32) rfl (.cons A8 (.cons A8 .nil)) rfl rfl rfl) CZ ?_
 refine VG rfl (.bsl _ 14433 rfl (OP rfl) rfl) (RY rfl) ?_
 obtain ⟨x34, hx34, h⟩ := AJ h
 refine UU (f := A9) 14434 hx34 rfl rfl rfl rfl rfl (KR rfl (BQ (f := A9) (l := [x29, x32]))) rfl rfl rfl rfl ?_
 refine wq rfl ?_
 refine AB ?_
 refine AQ (p := j6 (BM (fB + (1 : Int)))) rfl rfl ?_
 refine wq rfl ?_
 exact ⟨((BM (fB + (1 : Int))), x34), (C8.trans (rename 14434 15204 rfl rfl) (cq rfl)), h⟩
 obtain rfl := AA h
 exact CU (st1 := ⟨AY [(1, .ptr 14401 0 0), (4, .slr 15204 0 WP.length), (5, .nl)], AY [(14401, ⟨13, false, [AR a0]⟩), (15204, ⟨3, true, List.map A9 WP⟩)]⟩) (cq rfl) ⟨rfl, rfl⟩
theorem aP (N : Nat) (a0 : AX) (y3 : List A7) (MC : Int) (FK : List A7) (x41 : BD) : ∀ (n : Nat) (x : Int × List A7) (y : List A7), IK N a0 y3 MC FK x41 n x = some y → WX Tryz.prog (fun _ => false) (.loop Gj) ((fun (x : Int × List A7) => ⟨AY [(1, .ptr 14401 0 0), (4, .slr 15204 0 y3.length), (5, .slr 15205 0 FK.length), (10, .slr 15210 0 x.2.length), (37, .sl 3 (List.map AU a0.Mods)), (38, j6 (a0.Mods.length : Int)), (39, j6 MC), (51, .sl 1 (List.map PV.str x41.Values)), (52, j6 (x41.Values.length : Int)), (53, j6 x.1)], AY [(14401, ⟨13, false, [AR a0]⟩), (15204, ⟨3, true, List.map A9 y3⟩), (15205, ⟨3, true, List.map A9 FK⟩), (15210, ⟨3, true, List.map A9 x.2⟩)]⟩) x) ((fun y e s => e = .exit 4 ∧ s = ⟨AY [(1, .ptr 14401 0 0), (4, .slr 15204 0 y3.length), (5, .slr 15205 0 FK.length), (10, .slr 15210 0 y.length), (37, .sl 3 (List.map AU a0.Mods)), (38, j6 (a0.Mods.length : Int)), (39, j6 MC)], AY [(14401, ⟨13, false, [AR a0]⟩), (15204, ⟨3, true, List.map A9 y3⟩), (15205, ⟨3, true, List.map A9 FK⟩), (15210, ⟨3, true, List.map A9 y⟩)]⟩ : (List A7) → Xt → St → Prop) y) := by
 refine EP _ _ (IK N a0 y3 MC FK x41) (MR N a0 y3 MC FK x41) (fun _ => rfl) (fun _ _ => rfl) ?_
 rintro rec ⟨eY, WO⟩ y h
 refine AC (AB ?_)
 refine wq rfl ?_
 refine AC ?_
 refine D5 h rfl (fun c5 h => ?_) (fun c5 h => ?_)
 refine BF (AC (BZ (AC (AB ?_))))
 obtain ⟨x55, wD, h⟩ := AJ h
 refine AQ rfl (DF (cs := [.str x55]) wD rfl rfl rfl) ?_
 iterate 2 refine wq rfl ?_
 refine AB ?_
 iterate 2 refine wq rfl ?_
 obtain ⟨Lt, Ie, h⟩ := AJ h
 refine CO rfl (CB (LY N _ _ _ Ie) rfl (.cons A8 (.cons A8 .nil)) rfl rfl rfl) ?_
 refine CO rfl (TC 14460 rfl rfl rfl) ?_
 obtain ⟨Rq, Xi, h⟩ := AJ h
 refine UU (f := A9) 14461 Xi rfl rfl rfl rfl rfl (KR rfl (BQ (f := A9) (l := [Lt]))) rfl rfl rfl rfl ?_
 refine wq rfl ?_
 refine AB ?_
 refine AQ (p := j6 (BM (eY + (1 : Int)))) rfl rfl ?_
 refine wq rfl ?_
 exact ⟨((BM (eY + (1 : Int))), Rq), (C8.trans (rename 14461 15210 rfl rfl) (cq rfl)), h⟩
 obtain rfl := AA h
 exact CU (st1 := ⟨AY [(1, .ptr 14401 0 0), (4, .slr 15204 0 y3.length), (5, .slr 15205 0 FK.length), (10, .slr 15210 0 WO.length), (37, .sl 3 (List.map AU a0.Mods)), (38, j6 (a0.Mods.length : Int)), (39, j6 MC)], AY [(14401, ⟨13, false, [AR a0]⟩), (15204, ⟨3, true, List.map A9 y3⟩), (15205, ⟨3, true, List.map A9 FK⟩), (15210, ⟨3, true, List.map A9 WO⟩)]⟩) (cq rfl) ⟨rfl, rfl⟩
theorem aQ (N : Nat) (a0 : AX) (y3 : List A7) : ∀ (n : Nat) (x : Int × List A7) (y : List A7), IL N a0 y3 n x = some y → WX Tryz.prog (fun _ => false) (.loop Gl) ((fun (x : Int × List A7) => ⟨AY [(1, .ptr 14401 0 0), (4, .slr 15204 0 y3.length), (5, .slr 15205 0 x.2.length), (37, .sl 3 (List.map AU a0.Mods)), (38, j6 (a0.Mods.length : Int)), (39, j6 x.1)], AY [(14401, ⟨13, false, [AR a0]⟩), (15204, ⟨3, true, List.map A9 y3⟩), (15205, ⟨3, true, List.map A9 x.2⟩)]⟩) x) ((fun y e s => e = .exit 2 ∧ s = ⟨AY [(1, .ptr 14401 0 0), (4, .slr 15204 0 y3.length), (5, .slr 15205 0 y.length)], AY [(14401, ⟨13, false, [AR a0]⟩), (15204, ⟨3, true, List.map A9 y3⟩), (15205, ⟨3, true, List.map A9 y⟩)]⟩ : (List A7) → Xt → St → Prop) y) := by
 refine EP _ _ (IL N a0 y3) (MS N a0 y3) (fun _ => rfl) (fun _ _ => rfl) ?_
 rintro rec ⟨MC, FK⟩ y h
 refine AC (AB ?_)
 refine wq rfl ?_
 refine AC ?_
 refine D5 h rfl (fun c4 h => ?_) (fun c4 h => ?_)
 refine BF (AC (BZ (AC (AB ?_))))
 obtain ⟨x41, lD, h⟩ := AJ h
 refine AQ rfl (DF (cs := [j6 x41.Kind, .str x41.Attr, .sl 1 (List.map PV.str x41.Values)]) lD rfl rfl rfl) ?_
 refine AQ (p := AU x41) rfl rfl ?_
 refine CO rfl (G5 14409 rfl rfl rfl rfl rfl) ?_
 refine EW (e' := AU x41) rfl rfl rfl rfl rfl rfl rfl rfl nofun rfl ?_
 refine AC (P6 ?_)
 iterate 2 refine dq rfl ?_
 obtain ⟨r9, Ih, h⟩ := AJ h
 refine VG rfl (PD (WI N _ _ _ Ih) rfl (.cons A8 (.cons A8 .nil)) rfl rfl rfl) CZ ?_
 iterate 2 refine dq rfl ?_
 obtain ⟨gL, fZ, h⟩ := AJ h
 refine VG rfl (PD (LY N _ _ _ fZ) rfl (.cons A8 (.cons A8 .nil)) rfl rfl rfl) CZ ?_
 refine VG rfl (.bsl _ 14449 rfl (OP rfl) rfl) (RY rfl) ?_
 refine dq rfl ?_
 iterate 2 refine AC ?_
 refine AB ?_
 iterate 2 refine wq rfl ?_
 refine AQ rfl (BU rfl) ?_
 refine wq rfl ?_
 refine BZ ?_
 obtain ⟨y6, uO, h⟩ := AJ h
 refine QI (aP N a0 y3 MC FK x41 N _ _ uO) (C8.trans (rename 14449 15210 rfl rfl) (cq rfl)) ?_
 rintro e s ⟨rfl, rfl⟩
 refine AB ?_
 iterate 2 refine wq rfl ?_
 refine wn (C8.trans (Vd.freeze 15210 _ rfl rfl rfl) (C8.trans (KP 10 (H5 (congrArg (PV.sl 3) (BQ (f := A9) (l := y6)))) rfl) (KP 64 (H5 (congrArg (PV.sl 3) (BQ (f := A9) (l := y6)))) rfl))) ?_
 obtain ⟨xK, Ch, h⟩ := AJ h
 refine CO rfl (CB (QQ N _ _ _ Ch) rfl (.cons A8 (.cons A8 .nil)) rfl rfl rfl) ?_
 refine CO rfl (TC 14466 rfl rfl rfl) ?_
 obtain ⟨x67, hx67, h⟩ := AJ h
 refine UU (f := A9) 14467 hx67 rfl rfl rfl rfl rfl (KR rfl (BQ (f := A9) (l := [xK]))) rfl rfl rfl rfl ?_
 refine wq rfl ?_
 refine AB ?_
 refine AQ (p := j6 (BM (MC + (1 : Int)))) rfl rfl ?_
 refine wq rfl ?_
 exact ⟨((BM (MC + (1 : Int))), x67), (C8.trans (rename 14467 15205 rfl rfl) (cq rfl)), h⟩
 obtain rfl := AA h
 exact CU (st1 := ⟨AY [(1, .ptr 14401 0 0), (4, .slr 15204 0 y3.length), (5, .slr 15205 0 FK.length)], AY [(14401, ⟨13, false, [AR a0]⟩), (15204, ⟨3, true, List.map A9 y3⟩), (15205, ⟨3, true, List.map A9 FK⟩)]⟩) (cq rfl) ⟨rfl, rfl⟩
theorem LZ (N : Nat) (a0 : AX) (r : List UInt8 × Int) (h : JW N a0 = some r) : Sat Tryz.prog 9 AO [AR a0] (.tup [.str r.1, j6 r.2]) AO := by
 refine DK mixed Tryz.func9 k9_cf (rs := [.str r.1, j6 r.2]) rfl rfl ?_
 refine AC (AB ?_)
 refine CO rfl (G5 14401 rfl rfl rfl rfl rfl) ?_
 iterate 2 refine wq rfl ?_
 iterate 2 refine AC ?_
 refine AB ?_
 refine AQ (p := AR a0) rfl rfl ?_
 obtain ⟨E9, VU, h⟩ := AJ h
 refine CO rfl (CB (VQ N _ _ VU) rfl (.cons A8 .nil) rfl rfl rfl) ?_
 refine wq rfl ?_
 refine D5 h rfl (fun c1 h => ?_) (fun c1 h => ?_)
 refine AC (AB ?_)
 iterate 2 refine wq rfl ?_
 cases AA h
 refine BR ?_
 exact ⟨nofun, rfl, rfl⟩
 refine BF (AC (AB ?_))
 iterate 2 refine wq rfl ?_
 iterate 2 refine AC ?_
 refine AB ?_
 iterate 2 refine wq rfl ?_
 refine AQ rfl (BU rfl) ?_
 refine wq rfl ?_
 refine BZ ?_
 obtain ⟨y3, hy3, h⟩ := AJ h
 refine QI (aR N a0 N _ _ hy3) (C8.trans (aJ 4 15204 3 true rfl rfl rfl) (cq rfl)) ?_
 rintro e s ⟨rfl, rfl⟩
 iterate 2 refine AC ?_
 refine AB ?_
 iterate 2 refine wq rfl ?_
 refine AQ rfl (BU rfl) ?_
 refine wq rfl ?_
 refine BZ ?_
 obtain ⟨y7, hy7, h⟩ := AJ h
 refine QI (aQ N a0 y3 N _ _ hy7) (C8.trans (aJ 5 15205 3 true rfl rfl rfl) (cq rfl)) ?_
 rintro e s ⟨rfl, rfl⟩
 refine AC (AB ?_)
 iterate 3 refine wq rfl ?_
 refine QJ (fun (x : Int) => ⟨AY [(1, .ptr 14401 0 0), (4, .slr 15204 0 y3.length), (5, .slr 15205 0 y7.length), (13, j6 x)], AY [(14401, ⟨13, false, [AR a0]⟩), (15204, ⟨3, true, List.map A9 y3⟩), (15205, ⟨3, true, List.map A9 y7⟩)]⟩) (fun x => M6 a0 N y3 y7 x = some r) ?_ ?_
 rintro Dy h
 refine AC ?_
 refine V4 (C8.trans (Vd.freeze 15204 _ rfl rfl rfl) (KP 4 (H5 (congrArg (PV.sl 3) (BQ (f := A9) (l := y3)))) rfl)) ?_
 refine V4 (C8.trans (Vd.freeze 15205 _ rfl rfl rfl) (KP 5 (H5 (congrArg (PV.sl 3) (BQ (f := A9) (l := y7)))) rfl)) ?_
 refine P6 ?_
 refine dq rfl ?_
 obtain ⟨x77, Xb, h⟩ := AJ h
 refine VG rfl (PD (WI N _ _ _ Xb) rfl (.cons A8 (.cons A8 .nil)) rfl rfl rfl) CZ ?_
 refine dq rfl ?_
 refine JN (p := .agg [j6 a0.CSN.Time, j6 a0.CSN.Seq, j6 a0.CSN.Rep]) rfl rfl ?_
 obtain ⟨x80, Wz, h⟩ := AJ h
 refine VG rfl (PD (QT N _ _ Wz) rfl (.cons A8 .nil) rfl rfl rfl) CZ ?_
 refine dq rfl ?_
 refine JN (p := .agg [j6 a0.ID.Time, j6 a0.ID.Seq, j6 a0.ID.Rep]) rfl rfl ?_
 obtain ⟨x83, hx83, h⟩ := AJ h
 refine VG rfl (PD (QT N _ _ hx83) rfl (.cons A8 .nil) rfl rfl rfl) CZ ?_
 refine dq rfl ?_
 refine JN (p := .agg [j6 a0.Parent.Time, j6 a0.Parent.Seq, j6 a0.Parent.Rep]) rfl rfl ?_
 obtain ⟨x86, hx86, h⟩ := AJ h
 refine VG rfl (PD (QT N _ _ hx86) rfl (.cons A8 .nil) rfl rfl rfl) CZ ?_
 refine dq rfl ?_
 obtain ⟨x88, hx88, h⟩ := AJ h
 refine VG rfl (PD (QQ N _ _ _ hx88) rfl (.cons A8 (.cons A8 .nil)) rfl rfl rfl) CZ ?_
 refine dq rfl ?_
 obtain ⟨x90, hx90, h⟩ := AJ h
 refine VG rfl (PD (QQ N _ _ _ hx90) rfl (.cons A8 (.cons A8 .nil)) rfl rfl rfl) CZ ?_
 refine VG rfl (.bslf _ 14491 rfl (OP rfl) rfl rfl) (RY rfl) ?_
 obtain ⟨x92, hx92, h⟩ := AJ h
 refine VG rfl (PD (QQ N _ _ _ hx92) rfl (.cons A8 (.cons A8 .nil)) rfl rfl rfl) CZ ?_
 obtain ⟨x93, hx93, h⟩ := AJ h
 refine VG rfl (PD (mV N _ _ hx93) rfl (.cons A8 .nil) rfl rfl rfl) CZ ?_
 iterate 5 refine dq rfl ?_
 refine AC ?_
 obtain ⟨g8, hg8, h⟩ := AJ h
 refine F3 ⟨AY [(14, .str x93.1), (15, j6 x93.2), (102, .bool g8)], AY []⟩ ?_ ?_
 have h := hg8
 refine AB ?_
 iterate 3 refine wq rfl ?_
 rcases BO h with ⟨c9, h⟩ | ⟨c9, h⟩
 iterate 3 refine AQ (gy rfl c9) rfl ?_
 refine AQ rfl (BA c9 rfl rfl) ?_
 cases AA h
 exact cq rfl
 iterate 3 refine BJ (gn rfl c9) ?_
 refine AQ rfl (AZ c9 rfl rfl) ?_
 obtain rfl := AA h
 exact cq rfl
 clear hg8
 refine D5 h rfl (fun c10 h => ?_) (fun c10 h => ?_)
 refine AC (AB ?_)
 iterate 2 refine wq rfl ?_
 cases AA h
 refine BR ?_
 exact ⟨nofun, rfl, rfl⟩
 refine BF (AC (AB ?_))
 iterate 4 refine wq rfl ?_
 cases AA h
 refine BR ?_
 exact ⟨nofun, rfl, rfl⟩
 refine AC (AB ?_)
 iterate 2 refine wq rfl ?_
 refine D5 h rfl (fun c11 h => ?_) (fun c11 h => ?_)
 refine AB ?_
 refine wq rfl ?_
 refine AQ (p := j6 (BM (0 - a0.Kind))) rfl rfl ?_
 refine wq rfl ?_
 exact ⟨(BM (0 - a0.Kind)), (cq rfl), h⟩
 refine BF ?_
 exact ⟨a0.Kind, (cq rfl), h⟩
def yP : IC := (.seq (.reg [jb .lss 45 44 43]) (.seq (.cond (.t 45) .skip (.exit 4)) (.seq (.block 5 (.seq (.reg [jx 46 1 42 44, jl 47 1 46, jm 8 47]) (.reg [jm 48 5, jn 49 (.bin .shl (.t 48) (.c (.int .u64 8))), jm 50 8, jn 51 (.cvi .i64 (.t 50)), jb .or 52 49 51, jm 5 52]))) (.reg [ju .add 53 44 1, jm 44 53]))))
def k86 : IC := (.seq (.reg [jc 2 (j6 0), jc 3 (j6 0), jc 4 (j6 0)]) (.seq (.seq (.reg [jm 9 0, jn 10 (.bin .eql (.t 9) (.c (.str [])))]) (.cond (.t 10) (.seq (.reg [jc 2 (j6 0), jc 3 (j6 0), jc 4 (j6 10)]) .ret) .skip)) (.seq (.seq (.reg [jm 11 0, jn 12 (.idxs (.t 11) (ji 0)), jn 13 (.bin .and (.t 12) (.c (.int .u8 31))), jn 14 (.bin .eql (.t 13) (.c (.int .u8 31)))]) (.cond (.t 14) (.seq (.reg [jc 2 (j6 0), jc 3 (j6 0), jc 4 (j6 14)]) .ret) .skip)) (.seq (.seq (.reg [jm 15 0, jS 16 15, ju .eql 17 16 1]) (.cond (.t 17) (.seq (.reg [jc 2 (j6 0), jc 3 (j6 0), jc 4 (j6 10)]) .ret) .skip)) (.seq (.reg [jm 18 0, jn 19 (.idxs (.t 18) (ji 1)), jn 20 (.cvi .i64 (.t 19)), jm 5 20]) (.seq (.reg [jc 6 (j6 0)]) (.seq (.block 0 (.seq (.block 3 (.seq (.block 2 (.seq (.block 1 (.seq (.seq (.seq (.reg [jm 22 5, ju .eql 23 22 128, jm 24 23, jf 24 25 (.mov (.t 5)), jf 24 26 (.bin .gtr (.t 25) (ji 132)), jo 27 24 26, jm 21 27]) (.cond (.t 21) (.exit 1) .skip)) (.seq (.reg [jm 29 5, ju .gtr 30 29 128, jm 28 30]) (.cond (.t 28) (.exit 2) .skip))) (.exit 3))) (.seq (.seq (.reg [jc 2 (j6 0), jc 3 (j6 0), jc 4 (j6 11)]) .ret) (.exit 0)))) (.seq (.reg [jm 31 5, ju .sub 32 31 128, jm 6 32]) (.seq (.seq (.reg [jm 33 0, jS 34 33, jm 35 6, jn 36 (.bin .add (ji 2) (.t 35)), jb .lss 37 34 36]) (.cond (.t 37) (.seq (.reg [jc 2 (j6 0), jc 3 (j6 0), jc 4 (j6 10)]) .ret) .skip)) (.seq (.reg [jc 5 (j6 0)]) (.seq (.reg [jm 38 0, jm 39 6, jn 40 (.bin .add (ji 2) (.t 39)), jn 41 (.slcs (.t 38) (some (ji 2)) (some (.t 40))), jn 42 (.cvs (.t 41)), jL 43 42, jc 44 (j6 0)]) (.block 4 (.loop yP)))))))) (.seq (.seq (.reg [jm 54 5, ju .gtr 55 54 4000]) (.cond (.t 55) (.seq (.reg [jc 2 (j6 0), jc 3 (j6 0), jc 4 (j6 13)]) .ret) .skip)) (.exit 0)))) (.seq (.reg [jm 56 6, jn 57 (.bin .add (ji 2) (.t 56)), jm 58 5, jm 2 57, jm 3 58, jc 4 (j6 0)]) .ret))))))))
theorem Tk : BV Tryz.prog Tryz.f86 = some ⟨59, k86, [(.tmp 2), (.tmp 3), (.tmp 4)]⟩ := by kernel_rfl
theorem jG (N : Nat) (QG : UInt8) (x41 : List UInt8) : ∀ (n : Nat) (x : Int × Int) (y : Int), MW N QG x41 n x = some y → WX Tryz.prog (fun _ => false) (.loop yP) ((fun (x : Int × Int) => ⟨AY [(5, j6 x.1), (6, j6 (BM (((QG).toNat : Int) - (128 : Int)))), (42, .slr 137642 0 x41.length), (43, j6 (x41.length : Int)), (44, j6 x.2)], AY [(137642, ⟨1, true, List.map eb x41⟩)]⟩) x) ((fun y e s => e = .exit 4 ∧ s = ⟨AY [(5, j6 y), (6, j6 (BM (((QG).toNat : Int) - (128 : Int))))], AY []⟩ : Int → Xt → St → Prop) y) := by
 refine EP _ _ (MW N QG x41) (RA N QG x41) (fun _ => rfl) (fun _ _ => rfl) ?_
 rintro rec ⟨nI, eZ⟩ y h
 refine AC (AB ?_)
 refine wq rfl ?_
 refine AC ?_
 refine D5 h rfl (fun c10 h => ?_) (fun c10 h => ?_)
 refine BF (AC (BZ (AC (AB ?_))))
 obtain ⟨uN, qE, h⟩ := AJ h
 refine AQ rfl (PE qE rfl rfl rfl rfl) ?_
 obtain ⟨bY, lC, h⟩ := AJ h
 refine AQ rfl (UE (f := eb) (v := eb bY) lC rfl rfl rfl) ?_
 refine wq rfl ?_
 refine AB ?_
 refine wq rfl ?_
 refine AQ rfl (Qh (by decide) rfl rfl) ?_
 refine wq rfl ?_
 refine AQ rfl (fP (a := bY) rfl) ?_
 refine AQ (p := j6 (Ll .or .i64 (jQ nI 8) ((bY).toNat : Int))) rfl rfl ?_
 refine wq rfl ?_
 refine AB ?_
 refine AQ (p := j6 (BM (eZ + (1 : Int)))) rfl rfl ?_
 refine wq rfl ?_
 exact ⟨((Ll .or .i64 (jQ nI 8) ((bY).toNat : Int)), (BM (eZ + (1 : Int)))), (cq rfl), h⟩
 obtain rfl := AA h
 exact CU (st1 := ⟨AY [(5, j6 nI), (6, j6 (BM (((QG).toNat : Int) - (128 : Int))))], AY []⟩) (cq rfl) ⟨rfl, rfl⟩
theorem pI (N : Nat) (a0 : List UInt8) (r : Int × Int × Int) (h : Z9 N a0 = some r) : Sat Tryz.prog 86 AO [.str a0] (.tup [j6 r.1, j6 r.2.1, j6 r.2.2]) AO := by
 refine DK mixed Tryz.func86 Tk (rs := [j6 r.1, j6 r.2.1, j6 r.2.2]) rfl rfl ?_
 refine AC (AB ?_)
 iterate 3 refine wq rfl ?_
 iterate 2 refine AC ?_
 refine AB ?_
 iterate 2 refine wq rfl ?_
 refine D5 h rfl (fun c1 h => ?_) (fun c1 h => ?_)
 refine AC (AB ?_)
 iterate 3 refine wq rfl ?_
 cases AA h
 refine BR ?_
 exact ⟨nofun, rfl, rfl⟩
 refine BF ?_
 iterate 2 refine AC ?_
 refine AB ?_
 refine wq rfl ?_
 obtain ⟨IP, XN, h⟩ := AJ h
 refine AQ rfl (GY XN rfl rfl) ?_
 refine AQ rfl (ZI (a := IP) (b := (31 : UInt8)) rfl rfl) ?_
 refine AQ (p := .bool ((((IP &&& (31 : UInt8))).toNat : Int) == (31 : Int))) rfl rfl ?_
 refine D5 h rfl (fun c2 h => ?_) (fun c2 h => ?_)
 refine AC (AB ?_)
 iterate 3 refine wq rfl ?_
 cases AA h
 refine BR ?_
 exact ⟨nofun, rfl, rfl⟩
 refine BF ?_
 iterate 2 refine AC ?_
 refine AB ?_
 iterate 3 refine wq rfl ?_
 refine D5 h rfl (fun c3 h => ?_) (fun c3 h => ?_)
 refine AC (AB ?_)
 iterate 3 refine wq rfl ?_
 cases AA h
 refine BR ?_
 exact ⟨nofun, rfl, rfl⟩
 refine BF (AC (AB ?_))
 refine wq rfl ?_
 obtain ⟨QG, YV, h⟩ := AJ h
 refine AQ rfl (GY YV rfl rfl) ?_
 refine AQ rfl (fP (a := QG) rfl) ?_
 refine wq rfl ?_
 refine AC (AB ?_)
 refine wq rfl ?_
 refine AC (BZ ?_)
 refine QJ (fun (x : Int × Int) => ⟨AY [(5, j6 x.1), (6, j6 x.2)], AY []⟩) (fun x => RB x.1 x.2 = some r) ?_ ?_
 rintro ⟨Dv, Dt⟩ h
 iterate 2 refine AC ?_
 refine AB ?_
 iterate 2 refine wq rfl ?_
 refine D5 h rfl (fun c4 h => ?_) (fun c4 h => ?_)
 refine AC (AB ?_)
 iterate 3 refine wq rfl ?_
 cases AA h
 refine BR ?_
 exact ⟨nofun, rfl, rfl⟩
 refine BF ?_
 refine QK ?_
 refine AC (AB ?_)
 refine wq rfl ?_
 refine AQ (p := j6 (BM ((2 : Int) + Dt))) rfl rfl ?_
 iterate 4 refine wq rfl ?_
 cases AA h
 refine BR ?_
 exact ⟨nofun, rfl, rfl⟩
 refine BZ (AC (BZ (AC (BZ ?_))))
 iterate 2 refine AC ?_
 obtain ⟨g5, hg5, h⟩ := AJ h
 refine F3 ⟨AY [(0, .str a0), (5, j6 ((QG).toNat : Int)), (6, j6 0), (21, .bool g5)], AY []⟩ ?_ ?_
 have h := hg5
 refine AB ?_
 iterate 3 refine wq rfl ?_
 rcases BO h with ⟨c6, h⟩ | ⟨c6, h⟩
 iterate 2 refine BJ (gn rfl c6) ?_
 refine AQ rfl (BA c6 rfl rfl) ?_
 refine wq rfl ?_
 obtain rfl := AA h
 exact cq rfl
 iterate 2 refine AQ (gy rfl c6) rfl ?_
 refine AQ rfl (AZ c6 rfl rfl) ?_
 refine wq rfl ?_
 cases AA h
 exact cq rfl
 clear hg5
 refine D5 h rfl (fun c7 h => ?_) (fun c7 h => ?_)
 refine QK ?_
 iterate 2 refine AC ?_
 refine AB ?_
 iterate 3 refine wq rfl ?_
 cases AA h
 refine BR ?_
 exact ⟨nofun, rfl, rfl⟩
 refine BF (AC (AB ?_))
 iterate 3 refine wq rfl ?_
 refine D5 h rfl (fun c8 h => ?_) (fun c8 h => ?_)
 refine QK ?_
 refine AC (AB ?_)
 refine wq rfl ?_
 refine AQ (p := j6 (BM (((QG).toNat : Int) - (128 : Int)))) rfl rfl ?_
 refine wq rfl ?_
 iterate 2 refine AC ?_
 refine AB ?_
 iterate 3 refine wq rfl ?_
 refine AQ (p := j6 (BM ((2 : Int) + (BM (((QG).toNat : Int) - (128 : Int)))))) rfl rfl ?_
 refine wq rfl ?_
 refine D5 h rfl (fun c9 h => ?_) (fun c9 h => ?_)
 refine AC (AB ?_)
 iterate 3 refine wq rfl ?_
 cases AA h
 refine BR ?_
 exact ⟨nofun, rfl, rfl⟩
 refine BF (AC (AB ?_))
 refine wq rfl ?_
 refine AC (AB ?_)
 iterate 2 refine wq rfl ?_
 refine AQ (p := j6 (BM ((2 : Int) + (BM (((QG).toNat : Int) - (128 : Int)))))) rfl rfl ?_
 obtain ⟨x41, lD, h⟩ := AJ h
 refine AQ rfl (nT lD rfl rfl rfl) ?_
 refine CO rfl (pU 137642 rfl rfl) ?_
 iterate 2 refine wq rfl ?_
 refine BZ ?_
 obtain ⟨Dj, Ou, h⟩ := AJ h
 refine QI (jG N QG x41 N _ _ Ou) (cq rfl) ?_
 rintro e s ⟨rfl, rfl⟩
 exact ⟨(Dj, (BM (((QG).toNat : Int) - (128 : Int)))), (cq rfl), h⟩
 refine BF ?_
 refine QK ?_
 exact ⟨(((QG).toNat : Int), 0), (cq rfl), h⟩
def o8 : IC := (.seq (.seq (.reg [jm 89 16, jm 90 14, jm 91 12, jb .add 92 90 91, jb .lss 93 89 92]) (.cond (.t 93) .skip (.exit 0))) (.block 1 (.seq (.reg [jm 95 0, jm 96 16, jm 97 14, jm 98 12, jb .add 99 97 98, jm 100 3, ju .add 101 100 1, jn 102 (.call 64 [(.t 95), (.t 96), (.t 99), (.t 101)]), jm 94 102, je 103 0 94, je 104 1 94, je 105 2 94, jn 17 (.box 52 (.c (.agg [(.int .u8 0), (.str []), .nl]))), js 3 17 103, jm 18 104, jm 19 105]) (.seq (.seq (.reg [jm 106 19, ju .neq 107 106 0]) (.cond (.t 107) (.seq (.reg [jn 108 (.build [(.int .u8 0), (.str []), .nl] []), jm 109 19, js 3 8 108, jc 9 (j6 0), jm 10 109]) .ret) .skip)) (.seq (.reg [ja 110 2 15, jl 111 1 110, jg 112 3 17, jn 113 (.bsl 3 [(.t 112)]), jn 114 (.app 52 3 48 (.t 111) (.t 113)), ja 115 2 15, js 1 115 114]) (.reg [jm 116 18, jm 16 116]))))))
def k64o0 : IC := (.seq (.reg [jn 8 (.box 52 (.c (.agg [(.int .u8 0), (.str []), .nl]))), jc 9 (j6 0), jc 10 (j6 0)]) (.seq (.reg [jm 20 0, jm 21 1, jn 22 (.nck (.t 20)), ja 23 1 22, js 1 23 21]) (.seq (.seq (.reg [jm 24 3, ju .gtr 25 24 20]) (.cond (.t 25) (.seq (.reg [jn 26 (.build [(.int .u8 0), (.str []), .nl] []), js 3 8 26, jc 9 (j6 0), jc 10 (j6 12)]) .ret) .skip)) (.seq (.reg [jm 28 0, jn 29 (.nck (.t 28)), ja 30 0 29, jl 31 1 30, jm 32 1, jm 33 2, jn 34 (.slcs (.t 31) (some (.t 32)) (some (.t 33))), jn 35 (.call 86 [(.t 34)]), jm 27 35, je 36 0 27, je 37 1 27, je 38 2 27, jm 11 36, jm 12 37, jm 13 38]) (.seq (.seq (.reg [jm 39 13, ju .eql 40 39 0, jm 41 40, jt 41 42 (.mov (.t 12)), jt 41 43 (.mov (.t 2)), jt 41 44 (.mov (.t 1)), jt 41 45 (.bin .sub (.t 43) (.t 44)), jt 41 46 (.mov (.t 11)), jt 41 47 (.bin .sub (.t 45) (.t 46)), jt 41 48 (.bin .gtr (.t 42) (.t 47)), jp 49 41 48]) (.cond (.t 49) (.reg [jc 13 (j6 10)]) .skip)) (.seq (.seq (.reg [jm 50 13, ju .eql 51 50 10, jm 52 51, jt 52 53 (.mov (.t 3)), jt 52 54 (.bin .gtr (.t 53) (ji 1)), jp 55 52 54]) (.cond (.t 55) (.reg [jc 13 (j6 11)]) .skip)) (.seq (.seq (.reg [jm 56 13, ju .neq 57 56 0]) (.cond (.t 57) (.seq (.reg [jn 58 (.build [(.int .u8 0), (.str []), .nl] []), jm 59 13, js 3 8 58, jc 9 (j6 0), jm 10 59]) .ret) .skip)) (.seq (.reg [jm 60 1, jm 61 11, jb .add 62 60 61, jm 14 62]) (.seq (.reg [jm 63 0, jn 64 (.nck (.t 63)), ja 65 0 64, jl 66 1 65, jm 67 1, jn 68 (.idxs (.t 66) (.t 67)), jn 69 (.build [(.int .u8 0), (.str []), .nl] [(0, (1, (.t 68)))]), jn 15 (.box 52 (.c (.agg [(.int .u8 0), (.str []), .nl]))), js 3 15 69]) (.seq (.seq (.reg [ja 70 0 15, jl 71 1 70, jn 72 (.bin .and (.t 71) (.c (.int .u8 32))), jn 73 (.bin .eql (.t 72) (.c (.int .u8 0)))]) (.cond (.t 73) (.seq (.reg [jm 74 0, jn 75 (.nck (.t 74)), ja 76 0 75, jl 77 1 76, jm 78 14, jm 79 14, jm 80 12, jb .add 81 79 80, jn 82 (.slcs (.t 77) (some (.t 78)) (some (.t 81))), ja 83 1 15, js 1 83 82]) (.seq (.reg [jg 84 3 15, jm 85 14, jm 86 12, jb .add 87 85 86, js 3 8 84, jm 9 87, jc 10 (j6 0)]) .ret)) .skip)) (.seq (.seq (.reg [jm 88 14, jm 16 88]) (.block 0 (.loop o8))) (.seq (.reg [jg 117 3 15, jm 118 14, jm 119 12, jb .add 120 118 119, js 3 8 117, jm 9 120, jc 10 (j6 0)]) .ret))))))))))))
theorem Gs : BV Tryz.prog Tryz.f64 = some ⟨121, k64o0, [(.cell 3 true 8), (.tmp 9), (.tmp 10)]⟩ := by kernel_rfl
theorem VJ (N : Nat) (LD : BG → Int → Int → Int → Option (A7 × Int × Int × BG)) (VV : ∀ (a0 : BG) (a1 : Int) (a2 : Int) (a3 : Int) (r : A7 × Int × Int × BG), LD a0 a1 a2 a3 = some r → Sat Tryz.prog 64 (AY [(700970, ⟨2, false, [BH a0]⟩)]) [.ptr 700970 0 0, j6 a1, j6 a2, j6 a3] (.tup [A9 r.1, j6 r.2.1, j6 r.2.2.1]) (AY [(700970, ⟨2, false, [BH r.2.2.2]⟩)])) (a1 : Int) (a3 : Int) (LM : Int × Int × Int) : ∀ (n : Nat) (x : Int × UInt8 × List UInt8 × List A7 × BG) (y : (UInt8 × List UInt8 × List A7 × BG) ⊕ (A7 × Int × Int × BG)), FH N LD a1 a3 LM n x = some y → WX Tryz.prog (gV [700970]) (.loop o8) ((fun (x : Int × UInt8 × List UInt8 × List A7 × BG) => ⟨AY [(0, .ptr 700970 0 0), (3, j6 a3), (8, .ptr 102408 0 0), (12, j6 LM.2.1), (14, j6 (BM (a1 + LM.1))), (15, .ptr 102415 0 0), (16, j6 x.1)], AY [(102408, ⟨3, false, [.agg [eb (0 : UInt8), .str ([] : List UInt8), .nl]]⟩), (102415, ⟨3, false, [.agg [eb x.2.1, .str x.2.2.1, .slr 524152 0 x.2.2.2.1.length]]⟩), (524152, ⟨3, true, List.map A9 x.2.2.2.1⟩), (700970, ⟨2, false, [BH x.2.2.2.2]⟩)]⟩) x) ((Sum.elim (fun y e s => e = .exit 0 ∧ s = ⟨AY [(8, .ptr 102408 0 0), (12, j6 LM.2.1), (14, j6 (BM (a1 + LM.1))), (15, .ptr 102415 0 0)], AY [(102408, ⟨3, false, [.agg [eb (0 : UInt8), .str ([] : List UInt8), .nl]]⟩), (102415, ⟨3, false, [.agg [eb y.1, .str y.2.1, .slr 524152 0 y.2.2.1.length]]⟩), (524152, ⟨3, true, List.map A9 y.2.2.1⟩), (700970, ⟨2, false, [BH y.2.2.2]⟩)]⟩) (fun y e s => e = .ret ∧ s = ⟨AY [(8, .ptr 102408 0 0), (9, j6 y.2.1), (10, j6 y.2.2.1)], AY [(102408, ⟨3, false, [A9 y.1]⟩), (700970, ⟨2, false, [BH y.2.2.2]⟩)]⟩) : ((UInt8 × List UInt8 × List A7 × BG) ⊕ (A7 × Int × Int × BG)) → Xt → St → Prop) y) := by
 refine EP _ _ (FH N LD a1 a3 LM) (IU N LD a1 a3 LM) (fun _ => rfl) (fun _ _ => rfl) ?_
 rintro rec ⟨uV, MK, MJ, UB, U8⟩ y h
 iterate 2 refine AC ?_
 refine AB ?_
 iterate 3 refine wq rfl ?_
 refine AQ (p := j6 (BM ((BM (a1 + LM.1)) + LM.2.1))) rfl rfl ?_
 refine wq rfl ?_
 refine D5 h rfl (fun c4 h => ?_) (fun c4 h => ?_)
 refine BF (BZ (AC (AB ?_)))
 iterate 4 refine wq rfl ?_
 refine AQ (p := j6 (BM ((BM (a1 + LM.1)) + LM.2.1))) rfl rfl ?_
 refine wq rfl ?_
 refine AQ (p := j6 (BM (a3 + (1 : Int)))) rfl rfl ?_
 obtain ⟨x102, hx102, h⟩ := AJ h
 refine CO rfl (Fw [(700970, ⟨2, false, [BH U8]⟩)] [(700970, ⟨2, false, [BH x102.2.2.2]⟩)] (VV _ _ _ _ _ hx102) rfl (.cons A8 (.cons A8 (.cons A8 (.cons A8 .nil)))) ⟨rfl, trivial⟩ rfl rfl rfl) ?_
 iterate 4 refine wq rfl ?_
 refine CO rfl (G5 102417 rfl rfl rfl rfl rfl) ?_
 refine EW (e' := A9 x102.1) rfl rfl rfl rfl rfl rfl rfl rfl nofun rfl ?_
 iterate 2 refine wq rfl ?_
 iterate 2 refine AC ?_
 refine AB ?_
 iterate 2 refine wq rfl ?_
 refine D5 h rfl (fun c5 h => ?_) (fun c5 h => ?_)
 refine AC (AB ?_)
 refine AQ (p := .agg [eb (0 : UInt8), .str ([] : List UInt8), .nl]) rfl rfl ?_
 refine Ag (KP 108 (LQ (.cons A8 (.cons A8 (.cons (FM 3) .nil))) rfl) rfl) ?_
 refine wq rfl ?_
 refine EW (e' := .agg [eb (0 : UInt8), .str ([] : List UInt8), .sl 3 (List.map A9 [])]) rfl rfl rfl rfl rfl rfl rfl rfl nofun rfl ?_
 iterate 2 refine wq rfl ?_
 cases AA h
 exact DL (st1 := ⟨AY [(8, .ptr 102408 0 0), (9, j6 0), (10, j6 x102.2.2.1)], AY [(102408, ⟨3, false, [A9 (⟨(0 : UInt8), ([] : List UInt8), []⟩ : A7)]⟩), (700970, ⟨2, false, [BH x102.2.2.2]⟩)]⟩) (qV [700970] rfl rfl rfl rfl rfl) ⟨rfl, rfl⟩
 refine BF (AC (AB ?_))
 iterate 2 refine wq rfl ?_
 refine AQ (p := A9 x102.1) rfl rfl ?_
 refine CO rfl (TC 102513 rfl rfl rfl) ?_
 obtain ⟨x114, hx114, h⟩ := AJ h
 refine UU (f := A9) 102514 hx114 rfl rfl rfl rfl rfl (KR rfl (BQ (f := A9) (l := [x102.1]))) rfl rfl rfl rfl ?_
 refine wq rfl ?_
 refine EW (e' := .agg [eb MK, .str MJ, .slr 102514 0 x114.length]) rfl rfl rfl rfl rfl rfl rfl rfl nofun rfl ?_
 refine V4 (qV [700970] rfl (st := _) (l := [(0, .ptr 700970 0 0), (3, j6 a3), (8, .ptr 102408 0 0), (12, j6 LM.2.1), (14, j6 (BM (a1 + LM.1))), (15, .ptr 102415 0 0), (18, j6 x102.2.1)]) (m := [(102408, ⟨3, false, [.agg [eb (0 : UInt8), .str ([] : List UInt8), .nl]]⟩), (102415, ⟨3, false, [.agg [eb MK, .str MJ, .slr 102514 0 x114.length]]⟩), (102514, ⟨3, true, List.map A9 x114⟩), (700970, ⟨2, false, [BH x102.2.2.2]⟩)]) rfl rfl rfl rfl) ?_
 refine AB ?_
 iterate 2 refine wq rfl ?_
 exact ⟨(x102.2.1, MK, MJ, x114, x102.2.2.2), (C8.trans (rename 102514 524152 rfl rfl) (qV [700970] rfl rfl rfl rfl rfl)), h⟩
 cases AA h
 exact CU (st1 := ⟨AY [(8, .ptr 102408 0 0), (12, j6 LM.2.1), (14, j6 (BM (a1 + LM.1))), (15, .ptr 102415 0 0)], AY [(102408, ⟨3, false, [.agg [eb (0 : UInt8), .str ([] : List UInt8), .nl]]⟩), (102415, ⟨3, false, [.agg [eb MK, .str MJ, .slr 524152 0 UB.length]]⟩), (524152, ⟨3, true, List.map A9 UB⟩), (700970, ⟨2, false, [BH U8]⟩)]⟩) (qV [700970] rfl rfl rfl rfl rfl) ⟨rfl, rfl⟩
theorem VR (N : Nat) (LD : BG → Int → Int → Int → Option (A7 × Int × Int × BG)) (VV : ∀ (a0 : BG) (a1 : Int) (a2 : Int) (a3 : Int) (r : A7 × Int × Int × BG), LD a0 a1 a2 a3 = some r → Sat Tryz.prog 64 (AY [(700970, ⟨2, false, [BH a0]⟩)]) [.ptr 700970 0 0, j6 a1, j6 a2, j6 a3] (.tup [A9 r.1, j6 r.2.1, j6 r.2.2.1]) (AY [(700970, ⟨2, false, [BH r.2.2.2]⟩)])) (a0 : BG) (a1 : Int) (a2 : Int) (a3 : Int) (r : A7 × Int × Int × BG) (h : LB N LD a0 a1 a2 a3 = some r) : Sat Tryz.prog 64 (AY [(700970, ⟨2, false, [BH a0]⟩)]) [.ptr 700970 0 0, j6 a1, j6 a2, j6 a3] (.tup [A9 r.1, j6 r.2.1, j6 r.2.2.1]) (AY [(700970, ⟨2, false, [BH r.2.2.2]⟩)]) := by
 refine xsatO [(700970, ⟨2, false, [BH a0]⟩)] [(700970, ⟨2, false, [BH r.2.2.2]⟩)] mixed Tryz.func64 Gs (rs := [A9 r.1, j6 r.2.1, j6 r.2.2.1]) rfl rfl rfl ?_
 refine AC (AB ?_)
 refine CO rfl (G5 102408 rfl rfl rfl rfl rfl) ?_
 iterate 2 refine wq rfl ?_
 refine AC (AB ?_)
 iterate 4 refine wq rfl ?_
 refine EW (e' := .agg [.str a0.s, j6 a1]) rfl rfl rfl rfl rfl rfl rfl rfl nofun rfl ?_
 iterate 2 refine AC ?_
 refine AB ?_
 iterate 2 refine wq rfl ?_
 refine D5 h rfl (fun c1 h => ?_) (fun c1 h => ?_)
 refine AC (AB ?_)
 refine AQ (p := .agg [eb (0 : UInt8), .str ([] : List UInt8), .nl]) rfl rfl ?_
 refine Ag (KP 26 (LQ (.cons A8 (.cons A8 (.cons (FM 3) .nil))) rfl) rfl) ?_
 refine EW (e' := .agg [eb (0 : UInt8), .str ([] : List UInt8), .sl 3 (List.map A9 [])]) rfl rfl rfl rfl rfl rfl rfl rfl nofun rfl ?_
 iterate 2 refine wq rfl ?_
 cases AA h
 refine DL (st1 := ⟨AY [(8, .ptr 102408 0 0), (9, j6 0), (10, j6 12)], AY [(102408, ⟨3, false, [A9 (⟨(0 : UInt8), ([] : List UInt8), []⟩ : A7)]⟩), (700970, ⟨2, false, [BH (⟨a0.s, a1⟩ : BG)]⟩)]⟩) (qV [700970] rfl rfl rfl rfl rfl) ?_
 exact ⟨nofun, rfl, rfl, ⟨rfl, trivial⟩, rfl⟩
 refine BF (AC (AB ?_))
 iterate 6 refine wq rfl ?_
 obtain ⟨x34, hx34, h⟩ := AJ h
 refine AQ rfl (nT hx34 rfl rfl rfl) ?_
 obtain ⟨LM, qF, h⟩ := AJ h
 refine CO rfl (CB (pI N _ _ qF) rfl (.cons A8 .nil) rfl rfl rfl) ?_
 iterate 7 refine wq rfl ?_
 refine QJ (fun (x : Int) => ⟨AY [(0, .ptr 700970 0 0), (1, j6 a1), (3, j6 a3), (8, .ptr 102408 0 0), (11, j6 LM.1), (12, j6 LM.2.1), (13, j6 x)], AY [(102408, ⟨3, false, [.agg [eb (0 : UInt8), .str ([] : List UInt8), .nl]]⟩), (700970, ⟨2, false, [.agg [.str a0.s, j6 a1]]⟩)]⟩) (fun x => G9 LD a0 a1 a3 N LM x = some r) ?_ ?_
 rintro jJ h
 refine QJ (fun (x : Int) => ⟨AY [(0, .ptr 700970 0 0), (1, j6 a1), (3, j6 a3), (8, .ptr 102408 0 0), (11, j6 LM.1), (12, j6 LM.2.1), (13, j6 x)], AY [(102408, ⟨3, false, [.agg [eb (0 : UInt8), .str ([] : List UInt8), .nl]]⟩), (700970, ⟨2, false, [.agg [.str a0.s, j6 a1]]⟩)]⟩) (fun x => G8 LD a0 a1 a3 N LM x = some r) ?_ ?_
 rintro p8 h
 iterate 2 refine AC ?_
 refine AB ?_
 iterate 2 refine wq rfl ?_
 refine D5 h rfl (fun c2 h => ?_) (fun c2 h => ?_)
 refine AC (AB ?_)
 refine AQ (p := .agg [eb (0 : UInt8), .str ([] : List UInt8), .nl]) rfl rfl ?_
 refine Ag (KP 58 (LQ (.cons A8 (.cons A8 (.cons (FM 3) .nil))) rfl) rfl) ?_
 refine wq rfl ?_
 refine EW (e' := .agg [eb (0 : UInt8), .str ([] : List UInt8), .sl 3 (List.map A9 [])]) rfl rfl rfl rfl rfl rfl rfl rfl nofun rfl ?_
 iterate 2 refine wq rfl ?_
 cases AA h
 refine DL (st1 := ⟨AY [(8, .ptr 102408 0 0), (9, j6 0), (10, j6 p8)], AY [(102408, ⟨3, false, [A9 (⟨(0 : UInt8), ([] : List UInt8), []⟩ : A7)]⟩), (700970, ⟨2, false, [BH (⟨a0.s, a1⟩ : BG)]⟩)]⟩) (qV [700970] rfl rfl rfl rfl rfl) ?_
 exact ⟨nofun, rfl, rfl, ⟨rfl, trivial⟩, rfl⟩
 refine BF (AC (AB ?_))
 iterate 2 refine wq rfl ?_
 refine AQ (p := j6 (BM (a1 + LM.1))) rfl rfl ?_
 refine wq rfl ?_
 refine AC (AB ?_)
 iterate 5 refine wq rfl ?_
 obtain ⟨jC, Xf, h⟩ := AJ h
 refine AQ rfl (GY Xf rfl rfl) ?_
 refine AQ (p := .agg [eb jC, .str ([] : List UInt8), .nl]) rfl rfl ?_
 refine CO rfl (G5 102415 rfl rfl rfl rfl rfl) ?_
 refine EW (e' := .agg [eb jC, .str ([] : List UInt8), .nl]) rfl rfl rfl rfl rfl rfl rfl rfl nofun rfl ?_
 iterate 2 refine AC ?_
 refine AB ?_
 iterate 2 refine wq rfl ?_
 refine AQ rfl (ZI (a := jC) (b := (32 : UInt8)) rfl rfl) ?_
 refine AQ (p := .bool ((((jC &&& (32 : UInt8))).toNat : Int) == (0 : Int))) rfl rfl ?_
 refine D5 h rfl (fun c3 h => ?_) (fun c3 h => ?_)
 refine AC (AB ?_)
 iterate 7 refine wq rfl ?_
 refine AQ (p := j6 (BM ((BM (a1 + LM.1)) + LM.2.1))) rfl rfl ?_
 obtain ⟨x82, hx82, h⟩ := AJ h
 refine AQ rfl (nT hx82 rfl rfl rfl) ?_
 refine wq rfl ?_
 refine EW (e' := .agg [eb jC, .str x82, .nl]) rfl rfl rfl rfl rfl rfl rfl rfl nofun rfl ?_
 refine AC ?_
 refine V4 (qV [700970] rfl (st := _) (l := [(8, .ptr 102408 0 0), (12, j6 LM.2.1), (14, j6 (BM (a1 + LM.1))), (15, .ptr 102415 0 0)]) (m := [(102408, ⟨3, false, [.agg [eb (0 : UInt8), .str ([] : List UInt8), .nl]]⟩), (102415, ⟨3, false, [.agg [eb jC, .str x82, .nl]]⟩), (700970, ⟨2, false, [.agg [.str a0.s, j6 a1]]⟩)]) rfl rfl rfl rfl) ?_
 refine AB ?_
 refine AQ (p := .agg [eb jC, .str x82, .nl]) rfl rfl ?_
 iterate 2 refine wq rfl ?_
 refine AQ (p := j6 (BM ((BM (a1 + LM.1)) + LM.2.1))) rfl rfl ?_
 refine EW (e' := .agg [eb jC, .str x82, .nl]) rfl rfl rfl rfl rfl rfl rfl rfl nofun rfl ?_
 iterate 2 refine wq rfl ?_
 cases AA h
 refine DL (st1 := ⟨AY [(8, .ptr 102408 0 0), (9, j6 (BM ((BM (a1 + LM.1)) + LM.2.1))), (10, j6 0)], AY [(102408, ⟨3, false, [A9 (⟨jC, x82, []⟩ : A7)]⟩), (700970, ⟨2, false, [BH (⟨a0.s, a1⟩ : BG)]⟩)]⟩) (C8.trans (vG 102408 (x := .agg [eb jC, .str x82, .nl]) (y := .agg [eb ((⟨jC, x82, []⟩ : A7).Tag), .str ((⟨jC, x82, []⟩ : A7).Body), .sl 3 ((⟨jC, x82, []⟩ : A7).Kids)]) (.cons A8 (.cons A8 (.cons (FM 3) .nil))) rfl rfl) (qV [700970] rfl rfl rfl rfl rfl)) ?_
 exact ⟨nofun, rfl, rfl, ⟨rfl, trivial⟩, rfl⟩
 refine BF ?_
 iterate 2 refine AC ?_
 refine AB ?_
 iterate 2 refine wq rfl ?_
 refine BZ ?_
 obtain ⟨y6, uO, h⟩ := AJ h
 refine QI (VJ N LD VV a1 a3 LM N _ _ uO) (C8.trans (pW 524152 3 true rfl rfl) (C8.trans (xW 102415 (Q := fun R => R 524152 = some ⟨3, true, []⟩) (x := .agg [eb jC, .str ([] : List UInt8), .nl]) (y := .agg [eb jC, .str ([] : List UInt8), .slr 524152 0 0]) (.cons (fun _ _ _ _ _ _ h => h) (.cons (fun _ _ _ _ _ _ h => h) (.cons iW (WF _)))) rfl rfl rfl) (qV [700970] rfl rfl rfl rfl rfl))) ?_
 clear uO
 rcases y6 with y6 | y6
 rintro e s ⟨rfl, rfl⟩
 refine AC (AB ?_)
 refine AQ (p := .agg [eb y6.1, .str y6.2.1, .slr 524152 0 y6.2.2.1.length]) rfl rfl ?_
 iterate 2 refine wq rfl ?_
 refine AQ (p := j6 (BM ((BM (a1 + LM.1)) + LM.2.1))) rfl rfl ?_
 refine EW (e' := .agg [eb y6.1, .str y6.2.1, .slr 524152 0 y6.2.2.1.length]) rfl rfl rfl rfl rfl rfl rfl rfl nofun rfl ?_
 iterate 2 refine wq rfl ?_
 cases AA h
 refine DL (st1 := ⟨AY [(8, .ptr 102408 0 0), (9, j6 (BM ((BM (a1 + LM.1)) + LM.2.1))), (10, j6 0)], AY [(102408, ⟨3, false, [A9 (⟨y6.1, y6.2.1, (List.map A9 y6.2.2.1)⟩ : A7)]⟩), (700970, ⟨2, false, [BH y6.2.2.2]⟩)]⟩) (C8.trans (Vd.freeze 524152 _ rfl rfl rfl) (C8.trans (vG 102408 (x := .agg [eb y6.1, .str y6.2.1, .sl 3 (List.take y6.2.2.1.length (List.drop 0 (List.map A9 y6.2.2.1)))]) (y := .agg [eb ((⟨y6.1, y6.2.1, (List.map A9 y6.2.2.1)⟩ : A7).Tag), .str ((⟨y6.1, y6.2.1, (List.map A9 y6.2.2.1)⟩ : A7).Body), .sl 3 ((⟨y6.1, y6.2.1, (List.map A9 y6.2.2.1)⟩ : A7).Kids)]) (.cons A8 (.cons A8 (.cons (H5 (congrArg (PV.sl 3) (BQ (f := A9) (l := y6.2.2.1)))) .nil))) rfl rfl) (qV [700970] rfl rfl rfl rfl rfl))) ?_
 exact ⟨nofun, rfl, rfl, ⟨rfl, trivial⟩, rfl⟩
 rintro e s ⟨rfl, rfl⟩
 cases AA h
 exact ⟨nofun, rfl, rfl, ⟨rfl, trivial⟩, rfl⟩
 obtain ⟨g7, tQ, h⟩ := AJ h
 refine F3 ⟨AY [(0, .ptr 700970 0 0), (1, j6 a1), (3, j6 a3), (8, .ptr 102408 0 0), (11, j6 LM.1), (12, j6 LM.2.1), (13, j6 jJ), (55, .bool g7)], AY [(102408, ⟨3, false, [.agg [eb (0 : UInt8), .str ([] : List UInt8), .nl]]⟩), (700970, ⟨2, false, [.agg [.str a0.s, j6 a1]]⟩)]⟩ ?_ ?_
 have h := tQ
 refine AB ?_
 iterate 3 refine wq rfl ?_
 rcases BO h with ⟨c8, h⟩ | ⟨c8, h⟩
 iterate 2 refine AQ (gy rfl c8) rfl ?_
 refine AQ rfl (BA c8 rfl rfl) ?_
 cases AA h
 exact (qV [700970] rfl rfl rfl rfl rfl)
 iterate 2 refine BJ (gn rfl c8) ?_
 refine AQ rfl (AZ c8 rfl rfl) ?_
 obtain rfl := AA h
 exact (qV [700970] rfl rfl rfl rfl rfl)
 clear tQ
 refine D5 h rfl (fun c9 h => ?_) (fun c9 h => ?_)
 refine AB ?_
 refine wq rfl ?_
 exact ⟨11, (qV [700970] rfl rfl rfl rfl rfl), h⟩
 refine BF ?_
 exact ⟨jJ, (qV [700970] rfl rfl rfl rfl rfl), h⟩
 obtain ⟨g10, tV, h⟩ := AJ h
 refine F3 ⟨AY [(0, .ptr 700970 0 0), (1, j6 a1), (3, j6 a3), (8, .ptr 102408 0 0), (11, j6 LM.1), (12, j6 LM.2.1), (13, j6 LM.2.2), (49, .bool g10)], AY [(102408, ⟨3, false, [.agg [eb (0 : UInt8), .str ([] : List UInt8), .nl]]⟩), (700970, ⟨2, false, [.agg [.str a0.s, j6 a1]]⟩)]⟩ ?_ ?_
 have h := tV
 refine AB ?_
 iterate 3 refine wq rfl ?_
 rcases BO h with ⟨c11, h⟩ | ⟨c11, h⟩
 iterate 3 refine AQ (gy rfl c11) rfl ?_
 refine AQ (p := j6 (BM (a2 - a1))) (gy rfl c11) rfl ?_
 refine AQ (gy rfl c11) rfl ?_
 refine AQ (p := j6 (BM ((BM (a2 - a1)) - LM.1))) (gy rfl c11) rfl ?_
 refine AQ (gy rfl c11) rfl ?_
 refine AQ rfl (BA c11 rfl rfl) ?_
 cases AA h
 exact (qV [700970] rfl rfl rfl rfl rfl)
 iterate 7 refine BJ (gn rfl c11) ?_
 refine AQ rfl (AZ c11 rfl rfl) ?_
 obtain rfl := AA h
 exact (qV [700970] rfl rfl rfl rfl rfl)
 clear tV
 refine D5 h rfl (fun c12 h => ?_) (fun c12 h => ?_)
 refine AB ?_
 refine wq rfl ?_
 exact ⟨10, (qV [700970] rfl rfl rfl rfl rfl), h⟩
 refine BF ?_
 exact ⟨LM.2.2, (qV [700970] rfl rfl rfl rfl rfl), h⟩
theorem VS (N : Nat) : ∀ (n : Nat) (a0 : BG) (a1 : Int) (a2 : Int) (a3 : Int) (r : A7 × Int × Int × BG) (h : DX N n a0 a1 a2 a3 = some r), Sat Tryz.prog 64 (AY [(700970, ⟨2, false, [BH a0]⟩)]) [.ptr 700970 0 0, j6 a1, j6 a2, j6 a3] (.tup [A9 r.1, j6 r.2.1, j6 r.2.2.1]) (AY [(700970, ⟨2, false, [BH r.2.2.2]⟩)]) := by
 intro n
 induction n with
 | zero => intro a0 a1 a2 a3 r h; cases h
 | succ n ih => intro a0 a1 a2 a3 r h; exact VR N (DX N n) ih a0 a1 a2 a3 r h
theorem XJ (N : Nat) (a0 : BG) (a1 : Int) (a2 : Int) (a3 : Int) (r : A7 × Int × Int × BG) (h : PT N a0 a1 a2 a3 = some r) : Sat Tryz.prog 64 (AY [(700970, ⟨2, false, [BH a0]⟩)]) [.ptr 700970 0 0, j6 a1, j6 a2, j6 a3] (.tup [A9 r.1, j6 r.2.1, j6 r.2.2.1]) (AY [(700970, ⟨2, false, [BH r.2.2.2]⟩)]) := VS N N a0 a1 a2 a3 r h
end Go.Gp
end
