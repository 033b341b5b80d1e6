/- A part of the proof: functions of the program and what they compute. -/
import Derived.Test.YtlopcglohpfonaaGreatDoorA5
import Derived.Test.YtlopcglohpfonaaGreatDoorA6
import Derived.Test.YtlopcglohpfonaaGreatDoorA14
import Derived.Test.YtlopcglohpfonaaGreatDoorA15
import Derived.Test.YtlopcglohpfonaaGreatDoorA9
import Derived.Test.YtlopcglohpfonaaGreatDoorA13
import Derived.Test.YtlopcglohpfonaaGreatDoorA12
section
set_option linter.unusedVariables false
set_option linter.unusedSimpArgs false
set_option maxRecDepth 4000
set_option maxHeartbeats 4000000
namespace Go.Gp
open Go.Vd Go.RowKit Go.Proofs
def k11 : IC := (.seq (.reg [jn 1 (.box 28 (.t 0)), jc 2 (.bool false)]) (.seq (.seq (.reg [ja 6 0 1, jg 7 3 6, jn 8 (.call 30 [(.t 7)]), jn 9 (.un .not (.t 8)), jm 10 9, jf 10 11 (.fda 0 (.t 1)), jf 10 12 (.load 3 true (.t 11)), jf 10 13 (.call 31 [(.t 12)]), jo 14 10 13, jm 15 14, jf 15 16 (.fda 4 (.t 1)), jf 15 17 (.load 3 true (.t 16)), jf 15 18 (.call 30 [(.t 17)]), jf 15 19 (.un .not (.t 18)), jo 20 15 19, jm 21 20, jf 21 22 (.fda 7 (.t 1)), jf 21 23 (.load 3 true (.t 22)), jf 21 24 (.call 30 [(.t 23)]), jf 21 25 (.un .not (.t 24)), jo 26 21 25]) (.cond (.t 26) (.seq (.reg [jc 2 (.bool false)]) .ret) .skip)) (.seq (.reg [ja 27 4 1, jg 28 3 27, ja 29 0 1, jg 30 3 29, jn 31 (.call 32 [(.t 28), (.t 30)]), ju .lss 32 31 0, jm 3 32]) (.seq (.reg [ja 33 7 1, jg 34 3 33, ja 35 0 1, jg 36 3 35, jn 37 (.call 32 [(.t 34), (.t 36)]), ju .lss 38 37 0, jm 39 38, jt 39 40 (.fda 10 (.t 1)), jt 39 41 (.load 1 false (.t 40)), jt 39 42 (.call 33 [(.t 41)]), jp 43 39 42, jm 4 43]) (.seq (.reg [ja 44 7 1, jg 45 3 44, jn 46 (.call 31 [(.t 45)]), jm 47 46, jt 47 48 (.fda 10 (.t 1)), jt 47 49 (.load 1 false (.t 48)), jt 47 50 (.len false (.t 49)), jt 47 51 (.bin .eql (.t 50) (ji 0)), jp 52 47 51, jm 5 52]) (.seq (.seq (.reg [ja 53 3 1, jl 54 1 53]) (.block 0 (.seq (.reg [ju .eql 56 54 1, jm 55 56]) (.cond (.t 55) (.seq (.reg [ja 57 4 1, jg 58 3 57, ja 59 0 1, jg 60 3 59, jn 61 (.eqs false [(.i .i64), (.i .i64), (.i .i64)] (.t 58) (.t 60)), jm 62 61, jt 62 63 (.mov (.t 4)), jp 64 62 63, jm 65 64, jt 65 66 (.fda 11 (.t 1)), jt 65 67 (.load 1 false (.t 66)), jt 65 68 (.un .not (.t 67)), jp 69 65 68, jm 70 69, jt 70 71 (.fda 12 (.t 1)), jt 70 72 (.load 1 false (.t 71)), jt 70 73 (.call 34 [(.t 72), jB]), jp 74 70 73, jm 2 74]) .ret) (.seq (.reg [ju .eql 76 54 2, jm 75 76]) (.cond (.t 75) (.seq (.reg [jm 77 3, jm 78 77, jt 78 79 (.fda 4 (.t 1)), jt 78 80 (.load 3 true (.t 79)), jt 78 81 (.call 31 [(.t 80)]), jt 78 82 (.un .not (.t 81)), jp 83 78 82, jm 84 83, jt 84 85 (.mov (.t 5)), jp 86 84 85, jm 87 86, jt 87 88 (.fda 11 (.t 1)), jt 87 89 (.load 1 false (.t 88)), jt 87 90 (.un .not (.t 89)), jp 91 87 90, jm 92 91, jt 92 93 (.fda 12 (.t 1)), jt 92 94 (.load 1 false (.t 93)), jt 92 95 (.len false (.t 94)), jt 92 96 (.bin .eql (.t 95) (ji 0)), jp 97 92 96, jm 2 97]) .ret) (.seq (.reg [ju .eql 99 54 3, jm 98 99]) (.cond (.t 98) (.seq (.reg [jm 100 3, jm 101 100, jt 101 102 (.mov (.t 5)), jp 103 101 102, jm 104 103, jt 104 105 (.fda 11 (.t 1)), jt 104 106 (.load 1 false (.t 105)), jt 104 107 (.un .not (.t 106)), jp 108 104 107, jm 109 108, jt 109 110 (.fda 12 (.t 1)), jt 109 111 (.load 1 false (.t 110)), jt 109 112 (.len false (.t 111)), jt 109 113 (.bin .gtr (.t 112) (ji 0)), jp 114 109 113, jm 115 114, jt 115 116 (.fda 12 (.t 1)), jt 115 117 (.load 1 false (.t 116)), jt 115 118 (.call 34 [(.t 117), jA]), jp 119 115 118, jm 2 119]) .ret) (.seq (.reg [ju .eql 121 54 4, jm 120 121]) (.cond (.t 120) (.seq (.reg [jm 122 3, jm 123 122, jt 123 124 (.fda 4 (.t 1)), jt 123 125 (.load 3 true (.t 124)), jt 123 126 (.call 31 [(.t 125)]), jt 123 127 (.un .not (.t 126)), jp 128 123 127, jm 129 128, jt 129 130 (.mov (.t 4)), jp 131 129 130, jm 132 131, jt 132 133 (.fda 12 (.t 1)), jt 132 134 (.load 1 false (.t 133)), jt 132 135 (.len false (.t 134)), jt 132 136 (.bin .eql (.t 135) (ji 0)), jp 137 132 136, jm 2 137]) .ret) .skip)))))))))) (.seq (.reg [jc 2 (.bool false)]) .ret)))))))
theorem Wq : BV Tryz.prog Tryz.f11 = some ⟨138, k11, [(.tmp 2)]⟩ := by kernel_rfl
theorem UZ (N : Nat) (a0 : AX) (r : Bool) (h : KG N a0 = some r) : Sat Tryz.prog 11 AO [AR a0] (.bool r) AO := by
 refine DK mixed Tryz.func11 Wq (rs := [.bool r]) rfl rfl ?_
 refine AC (AB ?_)
 refine CO rfl (G5 17601 rfl rfl rfl rfl rfl) ?_
 refine wq rfl ?_
 refine AC ?_
 obtain ⟨g1, hg1, h⟩ := AJ h
 refine F3 ⟨AY [(1, .ptr 17601 0 0), (26, .bool g1)], AY [(17601, ⟨13, false, [AR a0]⟩)]⟩ ?_ ?_
 have h := hg1
 refine AB ?_
 refine wq rfl ?_
 refine AQ (p := .agg [j6 a0.CSN.Time, j6 a0.CSN.Seq, j6 a0.CSN.Rep]) rfl rfl ?_
 obtain ⟨x8, Ov, h⟩ := AJ h
 refine CO rfl (CB (OZ N _ _ Ov) rfl (.cons A8 .nil) rfl rfl rfl) ?_
 iterate 2 refine wq rfl ?_
 rcases BO h with ⟨c2, h⟩ | ⟨c2, h⟩
 iterate 3 refine BJ (gn rfl c2) ?_
 refine AQ rfl (BA c2 rfl rfl) ?_
 refine wq rfl ?_
 iterate 4 refine BJ rfl ?_
 iterate 2 refine wq rfl ?_
 iterate 4 refine BJ rfl ?_
 refine wq rfl ?_
 obtain rfl := AA h
 exact cq rfl
 refine AQ (gy rfl c2) rfl ?_
 refine AQ (p := .agg [j6 a0.CSN.Time, j6 a0.CSN.Seq, j6 a0.CSN.Rep]) (gy rfl c2) rfl ?_
 obtain ⟨MX, bH, h⟩ := AJ h
 refine CO (gy rfl c2) (CB (KC N _ _ bH) rfl (.cons A8 .nil) rfl rfl rfl) ?_
 refine AQ rfl (AZ c2 rfl rfl) ?_
 refine wq rfl ?_
 rcases BO h with ⟨c3, h⟩ | ⟨c3, h⟩
 iterate 4 refine BJ (gn rfl c3) ?_
 refine AQ rfl (BA c3 rfl rfl) ?_
 refine wq rfl ?_
 iterate 4 refine BJ rfl ?_
 refine wq rfl ?_
 obtain rfl := AA h
 exact cq rfl
 refine AQ (gy rfl c3) rfl ?_
 refine AQ (p := .agg [j6 a0.ID.Time, j6 a0.ID.Seq, j6 a0.ID.Rep]) (gy rfl c3) rfl ?_
 obtain ⟨PN, gD, h⟩ := AJ h
 refine CO (gy rfl c3) (CB (OZ N _ _ gD) rfl (.cons A8 .nil) rfl rfl rfl) ?_
 refine AQ (gy rfl c3) rfl ?_
 refine AQ rfl (AZ c3 rfl rfl) ?_
 refine wq rfl ?_
 rcases BO h with ⟨c4, h⟩ | ⟨c4, h⟩
 iterate 4 refine BJ (gn rfl c4) ?_
 refine AQ rfl (BA c4 rfl rfl) ?_
 obtain rfl := AA h
 exact cq rfl
 refine AQ (gy rfl c4) rfl ?_
 refine AQ (p := .agg [j6 a0.Parent.Time, j6 a0.Parent.Seq, j6 a0.Parent.Rep]) (gy rfl c4) rfl ?_
 obtain ⟨x24, hx24, h⟩ := AJ h
 refine CO (gy rfl c4) (CB (OZ N _ _ hx24) rfl (.cons A8 .nil) rfl rfl rfl) ?_
 refine AQ (gy rfl c4) rfl ?_
 refine AQ rfl (AZ c4 rfl rfl) ?_
 cases AA h
 exact cq rfl
 clear hg1
 refine D5 h rfl (fun c5 h => ?_) (fun c5 h => ?_)
 refine AC (AB ?_)
 refine wq rfl ?_
 obtain rfl := AA h
 refine BR ?_
 exact ⟨nofun, rfl, rfl⟩
 refine BF (AC (AB ?_))
 refine wq rfl ?_
 refine AQ (p := .agg [j6 a0.ID.Time, j6 a0.ID.Seq, j6 a0.ID.Rep]) rfl rfl ?_
 refine wq rfl ?_
 refine AQ (p := .agg [j6 a0.CSN.Time, j6 a0.CSN.Seq, j6 a0.CSN.Rep]) rfl rfl ?_
 obtain ⟨x31, hx31, h⟩ := AJ h
 refine CO rfl (CB (SQ N _ _ _ hx31) rfl (.cons A8 (.cons A8 .nil)) rfl rfl rfl) ?_
 iterate 2 refine wq rfl ?_
 obtain ⟨g6, zT, h⟩ := AJ h
 refine F3 ⟨AY [(1, .ptr 17601 0 0), (3, .bool (decide (x31 < (0 : Int)))), (4, .bool g6)], AY [(17601, ⟨13, false, [AR a0]⟩)]⟩ ?_ ?_
 have h := zT
 refine AB ?_
 refine wq rfl ?_
 refine AQ (p := .agg [j6 a0.Parent.Time, j6 a0.Parent.Seq, j6 a0.Parent.Rep]) rfl rfl ?_
 refine wq rfl ?_
 refine AQ (p := .agg [j6 a0.CSN.Time, j6 a0.CSN.Seq, j6 a0.CSN.Rep]) rfl rfl ?_
 obtain ⟨x37, Xo, h⟩ := AJ h
 refine CO rfl (CB (SQ N _ _ _ Xo) rfl (.cons A8 (.cons A8 .nil)) rfl rfl rfl) ?_
 iterate 2 refine wq rfl ?_
 rcases BO h with ⟨c7, h⟩ | ⟨c7, h⟩
 iterate 2 refine AQ (gy rfl c7) rfl ?_
 obtain ⟨Li, Ci, h⟩ := AJ h
 refine CO (gy rfl c7) (CB (YM N _ _ Ci) rfl (.cons A8 .nil) rfl rfl rfl) ?_
 refine AQ rfl (BA c7 rfl rfl) ?_
 refine wq rfl ?_
 obtain rfl := AA h
 exact cq rfl
 iterate 3 refine BJ (gn rfl c7) ?_
 refine AQ rfl (AZ c7 rfl rfl) ?_
 refine wq rfl ?_
 obtain rfl := AA h
 exact cq rfl
 clear zT
 obtain ⟨g8, hg8, h⟩ := AJ h
 refine F3 ⟨AY [(1, .ptr 17601 0 0), (3, .bool (decide (x31 < (0 : Int)))), (4, .bool g6), (5, .bool g8)], AY [(17601, ⟨13, false, [AR a0]⟩)]⟩ ?_ ?_
 have h := hg8
 refine AB ?_
 refine wq rfl ?_
 refine AQ (p := .agg [j6 a0.Parent.Time, j6 a0.Parent.Seq, j6 a0.Parent.Rep]) rfl rfl ?_
 obtain ⟨uN, qE, h⟩ := AJ h
 refine CO rfl (CB (KC N _ _ qE) rfl (.cons A8 .nil) rfl rfl rfl) ?_
 refine wq rfl ?_
 rcases BO h with ⟨c9, h⟩ | ⟨c9, h⟩
 iterate 2 refine AQ (gy rfl c9) rfl ?_
 refine AQ (gy rfl c9) (BU rfl) ?_
 refine AQ (gy rfl c9) rfl ?_
 refine AQ rfl (BA c9 rfl rfl) ?_
 refine wq rfl ?_
 cases AA h
 exact cq rfl
 iterate 4 refine BJ (gn rfl c9) ?_
 refine AQ rfl (AZ c9 rfl rfl) ?_
 refine wq rfl ?_
 obtain rfl := AA h
 exact cq rfl
 clear hg8
 iterate 2 refine AC ?_
 refine AB ?_
 iterate 2 refine wq rfl ?_
 refine BZ (AC (AB ?_))
 iterate 2 refine wq rfl ?_
 refine D5 h rfl (fun c10 h => ?_) (fun c10 h => ?_)
 obtain ⟨g11, lF, h⟩ := AJ h
 refine F3 ⟨AY [(2, .bool g11)], AY []⟩ ?_ ?_
 have h := lF
 refine AB ?_
 refine wq rfl ?_
 refine AQ (p := .agg [j6 a0.ID.Time, j6 a0.ID.Seq, j6 a0.ID.Rep]) rfl rfl ?_
 refine wq rfl ?_
 refine AQ (p := .agg [j6 a0.CSN.Time, j6 a0.CSN.Seq, j6 a0.CSN.Rep]) rfl rfl ?_
 refine AQ (p := .bool (a0.ID.Time == a0.CSN.Time && (a0.ID.Seq == a0.CSN.Seq && (a0.ID.Rep == a0.CSN.Rep && true)))) rfl rfl ?_
 refine wq rfl ?_
 rcases BO h with ⟨c12, h⟩ | ⟨c12, h⟩
 refine AQ (gy rfl c12) rfl ?_
 refine AQ rfl (BA c12 rfl rfl) ?_
 refine wq rfl ?_
 rcases BO h with ⟨c13, h⟩ | ⟨c13, h⟩
 iterate 3 refine AQ (gy rfl c13) rfl ?_
 refine AQ rfl (BA c13 rfl rfl) ?_
 refine wq rfl ?_
 rcases BO h with ⟨c14, h⟩ | ⟨c14, h⟩
 iterate 2 refine AQ (gy rfl c14) rfl ?_
 obtain ⟨x73, hx73, h⟩ := AJ h
 refine CO (gy rfl c14) (CB (RO N _ _ _ hx73) rfl (.cons A8 (.cons A8 .nil)) rfl rfl rfl) ?_
 refine AQ rfl (BA c14 rfl rfl) ?_
 refine wq rfl ?_
 obtain rfl := AA h
 exact cq rfl
 iterate 3 refine BJ (gn rfl c14) ?_
 refine AQ rfl (AZ c14 rfl rfl) ?_
 refine wq rfl ?_
 obtain rfl := AA h
 exact cq rfl
 iterate 3 refine BJ (gn rfl c13) ?_
 refine AQ rfl (AZ c13 rfl rfl) ?_
 refine wq rfl ?_
 iterate 3 refine BJ rfl ?_
 iterate 2 refine wq rfl ?_
 obtain rfl := AA h
 exact cq rfl
 refine BJ (gn rfl c12) ?_
 refine AQ rfl (AZ c12 rfl rfl) ?_
 refine wq rfl ?_
 iterate 3 refine BJ rfl ?_
 iterate 2 refine wq rfl ?_
 iterate 3 refine BJ rfl ?_
 iterate 2 refine wq rfl ?_
 obtain rfl := AA h
 exact cq rfl
 clear lF
 obtain rfl := AA h
 refine BR ?_
 exact ⟨nofun, rfl, rfl⟩
 refine AC (AB ?_)
 iterate 2 refine wq rfl ?_
 refine D5 h rfl (fun c15 h => ?_) (fun c15 h => ?_)
 obtain ⟨g16, tT, h⟩ := AJ h
 refine F3 ⟨AY [(2, .bool g16)], AY []⟩ ?_ ?_
 have h := tT
 refine AB ?_
 iterate 2 refine wq rfl ?_
 rcases BO h with ⟨c17, h⟩ | ⟨c17, h⟩
 refine AQ (gy rfl c17) rfl ?_
 refine AQ (p := .agg [j6 a0.ID.Time, j6 a0.ID.Seq, j6 a0.ID.Rep]) (gy rfl c17) rfl ?_
 obtain ⟨x81, Ic, h⟩ := AJ h
 refine CO (gy rfl c17) (CB (KC N _ _ Ic) rfl (.cons A8 .nil) rfl rfl rfl) ?_
 refine AQ (gy rfl c17) rfl ?_
 refine AQ rfl (BA c17 rfl rfl) ?_
 refine wq rfl ?_
 rcases BO h with ⟨c18, h⟩ | ⟨c18, h⟩
 refine AQ (gy rfl c18) rfl ?_
 refine AQ rfl (BA c18 rfl rfl) ?_
 refine wq rfl ?_
 rcases BO h with ⟨c19, h⟩ | ⟨c19, h⟩
 iterate 3 refine AQ (gy rfl c19) rfl ?_
 refine AQ rfl (BA c19 rfl rfl) ?_
 refine wq rfl ?_
 rcases BO h with ⟨c20, h⟩ | ⟨c20, h⟩
 iterate 2 refine AQ (gy rfl c20) rfl ?_
 refine AQ (gy rfl c20) (BU rfl) ?_
 refine AQ (gy rfl c20) rfl ?_
 refine AQ rfl (BA c20 rfl rfl) ?_
 refine wq rfl ?_
 cases AA h
 exact cq rfl
 iterate 4 refine BJ (gn rfl c20) ?_
 refine AQ rfl (AZ c20 rfl rfl) ?_
 refine wq rfl ?_
 obtain rfl := AA h
 exact cq rfl
 iterate 3 refine BJ (gn rfl c19) ?_
 refine AQ rfl (AZ c19 rfl rfl) ?_
 refine wq rfl ?_
 iterate 4 refine BJ rfl ?_
 iterate 2 refine wq rfl ?_
 obtain rfl := AA h
 exact cq rfl
 refine BJ (gn rfl c18) ?_
 refine AQ rfl (AZ c18 rfl rfl) ?_
 refine wq rfl ?_
 iterate 3 refine BJ rfl ?_
 iterate 2 refine wq rfl ?_
 iterate 4 refine BJ rfl ?_
 iterate 2 refine wq rfl ?_
 obtain rfl := AA h
 exact cq rfl
 iterate 4 refine BJ (gn rfl c17) ?_
 refine AQ rfl (AZ c17 rfl rfl) ?_
 refine wq rfl ?_
 refine BJ rfl ?_
 iterate 2 refine wq rfl ?_
 iterate 3 refine BJ rfl ?_
 iterate 2 refine wq rfl ?_
 iterate 4 refine BJ rfl ?_
 iterate 2 refine wq rfl ?_
 obtain rfl := AA h
 exact cq rfl
 clear tT
 obtain rfl := AA h
 refine BR ?_
 exact ⟨nofun, rfl, rfl⟩
 refine AC (AB ?_)
 iterate 2 refine wq rfl ?_
 refine D5 h rfl (fun c21 h => ?_) (fun c21 h => ?_)
 obtain ⟨g22, hg22, h⟩ := AJ h
 refine F3 ⟨AY [(2, .bool g22)], AY []⟩ ?_ ?_
 have h := hg22
 refine AB ?_
 iterate 2 refine wq rfl ?_
 rcases BO h with ⟨c23, h⟩ | ⟨c23, h⟩
 refine AQ (gy rfl c23) rfl ?_
 refine AQ rfl (BA c23 rfl rfl) ?_
 refine wq rfl ?_
 rcases BO h with ⟨c24, h⟩ | ⟨c24, h⟩
 iterate 3 refine AQ (gy rfl c24) rfl ?_
 refine AQ rfl (BA c24 rfl rfl) ?_
 refine wq rfl ?_
 rcases BO h with ⟨Pw, h⟩ | ⟨Pw, h⟩
 iterate 2 refine AQ (gy rfl Pw) rfl ?_
 refine AQ (gy rfl Pw) (BU rfl) ?_
 refine AQ (gy rfl Pw) rfl ?_
 refine AQ rfl (BA Pw rfl rfl) ?_
 refine wq rfl ?_
 rcases BO h with ⟨c26, h⟩ | ⟨c26, h⟩
 iterate 2 refine AQ (gy rfl c26) rfl ?_
 obtain ⟨x118, hx118, h⟩ := AJ h
 refine CO (gy rfl c26) (CB (RO N _ _ _ hx118) rfl (.cons A8 (.cons A8 .nil)) rfl rfl rfl) ?_
 refine AQ rfl (BA c26 rfl rfl) ?_
 refine wq rfl ?_
 obtain rfl := AA h
 exact cq rfl
 iterate 3 refine BJ (gn rfl c26) ?_
 refine AQ rfl (AZ c26 rfl rfl) ?_
 refine wq rfl ?_
 obtain rfl := AA h
 exact cq rfl
 iterate 4 refine BJ (gn rfl Pw) ?_
 refine AQ rfl (AZ Pw rfl rfl) ?_
 refine wq rfl ?_
 iterate 3 refine BJ rfl ?_
 iterate 2 refine wq rfl ?_
 obtain rfl := AA h
 exact cq rfl
 iterate 3 refine BJ (gn rfl c24) ?_
 refine AQ rfl (AZ c24 rfl rfl) ?_
 refine wq rfl ?_
 iterate 4 refine BJ rfl ?_
 iterate 2 refine wq rfl ?_
 iterate 3 refine BJ rfl ?_
 iterate 2 refine wq rfl ?_
 obtain rfl := AA h
 exact cq rfl
 refine BJ (gn rfl c23) ?_
 refine AQ rfl (AZ c23 rfl rfl) ?_
 refine wq rfl ?_
 iterate 3 refine BJ rfl ?_
 iterate 2 refine wq rfl ?_
 iterate 4 refine BJ rfl ?_
 iterate 2 refine wq rfl ?_
 iterate 3 refine BJ rfl ?_
 iterate 2 refine wq rfl ?_
 obtain rfl := AA h
 exact cq rfl
 clear hg22
 obtain rfl := AA h
 refine BR ?_
 exact ⟨nofun, rfl, rfl⟩
 refine AC (AB ?_)
 iterate 2 refine wq rfl ?_
 refine D5 h rfl (fun Pv h => ?_) (fun Pv h => ?_)
 obtain ⟨g28, hg28, h⟩ := AJ h
 refine F3 ⟨AY [(2, .bool g28)], AY []⟩ ?_ ?_
 have h := hg28
 refine AB ?_
 iterate 2 refine wq rfl ?_
 rcases BO h with ⟨uP, h⟩ | ⟨uP, h⟩
 refine AQ (gy rfl uP) rfl ?_
 refine AQ (p := .agg [j6 a0.ID.Time, j6 a0.ID.Seq, j6 a0.ID.Rep]) (gy rfl uP) rfl ?_
 obtain ⟨bZ, Il, h⟩ := AJ h
 refine CO (gy rfl uP) (CB (KC N _ _ Il) rfl (.cons A8 .nil) rfl rfl rfl) ?_
 refine AQ (gy rfl uP) rfl ?_
 refine AQ rfl (BA uP rfl rfl) ?_
 refine wq rfl ?_
 rcases BO h with ⟨zZ, h⟩ | ⟨zZ, h⟩
 refine AQ (gy rfl zZ) rfl ?_
 refine AQ rfl (BA zZ rfl rfl) ?_
 refine wq rfl ?_
 rcases BO h with ⟨c31, h⟩ | ⟨c31, h⟩
 iterate 2 refine AQ (gy rfl c31) rfl ?_
 refine AQ (gy rfl c31) (BU rfl) ?_
 refine AQ (gy rfl c31) rfl ?_
 refine AQ rfl (BA c31 rfl rfl) ?_
 refine wq rfl ?_
 cases AA h
 exact cq rfl
 iterate 4 refine BJ (gn rfl c31) ?_
 refine AQ rfl (AZ c31 rfl rfl) ?_
 refine wq rfl ?_
 obtain rfl := AA h
 exact cq rfl
 refine BJ (gn rfl zZ) ?_
 refine AQ rfl (AZ zZ rfl rfl) ?_
 refine wq rfl ?_
 iterate 4 refine BJ rfl ?_
 iterate 2 refine wq rfl ?_
 obtain rfl := AA h
 exact cq rfl
 iterate 4 refine BJ (gn rfl uP) ?_
 refine AQ rfl (AZ uP rfl rfl) ?_
 refine wq rfl ?_
 refine BJ rfl ?_
 iterate 2 refine wq rfl ?_
 iterate 4 refine BJ rfl ?_
 iterate 2 refine wq rfl ?_
 obtain rfl := AA h
 exact cq rfl
 clear hg28
 obtain rfl := AA h
 refine BR ?_
 exact ⟨nofun, rfl, rfl⟩
 refine BF (AC (AB ?_))
 refine wq rfl ?_
 obtain rfl := AA h
 refine BR ?_
 exact ⟨nofun, rfl, rfl⟩
def k14 : IC := (.seq (.reg [jc 2 (.bool false)]) (.seq (.reg [jm 8 0, jn 9 (.call 16 [(.t 8)]), jm 7 9, je 10 0 7, je 11 1 7, jn 3 (.box 28 (.c (.agg [(j6 0), (j6 0), (j6 0), (j6 0), (j6 0), (j6 0), (j6 0), (j6 0), (j6 0), (j6 0), .nl, (.bool false), .nl]))), js 13 3 10, jm 4 11]) (.seq (.seq (.reg [jm 12 4, ju .neq 13 12 0]) (.cond (.t 13) (.seq (.reg [jm 14 4, ju .eql 15 14 14, jm 16 15, jt 16 17 (.load 13 true (.t 3)), jt 16 18 (.build [(j6 0), (j6 0), (j6 0), (j6 0), (j6 0), (j6 0), (j6 0), (j6 0), (j6 0), (j6 0), .nl, (.bool false), .nl] []), jt 16 19 (.call 13 [(.t 17), (.t 18)]), jp 20 16 19, jm 2 20]) .ret) .skip)) (.seq (.reg [jg 22 13 3, jn 23 (.call 9 [(.t 22)]), jm 21 23, je 24 0 21, je 25 1 21, jm 5 24, jm 6 25]) (.seq (.reg [jm 26 6, ju .eql 27 26 0, jm 28 27, jt 28 29 (.mov (.t 5)), jt 28 30 (.mov (.t 0)), jt 28 31 (.bin .eql (.t 29) (.t 30)), jp 32 28 31, jm 33 32, jt 33 34 (.load 13 true (.t 3)), jt 33 35 (.call 11 [(.t 34)]), jp 36 33 35, jm 2 36]) .ret)))))
theorem Wm : BV Tryz.prog Tryz.f14 = some ⟨37, k14, [(.tmp 2)]⟩ := by kernel_rfl
theorem QS (N : Nat) (a0 : List UInt8) (r : Bool) (h : K8 N a0 = some r) : Sat Tryz.prog 14 AO [.str a0] (.bool r) AO := by
 refine DK mixed Tryz.func14 Wm (rs := [.bool r]) rfl rfl ?_
 refine AC (AB ?_)
 refine wq rfl ?_
 refine AC (AB ?_)
 refine wq rfl ?_
 obtain ⟨x9, Ib, h⟩ := AJ h
 refine CO rfl (CB (TA N _ _ Ib) rfl (.cons A8 .nil) rfl rfl rfl) ?_
 iterate 3 refine wq rfl ?_
 refine CO rfl (G5 22403 rfl rfl rfl rfl rfl) ?_
 refine EW (e' := AR x9.1) rfl rfl rfl rfl rfl rfl rfl rfl nofun rfl ?_
 refine wq rfl ?_
 iterate 2 refine AC ?_
 refine AB ?_
 iterate 2 refine wq rfl ?_
 refine D5 h rfl (fun c1 h => ?_) (fun c1 h => ?_)
 obtain ⟨g2, hg2, h⟩ := AJ h
 refine F3 ⟨AY [(2, .bool g2)], AY []⟩ ?_ ?_
 have h := hg2
 refine AB ?_
 iterate 3 refine wq rfl ?_
 rcases BO h with ⟨c3, h⟩ | ⟨c3, h⟩
 refine AQ (p := AR x9.1) (gy rfl c3) rfl ?_
 refine AQ (p := .agg [j6 0, j6 0, j6 0, j6 0, j6 0, j6 0, j6 0, j6 0, j6 0, j6 0, .nl, .bool false, .nl]) (gy rfl c3) rfl ?_
 refine Ag (KP 18 (LQ (.cons A8 (.cons A8 (.cons A8 (.cons A8 (.cons A8 (.cons A8 (.cons A8 (.cons A8 (.cons A8 (.cons A8 (.cons (FM 2) (.cons A8 (.cons (FM 3) .nil))))))))))))) rfl) rfl) ?_
 obtain ⟨QG, YV, h⟩ := AJ h
 refine CO (gy rfl c3) (CB (NM N _ _ _ YV) rfl (.cons A8 (.cons A8 .nil)) rfl rfl rfl) ?_
 refine AQ rfl (BA c3 rfl rfl) ?_
 refine wq rfl ?_
 obtain rfl := AA h
 exact cq rfl
 iterate 3 refine BJ (gn rfl c3) ?_
 refine AQ rfl (AZ c3 rfl rfl) ?_
 refine wq rfl ?_
 obtain rfl := AA h
 exact cq rfl
 clear hg2
 obtain rfl := AA h
 refine BR ?_
 exact ⟨nofun, rfl, rfl⟩
 refine BF (AC (AB ?_))
 refine AQ (p := AR x9.1) rfl rfl ?_
 obtain ⟨XY, gB, h⟩ := AJ h
 refine CO rfl (CB (LZ N _ _ gB) rfl (.cons A8 .nil) rfl rfl rfl) ?_
 iterate 5 refine wq rfl ?_
 obtain ⟨g4, hg4, h⟩ := AJ h
 refine F3 ⟨AY [(2, .bool g4)], AY []⟩ ?_ ?_
 have h := hg4
 refine AB ?_
 iterate 3 refine wq rfl ?_
 rcases BO h with ⟨c5, h⟩ | ⟨c5, h⟩
 iterate 3 refine AQ (gy rfl c5) rfl ?_
 refine AQ rfl (BA c5 rfl rfl) ?_
 refine wq rfl ?_
 rcases BO h with ⟨c6, h⟩ | ⟨c6, h⟩
 refine AQ (p := AR x9.1) (gy rfl c6) rfl ?_
 obtain ⟨LM, qF, h⟩ := AJ h
 refine CO (gy rfl c6) (CB (UZ N _ _ qF) rfl (.cons A8 .nil) rfl rfl rfl) ?_
 refine AQ rfl (BA c6 rfl rfl) ?_
 refine wq rfl ?_
 obtain rfl := AA h
 exact cq rfl
 iterate 2 refine BJ (gn rfl c6) ?_
 refine AQ rfl (AZ c6 rfl rfl) ?_
 refine wq rfl ?_
 obtain rfl := AA h
 exact cq rfl
 iterate 3 refine BJ (gn rfl c5) ?_
 refine AQ rfl (AZ c5 rfl rfl) ?_
 refine wq rfl ?_
 iterate 2 refine BJ rfl ?_
 iterate 2 refine wq rfl ?_
 obtain rfl := AA h
 exact cq rfl
 clear hg4
 obtain rfl := AA h
 refine BR ?_
 exact ⟨nofun, rfl, rfl⟩
def k4 : IC := (.seq (.reg [jn 4 (.box 28 (.t 0)), jc 8 (.bool false)]) (.seq (.seq (.reg [jn 12 (.call 7 []), jn 13 (.un .not (.t 12))]) (.cond (.t 13) (.seq (.reg [jc 8 (.bool false)]) .ret) .skip)) (.seq (.seq (.reg [jg 14 13 4, jn 15 (.call 8 [(.t 14)]), jn 16 (.un .not (.t 15)), jm 17 16, jf 17 18 (.mov (.t 3)), jf 17 19 (.len true (.t 18)), jf 17 20 (.bin .gtr (.t 19) (ji 600)), jo 21 17 20]) (.cond (.t 21) (.seq (.reg [jc 8 (.bool true)]) .ret) .skip)) (.seq (.reg [jg 23 13 4, jn 24 (.call 9 [(.t 23)]), jm 22 24, je 25 0 22, je 26 1 22, jm 9 25, jm 10 26]) (.seq (.seq (.reg [jm 27 10, ju .eql 28 27 0, jm 29 28, jt 29 30 (.mov (.t 9)), jt 29 31 (.len true (.t 30)), jt 29 32 (.bin .gtr (.t 31) (ji 0)), jp 33 29 32]) (.cond (.t 33) (.seq (.reg [jm 34 9, jn 35 (.cvs (.t 34)), jm 11 35]) (.seq (.regd 17 [jm 36 11, jm 37 1, jn 38 (.cvi .i64 (.t 37)), jm 39 11, jL 40 39, jb .rem 41 38 40, jm 42 11, jm 43 1, jn 44 (.cvi .i64 (.t 43)), jm 45 11, jL 46 45, jb .rem 47 44 46, jx 48 1 42 47, jl 49 1 48, jm 50 2, jb .xor 51 49 50, jx 52 1 36 41, js 1 52 51]) (.seq (.reg [jm 53 11, jn 54 (.cvb (.t 53)), jn 55 (.call 14 [(.t 54)]), jn 56 (.un .not (.t 55))]) (.cond (.t 56) (.seq (.reg [jc 8 (.bool false)]) .ret) .skip)))) .skip)) (.seq (.reg [jm 57 3, jn 58 (.call 14 [(.t 57)]), jm 8 58]) .ret))))))
theorem k4_cf : BV Tryz.prog Tryz.f4 = some ⟨59, k4, [(.tmp 8)]⟩ := by kernel_rfl
theorem SY (N : Nat) (a0 : AX) (a1 : Int) (a2 : UInt8) (a3 : List UInt8) (r : Bool) (h : LF N a0 a1 a2 a3 = some r) : Sat Tryz.prog 4 AO [AR a0, .int .u16 a1, eb a2, .str a3] (.bool r) AO := by
 refine DK mixed Tryz.func4 k4_cf (rs := [.bool r]) rfl rfl ?_
 refine AC (AB ?_)
 refine CO rfl (G5 6404 rfl rfl rfl rfl rfl) ?_
 refine wq rfl ?_
 iterate 2 refine AC ?_
 refine AB ?_
 obtain ⟨IP, XN, h⟩ := AJ h
 refine CO rfl (CB (XG N _ XN) rfl .nil rfl rfl rfl) ?_
 refine wq rfl ?_
 refine D5 h rfl (fun c1 h => ?_) (fun c1 h => ?_)
 refine AC (AB ?_)
 refine wq rfl ?_
 obtain rfl := AA h
 refine BR ?_
 exact ⟨nofun, rfl, rfl⟩
 refine BF (AC ?_)
 obtain ⟨g2, hg2, h⟩ := AJ h
 refine F3 ⟨AY [(1, .int .u16 a1), (2, eb a2), (3, .str a3), (4, .ptr 6404 0 0), (21, .bool g2)], AY [(6404, ⟨13, false, [AR a0]⟩)]⟩ ?_ ?_
 have h := hg2
 refine AB ?_
 refine AQ (p := AR a0) rfl rfl ?_
 obtain ⟨NK, RX, h⟩ := AJ h
 refine CO rfl (CB (YN N _ _ RX) rfl (.cons A8 .nil) rfl rfl rfl) ?_
 iterate 2 refine wq rfl ?_
 rcases BO h with ⟨c3, h⟩ | ⟨c3, h⟩
 iterate 3 refine BJ (gn rfl c3) ?_
 refine AQ rfl (BA c3 rfl rfl) ?_
 obtain rfl := AA h
 exact cq rfl
 iterate 3 refine AQ (gy rfl c3) rfl ?_
 refine AQ rfl (AZ c3 rfl rfl) ?_
 cases AA h
 exact cq rfl
 clear hg2
 refine D5 h rfl (fun c4 h => ?_) (fun c4 h => ?_)
 refine AC (AB ?_)
 refine wq rfl ?_
 obtain rfl := AA h
 refine BR ?_
 exact ⟨nofun, rfl, rfl⟩
 refine BF (AC (AB ?_))
 refine AQ (p := AR a0) rfl rfl ?_
 obtain ⟨x24, hx24, h⟩ := AJ h
 refine CO rfl (CB (LZ N _ _ hx24) rfl (.cons A8 .nil) rfl rfl rfl) ?_
 iterate 5 refine wq rfl ?_
 refine QJ (fun (x : Unit) => ⟨AY [(3, .str a3)], AY []⟩) (fun x => FI a3 N = some r) ?_ ?_
 rintro ⟨⟩ h
 refine AC (AB ?_)
 refine wq rfl ?_
 obtain ⟨Ad, Ig, h⟩ := AJ h
 refine CO rfl (CB (QS N _ _ Ig) rfl (.cons A8 .nil) rfl rfl rfl) ?_
 refine wq rfl ?_
 obtain rfl := AA h
 refine BR ?_
 exact ⟨nofun, rfl, rfl⟩
 obtain ⟨g5, hg5, h⟩ := AJ h
 refine F3 ⟨AY [(1, .int .u16 a1), (2, eb a2), (3, .str a3), (9, .str x24.1), (33, .bool g5)], AY []⟩ ?_ ?_
 have h := hg5
 refine AB ?_
 iterate 3 refine wq rfl ?_
 rcases BO h with ⟨c6, h⟩ | ⟨c6, h⟩
 iterate 3 refine AQ (gy rfl c6) rfl ?_
 refine AQ rfl (BA c6 rfl rfl) ?_
 cases AA h
 exact cq rfl
 iterate 3 refine BJ (gn rfl c6) ?_
 refine AQ rfl (AZ c6 rfl rfl) ?_
 obtain rfl := AA h
 exact cq rfl
 clear hg5
 refine D5 h rfl (fun c7 h => ?_) (fun c7 h => ?_)
 refine AC (AB ?_)
 refine wq rfl ?_
 refine CO rfl (pU 6435 rfl rfl) ?_
 refine wq rfl ?_
 refine AC (P6 ?_)
 iterate 2 refine dq rfl ?_
 refine JN (p := j6 (BM a1)) rfl rfl ?_
 iterate 2 refine dq rfl ?_
 obtain ⟨x41, lD, h⟩ := AJ h
 refine JN rfl (Qi lD rfl rfl) ?_
 iterate 2 refine dq rfl ?_
 refine JN (p := j6 (BM a1)) rfl rfl ?_
 iterate 2 refine dq rfl ?_
 obtain ⟨bY, lC, h⟩ := AJ h
 refine JN rfl (Qi lC rfl rfl) ?_
 obtain ⟨gL, fZ, h⟩ := AJ h
 refine JN rfl (PE fZ rfl rfl rfl rfl) ?_
 obtain ⟨Y7, qD, h⟩ := AJ h
 refine JN rfl (UE (f := eb) (v := eb Y7) qD rfl rfl rfl) ?_
 refine dq rfl ?_
 refine JN rfl (Mw (a := Y7) (b := a2) rfl rfl) ?_
 obtain ⟨OJ, wE, h⟩ := AJ h
 refine JN rfl (PE wE rfl rfl rfl rfl) ?_
 obtain ⟨x9007, Wv, h⟩ := AJ h
 refine Af (f := eb) (e' := (Y7 ^^^ a2)) Wv rfl rfl rfl rfl rfl rfl rfl rfl (fun _ => rfl) rfl ?_
 refine AC (AB ?_)
 refine wq rfl ?_
 refine AQ rfl (UF (l := (x24.1.set OJ (Y7 ^^^ a2))) rfl rfl (Ck (f := eb) (l := (x24.1.set OJ (Y7 ^^^ a2))) (by simp only [List.length_set, List.length_replicate]))) ?_
 obtain ⟨x55, wD, h⟩ := AJ h
 refine CO rfl (CB (QS N _ _ wD) rfl (.cons A8 .nil) rfl rfl rfl) ?_
 refine wq rfl ?_
 refine D5 h rfl (fun c9 h => ?_) (fun c9 h => ?_)
 refine AC (AB ?_)
 refine wq rfl ?_
 obtain rfl := AA h
 refine BR ?_
 exact ⟨nofun, rfl, rfl⟩
 refine BF ?_
 exact ⟨(), (cq rfl), h⟩
 refine BF ?_
 exact ⟨(), (cq rfl), h⟩
end Go.Gp
end
