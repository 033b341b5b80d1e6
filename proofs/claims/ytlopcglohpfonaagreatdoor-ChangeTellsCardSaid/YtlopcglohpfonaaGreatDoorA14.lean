/- A part of the proof: functions of the program and what they compute. -/
import Derived.Test.YtlopcglohpfonaaGreatDoorA5
import Derived.Test.YtlopcglohpfonaaGreatDoorA6
import Derived.Test.YtlopcglohpfonaaGreatDoorA13
import Derived.Test.YtlopcglohpfonaaGreatDoorA12
import Derived.Test.YtlopcglohpfonaaGreatDoorA9
import Derived.Test.YtlopcglohpfonaaGreatDoorA4
import Derived.Test.YtlopcglohpfonaaGreatDoorA11
section
set_option linter.unusedVariables false
set_option linter.unusedSimpArgs false
set_option maxRecDepth 4000
set_option maxHeartbeats 4000000
namespace Go.Gp
open Go.Vd Go.RowKit Go.Proofs
def yA : IC := (.seq (.reg [jb .lss 68 67 66]) (.seq (.cond (.t 68) .skip (.exit 0)) (.seq (.block 1 (.seq (.reg [jm 69 67, jx 70 1 65 67, jl 71 1 70, jm 11 69, jm 12 71]) (.seq (.reg [jm 73 12, ja 74 2 4, jl 75 1 74, jm 76 11, ju .add 77 76 1, jx 78 3 75 77, ja 79 1 78, jl 80 1 79, jn 81 (.call 45 [(.t 80)]), jm 72 81, je 82 0 72, je 83 1 72, jn 84 (.nck (.t 73)), js 3 84 82, jm 7 83]) (.seq (.reg [jm 85 7, ju .neq 86 85 0]) (.cond (.t 86) (.seq (.reg [jn 87 (.build [(j6 0), (j6 0), (j6 0), (j6 0), (j6 0), (j6 0), (j6 0), (j6 0), (j6 0), (j6 0), .nl, (.bool false), .nl] []), js 13 2 87, jc 3 (j6 14)]) .ret) .skip))))) (.reg [ju .add 88 67 1, jm 67 88]))))
def y9 : IC := (.seq (.seq (.reg [jm 94 14, ju .add 95 94 1, jm 96 13, jL 97 96, jb .lss 98 95 97]) (.cond (.t 98) .skip (.exit 2))) (.seq (.block 3 (.regd 15 [ja 101 10 10, jl 102 1 101, jm 103 13, jm 104 14, jx 105 3 103 104, ja 106 1 105, jl 107 1 106, jm 108 13, jm 109 14, ju .add 110 109 1, jx 111 3 108 110, ja 112 1 111, jl 113 1 112, jn 114 (.build [(.str []), (.str [])] [(0, (1, (.t 107))), (1, (1, (.t 113)))]), jn 115 (.bsl 2 [(.t 114)]), jn 116 (.app 41 2 32 (.t 102) (.t 115)), ja 117 10 10, js 1 117 116])) (.reg [jm 99 14, ju .add 100 99 2, jm 14 100])))
def xY : IC := (.seq (.reg [jb .lss 154 153 152]) (.seq (.cond (.t 154) .skip (.exit 6)) (.seq (.block 7 (.seq (.reg [jx 155 3 151 153, jg 156 3 155, jn 21 (.box 52 (.c (.agg [(.int .u8 0), (.str []), .nl]))), js 3 21 156]) (.reg [ja 157 2 19, jl 158 1 157, ja 159 1 21, jl 160 1 159, jn 161 (.bsl 1 [(.t 160)]), jn 162 (.app 9 1 16 (.t 158) (.t 161)), ja 163 2 19, js 1 163 162]))) (.reg [ju .add 164 153 1, jm 153 164]))))
def xZ : IC := (.seq (.reg [jb .lss 125 124 123]) (.seq (.cond (.t 125) .skip (.exit 4)) (.seq (.block 5 (.seq (.reg [jx 126 3 122 124, jg 127 3 126, jn 16 (.box 52 (.c (.agg [(.int .u8 0), (.str []), .nl]))), js 3 16 127]) (.seq (.seq (.reg [ja 128 2 16, jl 129 1 128, jL 130 129, ju .lss 131 130 2]) (.cond (.t 131) (.seq (.reg [jn 132 (.build [(j6 0), (j6 0), (j6 0), (j6 0), (j6 0), (j6 0), (j6 0), (j6 0), (j6 0), (j6 0), .nl, (.bool false), .nl] []), js 13 2 132, jc 3 (j6 14)]) .ret) .skip)) (.seq (.reg [ja 134 2 16, jl 135 1 134, jn 136 (.ixp 3 (.t 135) (ji 0)), ja 137 1 136, jl 138 1 137, jn 139 (.call 44 [(.t 138)]), jm 133 139, je 140 0 133, je 141 1 133, jm 17 140, jm 18 141]) (.seq (.reg [jm 142 17, ja 143 2 16, jl 144 1 143, jn 145 (.ixp 3 (.t 144) (ji 1)), ja 146 1 145, jl 147 1 146, jn 148 (.build [(j6 0), (.str []), .nl] [(0, (1, (.t 142))), (1, (1, (.t 147)))]), jn 19 (.box 44 (.c (.agg [(j6 0), (.str []), .nl]))), js 3 19 148]) (.seq (.seq (.reg [ja 149 2 16, jl 150 1 149, jn 151 (.slcl 3 (.t 150) (some (ji 2)) none), jL 152 151, jc 153 (j6 0)]) (.block 6 (.loop xY))) (.reg [ja 165 12 10, jl 166 1 165, jg 167 3 19, jn 168 (.bsl 3 [(.t 167)]), jn 169 (.app 44 3 48 (.t 166) (.t 168)), ja 170 12 10, js 1 170 169]))))))) (.reg [ju .add 171 124 1, jm 124 171]))))
def k16 : IC := (.seq (.reg [jn 2 (.box 28 (.c (.agg [(j6 0), (j6 0), (j6 0), (j6 0), (j6 0), (j6 0), (j6 0), (j6 0), (j6 0), (j6 0), .nl, (.bool false), .nl]))), jc 3 (j6 0)]) (.seq (.reg [jm 25 0, jn 26 (.call 43 [(.t 25)]), jm 24 26, je 27 0 24, je 28 1 24, je 29 2 24, je 30 3 24, jn 4 (.box 52 (.c (.agg [(.int .u8 0), (.str []), .nl]))), js 3 4 27, jm 5 28, jm 6 29, jm 7 30]) (.seq (.seq (.reg [jm 31 7, ju .neq 32 31 0, jm 33 32, jf 33 34 (.mov (.t 5)), jf 33 35 (.mov (.t 0)), jf 33 36 (.len true (.t 35)), jf 33 37 (.bin .neq (.t 34) (.t 36)), jo 38 33 37, jm 39 38, jf 39 40 (.fda 2 (.t 4)), jf 39 41 (.load 1 false (.t 40)), jf 39 42 (.len false (.t 41)), jf 39 43 (.bin .neq (.t 42) (ji 6)), jo 44 39 43]) (.cond (.t 44) (.seq (.reg [jn 45 (.build [(j6 0), (j6 0), (j6 0), (j6 0), (j6 0), (j6 0), (j6 0), (j6 0), (j6 0), (j6 0), .nl, (.bool false), .nl] []), js 13 2 45, jc 3 (j6 14)]) .ret) .skip)) (.seq (.reg [ja 47 2 4, jl 48 1 47, jn 49 (.ixp 3 (.t 48) (ji 0)), ja 50 1 49, jl 51 1 50, jn 52 (.call 44 [(.t 51)]), jm 46 52, je 53 0 46, je 54 1 46, jm 8 53, jm 9 54]) (.seq (.reg [jm 55 8, jm 56 8, jn 57 (.un .neg (.t 56)), jn 58 (.mm true (.t 55) [(.t 57)]), jm 59 8, ju .lss 60 59 0, jn 61 (.build [(j6 0), (j6 0), (j6 0), (j6 0), (j6 0), (j6 0), (j6 0), (j6 0), (j6 0), (j6 0), .nl, (.bool false), .nl] [(3, (1, (.t 58))), (11, (1, (.t 60)))]), jn 10 (.box 28 (.c (.agg [(j6 0), (j6 0), (j6 0), (j6 0), (j6 0), (j6 0), (j6 0), (j6 0), (j6 0), (j6 0), .nl, (.bool false), .nl]))), js 13 10 61]) (.seq (.seq (.reg [ja 62 0 10, ja 63 4 10, ja 64 7 10, jn 65 (.bsl 1 [(.t 62), (.t 63), (.t 64)]), jL 66 65, jc 67 (j6 0)]) (.block 0 (.loop yA))) (.seq (.reg [ja 89 2 4, jl 90 1 89, jn 91 (.ixp 3 (.t 90) (ji 4)), ja 92 2 91, jl 93 1 92, jm 13 93]) (.seq (.seq (.reg [jc 14 (j6 0)]) (.block 2 (.loop y9))) (.seq (.seq (.reg [ja 118 2 4, jl 119 1 118, jn 120 (.ixp 3 (.t 119) (ji 5)), ja 121 2 120, jl 122 1 121, jL 123 122, jc 124 (j6 0)]) (.block 4 (.loop xZ))) (.seq (.seq (.reg [jg 173 13 10, jn 174 (.call 9 [(.t 173)]), jm 172 174, je 175 0 172, je 176 1 172, jm 22 175, jm 23 176]) (.seq (.reg [jm 177 23, ju .neq 178 177 0, jm 179 178, jf 179 180 (.mov (.t 22)), jf 179 181 (.mov (.t 0)), jf 179 182 (.bin .neq (.t 180) (.t 181)), jo 183 179 182]) (.cond (.t 183) (.seq (.reg [jn 184 (.build [(j6 0), (j6 0), (j6 0), (j6 0), (j6 0), (j6 0), (j6 0), (j6 0), (j6 0), (j6 0), .nl, (.bool false), .nl] []), js 13 2 184, jc 3 (j6 14)]) .ret) .skip))) (.seq (.reg [jg 185 13 10, js 13 2 185, jc 3 (j6 0)]) .ret)))))))))))
theorem Uo : BX Tryz.prog Tryz.f16 = some ⟨186, k16, [(.cell 13 true 2), (.tmp 3)]⟩ := by kernel_rfl
theorem bS (N : Nat) (a0 : List UInt8) (KZ : A8 × Int × Int × Int) (OU : Int × Bool) (x81 : AR × Int) (DV : AR × Int) (EZ : AR × Int) : ∀ (n : Nat) (x : Unit) (y : Unit), OQ N a0 KZ OU x81 DV EZ n x = some y → WX Tryz.prog (fun _ => false) (.loop yA) ((fun (x : Unit) => ⟨AY [(0, .str a0), (2, .ptr 25602 0 0), (4, .ptr 25604 0 0), (10, .ptr 25610 0 0), (65, .slr 25665 0 3), (66, .int .i64 3), (67, .int .i64 3)], AY [(25602, ⟨13, false, [.agg [.int .i64 0, .int .i64 0, .int .i64 0, .int .i64 0, .int .i64 0, .int .i64 0, .int .i64 0, .int .i64 0, .int .i64 0, .int .i64 0, .nl, .bool false, .nl]]⟩), (25604, ⟨3, false, [AA KZ.1]⟩), (25610, ⟨13, false, [.agg [.int .i64 x81.1.Time, .int .i64 x81.1.Seq, .int .i64 x81.1.Rep, .int .i64 (mx OU.1 (BQ (0 - OU.1))), .int .i64 DV.1.Time, .int .i64 DV.1.Seq, .int .i64 DV.1.Rep, .int .i64 EZ.1.Time, .int .i64 EZ.1.Seq, .int .i64 EZ.1.Rep, .nl, .bool (decide (OU.1 < (0 : Int))), .nl]]⟩), (25665, ⟨1, false, [.ptr 25610 0 0, .ptr 25610 0 4, .ptr 25610 0 7]⟩)]⟩) x) ((fun y e s => e = .exit 0 ∧ s = ⟨AY [(0, .str a0), (2, .ptr 25602 0 0), (4, .ptr 25604 0 0), (10, .ptr 25610 0 0)], AY [(25602, ⟨13, false, [.agg [.int .i64 0, .int .i64 0, .int .i64 0, .int .i64 0, .int .i64 0, .int .i64 0, .int .i64 0, .int .i64 0, .int .i64 0, .int .i64 0, .nl, .bool false, .nl]]⟩), (25604, ⟨3, false, [AA KZ.1]⟩), (25610, ⟨13, false, [.agg [.int .i64 x81.1.Time, .int .i64 x81.1.Seq, .int .i64 x81.1.Rep, .int .i64 (mx OU.1 (BQ (0 - OU.1))), .int .i64 DV.1.Time, .int .i64 DV.1.Seq, .int .i64 DV.1.Rep, .int .i64 EZ.1.Time, .int .i64 EZ.1.Seq, .int .i64 EZ.1.Rep, .nl, .bool (decide (OU.1 < (0 : Int))), .nl]]⟩)]⟩ : Unit → Xt → St → Prop) y) := by
 refine EQ _ _ (OQ N a0 KZ OU x81 DV EZ) (UW N a0 KZ OU x81 DV EZ) (fun _ => rfl) (fun _ _ => rfl) ?_
 rintro rec ⟨⟩ y h
 refine AJ ?_
 refine AC ?_
 refine A7 (p := .bool false) rfl rfl ?_
 refine AJ ?_
 refine xcF rfl rfl ?_
 cases AB h
 exact CW (st1 := ⟨AY [(0, .str a0), (2, .ptr 25602 0 0), (4, .ptr 25604 0 0), (10, .ptr 25610 0 0)], AY [(25602, ⟨13, false, [.agg [.int .i64 0, .int .i64 0, .int .i64 0, .int .i64 0, .int .i64 0, .int .i64 0, .int .i64 0, .int .i64 0, .int .i64 0, .int .i64 0, .nl, .bool false, .nl]]⟩), (25604, ⟨3, false, [AA KZ.1]⟩), (25610, ⟨13, false, [.agg [.int .i64 x81.1.Time, .int .i64 x81.1.Seq, .int .i64 x81.1.Rep, .int .i64 (mx OU.1 (BQ (0 - OU.1))), .int .i64 DV.1.Time, .int .i64 DV.1.Seq, .int .i64 DV.1.Rep, .int .i64 EZ.1.Time, .int .i64 EZ.1.Seq, .int .i64 EZ.1.Rep, .nl, .bool (decide (OU.1 < (0 : Int))), .nl]]⟩)]⟩) (cn rfl rfl rfl rfl) ⟨rfl, rfl⟩
theorem bR (N : Nat) (a0 : List UInt8) (KZ : A8 × Int × Int × Int) (x93 : List A8) : ∀ (n : Nat) (x : Int × Int × Int × Int × Int × Int × Int × Int × Int × Int × Int × Bool × List AP) (y : Int × Int × Int × Int × Int × Int × Int × Int × Int × Int × Bool × List AP), OP N a0 KZ x93 n x = some y → WX Tryz.prog (fun _ => false) (.loop y9) ((fun (x : Int × Int × Int × Int × Int × Int × Int × Int × Int × Int × Int × Bool × List AP) => ⟨AY [(0, .str a0), (2, .ptr 25602 0 0), (4, .ptr 25604 0 0), (10, .ptr 25610 0 0), (13, .sl 3 (List.map AA x93)), (14, .int .i64 x.1)], AY [(25602, ⟨13, false, [.agg [.int .i64 0, .int .i64 0, .int .i64 0, .int .i64 0, .int .i64 0, .int .i64 0, .int .i64 0, .int .i64 0, .int .i64 0, .int .i64 0, .nl, .bool false, .nl]]⟩), (25604, ⟨3, false, [AA KZ.1]⟩), (25610, ⟨13, false, [.agg [.int .i64 x.2.1, .int .i64 x.2.2.1, .int .i64 x.2.2.2.1, .int .i64 x.2.2.2.2.1, .int .i64 x.2.2.2.2.2.1, .int .i64 x.2.2.2.2.2.2.1, .int .i64 x.2.2.2.2.2.2.2.1, .int .i64 x.2.2.2.2.2.2.2.2.1, .int .i64 x.2.2.2.2.2.2.2.2.2.1, .int .i64 x.2.2.2.2.2.2.2.2.2.2.1, .slr 556110 0 x.2.2.2.2.2.2.2.2.2.2.2.2.length, .bool x.2.2.2.2.2.2.2.2.2.2.2.1, .nl]]⟩), (556110, ⟨2, true, List.map AV x.2.2.2.2.2.2.2.2.2.2.2.2⟩)]⟩) x) ((fun y e s => e = .exit 2 ∧ s = ⟨AY [(0, .str a0), (2, .ptr 25602 0 0), (4, .ptr 25604 0 0), (10, .ptr 25610 0 0)], AY [(25602, ⟨13, false, [.agg [.int .i64 0, .int .i64 0, .int .i64 0, .int .i64 0, .int .i64 0, .int .i64 0, .int .i64 0, .int .i64 0, .int .i64 0, .int .i64 0, .nl, .bool false, .nl]]⟩), (25604, ⟨3, false, [AA KZ.1]⟩), (25610, ⟨13, false, [.agg [.int .i64 y.1, .int .i64 y.2.1, .int .i64 y.2.2.1, .int .i64 y.2.2.2.1, .int .i64 y.2.2.2.2.1, .int .i64 y.2.2.2.2.2.1, .int .i64 y.2.2.2.2.2.2.1, .int .i64 y.2.2.2.2.2.2.2.1, .int .i64 y.2.2.2.2.2.2.2.2.1, .int .i64 y.2.2.2.2.2.2.2.2.2.1, .slr 556110 0 y.2.2.2.2.2.2.2.2.2.2.2.length, .bool y.2.2.2.2.2.2.2.2.2.2.1, .nl]]⟩), (556110, ⟨2, true, List.map AV y.2.2.2.2.2.2.2.2.2.2.2⟩)]⟩ : (Int × Int × Int × Int × Int × Int × Int × Int × Int × Int × Bool × List AP) → Xt → St → Prop) y) := by
 refine EQ _ _ (OP N a0 KZ x93) (UV N a0 KZ x93) (fun _ => rfl) (fun _ _ => rfl) ?_
 rintro rec ⟨WY, PN, PM, PL, PK, PI, PH, PG, PE, PD, P9, NY, TV⟩ y h
 iterate 2 refine AJ ?_
 refine AC ?_
 refine A7 rfl rfl ?_
 refine A7 (p := .int .i64 (BQ (WY + (1 : Int)))) rfl rfl ?_
 refine A7 rfl rfl ?_
 refine A7 rfl (BV rfl) ?_
 refine A7 rfl rfl ?_
 refine D8 h rfl (fun c9 h => ?_) (fun c9 h => ?_)
 refine BF ?_
 refine AJ ?_
 refine C9 ?_
 refine OD ?_
 iterate 4 refine DL rfl rfl ?_
 obtain ⟨x105, hx105, h⟩ := AL h
 refine DL rfl (DK (cs := [eb x105.Tag, .str x105.Body, .sl 3 x105.Kids]) hx105 rfl rfl rfl) ?_
 refine DL (p := .ep [.str x105.Body, .sl 3 x105.Kids]) rfl rfl ?_
 iterate 3 refine DL rfl rfl ?_
 refine DL (p := .int .i64 (BQ (WY + (1 : Int)))) rfl rfl ?_
 obtain ⟨nP, hx111, h⟩ := AL h
 refine DL rfl (DK (cs := [eb nP.Tag, .str nP.Body, .sl 3 nP.Kids]) hx111 rfl rfl rfl) ?_
 refine DL (p := .ep [.str nP.Body, .sl 3 nP.Kids]) rfl rfl ?_
 refine DL rfl rfl ?_
 refine DL (p := .agg [.str x105.Body, .str nP.Body]) rfl rfl ?_
 refine TF rfl (.bsl _ 25715 rfl (O0 rfl) rfl) (QZ rfl) ?_
 obtain ⟨lC, rQ, h⟩ := AL h
 refine UC (f := AV) 25716 rQ rfl rfl rfl rfl rfl (KA rfl (BR (f := AV) (l := [(⟨x105.Body, nP.Body⟩ : AP)]))) rfl rfl rfl rfl ?_
 refine A7 rfl rfl ?_
 refine F3 (e' := .agg [.int .i64 PN, .int .i64 PM, .int .i64 PL, .int .i64 PK, .int .i64 PI, .int .i64 PH, .int .i64 PG, .int .i64 PE, .int .i64 PD, .int .i64 P9, .slr 25716 0 lC.length, .bool NY, .nl]) rfl rfl rfl rfl rfl rfl rfl rfl nofun rfl ?_
 refine AC ?_
 refine A7 rfl rfl ?_
 refine A7 (p := .int .i64 (BQ (WY + (2 : Int)))) rfl rfl ?_
 refine A7 rfl rfl ?_
 exact ⟨((BQ (WY + (2 : Int))), PN, PM, PL, PK, PI, PH, PG, PE, PD, P9, NY, lC), (CB.trans (rename 25716 556110 rfl rfl) (cn rfl rfl rfl rfl)), h⟩
 cases AB h
 exact CW (st1 := ⟨AY [(0, .str a0), (2, .ptr 25602 0 0), (4, .ptr 25604 0 0), (10, .ptr 25610 0 0)], AY [(25602, ⟨13, false, [.agg [.int .i64 0, .int .i64 0, .int .i64 0, .int .i64 0, .int .i64 0, .int .i64 0, .int .i64 0, .int .i64 0, .int .i64 0, .int .i64 0, .nl, .bool false, .nl]]⟩), (25604, ⟨3, false, [AA KZ.1]⟩), (25610, ⟨13, false, [.agg [.int .i64 PN, .int .i64 PM, .int .i64 PL, .int .i64 PK, .int .i64 PI, .int .i64 PH, .int .i64 PG, .int .i64 PE, .int .i64 PD, .int .i64 P9, .slr 556110 0 TV.length, .bool NY, .nl]]⟩), (556110, ⟨2, true, List.map AV TV⟩)]⟩) (cn rfl rfl rfl rfl) ⟨rfl, rfl⟩
theorem bP (N : Nat) (a0 : List UInt8) (LF : List A8) (IU : Int) (EM : Int) (EL : Int) (EK : Int) (EJ : Int) (EI : Int) (EH : Int) (EG : Int) (EF : Int) (EE : Int) (ED : Int) (DJ : Bool) (DN : List AP) (E9 : List BC) (x151 : List A8) : ∀ (n : Nat) (x : Int × Int × List UInt8 × List (List UInt8)) (y : Int × List UInt8 × List (List UInt8)), OM N a0 LF IU EM EL EK EJ EI EH EG EF EE ED DJ DN E9 x151 n x = some y → WX Tryz.prog (fun _ => false) (.loop xY) ((fun (x : Int × Int × List UInt8 × List (List UInt8)) => ⟨AY [(0, .str a0), (2, .ptr 25602 0 0), (10, .ptr 25610 0 0), (19, .ptr 25619 0 0), (122, .sl 3 (List.map AA LF)), (123, .int .i64 (LF.length : Int)), (124, .int .i64 IU), (151, .sl 3 (List.map AA x151)), (152, .int .i64 (x151.length : Int)), (153, .int .i64 x.1)], AY [(25602, ⟨13, false, [.agg [.int .i64 0, .int .i64 0, .int .i64 0, .int .i64 0, .int .i64 0, .int .i64 0, .int .i64 0, .int .i64 0, .int .i64 0, .int .i64 0, .nl, .bool false, .nl]]⟩), (25610, ⟨13, false, [.agg [.int .i64 EM, .int .i64 EL, .int .i64 EK, .int .i64 EJ, .int .i64 EI, .int .i64 EH, .int .i64 EG, .int .i64 EF, .int .i64 EE, .int .i64 ED, .slr 556110 0 DN.length, .bool DJ, .slr 556112 0 E9.length]]⟩), (25619, ⟨3, false, [.agg [.int .i64 x.2.1, .str x.2.2.1, .slr 556192 0 x.2.2.2.length]]⟩), (556110, ⟨2, true, List.map AV DN⟩), (556112, ⟨3, true, List.map AU E9⟩), (556192, ⟨1, true, List.map PV.str x.2.2.2⟩)]⟩) x) ((fun y e s => e = .exit 6 ∧ s = ⟨AY [(0, .str a0), (2, .ptr 25602 0 0), (10, .ptr 25610 0 0), (19, .ptr 25619 0 0), (122, .sl 3 (List.map AA LF)), (123, .int .i64 (LF.length : Int)), (124, .int .i64 IU)], AY [(25602, ⟨13, false, [.agg [.int .i64 0, .int .i64 0, .int .i64 0, .int .i64 0, .int .i64 0, .int .i64 0, .int .i64 0, .int .i64 0, .int .i64 0, .int .i64 0, .nl, .bool false, .nl]]⟩), (25610, ⟨13, false, [.agg [.int .i64 EM, .int .i64 EL, .int .i64 EK, .int .i64 EJ, .int .i64 EI, .int .i64 EH, .int .i64 EG, .int .i64 EF, .int .i64 EE, .int .i64 ED, .slr 556110 0 DN.length, .bool DJ, .slr 556112 0 E9.length]]⟩), (25619, ⟨3, false, [.agg [.int .i64 y.1, .str y.2.1, .slr 556192 0 y.2.2.length]]⟩), (556110, ⟨2, true, List.map AV DN⟩), (556112, ⟨3, true, List.map AU E9⟩), (556192, ⟨1, true, List.map PV.str y.2.2⟩)]⟩ : (Int × List UInt8 × List (List UInt8)) → Xt → St → Prop) y) := by
 refine EQ _ _ (OM N a0 LF IU EM EL EK EJ EI EH EG EF EE ED DJ DN E9 x151) (UT N a0 LF IU EM EL EK EJ EI EH EG EF EE ED DJ DN E9 x151) (fun _ => rfl) (fun _ _ => rfl) ?_
 rintro rec ⟨YZ, P8, P7, TU⟩ y h
 refine AJ ?_
 refine AC ?_
 refine A7 rfl rfl ?_
 refine AJ ?_
 refine D8 h rfl (fun c13 h => ?_) (fun c13 h => ?_)
 refine BF ?_
 refine AJ ?_
 refine C9 ?_
 refine AJ ?_
 refine AC ?_
 obtain ⟨pU, hx155, h⟩ := AL h
 refine A7 rfl (DK (cs := [eb pU.Tag, .str pU.Body, .sl 3 pU.Kids]) hx155 rfl rfl rfl) ?_
 refine A7 (p := AA pU) rfl rfl ?_
 refine CS rfl (FZ 25621 rfl rfl rfl rfl rfl) ?_
 refine F3 (e' := AA pU) rfl rfl rfl rfl rfl rfl rfl rfl nofun rfl ?_
 refine AC ?_
 iterate 4 refine A7 rfl rfl ?_
 refine CS rfl (SB 25761 rfl rfl rfl) ?_
 obtain ⟨Kl, hx162, h⟩ := AL h
 refine UC (f := PV.str) 25762 hx162 rfl rfl rfl rfl rfl (KA rfl (BR (f := PV.str) (l := [pU.Body]))) rfl rfl rfl rfl ?_
 refine A7 rfl rfl ?_
 refine F3 (e' := .agg [.int .i64 P8, .str P7, .slr 25762 0 Kl.length]) rfl rfl rfl rfl rfl rfl rfl rfl nofun rfl ?_
 refine AC ?_
 refine A7 (p := .int .i64 (BQ (YZ + (1 : Int)))) rfl rfl ?_
 refine A7 rfl rfl ?_
 exact ⟨((BQ (YZ + (1 : Int))), P8, P7, Kl), (CB.trans (rename 25762 556192 rfl rfl) (cn rfl rfl rfl rfl)), h⟩
 cases AB h
 exact CW (st1 := ⟨AY [(0, .str a0), (2, .ptr 25602 0 0), (10, .ptr 25610 0 0), (19, .ptr 25619 0 0), (122, .sl 3 (List.map AA LF)), (123, .int .i64 (LF.length : Int)), (124, .int .i64 IU)], AY [(25602, ⟨13, false, [.agg [.int .i64 0, .int .i64 0, .int .i64 0, .int .i64 0, .int .i64 0, .int .i64 0, .int .i64 0, .int .i64 0, .int .i64 0, .int .i64 0, .nl, .bool false, .nl]]⟩), (25610, ⟨13, false, [.agg [.int .i64 EM, .int .i64 EL, .int .i64 EK, .int .i64 EJ, .int .i64 EI, .int .i64 EH, .int .i64 EG, .int .i64 EF, .int .i64 EE, .int .i64 ED, .slr 556110 0 DN.length, .bool DJ, .slr 556112 0 E9.length]]⟩), (25619, ⟨3, false, [.agg [.int .i64 P8, .str P7, .slr 556192 0 TU.length]]⟩), (556110, ⟨2, true, List.map AV DN⟩), (556112, ⟨3, true, List.map AU E9⟩), (556192, ⟨1, true, List.map PV.str TU⟩)]⟩) (cn rfl rfl rfl rfl) ⟨rfl, rfl⟩
theorem bQ (N : Nat) (a0 : List UInt8) (LF : List A8) : ∀ (n : Nat) (x : Int × Int × Int × Int × Int × Int × Int × Int × Int × Int × Int × Bool × List AP × List BC) (y : (Int × Int × Int × Int × Int × Int × Int × Int × Int × Int × Bool × List AP × List BC) ⊕ (AX × Int)), OO N a0 LF n x = some y → WX Tryz.prog (fun _ => false) (.loop xZ) ((fun (x : Int × Int × Int × Int × Int × Int × Int × Int × Int × Int × Int × Bool × List AP × List BC) => ⟨AY [(0, .str a0), (2, .ptr 25602 0 0), (10, .ptr 25610 0 0), (122, .sl 3 (List.map AA LF)), (123, .int .i64 (LF.length : Int)), (124, .int .i64 x.1)], AY [(25602, ⟨13, false, [.agg [.int .i64 0, .int .i64 0, .int .i64 0, .int .i64 0, .int .i64 0, .int .i64 0, .int .i64 0, .int .i64 0, .int .i64 0, .int .i64 0, .nl, .bool false, .nl]]⟩), (25610, ⟨13, false, [.agg [.int .i64 x.2.1, .int .i64 x.2.2.1, .int .i64 x.2.2.2.1, .int .i64 x.2.2.2.2.1, .int .i64 x.2.2.2.2.2.1, .int .i64 x.2.2.2.2.2.2.1, .int .i64 x.2.2.2.2.2.2.2.1, .int .i64 x.2.2.2.2.2.2.2.2.1, .int .i64 x.2.2.2.2.2.2.2.2.2.1, .int .i64 x.2.2.2.2.2.2.2.2.2.2.1, .slr 556110 0 x.2.2.2.2.2.2.2.2.2.2.2.2.1.length, .bool x.2.2.2.2.2.2.2.2.2.2.2.1, .slr 556112 0 x.2.2.2.2.2.2.2.2.2.2.2.2.2.length]]⟩), (556110, ⟨2, true, List.map AV x.2.2.2.2.2.2.2.2.2.2.2.2.1⟩), (556112, ⟨3, true, List.map AU x.2.2.2.2.2.2.2.2.2.2.2.2.2⟩)]⟩) x) ((Sum.elim (fun y e s => e = .exit 4 ∧ s = ⟨AY [(0, .str a0), (2, .ptr 25602 0 0), (10, .ptr 25610 0 0)], AY [(25602, ⟨13, false, [.agg [.int .i64 0, .int .i64 0, .int .i64 0, .int .i64 0, .int .i64 0, .int .i64 0, .int .i64 0, .int .i64 0, .int .i64 0, .int .i64 0, .nl, .bool false, .nl]]⟩), (25610, ⟨13, false, [.agg [.int .i64 y.1, .int .i64 y.2.1, .int .i64 y.2.2.1, .int .i64 y.2.2.2.1, .int .i64 y.2.2.2.2.1, .int .i64 y.2.2.2.2.2.1, .int .i64 y.2.2.2.2.2.2.1, .int .i64 y.2.2.2.2.2.2.2.1, .int .i64 y.2.2.2.2.2.2.2.2.1, .int .i64 y.2.2.2.2.2.2.2.2.2.1, .slr 556110 0 y.2.2.2.2.2.2.2.2.2.2.2.1.length, .bool y.2.2.2.2.2.2.2.2.2.2.1, .slr 556112 0 y.2.2.2.2.2.2.2.2.2.2.2.2.length]]⟩), (556110, ⟨2, true, List.map AV y.2.2.2.2.2.2.2.2.2.2.2.1⟩), (556112, ⟨3, true, List.map AU y.2.2.2.2.2.2.2.2.2.2.2.2⟩)]⟩) (fun y e s => e = .ret ∧ s = ⟨AY [(2, .ptr 25602 0 0), (3, .int .i64 y.2)], AY [(25602, ⟨13, false, [AQ y.1]⟩)]⟩) : ((Int × Int × Int × Int × Int × Int × Int × Int × Int × Int × Bool × List AP × List BC) ⊕ (AX × Int)) → Xt → St → Prop) y) := by
 refine EQ _ _ (OO N a0 LF) (UU N a0 LF) (fun _ => rfl) (fun _ _ => rfl) ?_
 rintro rec ⟨IU, EM, EL, EK, EJ, EI, EH, EG, EF, EE, ED, DJ, DN, E9⟩ y h
 refine AJ ?_
 refine AC ?_
 refine A7 rfl rfl ?_
 refine AJ ?_
 refine D8 h rfl (fun c11 h => ?_) (fun c11 h => ?_)
 refine BF ?_
 refine AJ ?_
 refine C9 ?_
 refine AJ ?_
 refine AC ?_
 obtain ⟨bM, Gn, h⟩ := AL h
 refine A7 rfl (DK (cs := [eb bM.Tag, .str bM.Body, .sl 3 bM.Kids]) Gn rfl rfl rfl) ?_
 refine A7 (p := AA bM) rfl rfl ?_
 refine CS rfl (FZ 25616 rfl rfl rfl rfl rfl) ?_
 refine F3 (e' := AA bM) rfl rfl rfl rfl rfl rfl rfl rfl nofun rfl ?_
 iterate 2 refine AJ ?_
 refine AC ?_
 refine A7 rfl rfl ?_
 obtain ⟨Qg, hx129, h⟩ := AL h
 refine A7 (p := .sl 3 (List.map AA Qg)) rfl (congrArg (fun z => some (PV.sl 3 z)) (I7 (e := AA) CL hx129)) ?_
 refine A7 rfl (BV rfl) ?_
 refine A7 rfl rfl ?_
 refine D8 h rfl (fun c12 h => ?_) (fun c12 h => ?_)
 refine AJ ?_
 refine AC ?_
 refine A7 (p := .agg [.int .i64 0, .int .i64 0, .int .i64 0, .int .i64 0, .int .i64 0, .int .i64 0, .int .i64 0, .int .i64 0, .int .i64 0, .int .i64 0, .nl, .bool false, .nl]) rfl rfl ?_
 refine Br (KN 132 (LM (.cons A9 (.cons A9 (.cons A9 (.cons A9 (.cons A9 (.cons A9 (.cons A9 (.cons A9 (.cons A9 (.cons A9 (.cons (FV 2) (.cons A9 (.cons (FV 3) .nil))))))))))))) rfl) rfl) ?_
 refine F3 (e' := .agg [.int .i64 0, .int .i64 0, .int .i64 0, .int .i64 0, .int .i64 0, .int .i64 0, .int .i64 0, .int .i64 0, .int .i64 0, .int .i64 0, .sl 2 (List.map AV []), .bool false, .sl 3 (List.map AU [])]) rfl rfl rfl rfl rfl rfl rfl rfl nofun rfl ?_
 refine A7 rfl rfl ?_
 cases AB h
 exact DU (st1 := ⟨AY [(2, .ptr 25602 0 0), (3, .int .i64 14)], AY [(25602, ⟨13, false, [AQ (⟨(⟨0, 0, 0⟩ : AR), 0, (⟨0, 0, 0⟩ : AR), (⟨0, 0, 0⟩ : AR), [], false, []⟩ : AX)]⟩)]⟩) (cn rfl rfl rfl rfl) ⟨rfl, rfl⟩
 refine BF ?_
 refine AJ ?_
 refine AC ?_
 refine A7 rfl rfl ?_
 obtain ⟨Qf, hx135, h⟩ := AL h
 refine A7 (p := .sl 3 (List.map AA Qf)) rfl (congrArg (fun z => some (PV.sl 3 z)) (I7 (e := AA) CL hx135)) ?_
 obtain ⟨tK, hx136, h⟩ := AL h
 refine A7 rfl (DK (cs := [eb tK.Tag, .str tK.Body, .sl 3 tK.Kids]) hx136 rfl rfl rfl) ?_
 refine A7 (p := .ep [.str tK.Body, .sl 3 tK.Kids]) rfl rfl ?_
 refine A7 rfl rfl ?_
 obtain ⟨tJ, hx139, h⟩ := AL h
 refine CS rfl (CG (UJ N _ _ hx139) rfl (.cons A9 .nil) rfl rfl rfl) ?_
 iterate 5 refine A7 rfl rfl ?_
 refine AJ ?_
 refine AC ?_
 iterate 2 refine A7 rfl rfl ?_
 obtain ⟨Qe, hx144, h⟩ := AL h
 refine A7 (p := .sl 3 (List.map AA Qe)) rfl (congrArg (fun z => some (PV.sl 3 z)) (I7 (e := AA) CL hx144)) ?_
 obtain ⟨gG, hx145, h⟩ := AL h
 refine A7 rfl (DK (cs := [eb gG.Tag, .str gG.Body, .sl 3 gG.Kids]) hx145 rfl rfl rfl) ?_
 refine A7 (p := .ep [.str gG.Body, .sl 3 gG.Kids]) rfl rfl ?_
 refine A7 rfl rfl ?_
 refine A7 (p := .agg [.int .i64 tJ.1, .str gG.Body, .nl]) rfl rfl ?_
 refine CS rfl (FZ 25619 rfl rfl rfl rfl rfl) ?_
 refine F3 (e' := .agg [.int .i64 tJ.1, .str gG.Body, .nl]) rfl rfl rfl rfl rfl rfl rfl rfl nofun rfl ?_
 iterate 2 refine AJ ?_
 refine UI (cn (st := _) (l := [(0, .str a0), (2, .ptr 25602 0 0), (10, .ptr 25610 0 0), (16, .ptr 25616 0 0), (19, .ptr 25619 0 0), (122, .sl 3 (List.map AA LF)), (123, .int .i64 (LF.length : Int)), (124, .int .i64 IU)]) (m := [(25602, ⟨13, false, [.agg [.int .i64 0, .int .i64 0, .int .i64 0, .int .i64 0, .int .i64 0, .int .i64 0, .int .i64 0, .int .i64 0, .int .i64 0, .int .i64 0, .nl, .bool false, .nl]]⟩), (25610, ⟨13, false, [.agg [.int .i64 EM, .int .i64 EL, .int .i64 EK, .int .i64 EJ, .int .i64 EI, .int .i64 EH, .int .i64 EG, .int .i64 EF, .int .i64 EE, .int .i64 ED, .slr 556110 0 DN.length, .bool DJ, .slr 556112 0 E9.length]]⟩), (25616, ⟨3, false, [AA bM]⟩), (25619, ⟨3, false, [.agg [.int .i64 tJ.1, .str gG.Body, .nl]]⟩), (556110, ⟨2, true, List.map AV DN⟩), (556112, ⟨3, true, List.map AU E9⟩)]) rfl rfl rfl rfl) ?_
 refine AC ?_
 refine A7 rfl rfl ?_
 obtain ⟨x150, hx150, h⟩ := AL h
 refine A7 (p := .sl 3 (List.map AA x150)) rfl (congrArg (fun z => some (PV.sl 3 z)) (I7 (e := AA) CL hx150)) ?_
 obtain ⟨x151, hx151, h⟩ := AL h
 refine A7 rfl (Lj hx151 rfl rfl) ?_
 refine A7 rfl (BV rfl) ?_
 refine A7 rfl rfl ?_
 refine C9 ?_
 obtain ⟨dU, Mw, h⟩ := AL h
 refine PT (bP N a0 LF IU EM EL EK EJ EI EH EG EF EE ED DJ DN E9 x151 N _ _ Mw) (CB.trans (oC 556192 1 true rfl rfl) (CB.trans (wK 25619 (Q := fun R => R 556192 = some ⟨1, true, []⟩) (x := .agg [.int .i64 tJ.1, .str gG.Body, .nl]) (y := .agg [.int .i64 tJ.1, .str gG.Body, .slr 556192 0 0]) (.cons (fun _ _ _ _ _ _ h => h) (.cons (fun _ _ _ _ _ _ h => h) (.cons gZ (VW _)))) rfl rfl rfl) (cn rfl rfl rfl rfl))) ?_
 rintro e s ⟨rfl, rfl⟩
 refine AC ?_
 iterate 2 refine A7 rfl rfl ?_
 refine A7 (p := .agg [.int .i64 dU.1, .str dU.2.1, .slr 556192 0 dU.2.2.length]) rfl rfl ?_
 refine wn (CB.trans (Vd.freeze 556192 _ rfl rfl rfl) (CB.trans (KN 167 (LM (.cons A9 (.cons A9 (.cons (GQ (congrArg (PV.sl 1) (BR (f := PV.str) (l := dU.2.2)))) .nil))) rfl) rfl) (uB 25619 (x := .agg [.int .i64 dU.1, .str dU.2.1, .sl 1 (List.take dU.2.2.length (List.drop 0 (List.map PV.str dU.2.2)))]) (y := .agg [.int .i64 dU.1, .str dU.2.1, .sl 1 (List.map PV.str dU.2.2)]) (.cons A9 (.cons A9 (.cons (GQ (congrArg (PV.sl 1) (BR (f := PV.str) (l := dU.2.2)))) .nil))) rfl rfl))) ?_
 refine CS rfl (SB 25768 rfl rfl rfl) ?_
 obtain ⟨Kk, hx169, h⟩ := AL h
 refine UC (f := AU) 25769 hx169 rfl rfl rfl rfl rfl (KA rfl (BR (f := AU) (l := [(⟨dU.1, dU.2.1, dU.2.2⟩ : BC)]))) rfl rfl rfl rfl ?_
 refine A7 rfl rfl ?_
 refine F3 (e' := .agg [.int .i64 EM, .int .i64 EL, .int .i64 EK, .int .i64 EJ, .int .i64 EI, .int .i64 EH, .int .i64 EG, .int .i64 EF, .int .i64 EE, .int .i64 ED, .slr 556110 0 DN.length, .bool DJ, .slr 25769 0 Kk.length]) rfl rfl rfl rfl rfl rfl rfl rfl nofun rfl ?_
 refine AC ?_
 refine A7 (p := .int .i64 (BQ (IU + (1 : Int)))) rfl rfl ?_
 refine A7 rfl rfl ?_
 exact ⟨((BQ (IU + (1 : Int))), EM, EL, EK, EJ, EI, EH, EG, EF, EE, ED, DJ, DN, Kk), (CB.trans (rename 25769 556112 rfl rfl) (cn rfl rfl rfl rfl)), h⟩
 cases AB h
 exact CW (st1 := ⟨AY [(0, .str a0), (2, .ptr 25602 0 0), (10, .ptr 25610 0 0)], AY [(25602, ⟨13, false, [.agg [.int .i64 0, .int .i64 0, .int .i64 0, .int .i64 0, .int .i64 0, .int .i64 0, .int .i64 0, .int .i64 0, .int .i64 0, .int .i64 0, .nl, .bool false, .nl]]⟩), (25610, ⟨13, false, [.agg [.int .i64 EM, .int .i64 EL, .int .i64 EK, .int .i64 EJ, .int .i64 EI, .int .i64 EH, .int .i64 EG, .int .i64 EF, .int .i64 EE, .int .i64 ED, .slr 556110 0 DN.length, .bool DJ, .slr 556112 0 E9.length]]⟩), (556110, ⟨2, true, List.map AV DN⟩), (556112, ⟨3, true, List.map AU E9⟩)]⟩) (cn rfl rfl rfl rfl) ⟨rfl, rfl⟩
theorem XN (N : Nat) (a0 : List UInt8) (r : AX × Int) (h : YT N a0 = some r) : Sat Tryz.prog 16 AO [.str a0] (.tup [AQ r.1, .int .i64 r.2]) AO := by
 refine DT mixed Tryz.func16 Uo (rs := [AQ r.1, .int .i64 r.2]) rfl rfl ?_
 refine AJ ?_
 refine AC ?_
 refine CS rfl (FZ 25602 rfl rfl rfl rfl rfl) ?_
 refine A7 rfl rfl ?_
 refine AJ ?_
 refine AC ?_
 refine A7 rfl rfl ?_
 obtain ⟨KZ, oP, h⟩ := AL h
 refine CS rfl (CG (nX N _ _ oP) rfl (.cons A9 .nil) rfl rfl rfl) ?_
 iterate 5 refine A7 rfl rfl ?_
 refine CS rfl (FZ 25604 rfl rfl rfl rfl rfl) ?_
 refine F3 (e' := AA KZ.1) rfl rfl rfl rfl rfl rfl rfl rfl nofun rfl ?_
 iterate 3 refine A7 rfl rfl ?_
 refine AJ ?_
 obtain ⟨g1, hg1, h⟩ := AL h
 refine F9 ⟨AY [(0, .str a0), (2, .ptr 25602 0 0), (4, .ptr 25604 0 0), (44, .bool g1)], AY [(25602, ⟨13, false, [.agg [.int .i64 0, .int .i64 0, .int .i64 0, .int .i64 0, .int .i64 0, .int .i64 0, .int .i64 0, .int .i64 0, .int .i64 0, .int .i64 0, .nl, .bool false, .nl]]⟩), (25604, ⟨3, false, [AA KZ.1]⟩)]⟩ ?_ ?_
 have h := hg1
 refine AC ?_
 iterate 3 refine A7 rfl rfl ?_
 rcases BO h with ⟨c2, h⟩ | ⟨c2, h⟩
 iterate 4 refine BK (gn rfl c2) ?_
 refine A7 rfl (BA c2 rfl rfl) ?_
 refine A7 rfl rfl ?_
 iterate 4 refine BK rfl ?_
 refine A7 rfl rfl ?_
 obtain rfl := AB h
 exact (cn rfl rfl rfl rfl)
 iterate 4 refine A7 (gy rfl c2) rfl ?_
 refine A7 rfl (AZ c2 rfl rfl) ?_
 refine A7 rfl rfl ?_
 rcases BO h with ⟨c3, h⟩ | ⟨c3, h⟩
 iterate 4 refine BK (gn rfl c3) ?_
 refine A7 rfl (BA c3 rfl rfl) ?_
 obtain rfl := AB h
 exact (cn rfl rfl rfl rfl)
 refine A7 (gy rfl c3) rfl ?_
 obtain ⟨x41, oN, h⟩ := AL h
 refine A7 (p := .sl 3 (List.map AA x41)) (gy rfl c3) (congrArg (fun z => some (PV.sl 3 z)) (I7 (e := AA) CL oN)) ?_
 refine A7 (gy rfl c3) (BV rfl) ?_
 refine A7 (gy rfl c3) rfl ?_
 refine A7 rfl (AZ c3 rfl rfl) ?_
 cases AB h
 exact (cn rfl rfl rfl rfl)
 clear hg1
 refine D8 h rfl (fun c4 h => ?_) (fun c4 h => ?_)
 refine AJ ?_
 refine AC ?_
 refine A7 (p := .agg [.int .i64 0, .int .i64 0, .int .i64 0, .int .i64 0, .int .i64 0, .int .i64 0, .int .i64 0, .int .i64 0, .int .i64 0, .int .i64 0, .nl, .bool false, .nl]) rfl rfl ?_
 refine Br (KN 45 (LM (.cons A9 (.cons A9 (.cons A9 (.cons A9 (.cons A9 (.cons A9 (.cons A9 (.cons A9 (.cons A9 (.cons A9 (.cons (FV 2) (.cons A9 (.cons (FV 3) .nil))))))))))))) rfl) rfl) ?_
 refine F3 (e' := .agg [.int .i64 0, .int .i64 0, .int .i64 0, .int .i64 0, .int .i64 0, .int .i64 0, .int .i64 0, .int .i64 0, .int .i64 0, .int .i64 0, .sl 2 (List.map AV []), .bool false, .sl 3 (List.map AU [])]) rfl rfl rfl rfl rfl rfl rfl rfl nofun rfl ?_
 refine A7 rfl rfl ?_
 cases AB h
 refine BS ?_
 exact ⟨nofun, rfl, rfl⟩
 refine BF ?_
 refine AJ ?_
 refine AC ?_
 refine A7 rfl rfl ?_
 obtain ⟨iF, kC, h⟩ := AL h
 refine A7 (p := .sl 3 (List.map AA iF)) rfl (congrArg (fun z => some (PV.sl 3 z)) (I7 (e := AA) CL kC)) ?_
 obtain ⟨bL, uX, h⟩ := AL h
 refine A7 rfl (DK (cs := [eb bL.Tag, .str bL.Body, .sl 3 bL.Kids]) uX rfl rfl rfl) ?_
 refine A7 (p := .ep [.str bL.Body, .sl 3 bL.Kids]) rfl rfl ?_
 refine A7 rfl rfl ?_
 obtain ⟨OU, Gg, h⟩ := AL h
 refine CS rfl (CG (UJ N _ _ Gg) rfl (.cons A9 .nil) rfl rfl rfl) ?_
 iterate 5 refine A7 rfl rfl ?_
 refine AJ ?_
 refine AC ?_
 iterate 2 refine A7 rfl rfl ?_
 refine A7 (p := .int .i64 (BQ (0 - OU.1))) rfl rfl ?_
 refine A7 (p := .int .i64 (mx OU.1 (BQ (0 - OU.1)))) rfl rfl ?_
 iterate 2 refine A7 rfl rfl ?_
 refine A7 (p := .agg [.int .i64 0, .int .i64 0, .int .i64 0, .int .i64 (mx OU.1 (BQ (0 - OU.1))), .int .i64 0, .int .i64 0, .int .i64 0, .int .i64 0, .int .i64 0, .int .i64 0, .nl, .bool (decide (OU.1 < (0 : Int))), .nl]) rfl rfl ?_
 refine CS rfl (FZ 25610 rfl rfl rfl rfl rfl) ?_
 refine F3 (e' := .agg [.int .i64 0, .int .i64 0, .int .i64 0, .int .i64 (mx OU.1 (BQ (0 - OU.1))), .int .i64 0, .int .i64 0, .int .i64 0, .int .i64 0, .int .i64 0, .int .i64 0, .nl, .bool (decide (OU.1 < (0 : Int))), .nl]) rfl rfl rfl rfl rfl rfl rfl rfl nofun rfl ?_
 iterate 2 refine AJ ?_
 refine AC ?_
 iterate 3 refine A7 rfl rfl ?_
 refine wbslp 25665 (ps := [.ptr 25610 0 0, .ptr 25610 0 4, .ptr 25610 0 7]) rfl rfl rfl rfl rfl ?_
 iterate 2 refine A7 rfl rfl ?_
 refine C9 ?_
 refine Bv ?_
 iterate 2 refine AJ ?_
 refine UI (cn (st := _) (l := [(0, .str a0), (2, .ptr 25602 0 0), (4, .ptr 25604 0 0), (10, .ptr 25610 0 0), (65, .slr 25665 0 3), (66, .int .i64 3), (67, .int .i64 0)]) (m := [(25602, ⟨13, false, [.agg [.int .i64 0, .int .i64 0, .int .i64 0, .int .i64 0, .int .i64 0, .int .i64 0, .int .i64 0, .int .i64 0, .int .i64 0, .int .i64 0, .nl, .bool false, .nl]]⟩), (25604, ⟨3, false, [AA KZ.1]⟩), (25610, ⟨13, false, [.agg [.int .i64 0, .int .i64 0, .int .i64 0, .int .i64 (mx OU.1 (BQ (0 - OU.1))), .int .i64 0, .int .i64 0, .int .i64 0, .int .i64 0, .int .i64 0, .int .i64 0, .nl, .bool (decide (OU.1 < (0 : Int))), .nl]]⟩), (25665, ⟨1, false, [.ptr 25610 0 0, .ptr 25610 0 4, .ptr 25610 0 7]⟩)]) rfl rfl rfl rfl) ?_
 refine AC ?_
 refine A7 (p := .bool true) rfl rfl ?_
 refine AJ ?_
 refine xcT rfl rfl ?_
 refine BF ?_
 refine AJ ?_
 refine C9 ?_
 refine AJ ?_
 refine AC ?_
 refine A7 rfl rfl ?_
 refine A7 rfl (QA (i := 0) (n := 3) (j := 0) rfl rfl rfl rfl rfl) ?_
 refine A7 rfl (UM (f := fun p : PV => p) (l := [.ptr 25610 0 0, .ptr 25610 0 4, .ptr 25610 0 7]) (e := .ptr 25610 0 0) (v := .ptr 25610 0 0) rfl rfl rfl rfl) ?_
 iterate 2 refine A7 rfl rfl ?_
 refine AJ ?_
 refine AC ?_
 iterate 2 refine A7 rfl rfl ?_
 obtain ⟨x75, Vf, h⟩ := AL h
 refine A7 (p := .sl 3 (List.map AA x75)) rfl (congrArg (fun z => some (PV.sl 3 z)) (I7 (e := AA) CL Vf)) ?_
 refine A7 rfl rfl ?_
 refine A7 (p := .int .i64 (1)) rfl rfl ?_
 obtain ⟨Jw, Vb, h⟩ := AL h
 refine A7 rfl (DK (cs := [eb Jw.Tag, .str Jw.Body, .sl 3 Jw.Kids]) Vb rfl rfl rfl) ?_
 refine A7 (p := .ep [.str Jw.Body, .sl 3 Jw.Kids]) rfl rfl ?_
 refine A7 rfl rfl ?_
 obtain ⟨x81, Gc, h⟩ := AL h
 refine CS rfl (CG (VE N _ _ Gc) rfl (.cons A9 .nil) rfl rfl rfl) ?_
 iterate 4 refine A7 rfl rfl ?_
 refine F3 (e' := .agg [.int .i64 x81.1.Time, .int .i64 x81.1.Seq, .int .i64 x81.1.Rep, .int .i64 (mx OU.1 (BQ (0 - OU.1))), .int .i64 0, .int .i64 0, .int .i64 0, .int .i64 0, .int .i64 0, .int .i64 0, .nl, .bool (decide (OU.1 < (0 : Int))), .nl]) rfl rfl rfl rfl rfl rfl rfl rfl nofun rfl ?_
 refine A7 rfl rfl ?_
 refine AJ ?_
 refine AC ?_
 iterate 2 refine A7 rfl rfl ?_
 refine D8 h rfl (fun c5 h => ?_) (fun c5 h => ?_)
 refine AJ ?_
 refine AC ?_
 refine A7 (p := .agg [.int .i64 0, .int .i64 0, .int .i64 0, .int .i64 0, .int .i64 0, .int .i64 0, .int .i64 0, .int .i64 0, .int .i64 0, .int .i64 0, .nl, .bool false, .nl]) rfl rfl ?_
 refine Br (KN 87 (LM (.cons A9 (.cons A9 (.cons A9 (.cons A9 (.cons A9 (.cons A9 (.cons A9 (.cons A9 (.cons A9 (.cons A9 (.cons (FV 2) (.cons A9 (.cons (FV 3) .nil))))))))))))) rfl) rfl) ?_
 refine F3 (e' := .agg [.int .i64 0, .int .i64 0, .int .i64 0, .int .i64 0, .int .i64 0, .int .i64 0, .int .i64 0, .int .i64 0, .int .i64 0, .int .i64 0, .sl 2 (List.map AV []), .bool false, .sl 3 (List.map AU [])]) rfl rfl rfl rfl rfl rfl rfl rfl nofun rfl ?_
 refine A7 rfl rfl ?_
 cases AB h
 refine BS ?_
 exact ⟨nofun, rfl, rfl⟩
 refine BF ?_
 refine AC ?_
 refine A7 (p := .int .i64 (1)) rfl rfl ?_
 refine A7 rfl rfl ?_
 refine Bv ?_
 iterate 2 refine AJ ?_
 refine AC ?_
 refine A7 (p := .bool true) rfl rfl ?_
 refine AJ ?_
 refine xcT rfl rfl ?_
 refine BF ?_
 refine AJ ?_
 refine C9 ?_
 refine AJ ?_
 refine UI (cn (st := _) (l := [(0, .str a0), (2, .ptr 25602 0 0), (4, .ptr 25604 0 0), (10, .ptr 25610 0 0), (65, .slr 25665 0 3), (66, .int .i64 3), (67, .int .i64 1)]) (m := [(25602, ⟨13, false, [.agg [.int .i64 0, .int .i64 0, .int .i64 0, .int .i64 0, .int .i64 0, .int .i64 0, .int .i64 0, .int .i64 0, .int .i64 0, .int .i64 0, .nl, .bool false, .nl]]⟩), (25604, ⟨3, false, [AA KZ.1]⟩), (25610, ⟨13, false, [.agg [.int .i64 x81.1.Time, .int .i64 x81.1.Seq, .int .i64 x81.1.Rep, .int .i64 (mx OU.1 (BQ (0 - OU.1))), .int .i64 0, .int .i64 0, .int .i64 0, .int .i64 0, .int .i64 0, .int .i64 0, .nl, .bool (decide (OU.1 < (0 : Int))), .nl]]⟩), (25665, ⟨1, false, [.ptr 25610 0 0, .ptr 25610 0 4, .ptr 25610 0 7]⟩)]) rfl rfl rfl rfl) ?_
 refine AC ?_
 refine A7 rfl rfl ?_
 refine A7 rfl (QA (i := 1) (n := 3) (j := 1) rfl rfl rfl rfl rfl) ?_
 refine A7 rfl (UM (f := fun p : PV => p) (l := [.ptr 25610 0 0, .ptr 25610 0 4, .ptr 25610 0 7]) (e := .ptr 25610 0 4) (v := .ptr 25610 0 4) rfl rfl rfl rfl) ?_
 iterate 2 refine A7 rfl rfl ?_
 refine AJ ?_
 refine AC ?_
 iterate 2 refine A7 rfl rfl ?_
 obtain ⟨nQ, Gs, h⟩ := AL h
 refine A7 (p := .sl 3 (List.map AA nQ)) rfl (congrArg (fun z => some (PV.sl 3 z)) (I7 (e := AA) CL Gs)) ?_
 refine A7 rfl rfl ?_
 refine A7 (p := .int .i64 (2)) rfl rfl ?_
 obtain ⟨WQ, Gr, h⟩ := AL h
 refine A7 rfl (DK (cs := [eb WQ.Tag, .str WQ.Body, .sl 3 WQ.Kids]) Gr rfl rfl rfl) ?_
 refine A7 (p := .ep [.str WQ.Body, .sl 3 WQ.Kids]) rfl rfl ?_
 refine A7 rfl rfl ?_
 obtain ⟨DV, Gq, h⟩ := AL h
 refine CS rfl (CG (VE N _ _ Gq) rfl (.cons A9 .nil) rfl rfl rfl) ?_
 iterate 4 refine A7 rfl rfl ?_
 refine F3 (e' := .agg [.int .i64 x81.1.Time, .int .i64 x81.1.Seq, .int .i64 x81.1.Rep, .int .i64 (mx OU.1 (BQ (0 - OU.1))), .int .i64 DV.1.Time, .int .i64 DV.1.Seq, .int .i64 DV.1.Rep, .int .i64 0, .int .i64 0, .int .i64 0, .nl, .bool (decide (OU.1 < (0 : Int))), .nl]) rfl rfl rfl rfl rfl rfl rfl rfl nofun rfl ?_
 refine A7 rfl rfl ?_
 refine AJ ?_
 refine AC ?_
 iterate 2 refine A7 rfl rfl ?_
 refine D8 h rfl (fun c6 h => ?_) (fun c6 h => ?_)
 refine AJ ?_
 refine AC ?_
 refine A7 (p := .agg [.int .i64 0, .int .i64 0, .int .i64 0, .int .i64 0, .int .i64 0, .int .i64 0, .int .i64 0, .int .i64 0, .int .i64 0, .int .i64 0, .nl, .bool false, .nl]) rfl rfl ?_
 refine Br (KN 87 (LM (.cons A9 (.cons A9 (.cons A9 (.cons A9 (.cons A9 (.cons A9 (.cons A9 (.cons A9 (.cons A9 (.cons A9 (.cons (FV 2) (.cons A9 (.cons (FV 3) .nil))))))))))))) rfl) rfl) ?_
 refine F3 (e' := .agg [.int .i64 0, .int .i64 0, .int .i64 0, .int .i64 0, .int .i64 0, .int .i64 0, .int .i64 0, .int .i64 0, .int .i64 0, .int .i64 0, .sl 2 (List.map AV []), .bool false, .sl 3 (List.map AU [])]) rfl rfl rfl rfl rfl rfl rfl rfl nofun rfl ?_
 refine A7 rfl rfl ?_
 cases AB h
 refine BS ?_
 exact ⟨nofun, rfl, rfl⟩
 refine BF ?_
 refine AC ?_
 refine A7 (p := .int .i64 (2)) rfl rfl ?_
 refine A7 rfl rfl ?_
 refine Bv ?_
 iterate 2 refine AJ ?_
 refine AC ?_
 refine A7 (p := .bool true) rfl rfl ?_
 refine AJ ?_
 refine xcT rfl rfl ?_
 refine BF ?_
 refine AJ ?_
 refine C9 ?_
 refine AJ ?_
 refine AC ?_
 refine A7 rfl rfl ?_
 refine A7 rfl (QA (i := 2) (n := 3) (j := 2) rfl rfl rfl rfl rfl) ?_
 refine A7 rfl (UM (f := fun p : PV => p) (l := [.ptr 25610 0 0, .ptr 25610 0 4, .ptr 25610 0 7]) (e := .ptr 25610 0 7) (v := .ptr 25610 0 7) rfl rfl rfl rfl) ?_
 iterate 2 refine A7 rfl rfl ?_
 refine AJ ?_
 refine UI (cn (st := _) (l := [(0, .str a0), (2, .ptr 25602 0 0), (4, .ptr 25604 0 0), (10, .ptr 25610 0 0), (11, .int .i64 2), (12, .ptr 25610 0 7), (65, .slr 25665 0 3), (66, .int .i64 3), (67, .int .i64 2)]) (m := [(25602, ⟨13, false, [.agg [.int .i64 0, .int .i64 0, .int .i64 0, .int .i64 0, .int .i64 0, .int .i64 0, .int .i64 0, .int .i64 0, .int .i64 0, .int .i64 0, .nl, .bool false, .nl]]⟩), (25604, ⟨3, false, [AA KZ.1]⟩), (25610, ⟨13, false, [.agg [.int .i64 x81.1.Time, .int .i64 x81.1.Seq, .int .i64 x81.1.Rep, .int .i64 (mx OU.1 (BQ (0 - OU.1))), .int .i64 DV.1.Time, .int .i64 DV.1.Seq, .int .i64 DV.1.Rep, .int .i64 0, .int .i64 0, .int .i64 0, .nl, .bool (decide (OU.1 < (0 : Int))), .nl]]⟩), (25665, ⟨1, false, [.ptr 25610 0 0, .ptr 25610 0 4, .ptr 25610 0 7]⟩)]) rfl rfl rfl rfl) ?_
 refine AC ?_
 iterate 2 refine A7 rfl rfl ?_
 obtain ⟨nO, Gm, h⟩ := AL h
 refine A7 (p := .sl 3 (List.map AA nO)) rfl (congrArg (fun z => some (PV.sl 3 z)) (I7 (e := AA) CL Gm)) ?_
 refine A7 rfl rfl ?_
 refine A7 (p := .int .i64 (3)) rfl rfl ?_
 obtain ⟨WP, Gl, h⟩ := AL h
 refine A7 rfl (DK (cs := [eb WP.Tag, .str WP.Body, .sl 3 WP.Kids]) Gl rfl rfl rfl) ?_
 refine A7 (p := .ep [.str WP.Body, .sl 3 WP.Kids]) rfl rfl ?_
 refine A7 rfl rfl ?_
 obtain ⟨EZ, Gj, h⟩ := AL h
 refine CS rfl (CG (VE N _ _ Gj) rfl (.cons A9 .nil) rfl rfl rfl) ?_
 iterate 4 refine A7 rfl rfl ?_
 refine F3 (e' := .agg [.int .i64 x81.1.Time, .int .i64 x81.1.Seq, .int .i64 x81.1.Rep, .int .i64 (mx OU.1 (BQ (0 - OU.1))), .int .i64 DV.1.Time, .int .i64 DV.1.Seq, .int .i64 DV.1.Rep, .int .i64 EZ.1.Time, .int .i64 EZ.1.Seq, .int .i64 EZ.1.Rep, .nl, .bool (decide (OU.1 < (0 : Int))), .nl]) rfl rfl rfl rfl rfl rfl rfl rfl nofun rfl ?_
 refine A7 rfl rfl ?_
 refine AJ ?_
 refine AC ?_
 iterate 2 refine A7 rfl rfl ?_
 refine D8 h rfl (fun c7 h => ?_) (fun c7 h => ?_)
 refine AJ ?_
 refine AC ?_
 refine A7 (p := .agg [.int .i64 0, .int .i64 0, .int .i64 0, .int .i64 0, .int .i64 0, .int .i64 0, .int .i64 0, .int .i64 0, .int .i64 0, .int .i64 0, .nl, .bool false, .nl]) rfl rfl ?_
 refine Br (KN 87 (LM (.cons A9 (.cons A9 (.cons A9 (.cons A9 (.cons A9 (.cons A9 (.cons A9 (.cons A9 (.cons A9 (.cons A9 (.cons (FV 2) (.cons A9 (.cons (FV 3) .nil))))))))))))) rfl) rfl) ?_
 refine F3 (e' := .agg [.int .i64 0, .int .i64 0, .int .i64 0, .int .i64 0, .int .i64 0, .int .i64 0, .int .i64 0, .int .i64 0, .int .i64 0, .int .i64 0, .sl 2 (List.map AV []), .bool false, .sl 3 (List.map AU [])]) rfl rfl rfl rfl rfl rfl rfl rfl nofun rfl ?_
 refine A7 rfl rfl ?_
 cases AB h
 refine BS ?_
 exact ⟨nofun, rfl, rfl⟩
 refine BF ?_
 refine AC ?_
 refine A7 (p := .int .i64 (3)) rfl rfl ?_
 refine A7 rfl rfl ?_
 obtain ⟨y8, Am, h⟩ := AL h
 refine PT (bS N a0 KZ OU x81 DV EZ N _ _ Am) (cn rfl rfl rfl rfl) ?_
 rintro e s ⟨rfl, rfl⟩
 refine AJ ?_
 refine AC ?_
 refine A7 rfl rfl ?_
 obtain ⟨x90, hx90, h⟩ := AL h
 refine A7 (p := .sl 3 (List.map AA x90)) rfl (congrArg (fun z => some (PV.sl 3 z)) (I7 (e := AA) CL hx90)) ?_
 obtain ⟨x91, hx91, h⟩ := AL h
 refine A7 rfl (DK (cs := [eb x91.Tag, .str x91.Body, .sl 3 x91.Kids]) hx91 rfl rfl rfl) ?_
 refine A7 (p := .ep [.sl 3 x91.Kids]) rfl rfl ?_
 obtain ⟨x93, hx93, h⟩ := AL h
 refine A7 (p := .sl 3 (List.map AA x93)) rfl (congrArg (fun z => some (PV.sl 3 z)) (I7 (e := AA) CL hx93)) ?_
 refine A7 rfl rfl ?_
 iterate 2 refine AJ ?_
 refine AC ?_
 refine A7 rfl rfl ?_
 refine C9 ?_
 obtain ⟨LC, gV, h⟩ := AL h
 refine PT (bR N a0 KZ x93 N _ _ gV) (CB.trans (oC 556110 2 true rfl rfl) (CB.trans (wK 25610 (Q := fun R => R 556110 = some ⟨2, true, []⟩) (x := .agg [.int .i64 x81.1.Time, .int .i64 x81.1.Seq, .int .i64 x81.1.Rep, .int .i64 (mx OU.1 (BQ (0 - OU.1))), .int .i64 DV.1.Time, .int .i64 DV.1.Seq, .int .i64 DV.1.Rep, .int .i64 EZ.1.Time, .int .i64 EZ.1.Seq, .int .i64 EZ.1.Rep, .nl, .bool (decide (OU.1 < (0 : Int))), .nl]) (y := .agg [.int .i64 x81.1.Time, .int .i64 x81.1.Seq, .int .i64 x81.1.Rep, .int .i64 (mx OU.1 (BQ (0 - OU.1))), .int .i64 DV.1.Time, .int .i64 DV.1.Seq, .int .i64 DV.1.Rep, .int .i64 EZ.1.Time, .int .i64 EZ.1.Seq, .int .i64 EZ.1.Rep, .slr 556110 0 0, .bool (decide (OU.1 < (0 : Int))), .nl]) (.cons (fun _ _ _ _ _ _ h => h) (.cons (fun _ _ _ _ _ _ h => h) (.cons (fun _ _ _ _ _ _ h => h) (.cons (fun _ _ _ _ _ _ h => h) (.cons (fun _ _ _ _ _ _ h => h) (.cons (fun _ _ _ _ _ _ h => h) (.cons (fun _ _ _ _ _ _ h => h) (.cons (fun _ _ _ _ _ _ h => h) (.cons (fun _ _ _ _ _ _ h => h) (.cons (fun _ _ _ _ _ _ h => h) (.cons gZ (VW _)))))))))))) rfl rfl rfl) (cn rfl rfl rfl rfl))) ?_
 rintro e s ⟨rfl, rfl⟩
 iterate 2 refine AJ ?_
 refine AC ?_
 refine A7 rfl rfl ?_
 obtain ⟨Qi, hx119, h⟩ := AL h
 refine A7 (p := .sl 3 (List.map AA Qi)) rfl (congrArg (fun z => some (PV.sl 3 z)) (I7 (e := AA) CL hx119)) ?_
 obtain ⟨yV, hx120, h⟩ := AL h
 refine A7 rfl (DK (cs := [eb yV.Tag, .str yV.Body, .sl 3 yV.Kids]) hx120 rfl rfl rfl) ?_
 refine A7 (p := .ep [.sl 3 yV.Kids]) rfl rfl ?_
 obtain ⟨LF, rP, h⟩ := AL h
 refine A7 (p := .sl 3 (List.map AA LF)) rfl (congrArg (fun z => some (PV.sl 3 z)) (I7 (e := AA) CL rP)) ?_
 refine A7 rfl (BV rfl) ?_
 refine A7 rfl rfl ?_
 refine C9 ?_
 obtain ⟨C8, Ga, h⟩ := AL h
 refine PT (bQ N a0 LF N _ _ Ga) (CB.trans (oC 556112 3 true rfl rfl) (CB.trans (wK 25610 (Q := fun R => R 556112 = some ⟨3, true, []⟩) (x := .agg [.int .i64 LC.1, .int .i64 LC.2.1, .int .i64 LC.2.2.1, .int .i64 LC.2.2.2.1, .int .i64 LC.2.2.2.2.1, .int .i64 LC.2.2.2.2.2.1, .int .i64 LC.2.2.2.2.2.2.1, .int .i64 LC.2.2.2.2.2.2.2.1, .int .i64 LC.2.2.2.2.2.2.2.2.1, .int .i64 LC.2.2.2.2.2.2.2.2.2.1, .slr 556110 0 LC.2.2.2.2.2.2.2.2.2.2.2.length, .bool LC.2.2.2.2.2.2.2.2.2.2.1, .nl]) (y := .agg [.int .i64 LC.1, .int .i64 LC.2.1, .int .i64 LC.2.2.1, .int .i64 LC.2.2.2.1, .int .i64 LC.2.2.2.2.1, .int .i64 LC.2.2.2.2.2.1, .int .i64 LC.2.2.2.2.2.2.1, .int .i64 LC.2.2.2.2.2.2.2.1, .int .i64 LC.2.2.2.2.2.2.2.2.1, .int .i64 LC.2.2.2.2.2.2.2.2.2.1, .slr 556110 0 LC.2.2.2.2.2.2.2.2.2.2.2.length, .bool LC.2.2.2.2.2.2.2.2.2.2.1, .slr 556112 0 0]) (.cons (fun _ _ _ _ _ _ h => h) (.cons (fun _ _ _ _ _ _ h => h) (.cons (fun _ _ _ _ _ _ h => h) (.cons (fun _ _ _ _ _ _ h => h) (.cons (fun _ _ _ _ _ _ h => h) (.cons (fun _ _ _ _ _ _ h => h) (.cons (fun _ _ _ _ _ _ h => h) (.cons (fun _ _ _ _ _ _ h => h) (.cons (fun _ _ _ _ _ _ h => h) (.cons (fun _ _ _ _ _ _ h => h) (.cons (fun _ _ _ _ _ _ h => h) (.cons (fun _ _ _ _ _ _ h => h) (.cons gZ (VW _)))))))))))))) rfl rfl rfl) (cn rfl rfl rfl rfl))) ?_
 clear Ga
 rcases C8 with C8 | C8
 rintro e s ⟨rfl, rfl⟩
 iterate 2 refine AJ ?_
 refine AC ?_
 refine A7 (p := .agg [.int .i64 C8.1, .int .i64 C8.2.1, .int .i64 C8.2.2.1, .int .i64 C8.2.2.2.1, .int .i64 C8.2.2.2.2.1, .int .i64 C8.2.2.2.2.2.1, .int .i64 C8.2.2.2.2.2.2.1, .int .i64 C8.2.2.2.2.2.2.2.1, .int .i64 C8.2.2.2.2.2.2.2.2.1, .int .i64 C8.2.2.2.2.2.2.2.2.2.1, .slr 556110 0 C8.2.2.2.2.2.2.2.2.2.2.2.1.length, .bool C8.2.2.2.2.2.2.2.2.2.2.1, .slr 556112 0 C8.2.2.2.2.2.2.2.2.2.2.2.2.length]) rfl rfl ?_
 obtain ⟨Qd, hx174, h⟩ := AL h
 refine CS rfl (CG (NW N _ _ hx174) rfl (.cons (LM (.cons A9 (.cons A9 (.cons A9 (.cons A9 (.cons A9 (.cons A9 (.cons A9 (.cons A9 (.cons A9 (.cons A9 (.cons (ZG rfl (BR (f := AV) (l := C8.2.2.2.2.2.2.2.2.2.2.2.1))) (.cons A9 (.cons (ZG rfl (BR (f := AU) (l := C8.2.2.2.2.2.2.2.2.2.2.2.2))) .nil))))))))))))) rfl) .nil) rfl rfl rfl) ?_
 iterate 5 refine A7 rfl rfl ?_
 obtain ⟨g16, rT, h⟩ := AL h
 refine F9 ⟨AY [(2, .ptr 25602 0 0), (10, .ptr 25610 0 0), (183, .bool g16)], AY [(25602, ⟨13, false, [.agg [.int .i64 0, .int .i64 0, .int .i64 0, .int .i64 0, .int .i64 0, .int .i64 0, .int .i64 0, .int .i64 0, .int .i64 0, .int .i64 0, .nl, .bool false, .nl]]⟩), (25610, ⟨13, false, [.agg [.int .i64 C8.1, .int .i64 C8.2.1, .int .i64 C8.2.2.1, .int .i64 C8.2.2.2.1, .int .i64 C8.2.2.2.2.1, .int .i64 C8.2.2.2.2.2.1, .int .i64 C8.2.2.2.2.2.2.1, .int .i64 C8.2.2.2.2.2.2.2.1, .int .i64 C8.2.2.2.2.2.2.2.2.1, .int .i64 C8.2.2.2.2.2.2.2.2.2.1, .slr 556110 0 C8.2.2.2.2.2.2.2.2.2.2.2.1.length, .bool C8.2.2.2.2.2.2.2.2.2.2.1, .slr 556112 0 C8.2.2.2.2.2.2.2.2.2.2.2.2.length]]⟩), (556110, ⟨2, true, List.map AV C8.2.2.2.2.2.2.2.2.2.2.2.1⟩), (556112, ⟨3, true, List.map AU C8.2.2.2.2.2.2.2.2.2.2.2.2⟩)]⟩ ?_ ?_
 have h := rT
 refine AC ?_
 iterate 3 refine A7 rfl rfl ?_
 rcases BO h with ⟨c17, h⟩ | ⟨c17, h⟩
 iterate 3 refine BK (gn rfl c17) ?_
 refine A7 rfl (BA c17 rfl rfl) ?_
 obtain rfl := AB h
 exact (cn rfl rfl rfl rfl)
 iterate 3 refine A7 (gy rfl c17) rfl ?_
 refine A7 rfl (AZ c17 rfl rfl) ?_
 cases AB h
 exact (cn rfl rfl rfl rfl)
 clear rT
 refine D8 h rfl (fun c18 h => ?_) (fun c18 h => ?_)
 refine AJ ?_
 refine AC ?_
 refine A7 (p := .agg [.int .i64 0, .int .i64 0, .int .i64 0, .int .i64 0, .int .i64 0, .int .i64 0, .int .i64 0, .int .i64 0, .int .i64 0, .int .i64 0, .nl, .bool false, .nl]) rfl rfl ?_
 refine Br (KN 184 (LM (.cons A9 (.cons A9 (.cons A9 (.cons A9 (.cons A9 (.cons A9 (.cons A9 (.cons A9 (.cons A9 (.cons A9 (.cons (FV 2) (.cons A9 (.cons (FV 3) .nil))))))))))))) rfl) rfl) ?_
 refine F3 (e' := .agg [.int .i64 0, .int .i64 0, .int .i64 0, .int .i64 0, .int .i64 0, .int .i64 0, .int .i64 0, .int .i64 0, .int .i64 0, .int .i64 0, .sl 2 (List.map AV []), .bool false, .sl 3 (List.map AU [])]) rfl rfl rfl rfl rfl rfl rfl rfl nofun rfl ?_
 refine A7 rfl rfl ?_
 cases AB h
 refine BS ?_
 exact ⟨nofun, rfl, rfl⟩
 refine BF ?_
 refine AJ ?_
 refine AC ?_
 refine A7 (p := .agg [.int .i64 C8.1, .int .i64 C8.2.1, .int .i64 C8.2.2.1, .int .i64 C8.2.2.2.1, .int .i64 C8.2.2.2.2.1, .int .i64 C8.2.2.2.2.2.1, .int .i64 C8.2.2.2.2.2.2.1, .int .i64 C8.2.2.2.2.2.2.2.1, .int .i64 C8.2.2.2.2.2.2.2.2.1, .int .i64 C8.2.2.2.2.2.2.2.2.2.1, .slr 556110 0 C8.2.2.2.2.2.2.2.2.2.2.2.1.length, .bool C8.2.2.2.2.2.2.2.2.2.2.1, .slr 556112 0 C8.2.2.2.2.2.2.2.2.2.2.2.2.length]) rfl rfl ?_
 refine F3 (e' := .agg [.int .i64 C8.1, .int .i64 C8.2.1, .int .i64 C8.2.2.1, .int .i64 C8.2.2.2.1, .int .i64 C8.2.2.2.2.1, .int .i64 C8.2.2.2.2.2.1, .int .i64 C8.2.2.2.2.2.2.1, .int .i64 C8.2.2.2.2.2.2.2.1, .int .i64 C8.2.2.2.2.2.2.2.2.1, .int .i64 C8.2.2.2.2.2.2.2.2.2.1, .slr 556110 0 C8.2.2.2.2.2.2.2.2.2.2.2.1.length, .bool C8.2.2.2.2.2.2.2.2.2.2.1, .slr 556112 0 C8.2.2.2.2.2.2.2.2.2.2.2.2.length]) rfl rfl rfl rfl rfl rfl rfl rfl nofun rfl ?_
 refine A7 rfl rfl ?_
 cases AB h
 refine DU (st1 := ⟨AY [(2, .ptr 25602 0 0), (3, .int .i64 0)], AY [(25602, ⟨13, false, [AQ (⟨(⟨C8.1, C8.2.1, C8.2.2.1⟩ : AR), C8.2.2.2.1, (⟨C8.2.2.2.2.1, C8.2.2.2.2.2.1, C8.2.2.2.2.2.2.1⟩ : AR), (⟨C8.2.2.2.2.2.2.2.1, C8.2.2.2.2.2.2.2.2.1, C8.2.2.2.2.2.2.2.2.2.1⟩ : AR), C8.2.2.2.2.2.2.2.2.2.2.2.1, C8.2.2.2.2.2.2.2.2.2.2.1, C8.2.2.2.2.2.2.2.2.2.2.2.2⟩ : AX)]⟩)]⟩) (CB.trans (Vd.freeze 556110 _ rfl rfl rfl) (CB.trans (Vd.freeze 556112 _ rfl rfl rfl) (CB.trans (uB 25602 (x := .agg [.int .i64 C8.1, .int .i64 C8.2.1, .int .i64 C8.2.2.1, .int .i64 C8.2.2.2.1, .int .i64 C8.2.2.2.2.1, .int .i64 C8.2.2.2.2.2.1, .int .i64 C8.2.2.2.2.2.2.1, .int .i64 C8.2.2.2.2.2.2.2.1, .int .i64 C8.2.2.2.2.2.2.2.2.1, .int .i64 C8.2.2.2.2.2.2.2.2.2.1, .sl 2 (List.take C8.2.2.2.2.2.2.2.2.2.2.2.1.length (List.drop 0 (List.map AV C8.2.2.2.2.2.2.2.2.2.2.2.1))), .bool C8.2.2.2.2.2.2.2.2.2.2.1, .sl 3 (List.take C8.2.2.2.2.2.2.2.2.2.2.2.2.length (List.drop 0 (List.map AU C8.2.2.2.2.2.2.2.2.2.2.2.2)))]) (y := .agg [.int .i64 (((⟨(⟨C8.1, C8.2.1, C8.2.2.1⟩ : AR), C8.2.2.2.1, (⟨C8.2.2.2.2.1, C8.2.2.2.2.2.1, C8.2.2.2.2.2.2.1⟩ : AR), (⟨C8.2.2.2.2.2.2.2.1, C8.2.2.2.2.2.2.2.2.1, C8.2.2.2.2.2.2.2.2.2.1⟩ : AR), C8.2.2.2.2.2.2.2.2.2.2.2.1, C8.2.2.2.2.2.2.2.2.2.2.1, C8.2.2.2.2.2.2.2.2.2.2.2.2⟩ : AX).CSN).Time), .int .i64 (((⟨(⟨C8.1, C8.2.1, C8.2.2.1⟩ : AR), C8.2.2.2.1, (⟨C8.2.2.2.2.1, C8.2.2.2.2.2.1, C8.2.2.2.2.2.2.1⟩ : AR), (⟨C8.2.2.2.2.2.2.2.1, C8.2.2.2.2.2.2.2.2.1, C8.2.2.2.2.2.2.2.2.2.1⟩ : AR), C8.2.2.2.2.2.2.2.2.2.2.2.1, C8.2.2.2.2.2.2.2.2.2.2.1, C8.2.2.2.2.2.2.2.2.2.2.2.2⟩ : AX).CSN).Seq), .int .i64 (((⟨(⟨C8.1, C8.2.1, C8.2.2.1⟩ : AR), C8.2.2.2.1, (⟨C8.2.2.2.2.1, C8.2.2.2.2.2.1, C8.2.2.2.2.2.2.1⟩ : AR), (⟨C8.2.2.2.2.2.2.2.1, C8.2.2.2.2.2.2.2.2.1, C8.2.2.2.2.2.2.2.2.2.1⟩ : AR), C8.2.2.2.2.2.2.2.2.2.2.2.1, C8.2.2.2.2.2.2.2.2.2.2.1, C8.2.2.2.2.2.2.2.2.2.2.2.2⟩ : AX).CSN).Rep), .int .i64 ((⟨(⟨C8.1, C8.2.1, C8.2.2.1⟩ : AR), C8.2.2.2.1, (⟨C8.2.2.2.2.1, C8.2.2.2.2.2.1, C8.2.2.2.2.2.2.1⟩ : AR), (⟨C8.2.2.2.2.2.2.2.1, C8.2.2.2.2.2.2.2.2.1, C8.2.2.2.2.2.2.2.2.2.1⟩ : AR), C8.2.2.2.2.2.2.2.2.2.2.2.1, C8.2.2.2.2.2.2.2.2.2.2.1, C8.2.2.2.2.2.2.2.2.2.2.2.2⟩ : AX).Kind), .int .i64 (((⟨(⟨C8.1, C8.2.1, C8.2.2.1⟩ : AR), C8.2.2.2.1, (⟨C8.2.2.2.2.1, C8.2.2.2.2.2.1, C8.2.2.2.2.2.2.1⟩ : AR), (⟨C8.2.2.2.2.2.2.2.1, C8.2.2.2.2.2.2.2.2.1, C8.2.2.2.2.2.2.2.2.2.1⟩ : AR), C8.2.2.2.2.2.2.2.2.2.2.2.1, C8.2.2.2.2.2.2.2.2.2.2.1, C8.2.2.2.2.2.2.2.2.2.2.2.2⟩ : AX).ID).Time), .int .i64 (((⟨(⟨C8.1, C8.2.1, C8.2.2.1⟩ : AR), C8.2.2.2.1, (⟨C8.2.2.2.2.1, C8.2.2.2.2.2.1, C8.2.2.2.2.2.2.1⟩ : AR), (⟨C8.2.2.2.2.2.2.2.1, C8.2.2.2.2.2.2.2.2.1, C8.2.2.2.2.2.2.2.2.2.1⟩ : AR), C8.2.2.2.2.2.2.2.2.2.2.2.1, C8.2.2.2.2.2.2.2.2.2.2.1, C8.2.2.2.2.2.2.2.2.2.2.2.2⟩ : AX).ID).Seq), .int .i64 (((⟨(⟨C8.1, C8.2.1, C8.2.2.1⟩ : AR), C8.2.2.2.1, (⟨C8.2.2.2.2.1, C8.2.2.2.2.2.1, C8.2.2.2.2.2.2.1⟩ : AR), (⟨C8.2.2.2.2.2.2.2.1, C8.2.2.2.2.2.2.2.2.1, C8.2.2.2.2.2.2.2.2.2.1⟩ : AR), C8.2.2.2.2.2.2.2.2.2.2.2.1, C8.2.2.2.2.2.2.2.2.2.2.1, C8.2.2.2.2.2.2.2.2.2.2.2.2⟩ : AX).ID).Rep), .int .i64 (((⟨(⟨C8.1, C8.2.1, C8.2.2.1⟩ : AR), C8.2.2.2.1, (⟨C8.2.2.2.2.1, C8.2.2.2.2.2.1, C8.2.2.2.2.2.2.1⟩ : AR), (⟨C8.2.2.2.2.2.2.2.1, C8.2.2.2.2.2.2.2.2.1, C8.2.2.2.2.2.2.2.2.2.1⟩ : AR), C8.2.2.2.2.2.2.2.2.2.2.2.1, C8.2.2.2.2.2.2.2.2.2.2.1, C8.2.2.2.2.2.2.2.2.2.2.2.2⟩ : AX).Parent).Time), .int .i64 (((⟨(⟨C8.1, C8.2.1, C8.2.2.1⟩ : AR), C8.2.2.2.1, (⟨C8.2.2.2.2.1, C8.2.2.2.2.2.1, C8.2.2.2.2.2.2.1⟩ : AR), (⟨C8.2.2.2.2.2.2.2.1, C8.2.2.2.2.2.2.2.2.1, C8.2.2.2.2.2.2.2.2.2.1⟩ : AR), C8.2.2.2.2.2.2.2.2.2.2.2.1, C8.2.2.2.2.2.2.2.2.2.2.1, C8.2.2.2.2.2.2.2.2.2.2.2.2⟩ : AX).Parent).Seq), .int .i64 (((⟨(⟨C8.1, C8.2.1, C8.2.2.1⟩ : AR), C8.2.2.2.1, (⟨C8.2.2.2.2.1, C8.2.2.2.2.2.1, C8.2.2.2.2.2.2.1⟩ : AR), (⟨C8.2.2.2.2.2.2.2.1, C8.2.2.2.2.2.2.2.2.1, C8.2.2.2.2.2.2.2.2.2.1⟩ : AR), C8.2.2.2.2.2.2.2.2.2.2.2.1, C8.2.2.2.2.2.2.2.2.2.2.1, C8.2.2.2.2.2.2.2.2.2.2.2.2⟩ : AX).Parent).Rep), .sl 2 (List.map AV ((⟨(⟨C8.1, C8.2.1, C8.2.2.1⟩ : AR), C8.2.2.2.1, (⟨C8.2.2.2.2.1, C8.2.2.2.2.2.1, C8.2.2.2.2.2.2.1⟩ : AR), (⟨C8.2.2.2.2.2.2.2.1, C8.2.2.2.2.2.2.2.2.1, C8.2.2.2.2.2.2.2.2.2.1⟩ : AR), C8.2.2.2.2.2.2.2.2.2.2.2.1, C8.2.2.2.2.2.2.2.2.2.2.1, C8.2.2.2.2.2.2.2.2.2.2.2.2⟩ : AX).RDN)), .bool ((⟨(⟨C8.1, C8.2.1, C8.2.2.1⟩ : AR), C8.2.2.2.1, (⟨C8.2.2.2.2.1, C8.2.2.2.2.2.1, C8.2.2.2.2.2.2.1⟩ : AR), (⟨C8.2.2.2.2.2.2.2.1, C8.2.2.2.2.2.2.2.2.1, C8.2.2.2.2.2.2.2.2.2.1⟩ : AR), C8.2.2.2.2.2.2.2.2.2.2.2.1, C8.2.2.2.2.2.2.2.2.2.2.1, C8.2.2.2.2.2.2.2.2.2.2.2.2⟩ : AX).DelOld), .sl 3 (List.map AU ((⟨(⟨C8.1, C8.2.1, C8.2.2.1⟩ : AR), C8.2.2.2.1, (⟨C8.2.2.2.2.1, C8.2.2.2.2.2.1, C8.2.2.2.2.2.2.1⟩ : AR), (⟨C8.2.2.2.2.2.2.2.1, C8.2.2.2.2.2.2.2.2.1, C8.2.2.2.2.2.2.2.2.2.1⟩ : AR), C8.2.2.2.2.2.2.2.2.2.2.2.1, C8.2.2.2.2.2.2.2.2.2.2.1, C8.2.2.2.2.2.2.2.2.2.2.2.2⟩ : AX).Mods))]) (.cons A9 (.cons A9 (.cons A9 (.cons A9 (.cons A9 (.cons A9 (.cons A9 (.cons A9 (.cons A9 (.cons A9 (.cons (GQ (congrArg (PV.sl 2) (BR (f := AV) (l := C8.2.2.2.2.2.2.2.2.2.2.2.1)))) (.cons A9 (.cons (GQ (congrArg (PV.sl 3) (BR (f := AU) (l := C8.2.2.2.2.2.2.2.2.2.2.2.2)))) .nil))))))))))))) rfl rfl) (cn rfl rfl rfl rfl)))) ?_
 exact ⟨nofun, rfl, rfl⟩
 rintro e s ⟨rfl, rfl⟩
 cases AB h
 exact ⟨nofun, rfl, rfl⟩
end Go.Gp
end
section
set_option linter.unusedVariables false
set_option linter.unusedSimpArgs false
set_option maxRecDepth 4000
namespace Go.Gp
open Go.Vd Go.RowKit Go.Proofs
def xR : IC := (.seq (.seq (.reg [jm 11 5, jm 12 0, jL 13 12, jb .lss 14 11 13]) (.cond (.t 14) .skip (.exit 0))) (.seq (.block 1 (.seq (.regd 9 [jm 17 0, jm 18 5, jx 19 2 17 18, jg 20 2 19, jm 21 1, jm 22 5, jx 23 2 21 22, jg 24 2 23, jn 25 (.eqs true [.s, .s] (.t 20) (.t 24))]) (.cond (.t 25) (.seq (.reg [jc 4 (.bool false)]) .ret) .skip))) (.reg [jm 15 5, ju .add 16 15 1, jm 5 16])))
def k39 : IC := (.seq (.reg [jc 4 (.bool false)]) (.seq (.seq (.reg [jm 6 0, jL 7 6, jm 8 1, jL 9 8, jb .neq 10 7 9]) (.cond (.t 10) (.seq (.reg [jc 4 (.bool false)]) .ret) .skip)) (.seq (.seq (.reg [jc 5 (j6 0)]) (.block 0 (.loop xR))) (.seq (.reg [jc 4 (.bool true)]) .ret))))
theorem Tp : BX Tryz.prog Tryz.f39 = some ⟨26, k39, [(.tmp 4)]⟩ := by kernel_rfl
theorem UE (N : Nat) (a0 : List AP) (a1 : List AP) : ∀ (n : Nat) (x : Int) (y : Unit ⊕ Bool), F4 N a0 a1 n x = some y → WX Tryz.prog (fun _ => false) (.loop xR) ((fun (x : Int) => ⟨AY [(0, .sl 2 (List.map AV a0)), (1, .sl 2 (List.map AV a1)), (5, .int .i64 x)], AY []⟩) x) ((Sum.elim (fun y e s => e = .exit 0 ∧ s = ⟨AY [], AY []⟩) (fun y e s => e = .ret ∧ s = ⟨AY [(4, .bool y)], AY []⟩) : (Unit ⊕ Bool) → Xt → St → Prop) y) := by
 refine EQ _ _ (F4 N a0 a1) (HZ N a0 a1) (fun _ => rfl) (fun _ _ => rfl) ?_
 rintro rec v5l14 y h
 iterate 2 refine AJ ?_
 refine AC ?_
 iterate 2 refine A7 rfl rfl ?_
 refine A7 rfl (BV rfl) ?_
 refine A7 rfl rfl ?_
 refine D8 h rfl (fun c2 h => ?_) (fun c2 h => ?_)
 refine BF ?_
 refine AJ ?_
 refine C9 ?_
 refine AJ ?_
 refine OD ?_
 iterate 2 refine DL rfl rfl ?_
 obtain ⟨PR, YH, h⟩ := AL h
 refine DL rfl (DK (cs := [.str PR.Attr, .str PR.Value]) YH rfl rfl rfl) ?_
 refine DL (p := AV PR) rfl rfl ?_
 iterate 2 refine DL rfl rfl ?_
 obtain ⟨XV, fE, h⟩ := AL h
 refine DL rfl (DK (cs := [.str XV.Attr, .str XV.Value]) fE rfl rfl rfl) ?_
 refine DL (p := AV XV) rfl rfl ?_
 refine DL (p := .bool (!(PR.Attr == XV.Attr && (PR.Value == XV.Value && true)))) rfl rfl ?_
 refine D8 h rfl (fun c3 h => ?_) (fun c3 h => ?_)
 refine AJ ?_
 refine AC ?_
 refine A7 rfl rfl ?_
 obtain rfl := AB h
 exact DU (st1 := ⟨AY [(4, .bool false)], AY []⟩) (cn rfl rfl rfl rfl) ⟨rfl, rfl⟩
 refine BF ?_
 refine AC ?_
 refine A7 rfl rfl ?_
 refine A7 (p := .int .i64 (BQ (v5l14 + (1 : Int)))) rfl rfl ?_
 refine A7 rfl rfl ?_
 exact ⟨(BQ (v5l14 + (1 : Int))), (cn rfl rfl rfl rfl), h⟩
 cases AB h
 exact CW (st1 := ⟨AY [], AY []⟩) (cn rfl rfl rfl rfl) ⟨rfl, rfl⟩
theorem WA (N : Nat) (a0 : List AP) (a1 : List AP) (r : Bool) (h : KX N a0 a1 = some r) : Sat Tryz.prog 39 AO [.sl 2 (List.map AV a0), .sl 2 (List.map AV a1)] (.bool r) AO := by
 refine DT mixed Tryz.func39 Tp (rs := [.bool r]) rfl rfl ?_
 refine AJ ?_
 refine AC ?_
 refine A7 rfl rfl ?_
 iterate 2 refine AJ ?_
 refine AC ?_
 refine A7 rfl rfl ?_
 refine A7 rfl (BV rfl) ?_
 refine A7 rfl rfl ?_
 refine A7 rfl (BV rfl) ?_
 refine A7 rfl rfl ?_
 refine D8 h rfl (fun c1 h => ?_) (fun c1 h => ?_)
 refine AJ ?_
 refine AC ?_
 refine A7 rfl rfl ?_
 obtain rfl := AB h
 refine BS ?_
 exact ⟨nofun, rfl, rfl⟩
 refine BF ?_
 iterate 2 refine AJ ?_
 refine AC ?_
 refine A7 rfl rfl ?_
 refine C9 ?_
 obtain ⟨y4, hy4, h⟩ := AL h
 refine PT (UE N a0 a1 N _ _ hy4) (cn rfl rfl rfl rfl) ?_
 clear hy4
 rcases y4 with y4 | y4
 rintro e s ⟨rfl, rfl⟩
 refine AJ ?_
 refine AC ?_
 refine A7 rfl rfl ?_
 obtain rfl := AB h
 refine BS ?_
 exact ⟨nofun, rfl, rfl⟩
 rintro e s ⟨rfl, rfl⟩
 obtain rfl := AB h
 exact ⟨nofun, rfl, rfl⟩
end Go.Gp
end
section
set_option linter.unusedVariables false
set_option linter.unusedSimpArgs false
set_option maxRecDepth 4000
set_option maxHeartbeats 4000000
namespace Go.Gp
open Go.Vd Go.RowKit Go.Proofs
def K3 : List (List Nat) := [[], [0], [], [1, 2], [3], [], [5], [], [6, 7], [8], [], [], [10, 4, 0, 1, 2, 3, 4, 10, 11], [11, 9, 12, 0, 1, 2, 3, 4, 5, 6, 7, 8, 9, 10, 11, 12]]
def JZ : List Ins := [ja 66 12 2, jl 67 1 66, jm 68 5, jx 69 3 67 68, jg 70 3 69, ja 71 12 3, jl 72 1 71, jm 73 5, jx 74 3 72 73, jg 75 3 74, jn 6 (.box 44 (.c (.agg [(j6 0), (.str []), .nl]))), jn 7 (.box 44 (.c (.agg [(j6 0), (.str []), .nl]))), js 3 6 70, js 3 7 75]
def yC : IC := (.seq (.seq (.reg [jm 97 8, ja 98 2 6, jl 99 1 98, jL 100 99, jb .lss 101 97 100]) (.cond (.t 101) .skip (.exit 2))) (.seq (.block 3 (.seq (.regd 11 [ja 104 2 6, jl 105 1 104, jm 106 8, jx 107 1 105 106, jl 108 1 107, ja 109 2 7, jl 110 1 109, jm 111 8, jx 112 1 110 111, jl 113 1 112, jb .neq 114 108 113]) (.cond (.t 114) (.seq (.reg [jc 4 (.bool false)]) .ret) .skip))) (.reg [jm 102 8, ju .add 103 102 1, jm 8 103])))
def yD : IC := (.seq (.seq (.reg [jm 59 5, ja 60 12 2, jl 61 1 60, jL 62 61, jb .lss 63 59 62]) (.cond (.t 63) .skip (.exit 0))) (.seq (.block 1 (.seq (.regf 12 [5, 6, 7, 8, 9] K3 JZ) (.seq (.seq (.reg [ja 76 0 6, jl 77 1 76, ja 78 0 7, jl 79 1 78, jb .neq 80 77 79, jm 81 80, jf 81 82 (.fda 1 (.t 6)), jf 81 83 (.load 1 false (.t 82)), jf 81 84 (.fda 1 (.t 7)), jf 81 85 (.load 1 false (.t 84)), jf 81 86 (.bin .neq (.t 83) (.t 85)), jo 87 81 86, jm 88 87, jf 88 89 (.fda 2 (.t 6)), jf 88 90 (.load 1 false (.t 89)), jf 88 91 (.len false (.t 90)), jf 88 92 (.fda 2 (.t 7)), jf 88 93 (.load 1 false (.t 92)), jf 88 94 (.len false (.t 93)), jf 88 95 (.bin .neq (.t 91) (.t 94)), jo 96 88 95]) (.cond (.t 96) (.seq (.reg [jc 4 (.bool false)]) .ret) .skip)) (.seq (.reg [jc 8 (j6 0)]) (.block 2 (.loop yC)))))) (.reg [jm 64 5, ju .add 65 64 1, jm 5 65])))
def k13 : IC := (.seq (.reg [jn 2 (.box 28 (.t 0)), jn 3 (.box 28 (.t 1)), jc 4 (.bool false)]) (.seq (.seq (.reg [ja 9 0 2, jg 10 3 9, ja 11 0 3, jg 12 3 11, jn 13 (.eqs true [(.i .i64), (.i .i64), (.i .i64)] (.t 10) (.t 12)), jm 14 13, jf 14 15 (.fda 3 (.t 2)), jf 14 16 (.load 1 false (.t 15)), jf 14 17 (.fda 3 (.t 3)), jf 14 18 (.load 1 false (.t 17)), jf 14 19 (.bin .neq (.t 16) (.t 18)), jo 20 14 19, jm 21 20, jf 21 22 (.fda 4 (.t 2)), jf 21 23 (.load 3 true (.t 22)), jf 21 24 (.fda 4 (.t 3)), jf 21 25 (.load 3 true (.t 24)), jf 21 26 (.eqs true [(.i .i64), (.i .i64), (.i .i64)] (.t 23) (.t 25)), jo 27 21 26, jm 28 27, jf 28 29 (.fda 7 (.t 2)), jf 28 30 (.load 3 true (.t 29)), jf 28 31 (.fda 7 (.t 3)), jf 28 32 (.load 3 true (.t 31)), jf 28 33 (.eqs true [(.i .i64), (.i .i64), (.i .i64)] (.t 30) (.t 32)), jo 34 28 33, jm 35 34, jf 35 36 (.fda 11 (.t 2)), jf 35 37 (.load 1 false (.t 36)), jf 35 38 (.fda 11 (.t 3)), jf 35 39 (.load 1 false (.t 38)), jf 35 40 (.beq true (.t 37) (.t 39)), jo 41 35 40, jm 42 41, jf 42 43 (.fda 10 (.t 2)), jf 42 44 (.load 1 false (.t 43)), jf 42 45 (.fda 10 (.t 3)), jf 42 46 (.load 1 false (.t 45)), jf 42 47 (.call 39 [(.t 44), (.t 46)]), jf 42 48 (.un .not (.t 47)), jo 49 42 48, jm 50 49, jf 50 51 (.fda 12 (.t 2)), jf 50 52 (.load 1 false (.t 51)), jf 50 53 (.len false (.t 52)), jf 50 54 (.fda 12 (.t 3)), jf 50 55 (.load 1 false (.t 54)), jf 50 56 (.len false (.t 55)), jf 50 57 (.bin .neq (.t 53) (.t 56)), jo 58 50 57]) (.cond (.t 58) (.seq (.reg [jc 4 (.bool false)]) .ret) .skip)) (.seq (.seq (.reg [jc 5 (j6 0)]) (.block 0 (.loop yD))) (.seq (.reg [jc 4 (.bool true)]) .ret))))
theorem Ur : BX Tryz.prog Tryz.f13 = some ⟨115, k13, [(.tmp 4)]⟩ := by kernel_rfl
theorem RL (N : Nat) (a0 : AX) (a1 : AX) (v5l14 : Int) (x69 : BC) (QN : BC) : ∀ (n : Nat) (x : Int) (y : Unit ⊕ Bool), DY N a0 a1 v5l14 x69 QN n x = some y → WX Tryz.prog (fun _ => false) (.loop yC) ((fun (x : Int) => ⟨AY [(2, .ptr 20802 0 0), (3, .ptr 20803 0 0), (5, .int .i64 v5l14), (6, .ptr 20806 0 0), (7, .ptr 20807 0 0), (8, .int .i64 x)], AY [(20802, ⟨13, false, [AQ a0]⟩), (20803, ⟨13, false, [AQ a1]⟩), (20806, ⟨3, false, [AU x69]⟩), (20807, ⟨3, false, [AU QN]⟩)]⟩) x) ((Sum.elim (fun y e s => e = .exit 2 ∧ s = ⟨AY [(2, .ptr 20802 0 0), (3, .ptr 20803 0 0), (5, .int .i64 v5l14)], AY [(20802, ⟨13, false, [AQ a0]⟩), (20803, ⟨13, false, [AQ a1]⟩)]⟩) (fun y e s => e = .ret ∧ s = ⟨AY [(4, .bool y)], AY []⟩) : (Unit ⊕ Bool) → Xt → St → Prop) y) := by
 refine EQ _ _ (DY N a0 a1 v5l14 x69 QN) (GD N a0 a1 v5l14 x69 QN) (fun _ => rfl) (fun _ _ => rfl) ?_
 rintro rec v8l36 y h
 iterate 2 refine AJ ?_
 refine AC ?_
 iterate 3 refine A7 rfl rfl ?_
 refine A7 rfl (BV rfl) ?_
 refine A7 rfl rfl ?_
 refine D8 h rfl (fun c14 h => ?_) (fun c14 h => ?_)
 refine BF ?_
 refine AJ ?_
 refine C9 ?_
 refine AJ ?_
 refine OD ?_
 iterate 3 refine DL rfl rfl ?_
 obtain ⟨x107, hx107, h⟩ := AL h
 refine DL rfl (DK (cs := [.str x107]) hx107 rfl rfl rfl) ?_
 iterate 4 refine DL rfl rfl ?_
 obtain ⟨x112, hx112, h⟩ := AL h
 refine DL rfl (DK (cs := [.str x112]) hx112 rfl rfl rfl) ?_
 iterate 2 refine DL rfl rfl ?_
 refine D8 h rfl (fun c15 h => ?_) (fun c15 h => ?_)
 refine AJ ?_
 refine AC ?_
 refine A7 rfl rfl ?_
 obtain rfl := AB h
 exact DU (st1 := ⟨AY [(4, .bool false)], AY []⟩) (cn rfl rfl rfl rfl) ⟨rfl, rfl⟩
 refine BF ?_
 refine AC ?_
 refine A7 rfl rfl ?_
 refine A7 (p := .int .i64 (BQ (v8l36 + (1 : Int)))) rfl rfl ?_
 refine A7 rfl rfl ?_
 exact ⟨(BQ (v8l36 + (1 : Int))), (cn rfl rfl rfl rfl), h⟩
 cases AB h
 exact CW (st1 := ⟨AY [(2, .ptr 20802 0 0), (3, .ptr 20803 0 0), (5, .int .i64 v5l14)], AY [(20802, ⟨13, false, [AQ a0]⟩), (20803, ⟨13, false, [AQ a1]⟩)]⟩) (cn rfl rfl rfl rfl) ⟨rfl, rfl⟩
theorem RN (N : Nat) (a0 : AX) (a1 : AX) : ∀ (n : Nat) (x : Int) (y : Unit ⊕ Bool), DZ N a0 a1 n x = some y → WX Tryz.prog (fun _ => false) (.loop yD) ((fun (x : Int) => ⟨AY [(2, .ptr 20802 0 0), (3, .ptr 20803 0 0), (5, .int .i64 x)], AY [(20802, ⟨13, false, [AQ a0]⟩), (20803, ⟨13, false, [AQ a1]⟩)]⟩) x) ((Sum.elim (fun y e s => e = .exit 0 ∧ s = ⟨AY [], AY []⟩) (fun y e s => e = .ret ∧ s = ⟨AY [(4, .bool y)], AY []⟩) : (Unit ⊕ Bool) → Xt → St → Prop) y) := by
 refine EQ _ _ (DZ N a0 a1) (GG N a0 a1) (fun _ => rfl) (fun _ _ => rfl) ?_
 rintro rec v5l14 y h
 iterate 2 refine AJ ?_
 refine AC ?_
 iterate 3 refine A7 rfl rfl ?_
 refine A7 rfl (BV rfl) ?_
 refine A7 rfl rfl ?_
 refine D8 h rfl (fun c9 h => ?_) (fun c9 h => ?_)
 refine BF ?_
 refine AJ ?_
 refine C9 ?_
 refine AJ ?_
 obtain ⟨x69, Vh, h⟩ := AL h
 obtain ⟨QN, Vg, h⟩ := AL h
 refine Oj ⟨AY [(2, .ptr 20802 0 0), (3, .ptr 20803 0 0), (5, .int .i64 v5l14), (6, .ptr 20806 0 0), (7, .ptr 20807 0 0)], AY [(20802, ⟨13, false, [AQ a0]⟩), (20803, ⟨13, false, [AQ a1]⟩), (20806, ⟨3, false, [AU x69]⟩), (20807, ⟨3, false, [AU QN]⟩)]⟩ [[], [9], [8, 9], [7, 8, 9], [6, 8, 9], [6, 7, 8, 9], [5, 6, 8, 9], [5, 6, 7, 8, 9]] rfl ?_ ?_
 iterate 3 refine DL rfl rfl ?_
 refine DL rfl (DK (cs := [.int .i64 x69.Kind, .str x69.Attr, .sl 1 (List.map PV.str x69.Values)]) Vh rfl rfl rfl) ?_
 refine DL (p := AU x69) rfl rfl ?_
 iterate 3 refine DL rfl rfl ?_
 refine DL rfl (DK (cs := [.int .i64 QN.Kind, .str QN.Attr, .sl 1 (List.map PV.str QN.Values)]) Vg rfl rfl rfl) ?_
 refine DL (p := AU QN) rfl rfl ?_
 refine TF rfl (.box _ 20806 rfl (Nat.le_of_ble_eq_true rfl) (by decide) rfl) (QZ rfl) ?_
 refine TF rfl (.box _ 20807 rfl (Nat.le_of_ble_eq_true rfl) (by decide) rfl) (QZ rfl) ?_
 have Wq : AnyW Tryz.prog (fun _ => false) K3 JZ 0 [0, 1, 2, 3, 4, 5, 6, 7, 8, 9, 10, 11, 12, 13] ⟨AY [(2, .ptr 20802 0 0), (3, .ptr 20803 0 0), (5, .int .i64 v5l14), (6, .ptr 20806 0 0), (7, .ptr 20807 0 0)], AY [(20802, ⟨13, false, [AQ a0]⟩), (20803, ⟨13, false, [AQ a1]⟩), (20806, ⟨3, false, [AU x69]⟩), (20807, ⟨3, false, [AU QN]⟩)]⟩ ⟨AY [(2, .ptr 20802 0 0), (3, .ptr 20803 0 0), (5, .int .i64 v5l14), (6, .ptr 20806 0 0), (7, .ptr 20807 0 0)], AY [(20802, ⟨13, false, [AQ a0]⟩), (20803, ⟨13, false, [AQ a1]⟩), (20806, ⟨3, false, [AU x69]⟩), (20807, ⟨3, false, [AU QN]⟩)]⟩ := by
  exact yend rfl (cn rfl rfl rfl rfl)
 have Ja : AnyW Tryz.prog (fun _ => false) K3 JZ 1 [0, 1, 2, 3, 4, 5, 6, 7, 8, 9, 10, 11, 12] ⟨AY [(2, .ptr 20802 0 0), (3, .ptr 20803 0 0), (5, .int .i64 v5l14), (6, .ptr 20806 0 0), (7, .ptr 20807 0 0), (75, AU QN)], AY [(20802, ⟨13, false, [AQ a0]⟩), (20803, ⟨13, false, [AQ a1]⟩), (20806, ⟨3, false, [AU x69]⟩), (20807, ⟨3, false, [.agg [.int .i64 0, .str ([] : List UInt8), .nl]]⟩)]⟩ ⟨AY [(2, .ptr 20802 0 0), (3, .ptr 20803 0 0), (5, .int .i64 v5l14), (6, .ptr 20806 0 0), (7, .ptr 20807 0 0)], AY [(20802, ⟨13, false, [AQ a0]⟩), (20803, ⟨13, false, [AQ a1]⟩), (20806, ⟨3, false, [AU x69]⟩), (20807, ⟨3, false, [AU QN]⟩)]⟩ := by
  refine yc (l := [13]) rfl nofun ⟨⟨_, rfl, ?_⟩, trivial⟩
  refine F3 (e' := AU QN) rfl rfl rfl rfl rfl rfl rfl rfl nofun rfl ?_
  exact AnyW.of Wq rfl (cn rfl rfl rfl rfl)
 have Po : AnyW Tryz.prog (fun _ => false) K3 JZ 2 [0, 1, 2, 3, 4, 5, 6, 7, 8, 9, 10, 11] ⟨AY [(2, .ptr 20802 0 0), (3, .ptr 20803 0 0), (5, .int .i64 v5l14), (6, .ptr 20806 0 0), (7, .ptr 20807 0 0), (70, AU x69), (75, AU QN)], AY [(20802, ⟨13, false, [AQ a0]⟩), (20803, ⟨13, false, [AQ a1]⟩), (20806, ⟨3, false, [.agg [.int .i64 0, .str ([] : List UInt8), .nl]]⟩), (20807, ⟨3, false, [.agg [.int .i64 0, .str ([] : List UInt8), .nl]]⟩)]⟩ ⟨AY [(2, .ptr 20802 0 0), (3, .ptr 20803 0 0), (5, .int .i64 v5l14), (6, .ptr 20806 0 0), (7, .ptr 20807 0 0)], AY [(20802, ⟨13, false, [AQ a0]⟩), (20803, ⟨13, false, [AQ a1]⟩), (20806, ⟨3, false, [AU x69]⟩), (20807, ⟨3, false, [AU QN]⟩)]⟩ := by
  refine yc (l := [12]) rfl nofun ⟨⟨_, rfl, ?_⟩, trivial⟩
  refine F3 (e' := AU x69) rfl rfl rfl rfl rfl rfl rfl rfl nofun rfl ?_
  exact AnyW.of Ja rfl (cn rfl rfl rfl rfl)
 have Jb : AnyW Tryz.prog (fun _ => false) K3 JZ 2 [0, 1, 2, 3, 4, 5, 6, 7, 8, 10, 11, 12] ⟨AY [(2, .ptr 20802 0 0), (3, .ptr 20803 0 0), (5, .int .i64 v5l14), (6, .ptr 20806 0 0), (7, .ptr 20807 0 0), (74, .ep [.int .i64 QN.Kind, .str QN.Attr, .sl 1 (List.map PV.str QN.Values)])], AY [(20802, ⟨13, false, [AQ a0]⟩), (20803, ⟨13, false, [AQ a1]⟩), (20806, ⟨3, false, [AU x69]⟩), (20807, ⟨3, false, [.agg [.int .i64 0, .str ([] : List UInt8), .nl]]⟩)]⟩ ⟨AY [(2, .ptr 20802 0 0), (3, .ptr 20803 0 0), (5, .int .i64 v5l14), (6, .ptr 20806 0 0), (7, .ptr 20807 0 0)], AY [(20802, ⟨13, false, [AQ a0]⟩), (20803, ⟨13, false, [AQ a1]⟩), (20806, ⟨3, false, [AU x69]⟩), (20807, ⟨3, false, [AU QN]⟩)]⟩ := by
  refine yc (l := [9]) rfl nofun ⟨⟨_, rfl, ?_⟩, trivial⟩
  refine A7 (p := AU QN) rfl rfl ?_
  exact AnyW.of Ja rfl (cn rfl rfl rfl rfl)
 have Pp : AnyW Tryz.prog (fun _ => false) K3 JZ 3 [0, 1, 2, 3, 4, 5, 6, 7, 8, 10, 11] ⟨AY [(2, .ptr 20802 0 0), (3, .ptr 20803 0 0), (5, .int .i64 v5l14), (6, .ptr 20806 0 0), (7, .ptr 20807 0 0), (70, AU x69), (74, .ep [.int .i64 QN.Kind, .str QN.Attr, .sl 1 (List.map PV.str QN.Values)])], AY [(20802, ⟨13, false, [AQ a0]⟩), (20803, ⟨13, false, [AQ a1]⟩), (20806, ⟨3, false, [.agg [.int .i64 0, .str ([] : List UInt8), .nl]]⟩), (20807, ⟨3, false, [.agg [.int .i64 0, .str ([] : List UInt8), .nl]]⟩)]⟩ ⟨AY [(2, .ptr 20802 0 0), (3, .ptr 20803 0 0), (5, .int .i64 v5l14), (6, .ptr 20806 0 0), (7, .ptr 20807 0 0)], AY [(20802, ⟨13, false, [AQ a0]⟩), (20803, ⟨13, false, [AQ a1]⟩), (20806, ⟨3, false, [AU x69]⟩), (20807, ⟨3, false, [AU QN]⟩)]⟩ := by
  refine yc (l := [9, 12]) rfl nofun ⟨⟨_, rfl, ?_⟩, ⟨_, rfl, ?_⟩, trivial⟩
  refine A7 (p := AU QN) rfl rfl ?_
  exact AnyW.of Po rfl (cn rfl rfl rfl rfl)
  refine F3 (e' := AU x69) rfl rfl rfl rfl rfl rfl rfl rfl nofun rfl ?_
  exact AnyW.of Jb rfl (cn rfl rfl rfl rfl)
 have vQ : AnyW Tryz.prog (fun _ => false) K3 JZ 3 [0, 1, 2, 3, 4, 5, 6, 7, 10, 11, 12] ⟨AY [(2, .ptr 20802 0 0), (3, .ptr 20803 0 0), (5, .int .i64 v5l14), (6, .ptr 20806 0 0), (7, .ptr 20807 0 0), (72, .sl 3 (List.map AU a1.Mods)), (73, .int .i64 v5l14)], AY [(20802, ⟨13, false, [AQ a0]⟩), (20803, ⟨13, false, [AQ a1]⟩), (20806, ⟨3, false, [AU x69]⟩), (20807, ⟨3, false, [.agg [.int .i64 0, .str ([] : List UInt8), .nl]]⟩)]⟩ ⟨AY [(2, .ptr 20802 0 0), (3, .ptr 20803 0 0), (5, .int .i64 v5l14), (6, .ptr 20806 0 0), (7, .ptr 20807 0 0)], AY [(20802, ⟨13, false, [AQ a0]⟩), (20803, ⟨13, false, [AQ a1]⟩), (20806, ⟨3, false, [AU x69]⟩), (20807, ⟨3, false, [AU QN]⟩)]⟩ := by
  refine yc (l := [8]) rfl nofun ⟨⟨_, rfl, ?_⟩, trivial⟩
  refine A7 rfl (DK (cs := [.int .i64 QN.Kind, .str QN.Attr, .sl 1 (List.map PV.str QN.Values)]) Vg rfl rfl rfl) ?_
  exact AnyW.of Jb rfl (cn rfl rfl rfl rfl)
 have Iy : AnyW Tryz.prog (fun _ => false) K3 JZ 4 [0, 1, 2, 3, 4, 5, 6, 7, 10, 11] ⟨AY [(2, .ptr 20802 0 0), (3, .ptr 20803 0 0), (5, .int .i64 v5l14), (6, .ptr 20806 0 0), (7, .ptr 20807 0 0), (70, AU x69), (72, .sl 3 (List.map AU a1.Mods)), (73, .int .i64 v5l14)], AY [(20802, ⟨13, false, [AQ a0]⟩), (20803, ⟨13, false, [AQ a1]⟩), (20806, ⟨3, false, [.agg [.int .i64 0, .str ([] : List UInt8), .nl]]⟩), (20807, ⟨3, false, [.agg [.int .i64 0, .str ([] : List UInt8), .nl]]⟩)]⟩ ⟨AY [(2, .ptr 20802 0 0), (3, .ptr 20803 0 0), (5, .int .i64 v5l14), (6, .ptr 20806 0 0), (7, .ptr 20807 0 0)], AY [(20802, ⟨13, false, [AQ a0]⟩), (20803, ⟨13, false, [AQ a1]⟩), (20806, ⟨3, false, [AU x69]⟩), (20807, ⟨3, false, [AU QN]⟩)]⟩ := by
  refine yc (l := [8, 12]) rfl nofun ⟨⟨_, rfl, ?_⟩, ⟨_, rfl, ?_⟩, trivial⟩
  refine A7 rfl (DK (cs := [.int .i64 QN.Kind, .str QN.Attr, .sl 1 (List.map PV.str QN.Values)]) Vg rfl rfl rfl) ?_
  exact AnyW.of Pp rfl (cn rfl rfl rfl rfl)
  refine F3 (e' := AU x69) rfl rfl rfl rfl rfl rfl rfl rfl nofun rfl ?_
  exact AnyW.of vQ rfl (cn rfl rfl rfl rfl)
 have Jc : AnyW Tryz.prog (fun _ => false) K3 JZ 4 [0, 1, 2, 3, 4, 5, 6, 10, 11, 12] ⟨AY [(2, .ptr 20802 0 0), (3, .ptr 20803 0 0), (5, .int .i64 v5l14), (6, .ptr 20806 0 0), (7, .ptr 20807 0 0), (72, .sl 3 (List.map AU a1.Mods))], AY [(20802, ⟨13, false, [AQ a0]⟩), (20803, ⟨13, false, [AQ a1]⟩), (20806, ⟨3, false, [AU x69]⟩), (20807, ⟨3, false, [.agg [.int .i64 0, .str ([] : List UInt8), .nl]]⟩)]⟩ ⟨AY [(2, .ptr 20802 0 0), (3, .ptr 20803 0 0), (5, .int .i64 v5l14), (6, .ptr 20806 0 0), (7, .ptr 20807 0 0)], AY [(20802, ⟨13, false, [AQ a0]⟩), (20803, ⟨13, false, [AQ a1]⟩), (20806, ⟨3, false, [AU x69]⟩), (20807, ⟨3, false, [AU QN]⟩)]⟩ := by
  refine yc (l := [7]) rfl nofun ⟨⟨_, rfl, ?_⟩, trivial⟩
  refine A7 rfl rfl ?_
  exact AnyW.of vQ rfl (cn rfl rfl rfl rfl)
 have vR : AnyW Tryz.prog (fun _ => false) K3 JZ 4 [0, 1, 2, 3, 4, 5, 7, 10, 11, 12] ⟨AY [(2, .ptr 20802 0 0), (3, .ptr 20803 0 0), (5, .int .i64 v5l14), (6, .ptr 20806 0 0), (7, .ptr 20807 0 0), (71, .ptr 20803 0 12), (73, .int .i64 v5l14)], AY [(20802, ⟨13, false, [AQ a0]⟩), (20803, ⟨13, false, [AQ a1]⟩), (20806, ⟨3, false, [AU x69]⟩), (20807, ⟨3, false, [.agg [.int .i64 0, .str ([] : List UInt8), .nl]]⟩)]⟩ ⟨AY [(2, .ptr 20802 0 0), (3, .ptr 20803 0 0), (5, .int .i64 v5l14), (6, .ptr 20806 0 0), (7, .ptr 20807 0 0)], AY [(20802, ⟨13, false, [AQ a0]⟩), (20803, ⟨13, false, [AQ a1]⟩), (20806, ⟨3, false, [AU x69]⟩), (20807, ⟨3, false, [AU QN]⟩)]⟩ := by
  refine yc (l := [6]) rfl nofun ⟨⟨_, rfl, ?_⟩, trivial⟩
  refine A7 rfl rfl ?_
  exact AnyW.of vQ rfl (cn rfl rfl rfl rfl)
 have Pq : AnyW Tryz.prog (fun _ => false) K3 JZ 5 [0, 1, 2, 3, 4, 5, 6, 10, 11] ⟨AY [(2, .ptr 20802 0 0), (3, .ptr 20803 0 0), (5, .int .i64 v5l14), (6, .ptr 20806 0 0), (7, .ptr 20807 0 0), (70, AU x69), (72, .sl 3 (List.map AU a1.Mods))], AY [(20802, ⟨13, false, [AQ a0]⟩), (20803, ⟨13, false, [AQ a1]⟩), (20806, ⟨3, false, [.agg [.int .i64 0, .str ([] : List UInt8), .nl]]⟩), (20807, ⟨3, false, [.agg [.int .i64 0, .str ([] : List UInt8), .nl]]⟩)]⟩ ⟨AY [(2, .ptr 20802 0 0), (3, .ptr 20803 0 0), (5, .int .i64 v5l14), (6, .ptr 20806 0 0), (7, .ptr 20807 0 0)], AY [(20802, ⟨13, false, [AQ a0]⟩), (20803, ⟨13, false, [AQ a1]⟩), (20806, ⟨3, false, [AU x69]⟩), (20807, ⟨3, false, [AU QN]⟩)]⟩ := by
  refine yc (l := [7, 12]) rfl nofun ⟨⟨_, rfl, ?_⟩, ⟨_, rfl, ?_⟩, trivial⟩
  refine A7 rfl rfl ?_
  exact AnyW.of Iy rfl (cn rfl rfl rfl rfl)
  refine F3 (e' := AU x69) rfl rfl rfl rfl rfl rfl rfl rfl nofun rfl ?_
  exact AnyW.of Jc rfl (cn rfl rfl rfl rfl)
 have Iz : AnyW Tryz.prog (fun _ => false) K3 JZ 5 [0, 1, 2, 3, 4, 5, 7, 10, 11] ⟨AY [(2, .ptr 20802 0 0), (3, .ptr 20803 0 0), (5, .int .i64 v5l14), (6, .ptr 20806 0 0), (7, .ptr 20807 0 0), (70, AU x69), (71, .ptr 20803 0 12), (73, .int .i64 v5l14)], AY [(20802, ⟨13, false, [AQ a0]⟩), (20803, ⟨13, false, [AQ a1]⟩), (20806, ⟨3, false, [.agg [.int .i64 0, .str ([] : List UInt8), .nl]]⟩), (20807, ⟨3, false, [.agg [.int .i64 0, .str ([] : List UInt8), .nl]]⟩)]⟩ ⟨AY [(2, .ptr 20802 0 0), (3, .ptr 20803 0 0), (5, .int .i64 v5l14), (6, .ptr 20806 0 0), (7, .ptr 20807 0 0)], AY [(20802, ⟨13, false, [AQ a0]⟩), (20803, ⟨13, false, [AQ a1]⟩), (20806, ⟨3, false, [AU x69]⟩), (20807, ⟨3, false, [AU QN]⟩)]⟩ := by
  refine yc (l := [6, 12]) rfl nofun ⟨⟨_, rfl, ?_⟩, ⟨_, rfl, ?_⟩, trivial⟩
  refine A7 rfl rfl ?_
  exact AnyW.of Iy rfl (cn rfl rfl rfl rfl)
  refine F3 (e' := AU x69) rfl rfl rfl rfl rfl rfl rfl rfl nofun rfl ?_
  exact AnyW.of vR rfl (cn rfl rfl rfl rfl)
 have Pn : AnyW Tryz.prog (fun _ => false) K3 JZ 5 [0, 1, 2, 3, 4, 5, 10, 11, 12] ⟨AY [(2, .ptr 20802 0 0), (3, .ptr 20803 0 0), (5, .int .i64 v5l14), (6, .ptr 20806 0 0), (7, .ptr 20807 0 0), (71, .ptr 20803 0 12)], AY [(20802, ⟨13, false, [AQ a0]⟩), (20803, ⟨13, false, [AQ a1]⟩), (20806, ⟨3, false, [AU x69]⟩), (20807, ⟨3, false, [.agg [.int .i64 0, .str ([] : List UInt8), .nl]]⟩)]⟩ ⟨AY [(2, .ptr 20802 0 0), (3, .ptr 20803 0 0), (5, .int .i64 v5l14), (6, .ptr 20806 0 0), (7, .ptr 20807 0 0)], AY [(20802, ⟨13, false, [AQ a0]⟩), (20803, ⟨13, false, [AQ a1]⟩), (20806, ⟨3, false, [AU x69]⟩), (20807, ⟨3, false, [AU QN]⟩)]⟩ := by
  refine yc (l := [6, 7]) rfl nofun ⟨⟨_, rfl, ?_⟩, ⟨_, rfl, ?_⟩, trivial⟩
  refine A7 rfl rfl ?_
  exact AnyW.of Jc rfl (cn rfl rfl rfl rfl)
  refine A7 rfl rfl ?_
  exact AnyW.of vR rfl (cn rfl rfl rfl rfl)
 have Jd : AnyW Tryz.prog (fun _ => false) K3 JZ 5 [0, 1, 2, 3, 4, 7, 10, 11, 12] ⟨AY [(2, .ptr 20802 0 0), (3, .ptr 20803 0 0), (5, .int .i64 v5l14), (6, .ptr 20806 0 0), (7, .ptr 20807 0 0), (73, .int .i64 v5l14)], AY [(20802, ⟨13, false, [AQ a0]⟩), (20803, ⟨13, false, [AQ a1]⟩), (20806, ⟨3, false, [AU x69]⟩), (20807, ⟨3, false, [.agg [.int .i64 0, .str ([] : List UInt8), .nl]]⟩)]⟩ ⟨AY [(2, .ptr 20802 0 0), (3, .ptr 20803 0 0), (5, .int .i64 v5l14), (6, .ptr 20806 0 0), (7, .ptr 20807 0 0)], AY [(20802, ⟨13, false, [AQ a0]⟩), (20803, ⟨13, false, [AQ a1]⟩), (20806, ⟨3, false, [AU x69]⟩), (20807, ⟨3, false, [AU QN]⟩)]⟩ := by
  refine yc (l := [5]) rfl nofun ⟨⟨_, rfl, ?_⟩, trivial⟩
  refine A7 rfl rfl ?_
  exact AnyW.of vR rfl (cn rfl rfl rfl rfl)
 have Pt : AnyW Tryz.prog (fun _ => false) K3 JZ 6 [0, 1, 2, 3, 4, 5, 10, 11] ⟨AY [(2, .ptr 20802 0 0), (3, .ptr 20803 0 0), (5, .int .i64 v5l14), (6, .ptr 20806 0 0), (7, .ptr 20807 0 0), (70, AU x69), (71, .ptr 20803 0 12)], AY [(20802, ⟨13, false, [AQ a0]⟩), (20803, ⟨13, false, [AQ a1]⟩), (20806, ⟨3, false, [.agg [.int .i64 0, .str ([] : List UInt8), .nl]]⟩), (20807, ⟨3, false, [.agg [.int .i64 0, .str ([] : List UInt8), .nl]]⟩)]⟩ ⟨AY [(2, .ptr 20802 0 0), (3, .ptr 20803 0 0), (5, .int .i64 v5l14), (6, .ptr 20806 0 0), (7, .ptr 20807 0 0)], AY [(20802, ⟨13, false, [AQ a0]⟩), (20803, ⟨13, false, [AQ a1]⟩), (20806, ⟨3, false, [AU x69]⟩), (20807, ⟨3, false, [AU QN]⟩)]⟩ := by
  refine yc (l := [6, 7, 12]) rfl nofun ⟨⟨_, rfl, ?_⟩, ⟨_, rfl, ?_⟩, ⟨_, rfl, ?_⟩, trivial⟩
  refine A7 rfl rfl ?_
  exact AnyW.of Pq rfl (cn rfl rfl rfl rfl)
  refine A7 rfl rfl ?_
  exact AnyW.of Iz rfl (cn rfl rfl rfl rfl)
  refine F3 (e' := AU x69) rfl rfl rfl rfl rfl rfl rfl rfl nofun rfl ?_
  exact AnyW.of Pn rfl (cn rfl rfl rfl rfl)
 have Ps : AnyW Tryz.prog (fun _ => false) K3 JZ 6 [0, 1, 2, 3, 4, 7, 10, 11] ⟨AY [(2, .ptr 20802 0 0), (3, .ptr 20803 0 0), (5, .int .i64 v5l14), (6, .ptr 20806 0 0), (7, .ptr 20807 0 0), (70, AU x69), (73, .int .i64 v5l14)], AY [(20802, ⟨13, false, [AQ a0]⟩), (20803, ⟨13, false, [AQ a1]⟩), (20806, ⟨3, false, [.agg [.int .i64 0, .str ([] : List UInt8), .nl]]⟩), (20807, ⟨3, false, [.agg [.int .i64 0, .str ([] : List UInt8), .nl]]⟩)]⟩ ⟨AY [(2, .ptr 20802 0 0), (3, .ptr 20803 0 0), (5, .int .i64 v5l14), (6, .ptr 20806 0 0), (7, .ptr 20807 0 0)], AY [(20802, ⟨13, false, [AQ a0]⟩), (20803, ⟨13, false, [AQ a1]⟩), (20806, ⟨3, false, [AU x69]⟩), (20807, ⟨3, false, [AU QN]⟩)]⟩ := by
  refine yc (l := [5, 12]) rfl nofun ⟨⟨_, rfl, ?_⟩, ⟨_, rfl, ?_⟩, trivial⟩
  refine A7 rfl rfl ?_
  exact AnyW.of Iz rfl (cn rfl rfl rfl rfl)
  refine F3 (e' := AU x69) rfl rfl rfl rfl rfl rfl rfl rfl nofun rfl ?_
  exact AnyW.of Jd rfl (cn rfl rfl rfl rfl)
 have a24_8 : AnyW Tryz.prog (fun _ => false) K3 JZ 6 [0, 1, 2, 3, 4, 10, 11, 12] ⟨AY [(2, .ptr 20802 0 0), (3, .ptr 20803 0 0), (5, .int .i64 v5l14), (6, .ptr 20806 0 0), (7, .ptr 20807 0 0)], AY [(20802, ⟨13, false, [AQ a0]⟩), (20803, ⟨13, false, [AQ a1]⟩), (20806, ⟨3, false, [AU x69]⟩), (20807, ⟨3, false, [.agg [.int .i64 0, .str ([] : List UInt8), .nl]]⟩)]⟩ ⟨AY [(2, .ptr 20802 0 0), (3, .ptr 20803 0 0), (5, .int .i64 v5l14), (6, .ptr 20806 0 0), (7, .ptr 20807 0 0)], AY [(20802, ⟨13, false, [AQ a0]⟩), (20803, ⟨13, false, [AQ a1]⟩), (20806, ⟨3, false, [AU x69]⟩), (20807, ⟨3, false, [AU QN]⟩)]⟩ := by
  refine yc (l := [5, 7]) rfl nofun ⟨⟨_, rfl, ?_⟩, ⟨_, rfl, ?_⟩, trivial⟩
  refine A7 rfl rfl ?_
  exact AnyW.of Pn rfl (cn rfl rfl rfl rfl)
  refine A7 rfl rfl ?_
  exact AnyW.of Jd rfl (cn rfl rfl rfl rfl)
 have a24_0 : AnyW Tryz.prog (fun _ => false) K3 JZ 7 [0, 1, 2, 3, 4, 10, 11] ⟨AY [(2, .ptr 20802 0 0), (3, .ptr 20803 0 0), (5, .int .i64 v5l14), (6, .ptr 20806 0 0), (7, .ptr 20807 0 0), (70, AU x69)], AY [(20802, ⟨13, false, [AQ a0]⟩), (20803, ⟨13, false, [AQ a1]⟩), (20806, ⟨3, false, [.agg [.int .i64 0, .str ([] : List UInt8), .nl]]⟩), (20807, ⟨3, false, [.agg [.int .i64 0, .str ([] : List UInt8), .nl]]⟩)]⟩ ⟨AY [(2, .ptr 20802 0 0), (3, .ptr 20803 0 0), (5, .int .i64 v5l14), (6, .ptr 20806 0 0), (7, .ptr 20807 0 0)], AY [(20802, ⟨13, false, [AQ a0]⟩), (20803, ⟨13, false, [AQ a1]⟩), (20806, ⟨3, false, [AU x69]⟩), (20807, ⟨3, false, [AU QN]⟩)]⟩ := by
  refine yc (l := [5, 7, 12]) rfl nofun ⟨⟨_, rfl, ?_⟩, ⟨_, rfl, ?_⟩, ⟨_, rfl, ?_⟩, trivial⟩
  refine A7 rfl rfl ?_
  exact AnyW.of Pt rfl (cn rfl rfl rfl rfl)
  refine A7 rfl rfl ?_
  exact AnyW.of Ps rfl (cn rfl rfl rfl rfl)
  refine F3 (e' := AU x69) rfl rfl rfl rfl rfl rfl rfl rfl nofun rfl ?_
  exact AnyW.of a24_8 rfl (cn rfl rfl rfl rfl)
 exact ⟨⟨2, AnyW.of Po rfl (cn rfl rfl rfl rfl)⟩, ⟨3, AnyW.of Pp rfl (cn rfl rfl rfl rfl)⟩, ⟨4, AnyW.of Iy rfl (cn rfl rfl rfl rfl)⟩, ⟨5, AnyW.of Pq rfl (cn rfl rfl rfl rfl)⟩, ⟨5, AnyW.of Iz rfl (cn rfl rfl rfl rfl)⟩, ⟨6, AnyW.of Pt rfl (cn rfl rfl rfl rfl)⟩, ⟨6, AnyW.of Ps rfl (cn rfl rfl rfl rfl)⟩, ⟨7, AnyW.of a24_0 rfl (cn rfl rfl rfl rfl)⟩, trivial⟩
 refine AJ ?_
 obtain ⟨g10, rU, h⟩ := AL h
 refine F9 ⟨AY [(2, .ptr 20802 0 0), (3, .ptr 20803 0 0), (5, .int .i64 v5l14), (6, .ptr 20806 0 0), (7, .ptr 20807 0 0), (96, .bool g10)], AY [(20802, ⟨13, false, [AQ a0]⟩), (20803, ⟨13, false, [AQ a1]⟩), (20806, ⟨3, false, [AU x69]⟩), (20807, ⟨3, false, [AU QN]⟩)]⟩ ?_ ?_
 have h := rU
 refine AC ?_
 iterate 6 refine A7 rfl rfl ?_
 rcases BO h with ⟨c11, h⟩ | ⟨c11, h⟩
 iterate 5 refine BK (gn rfl c11) ?_
 refine A7 rfl (BA c11 rfl rfl) ?_
 refine A7 rfl rfl ?_
 iterate 7 refine BK rfl ?_
 refine A7 rfl rfl ?_
 obtain rfl := AB h
 exact (cn rfl rfl rfl rfl)
 iterate 5 refine A7 (gy rfl c11) rfl ?_
 refine A7 rfl (AZ c11 rfl rfl) ?_
 refine A7 rfl rfl ?_
 rcases BO h with ⟨c12, h⟩ | ⟨c12, h⟩
 iterate 7 refine BK (gn rfl c12) ?_
 refine A7 rfl (BA c12 rfl rfl) ?_
 obtain rfl := AB h
 exact (cn rfl rfl rfl rfl)
 iterate 2 refine A7 (gy rfl c12) rfl ?_
 refine A7 (gy rfl c12) (BV rfl) ?_
 iterate 2 refine A7 (gy rfl c12) rfl ?_
 refine A7 (gy rfl c12) (BV rfl) ?_
 refine A7 (gy rfl c12) rfl ?_
 refine A7 rfl (AZ c12 rfl rfl) ?_
 cases AB h
 exact (cn rfl rfl rfl rfl)
 clear rU
 refine D8 h rfl (fun c13 h => ?_) (fun c13 h => ?_)
 refine AJ ?_
 refine AC ?_
 refine A7 rfl rfl ?_
 obtain rfl := AB h
 exact DU (st1 := ⟨AY [(4, .bool false)], AY []⟩) (cn rfl rfl rfl rfl) ⟨rfl, rfl⟩
 refine BF ?_
 refine AJ ?_
 refine AC ?_
 refine A7 rfl rfl ?_
 refine C9 ?_
 obtain ⟨Oi, hy16, h⟩ := AL h
 refine PT (RL N a0 a1 v5l14 x69 QN N _ _ hy16) (cn rfl rfl rfl rfl) ?_
 clear hy16
 rcases Oi with Oi | Oi
 rintro e s ⟨rfl, rfl⟩
 refine AC ?_
 refine A7 rfl rfl ?_
 refine A7 (p := .int .i64 (BQ (v5l14 + (1 : Int)))) rfl rfl ?_
 refine A7 rfl rfl ?_
 exact ⟨(BQ (v5l14 + (1 : Int))), (cn rfl rfl rfl rfl), h⟩
 rintro e s ⟨rfl, rfl⟩
 obtain rfl := AB h
 exact ⟨rfl, rfl⟩
 cases AB h
 exact CW (st1 := ⟨AY [], AY []⟩) (cn rfl rfl rfl rfl) ⟨rfl, rfl⟩
theorem MU (N : Nat) (a0 : AX) (a1 : AX) (r : Bool) (h : GM N a0 a1 = some r) : Sat Tryz.prog 13 AO [AQ a0, AQ a1] (.bool r) AO := by
 refine DT mixed Tryz.func13 Ur (rs := [.bool r]) rfl rfl ?_
 refine AJ ?_
 refine AC ?_
 refine CS rfl (FZ 20802 rfl rfl rfl rfl rfl) ?_
 refine CS rfl (FZ 20803 rfl rfl rfl rfl rfl) ?_
 refine A7 rfl rfl ?_
 refine AJ ?_
 obtain ⟨g1, hg1, h⟩ := AL h
 refine F9 ⟨AY [(2, .ptr 20802 0 0), (3, .ptr 20803 0 0), (58, .bool g1)], AY [(20802, ⟨13, false, [AQ a0]⟩), (20803, ⟨13, false, [AQ a1]⟩)]⟩ ?_ ?_
 have h := hg1
 refine AC ?_
 refine A7 rfl rfl ?_
 refine A7 (p := .agg [.int .i64 a0.CSN.Time, .int .i64 a0.CSN.Seq, .int .i64 a0.CSN.Rep]) rfl rfl ?_
 refine A7 rfl rfl ?_
 refine A7 (p := .agg [.int .i64 a1.CSN.Time, .int .i64 a1.CSN.Seq, .int .i64 a1.CSN.Rep]) rfl rfl ?_
 refine A7 (p := .bool (!(a0.CSN.Time == a1.CSN.Time && (a0.CSN.Seq == a1.CSN.Seq && (a0.CSN.Rep == a1.CSN.Rep && true))))) rfl rfl ?_
 refine A7 rfl rfl ?_
 rcases BO h with ⟨c2, h⟩ | ⟨c2, h⟩
 iterate 5 refine BK (gn rfl c2) ?_
 refine A7 rfl (BA c2 rfl rfl) ?_
 refine A7 rfl rfl ?_
 iterate 5 refine BK rfl ?_
 iterate 2 refine A7 rfl rfl ?_
 iterate 5 refine BK rfl ?_
 iterate 2 refine A7 rfl rfl ?_
 iterate 5 refine BK rfl ?_
 iterate 2 refine A7 rfl rfl ?_
 iterate 6 refine BK rfl ?_
 iterate 2 refine A7 rfl rfl ?_
 iterate 7 refine BK rfl ?_
 refine A7 rfl rfl ?_
 obtain rfl := AB h
 exact (cn rfl rfl rfl rfl)
 iterate 5 refine A7 (gy rfl c2) rfl ?_
 refine A7 rfl (AZ c2 rfl rfl) ?_
 refine A7 rfl rfl ?_
 rcases BO h with ⟨c3, h⟩ | ⟨c3, h⟩
 iterate 5 refine BK (gn rfl c3) ?_
 refine A7 rfl (BA c3 rfl rfl) ?_
 refine A7 rfl rfl ?_
 iterate 5 refine BK rfl ?_
 iterate 2 refine A7 rfl rfl ?_
 iterate 5 refine BK rfl ?_
 iterate 2 refine A7 rfl rfl ?_
 iterate 6 refine BK rfl ?_
 iterate 2 refine A7 rfl rfl ?_
 iterate 7 refine BK rfl ?_
 refine A7 rfl rfl ?_
 obtain rfl := AB h
 exact (cn rfl rfl rfl rfl)
 refine A7 (gy rfl c3) rfl ?_
 refine A7 (p := .agg [.int .i64 a0.ID.Time, .int .i64 a0.ID.Seq, .int .i64 a0.ID.Rep]) (gy rfl c3) rfl ?_
 refine A7 (gy rfl c3) rfl ?_
 refine A7 (p := .agg [.int .i64 a1.ID.Time, .int .i64 a1.ID.Seq, .int .i64 a1.ID.Rep]) (gy rfl c3) rfl ?_
 refine A7 (p := .bool (!(a0.ID.Time == a1.ID.Time && (a0.ID.Seq == a1.ID.Seq && (a0.ID.Rep == a1.ID.Rep && true))))) (gy rfl c3) rfl ?_
 refine A7 rfl (AZ c3 rfl rfl) ?_
 refine A7 rfl rfl ?_
 rcases BO h with ⟨c4, h⟩ | ⟨c4, h⟩
 iterate 5 refine BK (gn rfl c4) ?_
 refine A7 rfl (BA c4 rfl rfl) ?_
 refine A7 rfl rfl ?_
 iterate 5 refine BK rfl ?_
 iterate 2 refine A7 rfl rfl ?_
 iterate 6 refine BK rfl ?_
 iterate 2 refine A7 rfl rfl ?_
 iterate 7 refine BK rfl ?_
 refine A7 rfl rfl ?_
 obtain rfl := AB h
 exact (cn rfl rfl rfl rfl)
 refine A7 (gy rfl c4) rfl ?_
 refine A7 (p := .agg [.int .i64 a0.Parent.Time, .int .i64 a0.Parent.Seq, .int .i64 a0.Parent.Rep]) (gy rfl c4) rfl ?_
 refine A7 (gy rfl c4) rfl ?_
 refine A7 (p := .agg [.int .i64 a1.Parent.Time, .int .i64 a1.Parent.Seq, .int .i64 a1.Parent.Rep]) (gy rfl c4) rfl ?_
 refine A7 (p := .bool (!(a0.Parent.Time == a1.Parent.Time && (a0.Parent.Seq == a1.Parent.Seq && (a0.Parent.Rep == a1.Parent.Rep && true))))) (gy rfl c4) rfl ?_
 refine A7 rfl (AZ c4 rfl rfl) ?_
 refine A7 rfl rfl ?_
 rcases BO h with ⟨c5, h⟩ | ⟨c5, h⟩
 iterate 5 refine BK (gn rfl c5) ?_
 refine A7 rfl (BA c5 rfl rfl) ?_
 refine A7 rfl rfl ?_
 iterate 6 refine BK rfl ?_
 iterate 2 refine A7 rfl rfl ?_
 iterate 7 refine BK rfl ?_
 refine A7 rfl rfl ?_
 obtain rfl := AB h
 exact (cn rfl rfl rfl rfl)
 iterate 5 refine A7 (gy rfl c5) rfl ?_
 refine A7 rfl (AZ c5 rfl rfl) ?_
 refine A7 rfl rfl ?_
 rcases BO h with ⟨c6, h⟩ | ⟨c6, h⟩
 iterate 6 refine BK (gn rfl c6) ?_
 refine A7 rfl (BA c6 rfl rfl) ?_
 refine A7 rfl rfl ?_
 iterate 7 refine BK rfl ?_
 refine A7 rfl rfl ?_
 obtain rfl := AB h
 exact (cn rfl rfl rfl rfl)
 iterate 4 refine A7 (gy rfl c6) rfl ?_
 obtain ⟨dV, oL, h⟩ := AL h
 refine CS (gy rfl c6) (CG (WA N _ _ _ oL) rfl (.cons A9 (.cons A9 .nil)) rfl rfl rfl) ?_
 refine A7 (gy rfl c6) rfl ?_
 refine A7 rfl (AZ c6 rfl rfl) ?_
 refine A7 rfl rfl ?_
 rcases BO h with ⟨c7, h⟩ | ⟨c7, h⟩
 iterate 7 refine BK (gn rfl c7) ?_
 refine A7 rfl (BA c7 rfl rfl) ?_
 obtain rfl := AB h
 exact (cn rfl rfl rfl rfl)
 iterate 2 refine A7 (gy rfl c7) rfl ?_
 refine A7 (gy rfl c7) (BV rfl) ?_
 iterate 2 refine A7 (gy rfl c7) rfl ?_
 refine A7 (gy rfl c7) (BV rfl) ?_
 refine A7 (gy rfl c7) rfl ?_
 refine A7 rfl (AZ c7 rfl rfl) ?_
 cases AB h
 exact (cn rfl rfl rfl rfl)
 clear hg1
 refine D8 h rfl (fun c8 h => ?_) (fun c8 h => ?_)
 refine AJ ?_
 refine AC ?_
 refine A7 rfl rfl ?_
 obtain rfl := AB h
 refine BS ?_
 exact ⟨nofun, rfl, rfl⟩
 refine BF ?_
 iterate 2 refine AJ ?_
 refine AC ?_
 refine A7 rfl rfl ?_
 refine C9 ?_
 obtain ⟨pM, Fz, h⟩ := AL h
 refine PT (RN N a0 a1 N _ _ Fz) (cn rfl rfl rfl rfl) ?_
 clear Fz
 rcases pM with pM | pM
 rintro e s ⟨rfl, rfl⟩
 refine AJ ?_
 refine AC ?_
 refine A7 rfl rfl ?_
 obtain rfl := AB h
 refine BS ?_
 exact ⟨nofun, rfl, rfl⟩
 rintro e s ⟨rfl, rfl⟩
 obtain rfl := AB h
 exact ⟨nofun, rfl, rfl⟩
end Go.Gp
end
section
set_option linter.unusedVariables false
namespace Go.Gp
open Go.Vd Go.RowKit Go.Proofs Go.Shelf Go.Lib
def ren40 : Ren := ⟨fun | 41 => 40 | n => n, fun | 22 => 25 | 23 => 41 | 4 => 4 | n => n, fun | n => n⟩
theorem Qy : SlLaysE0.n41 Tryz.prog ren40 := {
 mixed := by kernel_rfl
 f41 := ⟨Tryz.f40.name, by decide, Tryz.func40.trans (congrArg some (by kernel_rfl))⟩
 t4 := Tryz.underlying4
 a4 := Tryz.isAgg4
 z4 := Tryz.sizeOf4
 v4 := Tryz.zeroValue4
 t22 := Tryz.underlying25
 a22 := Tryz.isAgg25
 z22 := Tryz.sizeOf25
 v22 := Tryz.zeroValue25 }
def ren41 : Ren := ⟨fun | 41 => 41 | n => n, fun | 22 => 26 | 23 => 44 | 4 => 4 | n => n, fun | n => n⟩
theorem Qw : SlLaysE0.n41 Tryz.prog ren41 := {
 mixed := by kernel_rfl
 f41 := ⟨Tryz.f41.name, by decide, Tryz.func41.trans (congrArg some (by kernel_rfl))⟩
 t4 := Tryz.underlying4
 a4 := Tryz.isAgg4
 z4 := Tryz.sizeOf4
 v4 := Tryz.zeroValue4
 t22 := Tryz.underlying26
 a22 := Tryz.isAgg26
 z22 := Tryz.sizeOf26
 v22 := Tryz.zeroValue26 }
theorem i41 : (Tryz.prog.info? 41).map (fun i => (i.zero, i.size, i.bytes)) = some (some (Value.agg #[.string { data := #[] }, .string { data := #[] }]), 2, 32) := by kernel_rfl
theorem i44 : (Tryz.prog.info? 44).map (fun i => (i.zero, i.size, i.bytes)) = some (some (Value.agg #[.int .i64 0, .string { data := #[] }, .slice none 0 0]), 3, 48) := by kernel_rfl
theorem i9 : (Tryz.prog.info? 9).map (fun i => (i.zero, i.size, i.bytes)) = some (some (Value.string { data := #[] }), 1, 16) := by kernel_rfl
theorem qG {α : Type} (f : α → PV) {l r : List α} (t : Nat) (hty : LK t = none) (h : YS 32 l = some r) : Sat Tryz.prog 40 AO [.sl 2 (List.map f l)] (.slr t 0 r.length) (AY [(t, ⟨2, true, List.map f r⟩)]) := by
 obtain ⟨rfl, h1, h2⟩ := bF h
 obtain ⟨i, e1, e2, e3, e4⟩ := info_parts i41
 have := eQ Qy i _ 2 32 e1 e2 e3 e4 rfl (by decide) Tryz.sizeOf41 (t := t) hty (xs := List.map f r) (by simpa using h1) (by simpa using h2)
 rw [List.length_map] at this
 exact this
theorem qF {α : Type} (f : α → PV) {l r : List α} (t : Nat) (hty : LK t = none) (h : YS 48 l = some r) : Sat Tryz.prog 41 AO [.sl 3 (List.map f l)] (.slr t 0 r.length) (AY [(t, ⟨3, true, List.map f r⟩)]) := by
 obtain ⟨rfl, h1, h2⟩ := bF h
 obtain ⟨i, e1, e2, e3, e4⟩ := info_parts i44
 have := eQ Qw i _ 3 48 e1 e2 e3 e4 rfl (by decide) Tryz.sizeOf44 (t := t) hty (xs := List.map f r) (by simpa using h1) (by simpa using h2)
 rw [List.length_map] at this
 exact this
theorem qE {α : Type} (f : α → PV) {l r : List α} (t : Nat) (hty : LK t = none) (h : YS 16 l = some r) : Sat Tryz.prog 42 AO [.sl 1 (List.map f l)] (.slr t 0 r.length) (AY [(t, ⟨1, true, List.map f r⟩)]) := by
 obtain ⟨rfl, h1, h2⟩ := bF h
 obtain ⟨i, e1, e2, e3, e4⟩ := info_parts i9
 have := eQ Tryz.laysSlE041_f42 i _ 1 16 e1 e2 e3 e4 rfl (by decide) Tryz.sizeOf9 (t := t) hty (xs := List.map f r) (by simpa using h1) (by simpa using h2)
 rw [List.length_map] at this
 exact this
end Go.Gp
end
section
set_option linter.unusedVariables false
set_option linter.unusedSimpArgs false
set_option maxRecDepth 4000
set_option maxHeartbeats 4000000
namespace Go.Gp
open Go.Vd Go.RowKit Go.Proofs
def yB : IC := (.seq (.reg [jb .lss 17 16 15]) (.seq (.cond (.t 17) .skip (.exit 0)) (.seq (.block 1 (.seq (.reg [jm 18 16, jx 19 3 14 16, jg 20 3 19, jn 4 (.box 44 (.c (.agg [(j6 0), (.str []), .nl]))), jm 3 18, js 3 4 20]) (.regd 8 [ja 21 12 1, jl 22 1 21, jm 23 3, ja 24 2 4, jl 25 1 24, jn 26 (.call 42 [(.t 25)]), jx 27 3 22 23, ja 28 2 27, js 1 28 26]))) (.reg [ju .add 29 16 1, jm 16 29]))))
def k15 : IC := (.seq (.reg [jn 1 (.box 28 (.t 0)), jn 2 (.box 28 (.c (.agg [(j6 0), (j6 0), (j6 0), (j6 0), (j6 0), (j6 0), (j6 0), (j6 0), (j6 0), (j6 0), .nl, (.bool false), .nl])))]) (.seq (.reg [ja 5 10 1, jl 6 1 5, jn 7 (.call 40 [(.t 6)]), ja 8 10 1, js 1 8 7]) (.seq (.reg [ja 9 12 1, jl 10 1 9, jn 11 (.call 41 [(.t 10)]), ja 12 12 1, js 1 12 11]) (.seq (.seq (.reg [ja 13 12 1, jl 14 1 13, jL 15 14, jc 16 (j6 0)]) (.block 0 (.loop yB))) (.seq (.reg [jg 30 13 1, js 13 2 30]) .ret)))))
theorem Uq : BX Tryz.prog Tryz.f15 = some ⟨31, k15, [(.cell 13 true 2)]⟩ := by kernel_rfl
theorem bT (N : Nat) (KW : List BC) : ∀ (n : Nat) (x : Int × Int × Int × Int × Int × Int × Int × Int × Int × Int × Int × Bool × List AP × List BC) (y : Int × Int × Int × Int × Int × Int × Int × Int × Int × Int × Bool × List AP × List BC), OT N KW n x = some y → WX Tryz.prog (fun _ => false) (.loop yB) ((fun (x : Int × Int × Int × Int × Int × Int × Int × Int × Int × Int × Int × Bool × List AP × List BC) => ⟨AY [(1, .ptr 24001 0 0), (2, .ptr 24002 0 0), (14, .slr 24011 0 x.2.2.2.2.2.2.2.2.2.2.2.2.2.length), (15, .int .i64 (KW.length : Int)), (16, .int .i64 x.1)], AY [(24001, ⟨13, false, [.agg [.int .i64 x.2.1, .int .i64 x.2.2.1, .int .i64 x.2.2.2.1, .int .i64 x.2.2.2.2.1, .int .i64 x.2.2.2.2.2.1, .int .i64 x.2.2.2.2.2.2.1, .int .i64 x.2.2.2.2.2.2.2.1, .int .i64 x.2.2.2.2.2.2.2.2.1, .int .i64 x.2.2.2.2.2.2.2.2.2.1, .int .i64 x.2.2.2.2.2.2.2.2.2.2.1, .slr 24007 0 x.2.2.2.2.2.2.2.2.2.2.2.2.1.length, .bool x.2.2.2.2.2.2.2.2.2.2.2.1, .slr 24011 0 x.2.2.2.2.2.2.2.2.2.2.2.2.2.length]]⟩), (24002, ⟨13, false, [.agg [.int .i64 0, .int .i64 0, .int .i64 0, .int .i64 0, .int .i64 0, .int .i64 0, .int .i64 0, .int .i64 0, .int .i64 0, .int .i64 0, .nl, .bool false, .nl]]⟩), (24007, ⟨2, true, List.map AV x.2.2.2.2.2.2.2.2.2.2.2.2.1⟩), (24011, ⟨3, true, List.map AU x.2.2.2.2.2.2.2.2.2.2.2.2.2⟩)]⟩) x) ((fun y e s => e = .exit 0 ∧ s = ⟨AY [(1, .ptr 24001 0 0), (2, .ptr 24002 0 0)], AY [(24001, ⟨13, false, [.agg [.int .i64 y.1, .int .i64 y.2.1, .int .i64 y.2.2.1, .int .i64 y.2.2.2.1, .int .i64 y.2.2.2.2.1, .int .i64 y.2.2.2.2.2.1, .int .i64 y.2.2.2.2.2.2.1, .int .i64 y.2.2.2.2.2.2.2.1, .int .i64 y.2.2.2.2.2.2.2.2.1, .int .i64 y.2.2.2.2.2.2.2.2.2.1, .slr 24007 0 y.2.2.2.2.2.2.2.2.2.2.2.1.length, .bool y.2.2.2.2.2.2.2.2.2.2.1, .slr 24011 0 y.2.2.2.2.2.2.2.2.2.2.2.2.length]]⟩), (24002, ⟨13, false, [.agg [.int .i64 0, .int .i64 0, .int .i64 0, .int .i64 0, .int .i64 0, .int .i64 0, .int .i64 0, .int .i64 0, .int .i64 0, .int .i64 0, .nl, .bool false, .nl]]⟩), (24007, ⟨2, true, List.map AV y.2.2.2.2.2.2.2.2.2.2.2.1⟩), (24011, ⟨3, true, List.map AU y.2.2.2.2.2.2.2.2.2.2.2.2⟩)]⟩ : (Int × Int × Int × Int × Int × Int × Int × Int × Int × Int × Bool × List AP × List BC) → Xt → St → Prop) y) := by
 refine EQ _ _ (OT N KW) (UX N KW) (fun _ => rfl) (fun _ _ => rfl) ?_
 rintro rec ⟨aK, NJ, NI, NH, NG, NF, NE, ND, NC, NB, NA, LQ, PO, H6⟩ y h
 refine AJ ?_
 refine AC ?_
 refine A7 rfl rfl ?_
 refine AJ ?_
 refine D8 h rfl (fun c1 h => ?_) (fun c1 h => ?_)
 refine BF ?_
 refine AJ ?_
 refine C9 ?_
 refine AJ ?_
 refine AC ?_
 refine A7 rfl rfl ?_
 obtain ⟨PR, YH, h⟩ := AL h
 refine A7 rfl (QA YH rfl rfl rfl rfl) ?_
 obtain ⟨x20, aU, h⟩ := AL h
 refine A7 rfl (UM (f := AU) (v := AU x20) aU rfl rfl rfl) ?_
 refine CS rfl (FZ 24004 rfl rfl rfl rfl rfl) ?_
 refine A7 rfl rfl ?_
 refine F3 (e' := AU x20) rfl rfl rfl rfl rfl rfl rfl rfl nofun rfl ?_
 refine OD ?_
 iterate 5 refine DL rfl rfl ?_
 obtain ⟨KZ, oP, h⟩ := AL h
 refine TF rfl (Oq [(24026, ⟨1, true, List.map PV.str KZ⟩)] (qE PV.str 24026 rfl oP) rfl (.cons A9 .nil) rfl rfl rfl rfl) (Vv rfl) ?_
 obtain ⟨x27, hx27, h⟩ := AL h
 refine DL rfl (QA hx27 rfl rfl rfl rfl) ?_
 refine DL rfl rfl ?_
 refine wn (CB.trans (Vd.freeze 24026 _ rfl rfl rfl) (KN 26 (GQ (congrArg (PV.sl 1) (BR (f := PV.str) (l := KZ)))) rfl)) ?_
 obtain ⟨VN, Ux, h⟩ := AL h
 refine Cb (f := AU) (e' := (⟨VN.Kind, VN.Attr, KZ⟩ : BC)) Ux rfl rfl rfl rfl rfl rfl rfl rfl (fun _ => rfl) rfl ?_
 refine AC ?_
 refine A7 (p := .int .i64 (BQ (aK + (1 : Int)))) rfl rfl ?_
 refine A7 rfl rfl ?_
 exact ⟨((BQ (aK + (1 : Int))), NJ, NI, NH, NG, NF, NE, ND, NC, NB, NA, LQ, PO, (H6.set x27 (⟨VN.Kind, VN.Attr, KZ⟩ : BC))), (CB.trans (KN 14 (GQ (congrArg (PV.slr 24011 0) (by simp only [List.length_set, List.length_replicate] : H6.length = (H6.set x27 (⟨VN.Kind, VN.Attr, KZ⟩ : BC)).length))) rfl) (CB.trans (uB 24001 (x := .agg [.int .i64 NJ, .int .i64 NI, .int .i64 NH, .int .i64 NG, .int .i64 NF, .int .i64 NE, .int .i64 ND, .int .i64 NC, .int .i64 NB, .int .i64 NA, .slr 24007 0 PO.length, .bool LQ, .slr 24011 0 H6.length]) (y := .agg [.int .i64 NJ, .int .i64 NI, .int .i64 NH, .int .i64 NG, .int .i64 NF, .int .i64 NE, .int .i64 ND, .int .i64 NC, .int .i64 NB, .int .i64 NA, .slr 24007 0 PO.length, .bool LQ, .slr 24011 0 ((H6.set x27 (⟨VN.Kind, VN.Attr, KZ⟩ : BC)).length)]) (.cons A9 (.cons A9 (.cons A9 (.cons A9 (.cons A9 (.cons A9 (.cons A9 (.cons A9 (.cons A9 (.cons A9 (.cons A9 (.cons A9 (.cons (GQ (congrArg (PV.slr 24011 0) (by simp only [List.length_set, List.length_replicate] : H6.length = (H6.set x27 (⟨VN.Kind, VN.Attr, KZ⟩ : BC)).length))) .nil))))))))))))) rfl rfl) (cn rfl rfl rfl rfl))), h⟩
 cases AB h
 exact CW (st1 := ⟨AY [(1, .ptr 24001 0 0), (2, .ptr 24002 0 0)], AY [(24001, ⟨13, false, [.agg [.int .i64 NJ, .int .i64 NI, .int .i64 NH, .int .i64 NG, .int .i64 NF, .int .i64 NE, .int .i64 ND, .int .i64 NC, .int .i64 NB, .int .i64 NA, .slr 24007 0 PO.length, .bool LQ, .slr 24011 0 H6.length]]⟩), (24002, ⟨13, false, [.agg [.int .i64 0, .int .i64 0, .int .i64 0, .int .i64 0, .int .i64 0, .int .i64 0, .int .i64 0, .int .i64 0, .int .i64 0, .int .i64 0, .nl, .bool false, .nl]]⟩), (24007, ⟨2, true, List.map AV PO⟩), (24011, ⟨3, true, List.map AU H6⟩)]⟩) (cn rfl rfl rfl rfl) ⟨rfl, rfl⟩
theorem gN (N : Nat) (a0 : AX) (r : AX) (h : gB N a0 = some r) : Sat Tryz.prog 15 AO [AQ a0] (AQ r) AO := by
 refine DT mixed Tryz.func15 Uq (rs := [AQ r]) rfl rfl ?_
 refine AJ ?_
 refine AC ?_
 refine CS rfl (FZ 24001 rfl rfl rfl rfl rfl) ?_
 refine CS rfl (FZ 24002 rfl rfl rfl rfl rfl) ?_
 refine AJ ?_
 refine AC ?_
 iterate 2 refine A7 rfl rfl ?_
 obtain ⟨x7, hx7, h⟩ := AL h
 refine CS rfl (Ov [(24007, ⟨2, true, List.map AV x7⟩)] (qG AV 24007 rfl hx7) rfl (.cons A9 .nil) rfl rfl rfl rfl rfl) ?_
 refine A7 rfl rfl ?_
 refine F3 (e' := .agg [.int .i64 a0.CSN.Time, .int .i64 a0.CSN.Seq, .int .i64 a0.CSN.Rep, .int .i64 a0.Kind, .int .i64 a0.ID.Time, .int .i64 a0.ID.Seq, .int .i64 a0.ID.Rep, .int .i64 a0.Parent.Time, .int .i64 a0.Parent.Seq, .int .i64 a0.Parent.Rep, .slr 24007 0 x7.length, .bool a0.DelOld, .sl 3 (List.map AU a0.Mods)]) rfl rfl rfl rfl rfl rfl rfl rfl nofun rfl ?_
 refine AJ ?_
 refine AC ?_
 iterate 2 refine A7 rfl rfl ?_
 obtain ⟨KW, aW, h⟩ := AL h
 refine CS rfl (Ov [(24011, ⟨3, true, List.map AU KW⟩)] (qF AU 24011 rfl aW) rfl (.cons A9 .nil) rfl rfl rfl rfl rfl) ?_
 refine A7 rfl rfl ?_
 refine F3 (e' := .agg [.int .i64 a0.CSN.Time, .int .i64 a0.CSN.Seq, .int .i64 a0.CSN.Rep, .int .i64 a0.Kind, .int .i64 a0.ID.Time, .int .i64 a0.ID.Seq, .int .i64 a0.ID.Rep, .int .i64 a0.Parent.Time, .int .i64 a0.Parent.Seq, .int .i64 a0.Parent.Rep, .slr 24007 0 x7.length, .bool a0.DelOld, .slr 24011 0 KW.length]) rfl rfl rfl rfl rfl rfl rfl rfl nofun rfl ?_
 iterate 2 refine AJ ?_
 refine AC ?_
 iterate 4 refine A7 rfl rfl ?_
 refine C9 ?_
 obtain ⟨y3, hy3, h⟩ := AL h
 refine PT (bT N KW N _ _ hy3) (cn rfl rfl rfl rfl) ?_
 rintro e s ⟨rfl, rfl⟩
 refine AJ ?_
 refine AC ?_
 refine A7 (p := .agg [.int .i64 y3.1, .int .i64 y3.2.1, .int .i64 y3.2.2.1, .int .i64 y3.2.2.2.1, .int .i64 y3.2.2.2.2.1, .int .i64 y3.2.2.2.2.2.1, .int .i64 y3.2.2.2.2.2.2.1, .int .i64 y3.2.2.2.2.2.2.2.1, .int .i64 y3.2.2.2.2.2.2.2.2.1, .int .i64 y3.2.2.2.2.2.2.2.2.2.1, .slr 24007 0 y3.2.2.2.2.2.2.2.2.2.2.2.1.length, .bool y3.2.2.2.2.2.2.2.2.2.2.1, .slr 24011 0 y3.2.2.2.2.2.2.2.2.2.2.2.2.length]) rfl rfl ?_
 refine F3 (e' := .agg [.int .i64 y3.1, .int .i64 y3.2.1, .int .i64 y3.2.2.1, .int .i64 y3.2.2.2.1, .int .i64 y3.2.2.2.2.1, .int .i64 y3.2.2.2.2.2.1, .int .i64 y3.2.2.2.2.2.2.1, .int .i64 y3.2.2.2.2.2.2.2.1, .int .i64 y3.2.2.2.2.2.2.2.2.1, .int .i64 y3.2.2.2.2.2.2.2.2.2.1, .slr 24007 0 y3.2.2.2.2.2.2.2.2.2.2.2.1.length, .bool y3.2.2.2.2.2.2.2.2.2.2.1, .slr 24011 0 y3.2.2.2.2.2.2.2.2.2.2.2.2.length]) rfl rfl rfl rfl rfl rfl rfl rfl nofun rfl ?_
 cases AB h
 refine DU (st1 := ⟨AY [(2, .ptr 24002 0 0)], AY [(24002, ⟨13, false, [AQ (⟨(⟨y3.1, y3.2.1, y3.2.2.1⟩ : AR), y3.2.2.2.1, (⟨y3.2.2.2.2.1, y3.2.2.2.2.2.1, y3.2.2.2.2.2.2.1⟩ : AR), (⟨y3.2.2.2.2.2.2.2.1, y3.2.2.2.2.2.2.2.2.1, y3.2.2.2.2.2.2.2.2.2.1⟩ : AR), y3.2.2.2.2.2.2.2.2.2.2.2.1, y3.2.2.2.2.2.2.2.2.2.2.1, y3.2.2.2.2.2.2.2.2.2.2.2.2⟩ : AX)]⟩)]⟩) (CB.trans (Vd.freeze 24007 _ rfl rfl rfl) (CB.trans (Vd.freeze 24011 _ rfl rfl rfl) (CB.trans (uB 24002 (x := .agg [.int .i64 y3.1, .int .i64 y3.2.1, .int .i64 y3.2.2.1, .int .i64 y3.2.2.2.1, .int .i64 y3.2.2.2.2.1, .int .i64 y3.2.2.2.2.2.1, .int .i64 y3.2.2.2.2.2.2.1, .int .i64 y3.2.2.2.2.2.2.2.1, .int .i64 y3.2.2.2.2.2.2.2.2.1, .int .i64 y3.2.2.2.2.2.2.2.2.2.1, .sl 2 (List.take y3.2.2.2.2.2.2.2.2.2.2.2.1.length (List.drop 0 (List.map AV y3.2.2.2.2.2.2.2.2.2.2.2.1))), .bool y3.2.2.2.2.2.2.2.2.2.2.1, .sl 3 (List.take y3.2.2.2.2.2.2.2.2.2.2.2.2.length (List.drop 0 (List.map AU y3.2.2.2.2.2.2.2.2.2.2.2.2)))]) (y := .agg [.int .i64 (((⟨(⟨y3.1, y3.2.1, y3.2.2.1⟩ : AR), y3.2.2.2.1, (⟨y3.2.2.2.2.1, y3.2.2.2.2.2.1, y3.2.2.2.2.2.2.1⟩ : AR), (⟨y3.2.2.2.2.2.2.2.1, y3.2.2.2.2.2.2.2.2.1, y3.2.2.2.2.2.2.2.2.2.1⟩ : AR), y3.2.2.2.2.2.2.2.2.2.2.2.1, y3.2.2.2.2.2.2.2.2.2.2.1, y3.2.2.2.2.2.2.2.2.2.2.2.2⟩ : AX).CSN).Time), .int .i64 (((⟨(⟨y3.1, y3.2.1, y3.2.2.1⟩ : AR), y3.2.2.2.1, (⟨y3.2.2.2.2.1, y3.2.2.2.2.2.1, y3.2.2.2.2.2.2.1⟩ : AR), (⟨y3.2.2.2.2.2.2.2.1, y3.2.2.2.2.2.2.2.2.1, y3.2.2.2.2.2.2.2.2.2.1⟩ : AR), y3.2.2.2.2.2.2.2.2.2.2.2.1, y3.2.2.2.2.2.2.2.2.2.2.1, y3.2.2.2.2.2.2.2.2.2.2.2.2⟩ : AX).CSN).Seq), .int .i64 (((⟨(⟨y3.1, y3.2.1, y3.2.2.1⟩ : AR), y3.2.2.2.1, (⟨y3.2.2.2.2.1, y3.2.2.2.2.2.1, y3.2.2.2.2.2.2.1⟩ : AR), (⟨y3.2.2.2.2.2.2.2.1, y3.2.2.2.2.2.2.2.2.1, y3.2.2.2.2.2.2.2.2.2.1⟩ : AR), y3.2.2.2.2.2.2.2.2.2.2.2.1, y3.2.2.2.2.2.2.2.2.2.2.1, y3.2.2.2.2.2.2.2.2.2.2.2.2⟩ : AX).CSN).Rep), .int .i64 ((⟨(⟨y3.1, y3.2.1, y3.2.2.1⟩ : AR), y3.2.2.2.1, (⟨y3.2.2.2.2.1, y3.2.2.2.2.2.1, y3.2.2.2.2.2.2.1⟩ : AR), (⟨y3.2.2.2.2.2.2.2.1, y3.2.2.2.2.2.2.2.2.1, y3.2.2.2.2.2.2.2.2.2.1⟩ : AR), y3.2.2.2.2.2.2.2.2.2.2.2.1, y3.2.2.2.2.2.2.2.2.2.2.1, y3.2.2.2.2.2.2.2.2.2.2.2.2⟩ : AX).Kind), .int .i64 (((⟨(⟨y3.1, y3.2.1, y3.2.2.1⟩ : AR), y3.2.2.2.1, (⟨y3.2.2.2.2.1, y3.2.2.2.2.2.1, y3.2.2.2.2.2.2.1⟩ : AR), (⟨y3.2.2.2.2.2.2.2.1, y3.2.2.2.2.2.2.2.2.1, y3.2.2.2.2.2.2.2.2.2.1⟩ : AR), y3.2.2.2.2.2.2.2.2.2.2.2.1, y3.2.2.2.2.2.2.2.2.2.2.1, y3.2.2.2.2.2.2.2.2.2.2.2.2⟩ : AX).ID).Time), .int .i64 (((⟨(⟨y3.1, y3.2.1, y3.2.2.1⟩ : AR), y3.2.2.2.1, (⟨y3.2.2.2.2.1, y3.2.2.2.2.2.1, y3.2.2.2.2.2.2.1⟩ : AR), (⟨y3.2.2.2.2.2.2.2.1, y3.2.2.2.2.2.2.2.2.1, y3.2.2.2.2.2.2.2.2.2.1⟩ : AR), y3.2.2.2.2.2.2.2.2.2.2.2.1, y3.2.2.2.2.2.2.2.2.2.2.1, y3.2.2.2.2.2.2.2.2.2.2.2.2⟩ : AX).ID).Seq), .int .i64 (((⟨(⟨y3.1, y3.2.1, y3.2.2.1⟩ : AR), y3.2.2.2.1, (⟨y3.2.2.2.2.1, y3.2.2.2.2.2.1, y3.2.2.2.2.2.2.1⟩ : AR), (⟨y3.2.2.2.2.2.2.2.1, y3.2.2.2.2.2.2.2.2.1, y3.2.2.2.2.2.2.2.2.2.1⟩ : AR), y3.2.2.2.2.2.2.2.2.2.2.2.1, y3.2.2.2.2.2.2.2.2.2.2.1, y3.2.2.2.2.2.2.2.2.2.2.2.2⟩ : AX).ID).Rep), .int .i64 (((⟨(⟨y3.1, y3.2.1, y3.2.2.1⟩ : AR), y3.2.2.2.1, (⟨y3.2.2.2.2.1, y3.2.2.2.2.2.1, y3.2.2.2.2.2.2.1⟩ : AR), (⟨y3.2.2.2.2.2.2.2.1, y3.2.2.2.2.2.2.2.2.1, y3.2.2.2.2.2.2.2.2.2.1⟩ : AR), y3.2.2.2.2.2.2.2.2.2.2.2.1, y3.2.2.2.2.2.2.2.2.2.2.1, y3.2.2.2.2.2.2.2.2.2.2.2.2⟩ : AX).Parent).Time), .int .i64 (((⟨(⟨y3.1, y3.2.1, y3.2.2.1⟩ : AR), y3.2.2.2.1, (⟨y3.2.2.2.2.1, y3.2.2.2.2.2.1, y3.2.2.2.2.2.2.1⟩ : AR), (⟨y3.2.2.2.2.2.2.2.1, y3.2.2.2.2.2.2.2.2.1, y3.2.2.2.2.2.2.2.2.2.1⟩ : AR), y3.2.2.2.2.2.2.2.2.2.2.2.1, y3.2.2.2.2.2.2.2.2.2.2.1, y3.2.2.2.2.2.2.2.2.2.2.2.2⟩ : AX).Parent).Seq), .int .i64 (((⟨(⟨y3.1, y3.2.1, y3.2.2.1⟩ : AR), y3.2.2.2.1, (⟨y3.2.2.2.2.1, y3.2.2.2.2.2.1, y3.2.2.2.2.2.2.1⟩ : AR), (⟨y3.2.2.2.2.2.2.2.1, y3.2.2.2.2.2.2.2.2.1, y3.2.2.2.2.2.2.2.2.2.1⟩ : AR), y3.2.2.2.2.2.2.2.2.2.2.2.1, y3.2.2.2.2.2.2.2.2.2.2.1, y3.2.2.2.2.2.2.2.2.2.2.2.2⟩ : AX).Parent).Rep), .sl 2 (List.map AV ((⟨(⟨y3.1, y3.2.1, y3.2.2.1⟩ : AR), y3.2.2.2.1, (⟨y3.2.2.2.2.1, y3.2.2.2.2.2.1, y3.2.2.2.2.2.2.1⟩ : AR), (⟨y3.2.2.2.2.2.2.2.1, y3.2.2.2.2.2.2.2.2.1, y3.2.2.2.2.2.2.2.2.2.1⟩ : AR), y3.2.2.2.2.2.2.2.2.2.2.2.1, y3.2.2.2.2.2.2.2.2.2.2.1, y3.2.2.2.2.2.2.2.2.2.2.2.2⟩ : AX).RDN)), .bool ((⟨(⟨y3.1, y3.2.1, y3.2.2.1⟩ : AR), y3.2.2.2.1, (⟨y3.2.2.2.2.1, y3.2.2.2.2.2.1, y3.2.2.2.2.2.2.1⟩ : AR), (⟨y3.2.2.2.2.2.2.2.1, y3.2.2.2.2.2.2.2.2.1, y3.2.2.2.2.2.2.2.2.2.1⟩ : AR), y3.2.2.2.2.2.2.2.2.2.2.2.1, y3.2.2.2.2.2.2.2.2.2.2.1, y3.2.2.2.2.2.2.2.2.2.2.2.2⟩ : AX).DelOld), .sl 3 (List.map AU ((⟨(⟨y3.1, y3.2.1, y3.2.2.1⟩ : AR), y3.2.2.2.1, (⟨y3.2.2.2.2.1, y3.2.2.2.2.2.1, y3.2.2.2.2.2.2.1⟩ : AR), (⟨y3.2.2.2.2.2.2.2.1, y3.2.2.2.2.2.2.2.2.1, y3.2.2.2.2.2.2.2.2.2.1⟩ : AR), y3.2.2.2.2.2.2.2.2.2.2.2.1, y3.2.2.2.2.2.2.2.2.2.2.1, y3.2.2.2.2.2.2.2.2.2.2.2.2⟩ : AX).Mods))]) (.cons A9 (.cons A9 (.cons A9 (.cons A9 (.cons A9 (.cons A9 (.cons A9 (.cons A9 (.cons A9 (.cons A9 (.cons (GQ (congrArg (PV.sl 2) (BR (f := AV) (l := y3.2.2.2.2.2.2.2.2.2.2.2.1)))) (.cons A9 (.cons (GQ (congrArg (PV.sl 3) (BR (f := AU) (l := y3.2.2.2.2.2.2.2.2.2.2.2.2)))) .nil))))))))))))) rfl rfl) (cn rfl rfl rfl rfl)))) ?_
 exact ⟨nofun, rfl, rfl⟩
end Go.Gp
end
section
set_option linter.unusedVariables false
set_option linter.unusedSimpArgs false
set_option maxRecDepth 4000
namespace Go.Gp
open Go.Vd Go.RowKit Go.Proofs
def xU : IC := (.seq (.reg [jb .lss 14 13 12]) (.seq (.cond (.t 14) .skip (.exit 0)) (.seq (.block 1 (.seq (.reg [jm 15 13, jm 5 15]) (.seq (.regd 9 [jm 16 0, jm 17 5, jx 18 1 16 17, jl 19 1 18, jm 20 1, jm 21 5, jx 22 1 20 21, jl 23 1 22, jb .neq 24 19 23]) (.cond (.t 24) (.seq (.reg [jc 4 (.bool false)]) .ret) .skip)))) (.reg [ju .add 25 13 1, jm 13 25]))))
def k37 : IC := (.seq (.reg [jc 4 (.bool false)]) (.seq (.seq (.reg [jm 6 0, jL 7 6, jm 8 1, jL 9 8, jb .neq 10 7 9]) (.cond (.t 10) (.seq (.reg [jc 4 (.bool false)]) .ret) .skip)) (.seq (.seq (.reg [jm 11 0, jL 12 11, jc 13 (j6 0)]) (.block 0 (.loop xU))) (.seq (.reg [jc 4 (.bool true)]) .ret))))
theorem Tt : BX Tryz.prog Tryz.f37 = some ⟨26, k37, [(.tmp 4)]⟩ := by kernel_rfl
theorem PW (N : Nat) (a0 : List (List UInt8)) (a1 : List (List UInt8)) : ∀ (n : Nat) (x : Int) (y : Unit ⊕ Bool), D6 N a0 a1 n x = some y → WX Tryz.prog (fun _ => false) (.loop xU) ((fun (x : Int) => ⟨AY [(0, .sl 1 (List.map PV.str a0)), (1, .sl 1 (List.map PV.str a1)), (12, .int .i64 (a0.length : Int)), (13, .int .i64 x)], AY []⟩) x) ((Sum.elim (fun y e s => e = .exit 0 ∧ s = ⟨AY [], AY []⟩) (fun y e s => e = .ret ∧ s = ⟨AY [(4, .bool y)], AY []⟩) : (Unit ⊕ Bool) → Xt → St → Prop) y) := by
 refine EQ _ _ (D6 N a0 a1) (FR N a0 a1) (fun _ => rfl) (fun _ _ => rfl) ?_
 rintro rec v13l14 y h
 refine AJ ?_
 refine AC ?_
 refine A7 rfl rfl ?_
 refine AJ ?_
 refine D8 h rfl (fun c2 h => ?_) (fun c2 h => ?_)
 refine BF ?_
 refine AJ ?_
 refine C9 ?_
 refine AJ ?_
 refine AC ?_
 iterate 2 refine A7 rfl rfl ?_
 refine AJ ?_
 refine OD ?_
 iterate 2 refine DL rfl rfl ?_
 obtain ⟨OV, fF, h⟩ := AL h
 refine DL rfl (DK (cs := [.str OV]) fF rfl rfl rfl) ?_
 iterate 3 refine DL rfl rfl ?_
 obtain ⟨WO, YF, h⟩ := AL h
 refine DL rfl (DK (cs := [.str WO]) YF rfl rfl rfl) ?_
 iterate 2 refine DL rfl rfl ?_
 refine D8 h rfl (fun c3 h => ?_) (fun c3 h => ?_)
 refine AJ ?_
 refine AC ?_
 refine A7 rfl rfl ?_
 obtain rfl := AB h
 exact DU (st1 := ⟨AY [(4, .bool false)], AY []⟩) (cn rfl rfl rfl rfl) ⟨rfl, rfl⟩
 refine BF ?_
 refine AC ?_
 refine A7 (p := .int .i64 (BQ (v13l14 + (1 : Int)))) rfl rfl ?_
 refine A7 rfl rfl ?_
 exact ⟨(BQ (v13l14 + (1 : Int))), (cn rfl rfl rfl rfl), h⟩
 cases AB h
 exact CW (st1 := ⟨AY [], AY []⟩) (cn rfl rfl rfl rfl) ⟨rfl, rfl⟩
theorem QW (N : Nat) (a0 : List (List UInt8)) (a1 : List (List UInt8)) (r : Bool) (h : GR N a0 a1 = some r) : Sat Tryz.prog 37 AO [.sl 1 (List.map PV.str a0), .sl 1 (List.map PV.str a1)] (.bool r) AO := by
 refine DT mixed Tryz.func37 Tt (rs := [.bool r]) rfl rfl ?_
 refine AJ ?_
 refine AC ?_
 refine A7 rfl rfl ?_
 iterate 2 refine AJ ?_
 refine AC ?_
 refine A7 rfl rfl ?_
 refine A7 rfl (BV rfl) ?_
 refine A7 rfl rfl ?_
 refine A7 rfl (BV rfl) ?_
 refine A7 rfl rfl ?_
 refine D8 h rfl (fun c1 h => ?_) (fun c1 h => ?_)
 refine AJ ?_
 refine AC ?_
 refine A7 rfl rfl ?_
 obtain rfl := AB h
 refine BS ?_
 exact ⟨nofun, rfl, rfl⟩
 refine BF ?_
 iterate 2 refine AJ ?_
 refine AC ?_
 refine A7 rfl rfl ?_
 refine A7 rfl (BV rfl) ?_
 refine A7 rfl rfl ?_
 refine C9 ?_
 obtain ⟨y4, hy4, h⟩ := AL h
 refine PT (PW N a0 a1 N _ _ hy4) (cn rfl rfl rfl rfl) ?_
 clear hy4
 rcases y4 with y4 | y4
 rintro e s ⟨rfl, rfl⟩
 refine AJ ?_
 refine AC ?_
 refine A7 rfl rfl ?_
 obtain rfl := AB h
 refine BS ?_
 exact ⟨nofun, rfl, rfl⟩
 rintro e s ⟨rfl, rfl⟩
 obtain rfl := AB h
 exact ⟨nofun, rfl, rfl⟩
end Go.Gp
end
