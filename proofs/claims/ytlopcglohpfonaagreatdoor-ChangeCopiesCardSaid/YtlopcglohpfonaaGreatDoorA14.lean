/- A part of the proof: functions of the program and what they compute. -/
import Derived.Test.YtlopcglohpfonaaGreatDoorA5
import Derived.Test.YtlopcglohpfonaaGreatDoorA13
import Derived.Test.YtlopcglohpfonaaGreatDoorA8
import Derived.Test.YtlopcglohpfonaaGreatDoorA12
import Derived.Test.YtlopcglohpfonaaGreatDoorA9
section
set_option linter.unusedVariables false
set_option linter.unusedSimpArgs false
set_option maxRecDepth 4000
set_option maxHeartbeats 4000000
namespace Go.Gp
open Go.Vd Go.RowKit Go.Proofs
def qG : IC := (.seq (.reg [jb .lss 68 67 66]) (.seq (.cond (.t 68) .skip (.exit 0)) (.seq (.block 1 (.seq (.reg [jm 69 67, jx 70 1 65 67, jl 71 1 70, jm 11 69, jm 12 71]) (.seq (.reg [jm 73 12, ja 74 2 4, jl 75 1 74, jm 76 11, ju .add 77 76 1, jx 78 3 75 77, ja 79 1 78, jl 80 1 79, jn 81 (.call 45 [(.t 80)]), jm 72 81, je 82 0 72, je 83 1 72, jn 84 (.nck (.t 73)), js 3 84 82, jm 7 83]) (.seq (.reg [jm 85 7, ju .neq 86 85 0]) (.cond (.t 86) (.seq (.reg [jn 87 (.build [(j6 0), (j6 0), (j6 0), (j6 0), (j6 0), (j6 0), (j6 0), (j6 0), (j6 0), (j6 0), .nl, (.bool false), .nl] []), js 13 2 87, jc 3 (j6 14)]) .ret) .skip))))) (.reg [ju .add 88 67 1, jm 67 88]))))
def qF : IC := (.seq (.seq (.reg [jm 94 14, ju .add 95 94 1, jm 96 13, jL 97 96, jb .lss 98 95 97]) (.cond (.t 98) .skip (.exit 2))) (.seq (.block 3 (.regd 15 [ja 101 10 10, jl 102 1 101, jm 103 13, jm 104 14, jx 105 3 103 104, ja 106 1 105, jl 107 1 106, jm 108 13, jm 109 14, ju .add 110 109 1, jx 111 3 108 110, ja 112 1 111, jl 113 1 112, jn 114 (.build [(.str []), (.str [])] [(0, (1, (.t 107))), (1, (1, (.t 113)))]), jn 115 (.bsl 2 [(.t 114)]), jn 116 (.app 41 2 32 (.t 102) (.t 115)), ja 117 10 10, js 1 117 116])) (.reg [jm 99 14, ju .add 100 99 2, jm 14 100])))
def qD : IC := (.seq (.reg [jb .lss 154 153 152]) (.seq (.cond (.t 154) .skip (.exit 6)) (.seq (.block 7 (.seq (.reg [jx 155 3 151 153, jg 156 3 155, jn 21 (.box 52 (.c (.agg [(.int .u8 0), (.str []), .nl]))), js 3 21 156]) (.reg [ja 157 2 19, jl 158 1 157, ja 159 1 21, jl 160 1 159, jn 161 (.bsl 1 [(.t 160)]), jn 162 (.app 9 1 16 (.t 158) (.t 161)), ja 163 2 19, js 1 163 162]))) (.reg [ju .add 164 153 1, jm 153 164]))))
def qE : IC := (.seq (.reg [jb .lss 125 124 123]) (.seq (.cond (.t 125) .skip (.exit 4)) (.seq (.block 5 (.seq (.reg [jx 126 3 122 124, jg 127 3 126, jn 16 (.box 52 (.c (.agg [(.int .u8 0), (.str []), .nl]))), js 3 16 127]) (.seq (.seq (.reg [ja 128 2 16, jl 129 1 128, jL 130 129, ju .lss 131 130 2]) (.cond (.t 131) (.seq (.reg [jn 132 (.build [(j6 0), (j6 0), (j6 0), (j6 0), (j6 0), (j6 0), (j6 0), (j6 0), (j6 0), (j6 0), .nl, (.bool false), .nl] []), js 13 2 132, jc 3 (j6 14)]) .ret) .skip)) (.seq (.reg [ja 134 2 16, jl 135 1 134, jn 136 (.ixp 3 (.t 135) (ji 0)), ja 137 1 136, jl 138 1 137, jn 139 (.call 44 [(.t 138)]), jm 133 139, je 140 0 133, je 141 1 133, jm 17 140, jm 18 141]) (.seq (.reg [jm 142 17, ja 143 2 16, jl 144 1 143, jn 145 (.ixp 3 (.t 144) (ji 1)), ja 146 1 145, jl 147 1 146, jn 148 (.build [(j6 0), (.str []), .nl] [(0, (1, (.t 142))), (1, (1, (.t 147)))]), jn 19 (.box 44 (.c (.agg [(j6 0), (.str []), .nl]))), js 3 19 148]) (.seq (.seq (.reg [ja 149 2 16, jl 150 1 149, jn 151 (.slcl 3 (.t 150) (some (ji 2)) none), jL 152 151, jc 153 (j6 0)]) (.block 6 (.loop qD))) (.reg [ja 165 12 10, jl 166 1 165, jg 167 3 19, jn 168 (.bsl 3 [(.t 167)]), jn 169 (.app 44 3 48 (.t 166) (.t 168)), ja 170 12 10, js 1 170 169]))))))) (.reg [ju .add 171 124 1, jm 124 171]))))
def k16 : IC := (.seq (.reg [jn 2 (.box 28 (.c (.agg [(j6 0), (j6 0), (j6 0), (j6 0), (j6 0), (j6 0), (j6 0), (j6 0), (j6 0), (j6 0), .nl, (.bool false), .nl]))), jc 3 (j6 0)]) (.seq (.reg [jm 25 0, jn 26 (.call 43 [(.t 25)]), jm 24 26, je 27 0 24, je 28 1 24, je 29 2 24, je 30 3 24, jn 4 (.box 52 (.c (.agg [(.int .u8 0), (.str []), .nl]))), js 3 4 27, jm 5 28, jm 6 29, jm 7 30]) (.seq (.seq (.reg [jm 31 7, ju .neq 32 31 0, jm 33 32, jf 33 34 (.mov (.t 5)), jf 33 35 (.mov (.t 0)), jf 33 36 (.len true (.t 35)), jf 33 37 (.bin .neq (.t 34) (.t 36)), jo 38 33 37, jm 39 38, jf 39 40 (.fda 2 (.t 4)), jf 39 41 (.load 1 false (.t 40)), jf 39 42 (.len false (.t 41)), jf 39 43 (.bin .neq (.t 42) (ji 6)), jo 44 39 43]) (.cond (.t 44) (.seq (.reg [jn 45 (.build [(j6 0), (j6 0), (j6 0), (j6 0), (j6 0), (j6 0), (j6 0), (j6 0), (j6 0), (j6 0), .nl, (.bool false), .nl] []), js 13 2 45, jc 3 (j6 14)]) .ret) .skip)) (.seq (.reg [ja 47 2 4, jl 48 1 47, jn 49 (.ixp 3 (.t 48) (ji 0)), ja 50 1 49, jl 51 1 50, jn 52 (.call 44 [(.t 51)]), jm 46 52, je 53 0 46, je 54 1 46, jm 8 53, jm 9 54]) (.seq (.reg [jm 55 8, jm 56 8, jn 57 (.un .neg (.t 56)), jn 58 (.mm true (.t 55) [(.t 57)]), jm 59 8, ju .lss 60 59 0, jn 61 (.build [(j6 0), (j6 0), (j6 0), (j6 0), (j6 0), (j6 0), (j6 0), (j6 0), (j6 0), (j6 0), .nl, (.bool false), .nl] [(3, (1, (.t 58))), (11, (1, (.t 60)))]), jn 10 (.box 28 (.c (.agg [(j6 0), (j6 0), (j6 0), (j6 0), (j6 0), (j6 0), (j6 0), (j6 0), (j6 0), (j6 0), .nl, (.bool false), .nl]))), js 13 10 61]) (.seq (.seq (.reg [ja 62 0 10, ja 63 4 10, ja 64 7 10, jn 65 (.bsl 1 [(.t 62), (.t 63), (.t 64)]), jL 66 65, jc 67 (j6 0)]) (.block 0 (.loop qG))) (.seq (.reg [ja 89 2 4, jl 90 1 89, jn 91 (.ixp 3 (.t 90) (ji 4)), ja 92 2 91, jl 93 1 92, jm 13 93]) (.seq (.seq (.reg [jc 14 (j6 0)]) (.block 2 (.loop qF))) (.seq (.seq (.reg [ja 118 2 4, jl 119 1 118, jn 120 (.ixp 3 (.t 119) (ji 5)), ja 121 2 120, jl 122 1 121, jL 123 122, jc 124 (j6 0)]) (.block 4 (.loop qE))) (.seq (.seq (.reg [jg 173 13 10, jn 174 (.call 9 [(.t 173)]), jm 172 174, je 175 0 172, je 176 1 172, jm 22 175, jm 23 176]) (.seq (.reg [jm 177 23, ju .neq 178 177 0, jm 179 178, jf 179 180 (.mov (.t 22)), jf 179 181 (.mov (.t 0)), jf 179 182 (.bin .neq (.t 180) (.t 181)), jo 183 179 182]) (.cond (.t 183) (.seq (.reg [jn 184 (.build [(j6 0), (j6 0), (j6 0), (j6 0), (j6 0), (j6 0), (j6 0), (j6 0), (j6 0), (j6 0), .nl, (.bool false), .nl] []), js 13 2 184, jc 3 (j6 14)]) .ret) .skip))) (.seq (.reg [jg 185 13 10, js 13 2 185, jc 3 (j6 0)]) .ret)))))))))))
theorem Jl : BV Tryz.prog Tryz.f16 = some ⟨186, k16, [(.cell 13 true 2), (.tmp 3)]⟩ := by kernel_rfl
theorem X3 (N : Nat) (a0 : List UInt8) (IR : A7 × Int × Int × Int) (LQ : Int × Bool) (x81 : AQ × Int) (CZ : AQ × Int) (EF : AQ × Int) : ∀ (n : Nat) (x : Unit) (y : Unit), LP N a0 IR LQ x81 CZ EF n x = some y → WX Tryz.prog (fun _ => false) (.loop qG) ((fun (x : Unit) => ⟨AX [(0, .str a0), (2, .ptr 25602 0 0), (4, .ptr 25604 0 0), (10, .ptr 25610 0 0), (65, .slr 25665 0 3), (66, j6 3), (67, j6 3)], AX [(25602, ⟨13, false, [.agg [j6 0, j6 0, j6 0, j6 0, j6 0, j6 0, j6 0, j6 0, j6 0, j6 0, .nl, .bool false, .nl]]⟩), (25604, ⟨3, false, [A8 IR.1]⟩), (25610, ⟨13, false, [.agg [j6 x81.1.Time, j6 x81.1.Seq, j6 x81.1.Rep, j6 (mx LQ.1 (BX (0 - LQ.1))), j6 CZ.1.Time, j6 CZ.1.Seq, j6 CZ.1.Rep, j6 EF.1.Time, j6 EF.1.Seq, j6 EF.1.Rep, .nl, .bool (decide (LQ.1 < (0 : Int))), .nl]]⟩), (25665, ⟨1, false, [.ptr 25610 0 0, .ptr 25610 0 4, .ptr 25610 0 7]⟩)]⟩) x) ((fun y e s => e = .exit 0 ∧ s = ⟨AX [(0, .str a0), (2, .ptr 25602 0 0), (4, .ptr 25604 0 0), (10, .ptr 25610 0 0)], AX [(25602, ⟨13, false, [.agg [j6 0, j6 0, j6 0, j6 0, j6 0, j6 0, j6 0, j6 0, j6 0, j6 0, .nl, .bool false, .nl]]⟩), (25604, ⟨3, false, [A8 IR.1]⟩), (25610, ⟨13, false, [.agg [j6 x81.1.Time, j6 x81.1.Seq, j6 x81.1.Rep, j6 (mx LQ.1 (BX (0 - LQ.1))), j6 CZ.1.Time, j6 CZ.1.Seq, j6 CZ.1.Rep, j6 EF.1.Time, j6 EF.1.Seq, j6 EF.1.Rep, .nl, .bool (decide (LQ.1 < (0 : Int))), .nl]]⟩)]⟩ : Unit → Xt → St → Prop) y) := by
 refine F5 _ _ (LP N a0 IR LQ x81 CZ EF) (R4 N a0 IR LQ x81 CZ EF) (fun _ => rfl) (fun _ _ => rfl) ?_
 rintro rec ⟨⟩ y h
 refine AA (AB ?_)
 refine AZ (p := .bool false) rfl rfl ?_
 refine AA ?_
 refine xcF rfl rfl ?_
 cases AO h
 exact D9 (st1 := ⟨AX [(0, .str a0), (2, .ptr 25602 0 0), (4, .ptr 25604 0 0), (10, .ptr 25610 0 0)], AX [(25602, ⟨13, false, [.agg [j6 0, j6 0, j6 0, j6 0, j6 0, j6 0, j6 0, j6 0, j6 0, j6 0, .nl, .bool false, .nl]]⟩), (25604, ⟨3, false, [A8 IR.1]⟩), (25610, ⟨13, false, [.agg [j6 x81.1.Time, j6 x81.1.Seq, j6 x81.1.Rep, j6 (mx LQ.1 (BX (0 - LQ.1))), j6 CZ.1.Time, j6 CZ.1.Seq, j6 CZ.1.Rep, j6 EF.1.Time, j6 EF.1.Seq, j6 EF.1.Rep, .nl, .bool (decide (LQ.1 < (0 : Int))), .nl]]⟩)]⟩) (cq rfl) ⟨rfl, rfl⟩
theorem X0 (N : Nat) (a0 : List UInt8) (IR : A7 × Int × Int × Int) (x93 : List A7) : ∀ (n : Nat) (x : Int × Int × Int × Int × Int × Int × Int × Int × Int × Int × Int × Bool × List AU) (y : Int × Int × Int × Int × Int × Int × Int × Int × Int × Int × Bool × List AU), LM N a0 IR x93 n x = some y → WX Tryz.prog (fun _ => false) (.loop qF) ((fun (x : Int × Int × Int × Int × Int × Int × Int × Int × Int × Int × Int × Bool × List AU) => ⟨AX [(0, .str a0), (2, .ptr 25602 0 0), (4, .ptr 25604 0 0), (10, .ptr 25610 0 0), (13, .sl 3 (List.map A8 x93)), (14, j6 x.1)], AX [(25602, ⟨13, false, [.agg [j6 0, j6 0, j6 0, j6 0, j6 0, j6 0, j6 0, j6 0, j6 0, j6 0, .nl, .bool false, .nl]]⟩), (25604, ⟨3, false, [A8 IR.1]⟩), (25610, ⟨13, false, [.agg [j6 x.2.1, j6 x.2.2.1, j6 x.2.2.2.1, j6 x.2.2.2.2.1, j6 x.2.2.2.2.2.1, j6 x.2.2.2.2.2.2.1, j6 x.2.2.2.2.2.2.2.1, j6 x.2.2.2.2.2.2.2.2.1, j6 x.2.2.2.2.2.2.2.2.2.1, j6 x.2.2.2.2.2.2.2.2.2.2.1, .slr 556110 0 x.2.2.2.2.2.2.2.2.2.2.2.2.length, .bool x.2.2.2.2.2.2.2.2.2.2.2.1, .nl]]⟩), (556110, ⟨2, true, List.map AV x.2.2.2.2.2.2.2.2.2.2.2.2⟩)]⟩) x) ((fun y e s => e = .exit 2 ∧ s = ⟨AX [(0, .str a0), (2, .ptr 25602 0 0), (4, .ptr 25604 0 0), (10, .ptr 25610 0 0)], AX [(25602, ⟨13, false, [.agg [j6 0, j6 0, j6 0, j6 0, j6 0, j6 0, j6 0, j6 0, j6 0, j6 0, .nl, .bool false, .nl]]⟩), (25604, ⟨3, false, [A8 IR.1]⟩), (25610, ⟨13, false, [.agg [j6 y.1, j6 y.2.1, j6 y.2.2.1, j6 y.2.2.2.1, j6 y.2.2.2.2.1, j6 y.2.2.2.2.2.1, j6 y.2.2.2.2.2.2.1, j6 y.2.2.2.2.2.2.2.1, j6 y.2.2.2.2.2.2.2.2.1, j6 y.2.2.2.2.2.2.2.2.2.1, .slr 556110 0 y.2.2.2.2.2.2.2.2.2.2.2.length, .bool y.2.2.2.2.2.2.2.2.2.2.1, .nl]]⟩), (556110, ⟨2, true, List.map AV y.2.2.2.2.2.2.2.2.2.2.2⟩)]⟩ : (Int × Int × Int × Int × Int × Int × Int × Int × Int × Int × Bool × List AU) → Xt → St → Prop) y) := by
 refine F5 _ _ (LM N a0 IR x93) (R3 N a0 IR x93) (fun _ => rfl) (fun _ _ => rfl) ?_
 rintro rec ⟨TC, MF, ME, MC, MB, M9, M8, M7, M6, M5, M4, KO, Q0⟩ y h
 iterate 2 refine AA ?_
 refine AB ?_
 refine wq rfl ?_
 refine AZ (p := j6 (BX (TC + (1 : Int)))) rfl rfl ?_
 refine wq rfl ?_
 refine AZ rfl (CO rfl) ?_
 refine wq rfl ?_
 refine EP h rfl (fun c9 h => ?_) (fun c9 h => ?_)
 refine BH (AA (CJ (NG ?_)))
 iterate 4 refine dq rfl ?_
 obtain ⟨x105, hx105, h⟩ := AP h
 refine JF rfl (EU (cs := [eb x105.Tag, .str x105.Body, .sl 3 x105.Kids]) hx105 rfl rfl rfl) ?_
 refine JF (p := .ep [.str x105.Body, .sl 3 x105.Kids]) rfl rfl ?_
 iterate 3 refine dq rfl ?_
 refine JF (p := j6 (BX (TC + (1 : Int)))) rfl rfl ?_
 obtain ⟨gU, hx111, h⟩ := AP h
 refine JF rfl (EU (cs := [eb gU.Tag, .str gU.Body, .sl 3 gU.Kids]) hx111 rfl rfl rfl) ?_
 refine JF (p := .ep [.str gU.Body, .sl 3 gU.Kids]) rfl rfl ?_
 refine dq rfl ?_
 refine JF (p := .agg [.str x105.Body, .str gU.Body]) rfl rfl ?_
 refine QK rfl (.bsl _ 25715 rfl (MJ rfl) rfl) (N9 rfl) ?_
 obtain ⟨lZ, xG, h⟩ := AP h
 refine VU (f := AV) 25716 xG rfl rfl rfl rfl rfl (LY rfl (BU (f := AV) (l := [(⟨x105.Body, gU.Body⟩ : AU)]))) rfl rfl rfl rfl ?_
 refine wq rfl ?_
 refine ED (e' := .agg [j6 MF, j6 ME, j6 MC, j6 MB, j6 M9, j6 M8, j6 M7, j6 M6, j6 M5, j6 M4, .slr 25716 0 lZ.length, .bool KO, .nl]) rfl rfl rfl rfl rfl rfl rfl rfl nofun rfl ?_
 refine AB ?_
 refine wq rfl ?_
 refine AZ (p := j6 (BX (TC + (2 : Int)))) rfl rfl ?_
 refine wq rfl ?_
 exact ⟨((BX (TC + (2 : Int))), MF, ME, MC, MB, M9, M8, M7, M6, M5, M4, KO, lZ), (C9.trans (rename 25716 556110 rfl rfl) (cq rfl)), h⟩
 cases AO h
 exact D9 (st1 := ⟨AX [(0, .str a0), (2, .ptr 25602 0 0), (4, .ptr 25604 0 0), (10, .ptr 25610 0 0)], AX [(25602, ⟨13, false, [.agg [j6 0, j6 0, j6 0, j6 0, j6 0, j6 0, j6 0, j6 0, j6 0, j6 0, .nl, .bool false, .nl]]⟩), (25604, ⟨3, false, [A8 IR.1]⟩), (25610, ⟨13, false, [.agg [j6 MF, j6 ME, j6 MC, j6 MB, j6 M9, j6 M8, j6 M7, j6 M6, j6 M5, j6 M4, .slr 556110 0 Q0.length, .bool KO, .nl]]⟩), (556110, ⟨2, true, List.map AV Q0⟩)]⟩) (cq rfl) ⟨rfl, rfl⟩
theorem WY (N : Nat) (a0 : List UInt8) (JL : List A7) (GG : Int) (DV : Int) (DU : Int) (DT : Int) (DR : Int) (DN : Int) (DL : Int) (DK : Int) (DJ : Int) (DI : Int) (DF : Int) (CU : Bool) (CV : List AU) (DC : List AY) (x151 : List A7) : ∀ (n : Nat) (x : Int × Int × List UInt8 × List (List UInt8)) (y : Int × List UInt8 × List (List UInt8)), LJ N a0 JL GG DV DU DT DR DN DL DK DJ DI DF CU CV DC x151 n x = some y → WX Tryz.prog (fun _ => false) (.loop qD) ((fun (x : Int × Int × List UInt8 × List (List UInt8)) => ⟨AX [(0, .str a0), (2, .ptr 25602 0 0), (10, .ptr 25610 0 0), (19, .ptr 25619 0 0), (122, .sl 3 (List.map A8 JL)), (123, j6 (JL.length : Int)), (124, j6 GG), (151, .sl 3 (List.map A8 x151)), (152, j6 (x151.length : Int)), (153, j6 x.1)], AX [(25602, ⟨13, false, [.agg [j6 0, j6 0, j6 0, j6 0, j6 0, j6 0, j6 0, j6 0, j6 0, j6 0, .nl, .bool false, .nl]]⟩), (25610, ⟨13, false, [.agg [j6 DV, j6 DU, j6 DT, j6 DR, j6 DN, j6 DL, j6 DK, j6 DJ, j6 DI, j6 DF, .slr 556110 0 CV.length, .bool CU, .slr 556112 0 DC.length]]⟩), (25619, ⟨3, false, [.agg [j6 x.2.1, .str x.2.2.1, .slr 556192 0 x.2.2.2.length]]⟩), (556110, ⟨2, true, List.map AV CV⟩), (556112, ⟨3, true, List.map AL DC⟩), (556192, ⟨1, true, List.map PV.str x.2.2.2⟩)]⟩) x) ((fun y e s => e = .exit 6 ∧ s = ⟨AX [(0, .str a0), (2, .ptr 25602 0 0), (10, .ptr 25610 0 0), (19, .ptr 25619 0 0), (122, .sl 3 (List.map A8 JL)), (123, j6 (JL.length : Int)), (124, j6 GG)], AX [(25602, ⟨13, false, [.agg [j6 0, j6 0, j6 0, j6 0, j6 0, j6 0, j6 0, j6 0, j6 0, j6 0, .nl, .bool false, .nl]]⟩), (25610, ⟨13, false, [.agg [j6 DV, j6 DU, j6 DT, j6 DR, j6 DN, j6 DL, j6 DK, j6 DJ, j6 DI, j6 DF, .slr 556110 0 CV.length, .bool CU, .slr 556112 0 DC.length]]⟩), (25619, ⟨3, false, [.agg [j6 y.1, .str y.2.1, .slr 556192 0 y.2.2.length]]⟩), (556110, ⟨2, true, List.map AV CV⟩), (556112, ⟨3, true, List.map AL DC⟩), (556192, ⟨1, true, List.map PV.str y.2.2⟩)]⟩ : (Int × List UInt8 × List (List UInt8)) → Xt → St → Prop) y) := by
 refine F5 _ _ (LJ N a0 JL GG DV DU DT DR DN DL DK DJ DI DF CU CV DC x151) (QY N a0 JL GG DV DU DT DR DN DL DK DJ DI DF CU CV DC x151) (fun _ => rfl) (fun _ _ => rfl) ?_
 rintro rec ⟨V4, M3, M0, PZ⟩ y h
 refine AA (AB ?_)
 refine wq rfl ?_
 refine AA ?_
 refine EP h rfl (fun c13 h => ?_) (fun c13 h => ?_)
 refine BH (AA (CJ (AA (AB ?_))))
 obtain ⟨jJ, hx155, h⟩ := AP h
 refine AZ rfl (EU (cs := [eb jJ.Tag, .str jJ.Body, .sl 3 jJ.Kids]) hx155 rfl rfl rfl) ?_
 refine AZ (p := A8 jJ) rfl rfl ?_
 refine CW rfl (F8 25621 rfl rfl rfl rfl rfl) ?_
 refine ED (e' := A8 jJ) rfl rfl rfl rfl rfl rfl rfl rfl nofun rfl ?_
 refine AB ?_
 iterate 4 refine wq rfl ?_
 refine CW rfl (UE 25761 rfl rfl rfl) ?_
 obtain ⟨Aa, hx162, h⟩ := AP h
 refine VU (f := PV.str) 25762 hx162 rfl rfl rfl rfl rfl (LY rfl (BU (f := PV.str) (l := [jJ.Body]))) rfl rfl rfl rfl ?_
 refine wq rfl ?_
 refine ED (e' := .agg [j6 M3, .str M0, .slr 25762 0 Aa.length]) rfl rfl rfl rfl rfl rfl rfl rfl nofun rfl ?_
 refine AB ?_
 refine AZ (p := j6 (BX (V4 + (1 : Int)))) rfl rfl ?_
 refine wq rfl ?_
 exact ⟨((BX (V4 + (1 : Int))), M3, M0, Aa), (C9.trans (rename 25762 556192 rfl rfl) (cq rfl)), h⟩
 cases AO h
 exact D9 (st1 := ⟨AX [(0, .str a0), (2, .ptr 25602 0 0), (10, .ptr 25610 0 0), (19, .ptr 25619 0 0), (122, .sl 3 (List.map A8 JL)), (123, j6 (JL.length : Int)), (124, j6 GG)], AX [(25602, ⟨13, false, [.agg [j6 0, j6 0, j6 0, j6 0, j6 0, j6 0, j6 0, j6 0, j6 0, j6 0, .nl, .bool false, .nl]]⟩), (25610, ⟨13, false, [.agg [j6 DV, j6 DU, j6 DT, j6 DR, j6 DN, j6 DL, j6 DK, j6 DJ, j6 DI, j6 DF, .slr 556110 0 CV.length, .bool CU, .slr 556112 0 DC.length]]⟩), (25619, ⟨3, false, [.agg [j6 M3, .str M0, .slr 556192 0 PZ.length]]⟩), (556110, ⟨2, true, List.map AV CV⟩), (556112, ⟨3, true, List.map AL DC⟩), (556192, ⟨1, true, List.map PV.str PZ⟩)]⟩) (cq rfl) ⟨rfl, rfl⟩
theorem WZ (N : Nat) (a0 : List UInt8) (JL : List A7) : ∀ (n : Nat) (x : Int × Int × Int × Int × Int × Int × Int × Int × Int × Int × Int × Bool × List AU × List AY) (y : (Int × Int × Int × Int × Int × Int × Int × Int × Int × Int × Bool × List AU × List AY) ⊕ (AR × Int)), LK N a0 JL n x = some y → WX Tryz.prog (fun _ => false) (.loop qE) ((fun (x : Int × Int × Int × Int × Int × Int × Int × Int × Int × Int × Int × Bool × List AU × List AY) => ⟨AX [(0, .str a0), (2, .ptr 25602 0 0), (10, .ptr 25610 0 0), (122, .sl 3 (List.map A8 JL)), (123, j6 (JL.length : Int)), (124, j6 x.1)], AX [(25602, ⟨13, false, [.agg [j6 0, j6 0, j6 0, j6 0, j6 0, j6 0, j6 0, j6 0, j6 0, j6 0, .nl, .bool false, .nl]]⟩), (25610, ⟨13, false, [.agg [j6 x.2.1, j6 x.2.2.1, j6 x.2.2.2.1, j6 x.2.2.2.2.1, j6 x.2.2.2.2.2.1, j6 x.2.2.2.2.2.2.1, j6 x.2.2.2.2.2.2.2.1, j6 x.2.2.2.2.2.2.2.2.1, j6 x.2.2.2.2.2.2.2.2.2.1, j6 x.2.2.2.2.2.2.2.2.2.2.1, .slr 556110 0 x.2.2.2.2.2.2.2.2.2.2.2.2.1.length, .bool x.2.2.2.2.2.2.2.2.2.2.2.1, .slr 556112 0 x.2.2.2.2.2.2.2.2.2.2.2.2.2.length]]⟩), (556110, ⟨2, true, List.map AV x.2.2.2.2.2.2.2.2.2.2.2.2.1⟩), (556112, ⟨3, true, List.map AL x.2.2.2.2.2.2.2.2.2.2.2.2.2⟩)]⟩) x) ((Sum.elim (fun y e s => e = .exit 4 ∧ s = ⟨AX [(0, .str a0), (2, .ptr 25602 0 0), (10, .ptr 25610 0 0)], AX [(25602, ⟨13, false, [.agg [j6 0, j6 0, j6 0, j6 0, j6 0, j6 0, j6 0, j6 0, j6 0, j6 0, .nl, .bool false, .nl]]⟩), (25610, ⟨13, false, [.agg [j6 y.1, j6 y.2.1, j6 y.2.2.1, j6 y.2.2.2.1, j6 y.2.2.2.2.1, j6 y.2.2.2.2.2.1, j6 y.2.2.2.2.2.2.1, j6 y.2.2.2.2.2.2.2.1, j6 y.2.2.2.2.2.2.2.2.1, j6 y.2.2.2.2.2.2.2.2.2.1, .slr 556110 0 y.2.2.2.2.2.2.2.2.2.2.2.1.length, .bool y.2.2.2.2.2.2.2.2.2.2.1, .slr 556112 0 y.2.2.2.2.2.2.2.2.2.2.2.2.length]]⟩), (556110, ⟨2, true, List.map AV y.2.2.2.2.2.2.2.2.2.2.2.1⟩), (556112, ⟨3, true, List.map AL y.2.2.2.2.2.2.2.2.2.2.2.2⟩)]⟩) (fun y e s => e = .ret ∧ s = ⟨AX [(2, .ptr 25602 0 0), (3, j6 y.2)], AX [(25602, ⟨13, false, [AJ y.1]⟩)]⟩) : ((Int × Int × Int × Int × Int × Int × Int × Int × Int × Int × Bool × List AU × List AY) ⊕ (AR × Int)) → Xt → St → Prop) y) := by
 refine F5 _ _ (LK N a0 JL) (QZ N a0 JL) (fun _ => rfl) (fun _ _ => rfl) ?_
 rintro rec ⟨GG, DV, DU, DT, DR, DN, DL, DK, DJ, DI, DF, CU, CV, DC⟩ y h
 refine AA (AB ?_)
 refine wq rfl ?_
 refine AA ?_
 refine EP h rfl (fun c11 h => ?_) (fun c11 h => ?_)
 refine BH (AA (CJ (AA (AB ?_))))
 obtain ⟨aC, hx126, h⟩ := AP h
 refine AZ rfl (EU (cs := [eb aC.Tag, .str aC.Body, .sl 3 aC.Kids]) hx126 rfl rfl rfl) ?_
 refine AZ (p := A8 aC) rfl rfl ?_
 refine CW rfl (F8 25616 rfl rfl rfl rfl rfl) ?_
 refine ED (e' := A8 aC) rfl rfl rfl rfl rfl rfl rfl rfl nofun rfl ?_
 iterate 2 refine AA ?_
 refine AB ?_
 refine wq rfl ?_
 obtain ⟨Fs, hx129, h⟩ := AP h
 refine AZ (p := .sl 3 (List.map A8 Fs)) rfl (congrArg (fun z => some (PV.sl 3 z)) (G5 (e := A8) BS hx129)) ?_
 refine AZ rfl (CO rfl) ?_
 refine wq rfl ?_
 refine EP h rfl (fun c12 h => ?_) (fun c12 h => ?_)
 refine AA (AB ?_)
 refine AZ (p := .agg [j6 0, j6 0, j6 0, j6 0, j6 0, j6 0, j6 0, j6 0, j6 0, j6 0, .nl, .bool false, .nl]) rfl rfl ?_
 refine tH (L6 132 (J4 (.cons A9 (.cons A9 (.cons A9 (.cons A9 (.cons A9 (.cons A9 (.cons A9 (.cons A9 (.cons A9 (.cons A9 (.cons (FH 2) (.cons A9 (.cons (FH 3) .nil))))))))))))) rfl) rfl) ?_
 refine ED (e' := .agg [j6 0, j6 0, j6 0, j6 0, j6 0, j6 0, j6 0, j6 0, j6 0, j6 0, .sl 2 (List.map AV []), .bool false, .sl 3 (List.map AL [])]) rfl rfl rfl rfl rfl rfl rfl rfl nofun rfl ?_
 refine wq rfl ?_
 cases AO h
 exact EX (st1 := ⟨AX [(2, .ptr 25602 0 0), (3, j6 14)], AX [(25602, ⟨13, false, [AJ (⟨(⟨0, 0, 0⟩ : AQ), 0, (⟨0, 0, 0⟩ : AQ), (⟨0, 0, 0⟩ : AQ), [], false, []⟩ : AR)]⟩)]⟩) (cq rfl) ⟨rfl, rfl⟩
 refine BH (AA (AB ?_))
 refine wq rfl ?_
 obtain ⟨Fq, hx135, h⟩ := AP h
 refine AZ (p := .sl 3 (List.map A8 Fq)) rfl (congrArg (fun z => some (PV.sl 3 z)) (G5 (e := A8) BS hx135)) ?_
 obtain ⟨lY, hx136, h⟩ := AP h
 refine AZ rfl (EU (cs := [eb lY.Tag, .str lY.Body, .sl 3 lY.Kids]) hx136 rfl rfl rfl) ?_
 refine AZ (p := .ep [.str lY.Body, .sl 3 lY.Kids]) rfl rfl ?_
 refine wq rfl ?_
 obtain ⟨lX, hx139, h⟩ := AP h
 refine CW rfl (CX (QS N _ _ hx139) rfl (.cons A9 .nil) rfl rfl rfl) ?_
 iterate 5 refine wq rfl ?_
 refine AA (AB ?_)
 iterate 2 refine wq rfl ?_
 obtain ⟨Fp, hx144, h⟩ := AP h
 refine AZ (p := .sl 3 (List.map A8 Fp)) rfl (congrArg (fun z => some (PV.sl 3 z)) (G5 (e := A8) BS hx144)) ?_
 obtain ⟨ZG, hx145, h⟩ := AP h
 refine AZ rfl (EU (cs := [eb ZG.Tag, .str ZG.Body, .sl 3 ZG.Kids]) hx145 rfl rfl rfl) ?_
 refine AZ (p := .ep [.str ZG.Body, .sl 3 ZG.Kids]) rfl rfl ?_
 refine wq rfl ?_
 refine AZ (p := .agg [j6 lX.1, .str ZG.Body, .nl]) rfl rfl ?_
 refine CW rfl (F8 25619 rfl rfl rfl rfl rfl) ?_
 refine ED (e' := .agg [j6 lX.1, .str ZG.Body, .nl]) rfl rfl rfl rfl rfl rfl rfl rfl nofun rfl ?_
 iterate 2 refine AA ?_
 refine NH (cn (st := _) (l := [(0, .str a0), (2, .ptr 25602 0 0), (10, .ptr 25610 0 0), (16, .ptr 25616 0 0), (19, .ptr 25619 0 0), (122, .sl 3 (List.map A8 JL)), (123, j6 (JL.length : Int)), (124, j6 GG)]) (m := [(25602, ⟨13, false, [.agg [j6 0, j6 0, j6 0, j6 0, j6 0, j6 0, j6 0, j6 0, j6 0, j6 0, .nl, .bool false, .nl]]⟩), (25610, ⟨13, false, [.agg [j6 DV, j6 DU, j6 DT, j6 DR, j6 DN, j6 DL, j6 DK, j6 DJ, j6 DI, j6 DF, .slr 556110 0 CV.length, .bool CU, .slr 556112 0 DC.length]]⟩), (25616, ⟨3, false, [A8 aC]⟩), (25619, ⟨3, false, [.agg [j6 lX.1, .str ZG.Body, .nl]]⟩), (556110, ⟨2, true, List.map AV CV⟩), (556112, ⟨3, true, List.map AL DC⟩)]) rfl rfl rfl rfl) ?_
 refine AB ?_
 refine wq rfl ?_
 obtain ⟨x150, hx150, h⟩ := AP h
 refine AZ (p := .sl 3 (List.map A8 x150)) rfl (congrArg (fun z => some (PV.sl 3 z)) (G5 (e := A8) BS hx150)) ?_
 obtain ⟨x151, hx151, h⟩ := AP h
 refine AZ rfl (Az hx151 rfl rfl) ?_
 refine AZ rfl (CO rfl) ?_
 refine wq rfl ?_
 refine CJ ?_
 obtain ⟨Y0, Cf, h⟩ := AP h
 refine PQ (WY N a0 JL GG DV DU DT DR DN DL DK DJ DI DF CU CV DC x151 N _ _ Cf) (C9.trans (iJ 556192 1 true rfl rfl) (C9.trans (oW 25619 (Q := fun R => R 556192 = some ⟨1, true, []⟩) (x := .agg [j6 lX.1, .str ZG.Body, .nl]) (y := .agg [j6 lX.1, .str ZG.Body, .slr 556192 0 0]) (.cons (fun _ _ _ _ _ _ h => h) (.cons (fun _ _ _ _ _ _ h => h) (.cons ZV (RV _)))) rfl rfl rfl) (cq rfl))) ?_
 rintro e s ⟨rfl, rfl⟩
 refine AB ?_
 iterate 2 refine wq rfl ?_
 refine AZ (p := .agg [j6 Y0.1, .str Y0.2.1, .slr 556192 0 Y0.2.2.length]) rfl rfl ?_
 refine wn (C9.trans (Vd.freeze 556192 _ rfl rfl rfl) (C9.trans (L6 167 (J4 (.cons A9 (.cons A9 (.cons (GQ (congrArg (PV.sl 1) (BU (f := PV.str) (l := Y0.2.2)))) .nil))) rfl) rfl) (mO 25619 (x := .agg [j6 Y0.1, .str Y0.2.1, .sl 1 (List.take Y0.2.2.length (List.drop 0 (List.map PV.str Y0.2.2)))]) (y := .agg [j6 Y0.1, .str Y0.2.1, .sl 1 (List.map PV.str Y0.2.2)]) (.cons A9 (.cons A9 (.cons (GQ (congrArg (PV.sl 1) (BU (f := PV.str) (l := Y0.2.2)))) .nil))) rfl rfl))) ?_
 refine CW rfl (UE 25768 rfl rfl rfl) ?_
 obtain ⟨zZ, hx169, h⟩ := AP h
 refine VU (f := AL) 25769 hx169 rfl rfl rfl rfl rfl (LY rfl (BU (f := AL) (l := [(⟨Y0.1, Y0.2.1, Y0.2.2⟩ : AY)]))) rfl rfl rfl rfl ?_
 refine wq rfl ?_
 refine ED (e' := .agg [j6 DV, j6 DU, j6 DT, j6 DR, j6 DN, j6 DL, j6 DK, j6 DJ, j6 DI, j6 DF, .slr 556110 0 CV.length, .bool CU, .slr 25769 0 zZ.length]) rfl rfl rfl rfl rfl rfl rfl rfl nofun rfl ?_
 refine AB ?_
 refine AZ (p := j6 (BX (GG + (1 : Int)))) rfl rfl ?_
 refine wq rfl ?_
 exact ⟨((BX (GG + (1 : Int))), DV, DU, DT, DR, DN, DL, DK, DJ, DI, DF, CU, CV, zZ), (C9.trans (rename 25769 556112 rfl rfl) (cq rfl)), h⟩
 cases AO h
 exact D9 (st1 := ⟨AX [(0, .str a0), (2, .ptr 25602 0 0), (10, .ptr 25610 0 0)], AX [(25602, ⟨13, false, [.agg [j6 0, j6 0, j6 0, j6 0, j6 0, j6 0, j6 0, j6 0, j6 0, j6 0, .nl, .bool false, .nl]]⟩), (25610, ⟨13, false, [.agg [j6 DV, j6 DU, j6 DT, j6 DR, j6 DN, j6 DL, j6 DK, j6 DJ, j6 DI, j6 DF, .slr 556110 0 CV.length, .bool CU, .slr 556112 0 DC.length]]⟩), (556110, ⟨2, true, List.map AV CV⟩), (556112, ⟨3, true, List.map AL DC⟩)]⟩) (cq rfl) ⟨rfl, rfl⟩
theorem U2 (N : Nat) (a0 : List UInt8) (r : AR × Int) (h : UW N a0 = some r) : Sat Tryz.prog 16 AC [.str a0] (.tup [AJ r.1, j6 r.2]) AC := by
 refine EL mixed Tryz.func16 Jl (rs := [AJ r.1, j6 r.2]) rfl rfl ?_
 refine AA (AB ?_)
 refine CW rfl (F8 25602 rfl rfl rfl rfl rfl) ?_
 refine wq rfl ?_
 refine AA (AB ?_)
 refine wq rfl ?_
 obtain ⟨IR, iT, h⟩ := AP h
 refine CW rfl (CX (iD N _ _ iT) rfl (.cons A9 .nil) rfl rfl rfl) ?_
 iterate 5 refine wq rfl ?_
 refine CW rfl (F8 25604 rfl rfl rfl rfl rfl) ?_
 refine ED (e' := A8 IR.1) rfl rfl rfl rfl rfl rfl rfl rfl nofun rfl ?_
 iterate 3 refine wq rfl ?_
 refine AA ?_
 obtain ⟨g1, hg1, h⟩ := AP h
 refine GZ ⟨AX [(0, .str a0), (2, .ptr 25602 0 0), (4, .ptr 25604 0 0), (44, .bool g1)], AX [(25602, ⟨13, false, [.agg [j6 0, j6 0, j6 0, j6 0, j6 0, j6 0, j6 0, j6 0, j6 0, j6 0, .nl, .bool false, .nl]]⟩), (25604, ⟨3, false, [A8 IR.1]⟩)]⟩ ?_ ?_
 have h := hg1
 refine AB ?_
 iterate 3 refine wq rfl ?_
 rcases CY h with ⟨c2, h⟩ | ⟨c2, h⟩
 iterate 4 refine D7 (gn rfl c2) ?_
 refine AZ rfl (BG c2 rfl rfl) ?_
 refine wq rfl ?_
 iterate 4 refine D7 rfl ?_
 refine wq rfl ?_
 obtain rfl := AO h
 exact cq rfl
 iterate 4 refine AZ (gy rfl c2) rfl ?_
 refine AZ rfl (BD c2 rfl rfl) ?_
 refine wq rfl ?_
 rcases CY h with ⟨c3, h⟩ | ⟨c3, h⟩
 iterate 4 refine D7 (gn rfl c3) ?_
 refine AZ rfl (BG c3 rfl rfl) ?_
 obtain rfl := AO h
 exact cq rfl
 refine AZ (gy rfl c3) rfl ?_
 obtain ⟨x41, nL, h⟩ := AP h
 refine AZ (p := .sl 3 (List.map A8 x41)) (gy rfl c3) (congrArg (fun z => some (PV.sl 3 z)) (G5 (e := A8) BS nL)) ?_
 refine AZ (gy rfl c3) (CO rfl) ?_
 refine AZ (gy rfl c3) rfl ?_
 refine AZ rfl (BD c3 rfl rfl) ?_
 cases AO h
 exact cq rfl
 clear hg1
 refine EP h rfl (fun c4 h => ?_) (fun c4 h => ?_)
 refine AA (AB ?_)
 refine AZ (p := .agg [j6 0, j6 0, j6 0, j6 0, j6 0, j6 0, j6 0, j6 0, j6 0, j6 0, .nl, .bool false, .nl]) rfl rfl ?_
 refine tH (L6 45 (J4 (.cons A9 (.cons A9 (.cons A9 (.cons A9 (.cons A9 (.cons A9 (.cons A9 (.cons A9 (.cons A9 (.cons A9 (.cons (FH 2) (.cons A9 (.cons (FH 3) .nil))))))))))))) rfl) rfl) ?_
 refine ED (e' := .agg [j6 0, j6 0, j6 0, j6 0, j6 0, j6 0, j6 0, j6 0, j6 0, j6 0, .sl 2 (List.map AV []), .bool false, .sl 3 (List.map AL [])]) rfl rfl rfl rfl rfl rfl rfl rfl nofun rfl ?_
 refine wq rfl ?_
 cases AO h
 refine BR ?_
 exact ⟨nofun, rfl, rfl⟩
 refine BH (AA (AB ?_))
 refine wq rfl ?_
 obtain ⟨lW, nK, h⟩ := AP h
 refine AZ (p := .sl 3 (List.map A8 lW)) rfl (congrArg (fun z => some (PV.sl 3 z)) (G5 (e := A8) BS nK)) ?_
 obtain ⟨ZE, wY, h⟩ := AP h
 refine AZ rfl (EU (cs := [eb ZE.Tag, .str ZE.Body, .sl 3 ZE.Kids]) wY rfl rfl rfl) ?_
 refine AZ (p := .ep [.str ZE.Body, .sl 3 ZE.Kids]) rfl rfl ?_
 refine wq rfl ?_
 obtain ⟨LQ, wX, h⟩ := AP h
 refine CW rfl (CX (QS N _ _ wX) rfl (.cons A9 .nil) rfl rfl rfl) ?_
 iterate 5 refine wq rfl ?_
 refine AA (AB ?_)
 iterate 2 refine wq rfl ?_
 refine AZ (p := j6 (BX (0 - LQ.1))) rfl rfl ?_
 refine AZ (p := j6 (mx LQ.1 (BX (0 - LQ.1)))) rfl rfl ?_
 iterate 2 refine wq rfl ?_
 refine AZ (p := .agg [j6 0, j6 0, j6 0, j6 (mx LQ.1 (BX (0 - LQ.1))), j6 0, j6 0, j6 0, j6 0, j6 0, j6 0, .nl, .bool (decide (LQ.1 < (0 : Int))), .nl]) rfl rfl ?_
 refine CW rfl (F8 25610 rfl rfl rfl rfl rfl) ?_
 refine ED (e' := .agg [j6 0, j6 0, j6 0, j6 (mx LQ.1 (BX (0 - LQ.1))), j6 0, j6 0, j6 0, j6 0, j6 0, j6 0, .nl, .bool (decide (LQ.1 < (0 : Int))), .nl]) rfl rfl rfl rfl rfl rfl rfl rfl nofun rfl ?_
 iterate 2 refine AA ?_
 refine AB ?_
 iterate 3 refine wq rfl ?_
 refine wbslp 25665 (ps := [.ptr 25610 0 0, .ptr 25610 0 4, .ptr 25610 0 7]) rfl rfl rfl rfl rfl ?_
 iterate 2 refine wq rfl ?_
 refine CJ ?_
 refine tL ?_
 iterate 2 refine AA ?_
 refine NH (cn (st := _) (l := [(0, .str a0), (2, .ptr 25602 0 0), (4, .ptr 25604 0 0), (10, .ptr 25610 0 0), (65, .slr 25665 0 3), (66, j6 3), (67, j6 0)]) (m := [(25602, ⟨13, false, [.agg [j6 0, j6 0, j6 0, j6 0, j6 0, j6 0, j6 0, j6 0, j6 0, j6 0, .nl, .bool false, .nl]]⟩), (25604, ⟨3, false, [A8 IR.1]⟩), (25610, ⟨13, false, [.agg [j6 0, j6 0, j6 0, j6 (mx LQ.1 (BX (0 - LQ.1))), j6 0, j6 0, j6 0, j6 0, j6 0, j6 0, .nl, .bool (decide (LQ.1 < (0 : Int))), .nl]]⟩), (25665, ⟨1, false, [.ptr 25610 0 0, .ptr 25610 0 4, .ptr 25610 0 7]⟩)]) rfl rfl rfl rfl) ?_
 refine AB ?_
 refine AZ (p := .bool true) rfl rfl ?_
 refine AA ?_
 refine Dr rfl rfl ?_
 refine BH (AA (CJ (AA (AB ?_))))
 refine wq rfl ?_
 refine AZ rfl (KF (i := 0) (n := 3) (j := 0) rfl rfl rfl rfl rfl) ?_
 refine AZ rfl (Q4 (f := fun p : PV => p) (l := [.ptr 25610 0 0, .ptr 25610 0 4, .ptr 25610 0 7]) (e := .ptr 25610 0 0) (v := .ptr 25610 0 0) rfl rfl rfl rfl) ?_
 iterate 2 refine wq rfl ?_
 refine AA (AB ?_)
 iterate 2 refine wq rfl ?_
 obtain ⟨x75, Jt, h⟩ := AP h
 refine AZ (p := .sl 3 (List.map A8 x75)) rfl (congrArg (fun z => some (PV.sl 3 z)) (G5 (e := A8) BS Jt)) ?_
 refine wq rfl ?_
 refine AZ (p := j6 (1)) rfl rfl ?_
 obtain ⟨Fb, hx78, h⟩ := AP h
 refine AZ rfl (EU (cs := [eb Fb.Tag, .str Fb.Body, .sl 3 Fb.Kids]) hx78 rfl rfl rfl) ?_
 refine AZ (p := .ep [.str Fb.Body, .sl 3 Fb.Kids]) rfl rfl ?_
 refine wq rfl ?_
 obtain ⟨x81, Jr, h⟩ := AP h
 refine CW rfl (CX (RG N _ _ Jr) rfl (.cons A9 .nil) rfl rfl rfl) ?_
 iterate 4 refine wq rfl ?_
 refine ED (e' := .agg [j6 x81.1.Time, j6 x81.1.Seq, j6 x81.1.Rep, j6 (mx LQ.1 (BX (0 - LQ.1))), j6 0, j6 0, j6 0, j6 0, j6 0, j6 0, .nl, .bool (decide (LQ.1 < (0 : Int))), .nl]) rfl rfl rfl rfl rfl rfl rfl rfl nofun rfl ?_
 refine wq rfl ?_
 refine AA (AB ?_)
 iterate 2 refine wq rfl ?_
 refine EP h rfl (fun c5 h => ?_) (fun c5 h => ?_)
 refine AA (AB ?_)
 refine AZ (p := .agg [j6 0, j6 0, j6 0, j6 0, j6 0, j6 0, j6 0, j6 0, j6 0, j6 0, .nl, .bool false, .nl]) rfl rfl ?_
 refine tH (L6 87 (J4 (.cons A9 (.cons A9 (.cons A9 (.cons A9 (.cons A9 (.cons A9 (.cons A9 (.cons A9 (.cons A9 (.cons A9 (.cons (FH 2) (.cons A9 (.cons (FH 3) .nil))))))))))))) rfl) rfl) ?_
 refine ED (e' := .agg [j6 0, j6 0, j6 0, j6 0, j6 0, j6 0, j6 0, j6 0, j6 0, j6 0, .sl 2 (List.map AV []), .bool false, .sl 3 (List.map AL [])]) rfl rfl rfl rfl rfl rfl rfl rfl nofun rfl ?_
 refine wq rfl ?_
 cases AO h
 refine BR ?_
 exact ⟨nofun, rfl, rfl⟩
 refine BH (AB ?_)
 refine AZ (p := j6 (1)) rfl rfl ?_
 refine wq rfl ?_
 refine tL ?_
 iterate 2 refine AA ?_
 refine AB ?_
 refine AZ (p := .bool true) rfl rfl ?_
 refine AA ?_
 refine Dr rfl rfl ?_
 refine BH (AA (CJ (AA ?_)))
 refine NH (cn (st := _) (l := [(0, .str a0), (2, .ptr 25602 0 0), (4, .ptr 25604 0 0), (10, .ptr 25610 0 0), (65, .slr 25665 0 3), (66, j6 3), (67, j6 1)]) (m := [(25602, ⟨13, false, [.agg [j6 0, j6 0, j6 0, j6 0, j6 0, j6 0, j6 0, j6 0, j6 0, j6 0, .nl, .bool false, .nl]]⟩), (25604, ⟨3, false, [A8 IR.1]⟩), (25610, ⟨13, false, [.agg [j6 x81.1.Time, j6 x81.1.Seq, j6 x81.1.Rep, j6 (mx LQ.1 (BX (0 - LQ.1))), j6 0, j6 0, j6 0, j6 0, j6 0, j6 0, .nl, .bool (decide (LQ.1 < (0 : Int))), .nl]]⟩), (25665, ⟨1, false, [.ptr 25610 0 0, .ptr 25610 0 4, .ptr 25610 0 7]⟩)]) rfl rfl rfl rfl) ?_
 refine AB ?_
 refine wq rfl ?_
 refine AZ rfl (KF (i := 1) (n := 3) (j := 1) rfl rfl rfl rfl rfl) ?_
 refine AZ rfl (Q4 (f := fun p : PV => p) (l := [.ptr 25610 0 0, .ptr 25610 0 4, .ptr 25610 0 7]) (e := .ptr 25610 0 4) (v := .ptr 25610 0 4) rfl rfl rfl rfl) ?_
 iterate 2 refine wq rfl ?_
 refine AA (AB ?_)
 iterate 2 refine wq rfl ?_
 obtain ⟨gV, xJ, h⟩ := AP h
 refine AZ (p := .sl 3 (List.map A8 gV)) rfl (congrArg (fun z => some (PV.sl 3 z)) (G5 (e := A8) BS xJ)) ?_
 refine wq rfl ?_
 refine AZ (p := j6 (2)) rfl rfl ?_
 obtain ⟨SY, xI, h⟩ := AP h
 refine AZ rfl (EU (cs := [eb SY.Tag, .str SY.Body, .sl 3 SY.Kids]) xI rfl rfl rfl) ?_
 refine AZ (p := .ep [.str SY.Body, .sl 3 SY.Kids]) rfl rfl ?_
 refine wq rfl ?_
 obtain ⟨CZ, xH, h⟩ := AP h
 refine CW rfl (CX (RG N _ _ xH) rfl (.cons A9 .nil) rfl rfl rfl) ?_
 iterate 4 refine wq rfl ?_
 refine ED (e' := .agg [j6 x81.1.Time, j6 x81.1.Seq, j6 x81.1.Rep, j6 (mx LQ.1 (BX (0 - LQ.1))), j6 CZ.1.Time, j6 CZ.1.Seq, j6 CZ.1.Rep, j6 0, j6 0, j6 0, .nl, .bool (decide (LQ.1 < (0 : Int))), .nl]) rfl rfl rfl rfl rfl rfl rfl rfl nofun rfl ?_
 refine wq rfl ?_
 refine AA (AB ?_)
 iterate 2 refine wq rfl ?_
 refine EP h rfl (fun c6 h => ?_) (fun c6 h => ?_)
 refine AA (AB ?_)
 refine AZ (p := .agg [j6 0, j6 0, j6 0, j6 0, j6 0, j6 0, j6 0, j6 0, j6 0, j6 0, .nl, .bool false, .nl]) rfl rfl ?_
 refine tH (L6 87 (J4 (.cons A9 (.cons A9 (.cons A9 (.cons A9 (.cons A9 (.cons A9 (.cons A9 (.cons A9 (.cons A9 (.cons A9 (.cons (FH 2) (.cons A9 (.cons (FH 3) .nil))))))))))))) rfl) rfl) ?_
 refine ED (e' := .agg [j6 0, j6 0, j6 0, j6 0, j6 0, j6 0, j6 0, j6 0, j6 0, j6 0, .sl 2 (List.map AV []), .bool false, .sl 3 (List.map AL [])]) rfl rfl rfl rfl rfl rfl rfl rfl nofun rfl ?_
 refine wq rfl ?_
 cases AO h
 refine BR ?_
 exact ⟨nofun, rfl, rfl⟩
 refine BH (AB ?_)
 refine AZ (p := j6 (2)) rfl rfl ?_
 refine wq rfl ?_
 refine tL ?_
 iterate 2 refine AA ?_
 refine AB ?_
 refine AZ (p := .bool true) rfl rfl ?_
 refine AA ?_
 refine Dr rfl rfl ?_
 refine BH (AA (CJ (AA (AB ?_))))
 refine wq rfl ?_
 refine AZ rfl (KF (i := 2) (n := 3) (j := 2) rfl rfl rfl rfl rfl) ?_
 refine AZ rfl (Q4 (f := fun p : PV => p) (l := [.ptr 25610 0 0, .ptr 25610 0 4, .ptr 25610 0 7]) (e := .ptr 25610 0 7) (v := .ptr 25610 0 7) rfl rfl rfl rfl) ?_
 iterate 2 refine wq rfl ?_
 refine AA ?_
 refine NH (cn (st := _) (l := [(0, .str a0), (2, .ptr 25602 0 0), (4, .ptr 25604 0 0), (10, .ptr 25610 0 0), (11, j6 2), (12, .ptr 25610 0 7), (65, .slr 25665 0 3), (66, j6 3), (67, j6 2)]) (m := [(25602, ⟨13, false, [.agg [j6 0, j6 0, j6 0, j6 0, j6 0, j6 0, j6 0, j6 0, j6 0, j6 0, .nl, .bool false, .nl]]⟩), (25604, ⟨3, false, [A8 IR.1]⟩), (25610, ⟨13, false, [.agg [j6 x81.1.Time, j6 x81.1.Seq, j6 x81.1.Rep, j6 (mx LQ.1 (BX (0 - LQ.1))), j6 CZ.1.Time, j6 CZ.1.Seq, j6 CZ.1.Rep, j6 0, j6 0, j6 0, .nl, .bool (decide (LQ.1 < (0 : Int))), .nl]]⟩), (25665, ⟨1, false, [.ptr 25610 0 0, .ptr 25610 0 4, .ptr 25610 0 7]⟩)]) rfl rfl rfl rfl) ?_
 refine AB ?_
 iterate 2 refine wq rfl ?_
 obtain ⟨gT, xD, h⟩ := AP h
 refine AZ (p := .sl 3 (List.map A8 gT)) rfl (congrArg (fun z => some (PV.sl 3 z)) (G5 (e := A8) BS xD)) ?_
 refine wq rfl ?_
 refine AZ (p := j6 (3)) rfl rfl ?_
 obtain ⟨SX, xC, h⟩ := AP h
 refine AZ rfl (EU (cs := [eb SX.Tag, .str SX.Body, .sl 3 SX.Kids]) xC rfl rfl rfl) ?_
 refine AZ (p := .ep [.str SX.Body, .sl 3 SX.Kids]) rfl rfl ?_
 refine wq rfl ?_
 obtain ⟨EF, xB, h⟩ := AP h
 refine CW rfl (CX (RG N _ _ xB) rfl (.cons A9 .nil) rfl rfl rfl) ?_
 iterate 4 refine wq rfl ?_
 refine ED (e' := .agg [j6 x81.1.Time, j6 x81.1.Seq, j6 x81.1.Rep, j6 (mx LQ.1 (BX (0 - LQ.1))), j6 CZ.1.Time, j6 CZ.1.Seq, j6 CZ.1.Rep, j6 EF.1.Time, j6 EF.1.Seq, j6 EF.1.Rep, .nl, .bool (decide (LQ.1 < (0 : Int))), .nl]) rfl rfl rfl rfl rfl rfl rfl rfl nofun rfl ?_
 refine wq rfl ?_
 refine AA (AB ?_)
 iterate 2 refine wq rfl ?_
 refine EP h rfl (fun c7 h => ?_) (fun c7 h => ?_)
 refine AA (AB ?_)
 refine AZ (p := .agg [j6 0, j6 0, j6 0, j6 0, j6 0, j6 0, j6 0, j6 0, j6 0, j6 0, .nl, .bool false, .nl]) rfl rfl ?_
 refine tH (L6 87 (J4 (.cons A9 (.cons A9 (.cons A9 (.cons A9 (.cons A9 (.cons A9 (.cons A9 (.cons A9 (.cons A9 (.cons A9 (.cons (FH 2) (.cons A9 (.cons (FH 3) .nil))))))))))))) rfl) rfl) ?_
 refine ED (e' := .agg [j6 0, j6 0, j6 0, j6 0, j6 0, j6 0, j6 0, j6 0, j6 0, j6 0, .sl 2 (List.map AV []), .bool false, .sl 3 (List.map AL [])]) rfl rfl rfl rfl rfl rfl rfl rfl nofun rfl ?_
 refine wq rfl ?_
 cases AO h
 refine BR ?_
 exact ⟨nofun, rfl, rfl⟩
 refine BH (AB ?_)
 refine AZ (p := j6 (3)) rfl rfl ?_
 refine wq rfl ?_
 obtain ⟨y8, zW, h⟩ := AP h
 refine PQ (X3 N a0 IR LQ x81 CZ EF N _ _ zW) (cq rfl) ?_
 rintro e s ⟨rfl, rfl⟩
 refine AA (AB ?_)
 refine wq rfl ?_
 obtain ⟨x90, hx90, h⟩ := AP h
 refine AZ (p := .sl 3 (List.map A8 x90)) rfl (congrArg (fun z => some (PV.sl 3 z)) (G5 (e := A8) BS hx90)) ?_
 obtain ⟨x91, hx91, h⟩ := AP h
 refine AZ rfl (EU (cs := [eb x91.Tag, .str x91.Body, .sl 3 x91.Kids]) hx91 rfl rfl rfl) ?_
 refine AZ (p := .ep [.sl 3 x91.Kids]) rfl rfl ?_
 obtain ⟨x93, hx93, h⟩ := AP h
 refine AZ (p := .sl 3 (List.map A8 x93)) rfl (congrArg (fun z => some (PV.sl 3 z)) (G5 (e := A8) BS hx93)) ?_
 refine wq rfl ?_
 iterate 2 refine AA ?_
 refine AB ?_
 refine wq rfl ?_
 refine CJ ?_
 obtain ⟨OP, Cg, h⟩ := AP h
 refine PQ (X0 N a0 IR x93 N _ _ Cg) (C9.trans (iJ 556110 2 true rfl rfl) (C9.trans (oW 25610 (Q := fun R => R 556110 = some ⟨2, true, []⟩) (x := .agg [j6 x81.1.Time, j6 x81.1.Seq, j6 x81.1.Rep, j6 (mx LQ.1 (BX (0 - LQ.1))), j6 CZ.1.Time, j6 CZ.1.Seq, j6 CZ.1.Rep, j6 EF.1.Time, j6 EF.1.Seq, j6 EF.1.Rep, .nl, .bool (decide (LQ.1 < (0 : Int))), .nl]) (y := .agg [j6 x81.1.Time, j6 x81.1.Seq, j6 x81.1.Rep, j6 (mx LQ.1 (BX (0 - LQ.1))), j6 CZ.1.Time, j6 CZ.1.Seq, j6 CZ.1.Rep, j6 EF.1.Time, j6 EF.1.Seq, j6 EF.1.Rep, .slr 556110 0 0, .bool (decide (LQ.1 < (0 : Int))), .nl]) (.cons (fun _ _ _ _ _ _ h => h) (.cons (fun _ _ _ _ _ _ h => h) (.cons (fun _ _ _ _ _ _ h => h) (.cons (fun _ _ _ _ _ _ h => h) (.cons (fun _ _ _ _ _ _ h => h) (.cons (fun _ _ _ _ _ _ h => h) (.cons (fun _ _ _ _ _ _ h => h) (.cons (fun _ _ _ _ _ _ h => h) (.cons (fun _ _ _ _ _ _ h => h) (.cons (fun _ _ _ _ _ _ h => h) (.cons ZV (RV _)))))))))))) rfl rfl rfl) (cq rfl))) ?_
 rintro e s ⟨rfl, rfl⟩
 iterate 2 refine AA ?_
 refine AB ?_
 refine wq rfl ?_
 obtain ⟨Fu, hx119, h⟩ := AP h
 refine AZ (p := .sl 3 (List.map A8 Fu)) rfl (congrArg (fun z => some (PV.sl 3 z)) (G5 (e := A8) BS hx119)) ?_
 obtain ⟨rA, hx120, h⟩ := AP h
 refine AZ rfl (EU (cs := [eb rA.Tag, .str rA.Body, .sl 3 rA.Kids]) hx120 rfl rfl rfl) ?_
 refine AZ (p := .ep [.sl 3 rA.Kids]) rfl rfl ?_
 obtain ⟨JL, xE, h⟩ := AP h
 refine AZ (p := .sl 3 (List.map A8 JL)) rfl (congrArg (fun z => some (PV.sl 3 z)) (G5 (e := A8) BS xE)) ?_
 refine AZ rfl (CO rfl) ?_
 refine wq rfl ?_
 refine CJ ?_
 obtain ⟨BP, hy15, h⟩ := AP h
 refine PQ (WZ N a0 JL N _ _ hy15) (C9.trans (iJ 556112 3 true rfl rfl) (C9.trans (oW 25610 (Q := fun R => R 556112 = some ⟨3, true, []⟩) (x := .agg [j6 OP.1, j6 OP.2.1, j6 OP.2.2.1, j6 OP.2.2.2.1, j6 OP.2.2.2.2.1, j6 OP.2.2.2.2.2.1, j6 OP.2.2.2.2.2.2.1, j6 OP.2.2.2.2.2.2.2.1, j6 OP.2.2.2.2.2.2.2.2.1, j6 OP.2.2.2.2.2.2.2.2.2.1, .slr 556110 0 OP.2.2.2.2.2.2.2.2.2.2.2.length, .bool OP.2.2.2.2.2.2.2.2.2.2.1, .nl]) (y := .agg [j6 OP.1, j6 OP.2.1, j6 OP.2.2.1, j6 OP.2.2.2.1, j6 OP.2.2.2.2.1, j6 OP.2.2.2.2.2.1, j6 OP.2.2.2.2.2.2.1, j6 OP.2.2.2.2.2.2.2.1, j6 OP.2.2.2.2.2.2.2.2.1, j6 OP.2.2.2.2.2.2.2.2.2.1, .slr 556110 0 OP.2.2.2.2.2.2.2.2.2.2.2.length, .bool OP.2.2.2.2.2.2.2.2.2.2.1, .slr 556112 0 0]) (.cons (fun _ _ _ _ _ _ h => h) (.cons (fun _ _ _ _ _ _ h => h) (.cons (fun _ _ _ _ _ _ h => h) (.cons (fun _ _ _ _ _ _ h => h) (.cons (fun _ _ _ _ _ _ h => h) (.cons (fun _ _ _ _ _ _ h => h) (.cons (fun _ _ _ _ _ _ h => h) (.cons (fun _ _ _ _ _ _ h => h) (.cons (fun _ _ _ _ _ _ h => h) (.cons (fun _ _ _ _ _ _ h => h) (.cons (fun _ _ _ _ _ _ h => h) (.cons (fun _ _ _ _ _ _ h => h) (.cons ZV (RV _)))))))))))))) rfl rfl rfl) (cq rfl))) ?_
 clear hy15
 rcases BP with BP | BP
 rintro e s ⟨rfl, rfl⟩
 iterate 2 refine AA ?_
 refine AB ?_
 refine AZ (p := .agg [j6 BP.1, j6 BP.2.1, j6 BP.2.2.1, j6 BP.2.2.2.1, j6 BP.2.2.2.2.1, j6 BP.2.2.2.2.2.1, j6 BP.2.2.2.2.2.2.1, j6 BP.2.2.2.2.2.2.2.1, j6 BP.2.2.2.2.2.2.2.2.1, j6 BP.2.2.2.2.2.2.2.2.2.1, .slr 556110 0 BP.2.2.2.2.2.2.2.2.2.2.2.1.length, .bool BP.2.2.2.2.2.2.2.2.2.2.1, .slr 556112 0 BP.2.2.2.2.2.2.2.2.2.2.2.2.length]) rfl rfl ?_
 obtain ⟨Fj, hx174, h⟩ := AP h
 refine CW rfl (CX (NQ N _ _ hx174) rfl (.cons (J4 (.cons A9 (.cons A9 (.cons A9 (.cons A9 (.cons A9 (.cons A9 (.cons A9 (.cons A9 (.cons A9 (.cons A9 (.cons (aB rfl (BU (f := AV) (l := BP.2.2.2.2.2.2.2.2.2.2.2.1))) (.cons A9 (.cons (aB rfl (BU (f := AL) (l := BP.2.2.2.2.2.2.2.2.2.2.2.2))) .nil))))))))))))) rfl) .nil) rfl rfl rfl) ?_
 iterate 5 refine wq rfl ?_
 obtain ⟨g16, xK, h⟩ := AP h
 refine GZ ⟨AX [(2, .ptr 25602 0 0), (10, .ptr 25610 0 0), (183, .bool g16)], AX [(25602, ⟨13, false, [.agg [j6 0, j6 0, j6 0, j6 0, j6 0, j6 0, j6 0, j6 0, j6 0, j6 0, .nl, .bool false, .nl]]⟩), (25610, ⟨13, false, [.agg [j6 BP.1, j6 BP.2.1, j6 BP.2.2.1, j6 BP.2.2.2.1, j6 BP.2.2.2.2.1, j6 BP.2.2.2.2.2.1, j6 BP.2.2.2.2.2.2.1, j6 BP.2.2.2.2.2.2.2.1, j6 BP.2.2.2.2.2.2.2.2.1, j6 BP.2.2.2.2.2.2.2.2.2.1, .slr 556110 0 BP.2.2.2.2.2.2.2.2.2.2.2.1.length, .bool BP.2.2.2.2.2.2.2.2.2.2.1, .slr 556112 0 BP.2.2.2.2.2.2.2.2.2.2.2.2.length]]⟩), (556110, ⟨2, true, List.map AV BP.2.2.2.2.2.2.2.2.2.2.2.1⟩), (556112, ⟨3, true, List.map AL BP.2.2.2.2.2.2.2.2.2.2.2.2⟩)]⟩ ?_ ?_
 have h := xK
 refine AB ?_
 iterate 3 refine wq rfl ?_
 rcases CY h with ⟨c17, h⟩ | ⟨c17, h⟩
 iterate 3 refine D7 (gn rfl c17) ?_
 refine AZ rfl (BG c17 rfl rfl) ?_
 obtain rfl := AO h
 exact cq rfl
 iterate 3 refine AZ (gy rfl c17) rfl ?_
 refine AZ rfl (BD c17 rfl rfl) ?_
 cases AO h
 exact cq rfl
 clear xK
 refine EP h rfl (fun c18 h => ?_) (fun c18 h => ?_)
 refine AA (AB ?_)
 refine AZ (p := .agg [j6 0, j6 0, j6 0, j6 0, j6 0, j6 0, j6 0, j6 0, j6 0, j6 0, .nl, .bool false, .nl]) rfl rfl ?_
 refine tH (L6 184 (J4 (.cons A9 (.cons A9 (.cons A9 (.cons A9 (.cons A9 (.cons A9 (.cons A9 (.cons A9 (.cons A9 (.cons A9 (.cons (FH 2) (.cons A9 (.cons (FH 3) .nil))))))))))))) rfl) rfl) ?_
 refine ED (e' := .agg [j6 0, j6 0, j6 0, j6 0, j6 0, j6 0, j6 0, j6 0, j6 0, j6 0, .sl 2 (List.map AV []), .bool false, .sl 3 (List.map AL [])]) rfl rfl rfl rfl rfl rfl rfl rfl nofun rfl ?_
 refine wq rfl ?_
 cases AO h
 refine BR ?_
 exact ⟨nofun, rfl, rfl⟩
 refine BH (AA (AB ?_))
 refine AZ (p := .agg [j6 BP.1, j6 BP.2.1, j6 BP.2.2.1, j6 BP.2.2.2.1, j6 BP.2.2.2.2.1, j6 BP.2.2.2.2.2.1, j6 BP.2.2.2.2.2.2.1, j6 BP.2.2.2.2.2.2.2.1, j6 BP.2.2.2.2.2.2.2.2.1, j6 BP.2.2.2.2.2.2.2.2.2.1, .slr 556110 0 BP.2.2.2.2.2.2.2.2.2.2.2.1.length, .bool BP.2.2.2.2.2.2.2.2.2.2.1, .slr 556112 0 BP.2.2.2.2.2.2.2.2.2.2.2.2.length]) rfl rfl ?_
 refine ED (e' := .agg [j6 BP.1, j6 BP.2.1, j6 BP.2.2.1, j6 BP.2.2.2.1, j6 BP.2.2.2.2.1, j6 BP.2.2.2.2.2.1, j6 BP.2.2.2.2.2.2.1, j6 BP.2.2.2.2.2.2.2.1, j6 BP.2.2.2.2.2.2.2.2.1, j6 BP.2.2.2.2.2.2.2.2.2.1, .slr 556110 0 BP.2.2.2.2.2.2.2.2.2.2.2.1.length, .bool BP.2.2.2.2.2.2.2.2.2.2.1, .slr 556112 0 BP.2.2.2.2.2.2.2.2.2.2.2.2.length]) rfl rfl rfl rfl rfl rfl rfl rfl nofun rfl ?_
 refine wq rfl ?_
 cases AO h
 refine EX (st1 := ⟨AX [(2, .ptr 25602 0 0), (3, j6 0)], AX [(25602, ⟨13, false, [AJ (⟨(⟨BP.1, BP.2.1, BP.2.2.1⟩ : AQ), BP.2.2.2.1, (⟨BP.2.2.2.2.1, BP.2.2.2.2.2.1, BP.2.2.2.2.2.2.1⟩ : AQ), (⟨BP.2.2.2.2.2.2.2.1, BP.2.2.2.2.2.2.2.2.1, BP.2.2.2.2.2.2.2.2.2.1⟩ : AQ), BP.2.2.2.2.2.2.2.2.2.2.2.1, BP.2.2.2.2.2.2.2.2.2.2.1, BP.2.2.2.2.2.2.2.2.2.2.2.2⟩ : AR)]⟩)]⟩) (C9.trans (Vd.freeze 556110 _ rfl rfl rfl) (C9.trans (Vd.freeze 556112 _ rfl rfl rfl) (C9.trans (mO 25602 (x := .agg [j6 BP.1, j6 BP.2.1, j6 BP.2.2.1, j6 BP.2.2.2.1, j6 BP.2.2.2.2.1, j6 BP.2.2.2.2.2.1, j6 BP.2.2.2.2.2.2.1, j6 BP.2.2.2.2.2.2.2.1, j6 BP.2.2.2.2.2.2.2.2.1, j6 BP.2.2.2.2.2.2.2.2.2.1, .sl 2 (List.take BP.2.2.2.2.2.2.2.2.2.2.2.1.length (List.drop 0 (List.map AV BP.2.2.2.2.2.2.2.2.2.2.2.1))), .bool BP.2.2.2.2.2.2.2.2.2.2.1, .sl 3 (List.take BP.2.2.2.2.2.2.2.2.2.2.2.2.length (List.drop 0 (List.map AL BP.2.2.2.2.2.2.2.2.2.2.2.2)))]) (y := .agg [j6 (((⟨(⟨BP.1, BP.2.1, BP.2.2.1⟩ : AQ), BP.2.2.2.1, (⟨BP.2.2.2.2.1, BP.2.2.2.2.2.1, BP.2.2.2.2.2.2.1⟩ : AQ), (⟨BP.2.2.2.2.2.2.2.1, BP.2.2.2.2.2.2.2.2.1, BP.2.2.2.2.2.2.2.2.2.1⟩ : AQ), BP.2.2.2.2.2.2.2.2.2.2.2.1, BP.2.2.2.2.2.2.2.2.2.2.1, BP.2.2.2.2.2.2.2.2.2.2.2.2⟩ : AR).CSN).Time), j6 (((⟨(⟨BP.1, BP.2.1, BP.2.2.1⟩ : AQ), BP.2.2.2.1, (⟨BP.2.2.2.2.1, BP.2.2.2.2.2.1, BP.2.2.2.2.2.2.1⟩ : AQ), (⟨BP.2.2.2.2.2.2.2.1, BP.2.2.2.2.2.2.2.2.1, BP.2.2.2.2.2.2.2.2.2.1⟩ : AQ), BP.2.2.2.2.2.2.2.2.2.2.2.1, BP.2.2.2.2.2.2.2.2.2.2.1, BP.2.2.2.2.2.2.2.2.2.2.2.2⟩ : AR).CSN).Seq), j6 (((⟨(⟨BP.1, BP.2.1, BP.2.2.1⟩ : AQ), BP.2.2.2.1, (⟨BP.2.2.2.2.1, BP.2.2.2.2.2.1, BP.2.2.2.2.2.2.1⟩ : AQ), (⟨BP.2.2.2.2.2.2.2.1, BP.2.2.2.2.2.2.2.2.1, BP.2.2.2.2.2.2.2.2.2.1⟩ : AQ), BP.2.2.2.2.2.2.2.2.2.2.2.1, BP.2.2.2.2.2.2.2.2.2.2.1, BP.2.2.2.2.2.2.2.2.2.2.2.2⟩ : AR).CSN).Rep), j6 ((⟨(⟨BP.1, BP.2.1, BP.2.2.1⟩ : AQ), BP.2.2.2.1, (⟨BP.2.2.2.2.1, BP.2.2.2.2.2.1, BP.2.2.2.2.2.2.1⟩ : AQ), (⟨BP.2.2.2.2.2.2.2.1, BP.2.2.2.2.2.2.2.2.1, BP.2.2.2.2.2.2.2.2.2.1⟩ : AQ), BP.2.2.2.2.2.2.2.2.2.2.2.1, BP.2.2.2.2.2.2.2.2.2.2.1, BP.2.2.2.2.2.2.2.2.2.2.2.2⟩ : AR).Kind), j6 (((⟨(⟨BP.1, BP.2.1, BP.2.2.1⟩ : AQ), BP.2.2.2.1, (⟨BP.2.2.2.2.1, BP.2.2.2.2.2.1, BP.2.2.2.2.2.2.1⟩ : AQ), (⟨BP.2.2.2.2.2.2.2.1, BP.2.2.2.2.2.2.2.2.1, BP.2.2.2.2.2.2.2.2.2.1⟩ : AQ), BP.2.2.2.2.2.2.2.2.2.2.2.1, BP.2.2.2.2.2.2.2.2.2.2.1, BP.2.2.2.2.2.2.2.2.2.2.2.2⟩ : AR).ID).Time), j6 (((⟨(⟨BP.1, BP.2.1, BP.2.2.1⟩ : AQ), BP.2.2.2.1, (⟨BP.2.2.2.2.1, BP.2.2.2.2.2.1, BP.2.2.2.2.2.2.1⟩ : AQ), (⟨BP.2.2.2.2.2.2.2.1, BP.2.2.2.2.2.2.2.2.1, BP.2.2.2.2.2.2.2.2.2.1⟩ : AQ), BP.2.2.2.2.2.2.2.2.2.2.2.1, BP.2.2.2.2.2.2.2.2.2.2.1, BP.2.2.2.2.2.2.2.2.2.2.2.2⟩ : AR).ID).Seq), j6 (((⟨(⟨BP.1, BP.2.1, BP.2.2.1⟩ : AQ), BP.2.2.2.1, (⟨BP.2.2.2.2.1, BP.2.2.2.2.2.1, BP.2.2.2.2.2.2.1⟩ : AQ), (⟨BP.2.2.2.2.2.2.2.1, BP.2.2.2.2.2.2.2.2.1, BP.2.2.2.2.2.2.2.2.2.1⟩ : AQ), BP.2.2.2.2.2.2.2.2.2.2.2.1, BP.2.2.2.2.2.2.2.2.2.2.1, BP.2.2.2.2.2.2.2.2.2.2.2.2⟩ : AR).ID).Rep), j6 (((⟨(⟨BP.1, BP.2.1, BP.2.2.1⟩ : AQ), BP.2.2.2.1, (⟨BP.2.2.2.2.1, BP.2.2.2.2.2.1, BP.2.2.2.2.2.2.1⟩ : AQ), (⟨BP.2.2.2.2.2.2.2.1, BP.2.2.2.2.2.2.2.2.1, BP.2.2.2.2.2.2.2.2.2.1⟩ : AQ), BP.2.2.2.2.2.2.2.2.2.2.2.1, BP.2.2.2.2.2.2.2.2.2.2.1, BP.2.2.2.2.2.2.2.2.2.2.2.2⟩ : AR).Parent).Time), j6 (((⟨(⟨BP.1, BP.2.1, BP.2.2.1⟩ : AQ), BP.2.2.2.1, (⟨BP.2.2.2.2.1, BP.2.2.2.2.2.1, BP.2.2.2.2.2.2.1⟩ : AQ), (⟨BP.2.2.2.2.2.2.2.1, BP.2.2.2.2.2.2.2.2.1, BP.2.2.2.2.2.2.2.2.2.1⟩ : AQ), BP.2.2.2.2.2.2.2.2.2.2.2.1, BP.2.2.2.2.2.2.2.2.2.2.1, BP.2.2.2.2.2.2.2.2.2.2.2.2⟩ : AR).Parent).Seq), j6 (((⟨(⟨BP.1, BP.2.1, BP.2.2.1⟩ : AQ), BP.2.2.2.1, (⟨BP.2.2.2.2.1, BP.2.2.2.2.2.1, BP.2.2.2.2.2.2.1⟩ : AQ), (⟨BP.2.2.2.2.2.2.2.1, BP.2.2.2.2.2.2.2.2.1, BP.2.2.2.2.2.2.2.2.2.1⟩ : AQ), BP.2.2.2.2.2.2.2.2.2.2.2.1, BP.2.2.2.2.2.2.2.2.2.2.1, BP.2.2.2.2.2.2.2.2.2.2.2.2⟩ : AR).Parent).Rep), .sl 2 (List.map AV ((⟨(⟨BP.1, BP.2.1, BP.2.2.1⟩ : AQ), BP.2.2.2.1, (⟨BP.2.2.2.2.1, BP.2.2.2.2.2.1, BP.2.2.2.2.2.2.1⟩ : AQ), (⟨BP.2.2.2.2.2.2.2.1, BP.2.2.2.2.2.2.2.2.1, BP.2.2.2.2.2.2.2.2.2.1⟩ : AQ), BP.2.2.2.2.2.2.2.2.2.2.2.1, BP.2.2.2.2.2.2.2.2.2.2.1, BP.2.2.2.2.2.2.2.2.2.2.2.2⟩ : AR).RDN)), .bool ((⟨(⟨BP.1, BP.2.1, BP.2.2.1⟩ : AQ), BP.2.2.2.1, (⟨BP.2.2.2.2.1, BP.2.2.2.2.2.1, BP.2.2.2.2.2.2.1⟩ : AQ), (⟨BP.2.2.2.2.2.2.2.1, BP.2.2.2.2.2.2.2.2.1, BP.2.2.2.2.2.2.2.2.2.1⟩ : AQ), BP.2.2.2.2.2.2.2.2.2.2.2.1, BP.2.2.2.2.2.2.2.2.2.2.1, BP.2.2.2.2.2.2.2.2.2.2.2.2⟩ : AR).DelOld), .sl 3 (List.map AL ((⟨(⟨BP.1, BP.2.1, BP.2.2.1⟩ : AQ), BP.2.2.2.1, (⟨BP.2.2.2.2.1, BP.2.2.2.2.2.1, BP.2.2.2.2.2.2.1⟩ : AQ), (⟨BP.2.2.2.2.2.2.2.1, BP.2.2.2.2.2.2.2.2.1, BP.2.2.2.2.2.2.2.2.2.1⟩ : AQ), BP.2.2.2.2.2.2.2.2.2.2.2.1, BP.2.2.2.2.2.2.2.2.2.2.1, BP.2.2.2.2.2.2.2.2.2.2.2.2⟩ : AR).Mods))]) (.cons A9 (.cons A9 (.cons A9 (.cons A9 (.cons A9 (.cons A9 (.cons A9 (.cons A9 (.cons A9 (.cons A9 (.cons (GQ (congrArg (PV.sl 2) (BU (f := AV) (l := BP.2.2.2.2.2.2.2.2.2.2.2.1)))) (.cons A9 (.cons (GQ (congrArg (PV.sl 3) (BU (f := AL) (l := BP.2.2.2.2.2.2.2.2.2.2.2.2)))) .nil))))))))))))) rfl rfl) (cq rfl)))) ?_
 exact ⟨nofun, rfl, rfl⟩
 rintro e s ⟨rfl, rfl⟩
 cases AO h
 exact ⟨nofun, rfl, rfl⟩
def q9 : IC := (.seq (.seq (.reg [jm 11 5, jm 12 0, jL 13 12, jb .lss 14 11 13]) (.cond (.t 14) .skip (.exit 0))) (.seq (.block 1 (.seq (.regd 9 [jm 17 0, jm 18 5, jx 19 2 17 18, jg 20 2 19, jm 21 1, jm 22 5, jx 23 2 21 22, jg 24 2 23, jn 25 (.eqs true [.s, .s] (.t 20) (.t 24))]) (.cond (.t 25) (.seq (.reg [jc 4 (.bool false)]) .ret) .skip))) (.reg [jm 15 5, ju .add 16 15 1, jm 5 16])))
def k39 : IC := (.seq (.reg [jc 4 (.bool false)]) (.seq (.seq (.reg [jm 6 0, jL 7 6, jm 8 1, jL 9 8, jb .neq 10 7 9]) (.cond (.t 10) (.seq (.reg [jc 4 (.bool false)]) .ret) .skip)) (.seq (.seq (.reg [jc 5 (j6 0)]) (.block 0 (.loop q9))) (.seq (.reg [jc 4 (.bool true)]) .ret))))
theorem Ip : BV Tryz.prog Tryz.f39 = some ⟨26, k39, [(.tmp 4)]⟩ := by kernel_rfl
theorem QM (N : Nat) (a0 : List AU) (a1 : List AU) : ∀ (n : Nat) (x : Int) (y : Unit ⊕ Bool), EH N a0 a1 n x = some y → WX Tryz.prog (fun _ => false) (.loop q9) ((fun (x : Int) => ⟨AX [(0, .sl 2 (List.map AV a0)), (1, .sl 2 (List.map AV a1)), (5, j6 x)], AX []⟩) x) ((Sum.elim (fun y e s => e = .exit 0 ∧ s = ⟨AX [], AX []⟩) (fun y e s => e = .ret ∧ s = ⟨AX [(4, .bool y)], AX []⟩) : (Unit ⊕ Bool) → Xt → St → Prop) y) := by
 refine F5 _ _ (EH N a0 a1) (FU N a0 a1) (fun _ => rfl) (fun _ _ => rfl) ?_
 rintro rec v5l14 y h
 iterate 2 refine AA ?_
 refine AB ?_
 iterate 2 refine wq rfl ?_
 refine AZ rfl (CO rfl) ?_
 refine wq rfl ?_
 refine EP h rfl (fun c2 h => ?_) (fun c2 h => ?_)
 refine BH (AA (CJ (AA (NG ?_))))
 iterate 2 refine dq rfl ?_
 obtain ⟨OO, bO, h⟩ := AP h
 refine JF rfl (EU (cs := [.str OO.Attr, .str OO.Value]) bO rfl rfl rfl) ?_
 refine JF (p := AV OO) rfl rfl ?_
 iterate 2 refine dq rfl ?_
 obtain ⟨gQ, nM, h⟩ := AP h
 refine JF rfl (EU (cs := [.str gQ.Attr, .str gQ.Value]) nM rfl rfl rfl) ?_
 refine JF (p := AV gQ) rfl rfl ?_
 refine JF (p := .bool (!(OO.Attr == gQ.Attr && (OO.Value == gQ.Value && true)))) rfl rfl ?_
 refine EP h rfl (fun c3 h => ?_) (fun c3 h => ?_)
 refine AA (AB ?_)
 refine wq rfl ?_
 obtain rfl := AO h
 exact EX (st1 := ⟨AX [(4, .bool false)], AX []⟩) (cq rfl) ⟨rfl, rfl⟩
 refine BH (AB ?_)
 refine wq rfl ?_
 refine AZ (p := j6 (BX (v5l14 + (1 : Int)))) rfl rfl ?_
 refine wq rfl ?_
 exact ⟨(BX (v5l14 + (1 : Int))), (cq rfl), h⟩
 cases AO h
 exact D9 (st1 := ⟨AX [], AX []⟩) (cq rfl) ⟨rfl, rfl⟩
theorem SA (N : Nat) (a0 : List AU) (a1 : List AU) (r : Bool) (h : IQ N a0 a1 = some r) : Sat Tryz.prog 39 AC [.sl 2 (List.map AV a0), .sl 2 (List.map AV a1)] (.bool r) AC := by
 refine EL mixed Tryz.func39 Ip (rs := [.bool r]) rfl rfl ?_
 refine AA (AB ?_)
 refine wq rfl ?_
 iterate 2 refine AA ?_
 refine AB ?_
 refine wq rfl ?_
 refine AZ rfl (CO rfl) ?_
 refine wq rfl ?_
 refine AZ rfl (CO rfl) ?_
 refine wq rfl ?_
 refine EP h rfl (fun c1 h => ?_) (fun c1 h => ?_)
 refine AA (AB ?_)
 refine wq rfl ?_
 obtain rfl := AO h
 refine BR ?_
 exact ⟨nofun, rfl, rfl⟩
 refine BH ?_
 iterate 2 refine AA ?_
 refine AB ?_
 refine wq rfl ?_
 refine CJ ?_
 obtain ⟨y4, hy4, h⟩ := AP h
 refine PQ (QM N a0 a1 N _ _ hy4) (cq rfl) ?_
 clear hy4
 rcases y4 with y4 | y4
 rintro e s ⟨rfl, rfl⟩
 refine AA (AB ?_)
 refine wq rfl ?_
 obtain rfl := AO h
 refine BR ?_
 exact ⟨nofun, rfl, rfl⟩
 rintro e s ⟨rfl, rfl⟩
 obtain rfl := AO h
 exact ⟨nofun, rfl, rfl⟩
def I4 : List (List Nat) := [[], [0], [], [1, 2], [3], [], [5], [], [6, 7], [8], [], [], [10, 4, 0, 1, 2, 3, 4, 10, 11], [11, 9, 12, 0, 1, 2, 3, 4, 5, 6, 7, 8, 9, 10, 11, 12]]
def I1 : List Ins := [ja 66 12 2, jl 67 1 66, jm 68 5, jx 69 3 67 68, jg 70 3 69, ja 71 12 3, jl 72 1 71, jm 73 5, jx 74 3 72 73, jg 75 3 74, jn 6 (.box 44 (.c (.agg [(j6 0), (.str []), .nl]))), jn 7 (.box 44 (.c (.agg [(j6 0), (.str []), .nl]))), js 3 6 70, js 3 7 75]
def qH : IC := (.seq (.seq (.reg [jm 97 8, ja 98 2 6, jl 99 1 98, jL 100 99, jb .lss 101 97 100]) (.cond (.t 101) .skip (.exit 2))) (.seq (.block 3 (.seq (.regd 11 [ja 104 2 6, jl 105 1 104, jm 106 8, jx 107 1 105 106, jl 108 1 107, ja 109 2 7, jl 110 1 109, jm 111 8, jx 112 1 110 111, jl 113 1 112, jb .neq 114 108 113]) (.cond (.t 114) (.seq (.reg [jc 4 (.bool false)]) .ret) .skip))) (.reg [jm 102 8, ju .add 103 102 1, jm 8 103])))
def qI : IC := (.seq (.seq (.reg [jm 59 5, ja 60 12 2, jl 61 1 60, jL 62 61, jb .lss 63 59 62]) (.cond (.t 63) .skip (.exit 0))) (.seq (.block 1 (.seq (.regf 12 [5, 6, 7, 8, 9] I4 I1) (.seq (.seq (.reg [ja 76 0 6, jl 77 1 76, ja 78 0 7, jl 79 1 78, jb .neq 80 77 79, jm 81 80, jf 81 82 (.fda 1 (.t 6)), jf 81 83 (.load 1 false (.t 82)), jf 81 84 (.fda 1 (.t 7)), jf 81 85 (.load 1 false (.t 84)), jf 81 86 (.bin .neq (.t 83) (.t 85)), jo 87 81 86, jm 88 87, jf 88 89 (.fda 2 (.t 6)), jf 88 90 (.load 1 false (.t 89)), jf 88 91 (.len false (.t 90)), jf 88 92 (.fda 2 (.t 7)), jf 88 93 (.load 1 false (.t 92)), jf 88 94 (.len false (.t 93)), jf 88 95 (.bin .neq (.t 91) (.t 94)), jo 96 88 95]) (.cond (.t 96) (.seq (.reg [jc 4 (.bool false)]) .ret) .skip)) (.seq (.reg [jc 8 (j6 0)]) (.block 2 (.loop qH)))))) (.reg [jm 64 5, ju .add 65 64 1, jm 5 65])))
def k13 : IC := (.seq (.reg [jn 2 (.box 28 (.t 0)), jn 3 (.box 28 (.t 1)), jc 4 (.bool false)]) (.seq (.seq (.reg [ja 9 0 2, jg 10 3 9, ja 11 0 3, jg 12 3 11, jn 13 (.eqs true [(.i .i64), (.i .i64), (.i .i64)] (.t 10) (.t 12)), jm 14 13, jf 14 15 (.fda 3 (.t 2)), jf 14 16 (.load 1 false (.t 15)), jf 14 17 (.fda 3 (.t 3)), jf 14 18 (.load 1 false (.t 17)), jf 14 19 (.bin .neq (.t 16) (.t 18)), jo 20 14 19, jm 21 20, jf 21 22 (.fda 4 (.t 2)), jf 21 23 (.load 3 true (.t 22)), jf 21 24 (.fda 4 (.t 3)), jf 21 25 (.load 3 true (.t 24)), jf 21 26 (.eqs true [(.i .i64), (.i .i64), (.i .i64)] (.t 23) (.t 25)), jo 27 21 26, jm 28 27, jf 28 29 (.fda 7 (.t 2)), jf 28 30 (.load 3 true (.t 29)), jf 28 31 (.fda 7 (.t 3)), jf 28 32 (.load 3 true (.t 31)), jf 28 33 (.eqs true [(.i .i64), (.i .i64), (.i .i64)] (.t 30) (.t 32)), jo 34 28 33, jm 35 34, jf 35 36 (.fda 11 (.t 2)), jf 35 37 (.load 1 false (.t 36)), jf 35 38 (.fda 11 (.t 3)), jf 35 39 (.load 1 false (.t 38)), jf 35 40 (.beq true (.t 37) (.t 39)), jo 41 35 40, jm 42 41, jf 42 43 (.fda 10 (.t 2)), jf 42 44 (.load 1 false (.t 43)), jf 42 45 (.fda 10 (.t 3)), jf 42 46 (.load 1 false (.t 45)), jf 42 47 (.call 39 [(.t 44), (.t 46)]), jf 42 48 (.un .not (.t 47)), jo 49 42 48, jm 50 49, jf 50 51 (.fda 12 (.t 2)), jf 50 52 (.load 1 false (.t 51)), jf 50 53 (.len false (.t 52)), jf 50 54 (.fda 12 (.t 3)), jf 50 55 (.load 1 false (.t 54)), jf 50 56 (.len false (.t 55)), jf 50 57 (.bin .neq (.t 53) (.t 56)), jo 58 50 57]) (.cond (.t 58) (.seq (.reg [jc 4 (.bool false)]) .ret) .skip)) (.seq (.seq (.reg [jc 5 (j6 0)]) (.block 0 (.loop qI))) (.seq (.reg [jc 4 (.bool true)]) .ret))))
theorem Jm : BV Tryz.prog Tryz.f13 = some ⟨115, k13, [(.tmp 4)]⟩ := by kernel_rfl
theorem O7 (N : Nat) (a0 : AR) (a1 : AR) (v5l14 : Int) (x69 : AY) (NE : AY) : ∀ (n : Nat) (x : Int) (y : Unit ⊕ Bool), FD N a0 a1 v5l14 x69 NE n x = some y → WX Tryz.prog (fun _ => false) (.loop qH) ((fun (x : Int) => ⟨AX [(2, .ptr 20802 0 0), (3, .ptr 20803 0 0), (5, j6 v5l14), (6, .ptr 20806 0 0), (7, .ptr 20807 0 0), (8, j6 x)], AX [(20802, ⟨13, false, [AJ a0]⟩), (20803, ⟨13, false, [AJ a1]⟩), (20806, ⟨3, false, [AL x69]⟩), (20807, ⟨3, false, [AL NE]⟩)]⟩) x) ((Sum.elim (fun y e s => e = .exit 2 ∧ s = ⟨AX [(2, .ptr 20802 0 0), (3, .ptr 20803 0 0), (5, j6 v5l14)], AX [(20802, ⟨13, false, [AJ a0]⟩), (20803, ⟨13, false, [AJ a1]⟩)]⟩) (fun y e s => e = .ret ∧ s = ⟨AX [(4, .bool y)], AX []⟩) : (Unit ⊕ Bool) → Xt → St → Prop) y) := by
 refine F5 _ _ (FD N a0 a1 v5l14 x69 NE) (IY N a0 a1 v5l14 x69 NE) (fun _ => rfl) (fun _ _ => rfl) ?_
 rintro rec v8l36 y h
 iterate 2 refine AA ?_
 refine AB ?_
 iterate 3 refine wq rfl ?_
 refine AZ rfl (CO rfl) ?_
 refine wq rfl ?_
 refine EP h rfl (fun c14 h => ?_) (fun c14 h => ?_)
 refine BH (AA (CJ (AA (NG ?_))))
 iterate 3 refine dq rfl ?_
 obtain ⟨x107, hx107, h⟩ := AP h
 refine JF rfl (EU (cs := [.str x107]) hx107 rfl rfl rfl) ?_
 iterate 4 refine dq rfl ?_
 obtain ⟨x112, hx112, h⟩ := AP h
 refine JF rfl (EU (cs := [.str x112]) hx112 rfl rfl rfl) ?_
 iterate 2 refine dq rfl ?_
 refine EP h rfl (fun c15 h => ?_) (fun c15 h => ?_)
 refine AA (AB ?_)
 refine wq rfl ?_
 obtain rfl := AO h
 exact EX (st1 := ⟨AX [(4, .bool false)], AX []⟩) (cq rfl) ⟨rfl, rfl⟩
 refine BH (AB ?_)
 refine wq rfl ?_
 refine AZ (p := j6 (BX (v8l36 + (1 : Int)))) rfl rfl ?_
 refine wq rfl ?_
 exact ⟨(BX (v8l36 + (1 : Int))), (cq rfl), h⟩
 cases AO h
 exact D9 (st1 := ⟨AX [(2, .ptr 20802 0 0), (3, .ptr 20803 0 0), (5, j6 v5l14)], AX [(20802, ⟨13, false, [AJ a0]⟩), (20803, ⟨13, false, [AJ a1]⟩)]⟩) (cq rfl) ⟨rfl, rfl⟩
theorem O8 (N : Nat) (a0 : AR) (a1 : AR) : ∀ (n : Nat) (x : Int) (y : Unit ⊕ Bool), FE N a0 a1 n x = some y → WX Tryz.prog (fun _ => false) (.loop qI) ((fun (x : Int) => ⟨AX [(2, .ptr 20802 0 0), (3, .ptr 20803 0 0), (5, j6 x)], AX [(20802, ⟨13, false, [AJ a0]⟩), (20803, ⟨13, false, [AJ a1]⟩)]⟩) x) ((Sum.elim (fun y e s => e = .exit 0 ∧ s = ⟨AX [], AX []⟩) (fun y e s => e = .ret ∧ s = ⟨AX [(4, .bool y)], AX []⟩) : (Unit ⊕ Bool) → Xt → St → Prop) y) := by
 refine F5 _ _ (FE N a0 a1) (IZ N a0 a1) (fun _ => rfl) (fun _ _ => rfl) ?_
 rintro rec v5l14 y h
 iterate 2 refine AA ?_
 refine AB ?_
 iterate 3 refine wq rfl ?_
 refine AZ rfl (CO rfl) ?_
 refine wq rfl ?_
 refine EP h rfl (fun c9 h => ?_) (fun c9 h => ?_)
 refine BH (AA (CJ (AA ?_)))
 obtain ⟨x69, hx69, h⟩ := AP h
 obtain ⟨NE, Ju, h⟩ := AP h
 refine Dq ⟨AX [(2, .ptr 20802 0 0), (3, .ptr 20803 0 0), (5, j6 v5l14), (6, .ptr 20806 0 0), (7, .ptr 20807 0 0)], AX [(20802, ⟨13, false, [AJ a0]⟩), (20803, ⟨13, false, [AJ a1]⟩), (20806, ⟨3, false, [AL x69]⟩), (20807, ⟨3, false, [AL NE]⟩)]⟩ [[], [9], [8, 9], [7, 8, 9], [6, 8, 9], [6, 7, 8, 9], [5, 6, 8, 9], [5, 6, 7, 8, 9]] rfl ?_ ?_
 iterate 3 refine dq rfl ?_
 refine JF rfl (EU (cs := [j6 x69.Kind, .str x69.Attr, .sl 1 (List.map PV.str x69.Values)]) hx69 rfl rfl rfl) ?_
 refine JF (p := AL x69) rfl rfl ?_
 iterate 3 refine dq rfl ?_
 refine JF rfl (EU (cs := [j6 NE.Kind, .str NE.Attr, .sl 1 (List.map PV.str NE.Values)]) Ju rfl rfl rfl) ?_
 refine JF (p := AL NE) rfl rfl ?_
 refine QK rfl (.box _ 20806 rfl (Nat.le_of_ble_eq_true rfl) (by decide) rfl) (N9 rfl) ?_
 refine QK rfl (.box _ 20807 rfl (Nat.le_of_ble_eq_true rfl) (by decide) rfl) (N9 rfl) ?_
 have Lh : AnyW Tryz.prog (fun _ => false) I4 I1 0 [0, 1, 2, 3, 4, 5, 6, 7, 8, 9, 10, 11, 12, 13] ⟨AX [(2, .ptr 20802 0 0), (3, .ptr 20803 0 0), (5, j6 v5l14), (6, .ptr 20806 0 0), (7, .ptr 20807 0 0)], AX [(20802, ⟨13, false, [AJ a0]⟩), (20803, ⟨13, false, [AJ a1]⟩), (20806, ⟨3, false, [AL x69]⟩), (20807, ⟨3, false, [AL NE]⟩)]⟩ ⟨AX [(2, .ptr 20802 0 0), (3, .ptr 20803 0 0), (5, j6 v5l14), (6, .ptr 20806 0 0), (7, .ptr 20807 0 0)], AX [(20802, ⟨13, false, [AJ a0]⟩), (20803, ⟨13, false, [AJ a1]⟩), (20806, ⟨3, false, [AL x69]⟩), (20807, ⟨3, false, [AL NE]⟩)]⟩ := by
  exact yend rfl (cq rfl)
 have yZ : AnyW Tryz.prog (fun _ => false) I4 I1 1 [0, 1, 2, 3, 4, 5, 6, 7, 8, 9, 10, 11, 12] ⟨AX [(2, .ptr 20802 0 0), (3, .ptr 20803 0 0), (5, j6 v5l14), (6, .ptr 20806 0 0), (7, .ptr 20807 0 0), (75, AL NE)], AX [(20802, ⟨13, false, [AJ a0]⟩), (20803, ⟨13, false, [AJ a1]⟩), (20806, ⟨3, false, [AL x69]⟩), (20807, ⟨3, false, [.agg [j6 0, .str ([] : List UInt8), .nl]]⟩)]⟩ ⟨AX [(2, .ptr 20802 0 0), (3, .ptr 20803 0 0), (5, j6 v5l14), (6, .ptr 20806 0 0), (7, .ptr 20807 0 0)], AX [(20802, ⟨13, false, [AJ a0]⟩), (20803, ⟨13, false, [AJ a1]⟩), (20806, ⟨3, false, [AL x69]⟩), (20807, ⟨3, false, [AL NE]⟩)]⟩ := by
  refine yc (l := [13]) rfl nofun ⟨⟨_, rfl, ?_⟩, trivial⟩
  refine ED (e' := AL NE) rfl rfl rfl rfl rfl rfl rfl rfl nofun rfl ?_
  exact AnyW.of Lh rfl (cq rfl)
 have Eo : AnyW Tryz.prog (fun _ => false) I4 I1 2 [0, 1, 2, 3, 4, 5, 6, 7, 8, 9, 10, 11] ⟨AX [(2, .ptr 20802 0 0), (3, .ptr 20803 0 0), (5, j6 v5l14), (6, .ptr 20806 0 0), (7, .ptr 20807 0 0), (70, AL x69), (75, AL NE)], AX [(20802, ⟨13, false, [AJ a0]⟩), (20803, ⟨13, false, [AJ a1]⟩), (20806, ⟨3, false, [.agg [j6 0, .str ([] : List UInt8), .nl]]⟩), (20807, ⟨3, false, [.agg [j6 0, .str ([] : List UInt8), .nl]]⟩)]⟩ ⟨AX [(2, .ptr 20802 0 0), (3, .ptr 20803 0 0), (5, j6 v5l14), (6, .ptr 20806 0 0), (7, .ptr 20807 0 0)], AX [(20802, ⟨13, false, [AJ a0]⟩), (20803, ⟨13, false, [AJ a1]⟩), (20806, ⟨3, false, [AL x69]⟩), (20807, ⟨3, false, [AL NE]⟩)]⟩ := by
  refine yc (l := [12]) rfl nofun ⟨⟨_, rfl, ?_⟩, trivial⟩
  refine ED (e' := AL x69) rfl rfl rfl rfl rfl rfl rfl rfl nofun rfl ?_
  exact AnyW.of yZ rfl (cq rfl)
 have z8 : AnyW Tryz.prog (fun _ => false) I4 I1 2 [0, 1, 2, 3, 4, 5, 6, 7, 8, 10, 11, 12] ⟨AX [(2, .ptr 20802 0 0), (3, .ptr 20803 0 0), (5, j6 v5l14), (6, .ptr 20806 0 0), (7, .ptr 20807 0 0), (74, .ep [j6 NE.Kind, .str NE.Attr, .sl 1 (List.map PV.str NE.Values)])], AX [(20802, ⟨13, false, [AJ a0]⟩), (20803, ⟨13, false, [AJ a1]⟩), (20806, ⟨3, false, [AL x69]⟩), (20807, ⟨3, false, [.agg [j6 0, .str ([] : List UInt8), .nl]]⟩)]⟩ ⟨AX [(2, .ptr 20802 0 0), (3, .ptr 20803 0 0), (5, j6 v5l14), (6, .ptr 20806 0 0), (7, .ptr 20807 0 0)], AX [(20802, ⟨13, false, [AJ a0]⟩), (20803, ⟨13, false, [AJ a1]⟩), (20806, ⟨3, false, [AL x69]⟩), (20807, ⟨3, false, [AL NE]⟩)]⟩ := by
  refine yc (l := [9]) rfl nofun ⟨⟨_, rfl, ?_⟩, trivial⟩
  refine AZ (p := AL NE) rfl rfl ?_
  exact AnyW.of yZ rfl (cq rfl)
 have Ep : AnyW Tryz.prog (fun _ => false) I4 I1 3 [0, 1, 2, 3, 4, 5, 6, 7, 8, 10, 11] ⟨AX [(2, .ptr 20802 0 0), (3, .ptr 20803 0 0), (5, j6 v5l14), (6, .ptr 20806 0 0), (7, .ptr 20807 0 0), (70, AL x69), (74, .ep [j6 NE.Kind, .str NE.Attr, .sl 1 (List.map PV.str NE.Values)])], AX [(20802, ⟨13, false, [AJ a0]⟩), (20803, ⟨13, false, [AJ a1]⟩), (20806, ⟨3, false, [.agg [j6 0, .str ([] : List UInt8), .nl]]⟩), (20807, ⟨3, false, [.agg [j6 0, .str ([] : List UInt8), .nl]]⟩)]⟩ ⟨AX [(2, .ptr 20802 0 0), (3, .ptr 20803 0 0), (5, j6 v5l14), (6, .ptr 20806 0 0), (7, .ptr 20807 0 0)], AX [(20802, ⟨13, false, [AJ a0]⟩), (20803, ⟨13, false, [AJ a1]⟩), (20806, ⟨3, false, [AL x69]⟩), (20807, ⟨3, false, [AL NE]⟩)]⟩ := by
  refine yc (l := [9, 12]) rfl nofun ⟨⟨_, rfl, ?_⟩, ⟨_, rfl, ?_⟩, trivial⟩
  refine AZ (p := AL NE) rfl rfl ?_
  exact AnyW.of Eo rfl (cq rfl)
  refine ED (e' := AL x69) rfl rfl rfl rfl rfl rfl rfl rfl nofun rfl ?_
  exact AnyW.of z8 rfl (cq rfl)
 have o8 : AnyW Tryz.prog (fun _ => false) I4 I1 3 [0, 1, 2, 3, 4, 5, 6, 7, 10, 11, 12] ⟨AX [(2, .ptr 20802 0 0), (3, .ptr 20803 0 0), (5, j6 v5l14), (6, .ptr 20806 0 0), (7, .ptr 20807 0 0), (72, .sl 3 (List.map AL a1.Mods)), (73, j6 v5l14)], AX [(20802, ⟨13, false, [AJ a0]⟩), (20803, ⟨13, false, [AJ a1]⟩), (20806, ⟨3, false, [AL x69]⟩), (20807, ⟨3, false, [.agg [j6 0, .str ([] : List UInt8), .nl]]⟩)]⟩ ⟨AX [(2, .ptr 20802 0 0), (3, .ptr 20803 0 0), (5, j6 v5l14), (6, .ptr 20806 0 0), (7, .ptr 20807 0 0)], AX [(20802, ⟨13, false, [AJ a0]⟩), (20803, ⟨13, false, [AJ a1]⟩), (20806, ⟨3, false, [AL x69]⟩), (20807, ⟨3, false, [AL NE]⟩)]⟩ := by
  refine yc (l := [8]) rfl nofun ⟨⟨_, rfl, ?_⟩, trivial⟩
  refine AZ rfl (EU (cs := [j6 NE.Kind, .str NE.Attr, .sl 1 (List.map PV.str NE.Values)]) Ju rfl rfl rfl) ?_
  exact AnyW.of z8 rfl (cq rfl)
 have yX : AnyW Tryz.prog (fun _ => false) I4 I1 4 [0, 1, 2, 3, 4, 5, 6, 7, 10, 11] ⟨AX [(2, .ptr 20802 0 0), (3, .ptr 20803 0 0), (5, j6 v5l14), (6, .ptr 20806 0 0), (7, .ptr 20807 0 0), (70, AL x69), (72, .sl 3 (List.map AL a1.Mods)), (73, j6 v5l14)], AX [(20802, ⟨13, false, [AJ a0]⟩), (20803, ⟨13, false, [AJ a1]⟩), (20806, ⟨3, false, [.agg [j6 0, .str ([] : List UInt8), .nl]]⟩), (20807, ⟨3, false, [.agg [j6 0, .str ([] : List UInt8), .nl]]⟩)]⟩ ⟨AX [(2, .ptr 20802 0 0), (3, .ptr 20803 0 0), (5, j6 v5l14), (6, .ptr 20806 0 0), (7, .ptr 20807 0 0)], AX [(20802, ⟨13, false, [AJ a0]⟩), (20803, ⟨13, false, [AJ a1]⟩), (20806, ⟨3, false, [AL x69]⟩), (20807, ⟨3, false, [AL NE]⟩)]⟩ := by
  refine yc (l := [8, 12]) rfl nofun ⟨⟨_, rfl, ?_⟩, ⟨_, rfl, ?_⟩, trivial⟩
  refine AZ rfl (EU (cs := [j6 NE.Kind, .str NE.Attr, .sl 1 (List.map PV.str NE.Values)]) Ju rfl rfl rfl) ?_
  exact AnyW.of Ep rfl (cq rfl)
  refine ED (e' := AL x69) rfl rfl rfl rfl rfl rfl rfl rfl nofun rfl ?_
  exact AnyW.of o8 rfl (cq rfl)
 have zA : AnyW Tryz.prog (fun _ => false) I4 I1 4 [0, 1, 2, 3, 4, 5, 6, 10, 11, 12] ⟨AX [(2, .ptr 20802 0 0), (3, .ptr 20803 0 0), (5, j6 v5l14), (6, .ptr 20806 0 0), (7, .ptr 20807 0 0), (72, .sl 3 (List.map AL a1.Mods))], AX [(20802, ⟨13, false, [AJ a0]⟩), (20803, ⟨13, false, [AJ a1]⟩), (20806, ⟨3, false, [AL x69]⟩), (20807, ⟨3, false, [.agg [j6 0, .str ([] : List UInt8), .nl]]⟩)]⟩ ⟨AX [(2, .ptr 20802 0 0), (3, .ptr 20803 0 0), (5, j6 v5l14), (6, .ptr 20806 0 0), (7, .ptr 20807 0 0)], AX [(20802, ⟨13, false, [AJ a0]⟩), (20803, ⟨13, false, [AJ a1]⟩), (20806, ⟨3, false, [AL x69]⟩), (20807, ⟨3, false, [AL NE]⟩)]⟩ := by
  refine yc (l := [7]) rfl nofun ⟨⟨_, rfl, ?_⟩, trivial⟩
  refine wq rfl ?_
  exact AnyW.of o8 rfl (cq rfl)
 have o9 : AnyW Tryz.prog (fun _ => false) I4 I1 4 [0, 1, 2, 3, 4, 5, 7, 10, 11, 12] ⟨AX [(2, .ptr 20802 0 0), (3, .ptr 20803 0 0), (5, j6 v5l14), (6, .ptr 20806 0 0), (7, .ptr 20807 0 0), (71, .ptr 20803 0 12), (73, j6 v5l14)], AX [(20802, ⟨13, false, [AJ a0]⟩), (20803, ⟨13, false, [AJ a1]⟩), (20806, ⟨3, false, [AL x69]⟩), (20807, ⟨3, false, [.agg [j6 0, .str ([] : List UInt8), .nl]]⟩)]⟩ ⟨AX [(2, .ptr 20802 0 0), (3, .ptr 20803 0 0), (5, j6 v5l14), (6, .ptr 20806 0 0), (7, .ptr 20807 0 0)], AX [(20802, ⟨13, false, [AJ a0]⟩), (20803, ⟨13, false, [AJ a1]⟩), (20806, ⟨3, false, [AL x69]⟩), (20807, ⟨3, false, [AL NE]⟩)]⟩ := by
  refine yc (l := [6]) rfl nofun ⟨⟨_, rfl, ?_⟩, trivial⟩
  refine wq rfl ?_
  exact AnyW.of o8 rfl (cq rfl)
 have Er : AnyW Tryz.prog (fun _ => false) I4 I1 5 [0, 1, 2, 3, 4, 5, 6, 10, 11] ⟨AX [(2, .ptr 20802 0 0), (3, .ptr 20803 0 0), (5, j6 v5l14), (6, .ptr 20806 0 0), (7, .ptr 20807 0 0), (70, AL x69), (72, .sl 3 (List.map AL a1.Mods))], AX [(20802, ⟨13, false, [AJ a0]⟩), (20803, ⟨13, false, [AJ a1]⟩), (20806, ⟨3, false, [.agg [j6 0, .str ([] : List UInt8), .nl]]⟩), (20807, ⟨3, false, [.agg [j6 0, .str ([] : List UInt8), .nl]]⟩)]⟩ ⟨AX [(2, .ptr 20802 0 0), (3, .ptr 20803 0 0), (5, j6 v5l14), (6, .ptr 20806 0 0), (7, .ptr 20807 0 0)], AX [(20802, ⟨13, false, [AJ a0]⟩), (20803, ⟨13, false, [AJ a1]⟩), (20806, ⟨3, false, [AL x69]⟩), (20807, ⟨3, false, [AL NE]⟩)]⟩ := by
  refine yc (l := [7, 12]) rfl nofun ⟨⟨_, rfl, ?_⟩, ⟨_, rfl, ?_⟩, trivial⟩
  refine wq rfl ?_
  exact AnyW.of yX rfl (cq rfl)
  refine ED (e' := AL x69) rfl rfl rfl rfl rfl rfl rfl rfl nofun rfl ?_
  exact AnyW.of zA rfl (cq rfl)
 have yY : AnyW Tryz.prog (fun _ => false) I4 I1 5 [0, 1, 2, 3, 4, 5, 7, 10, 11] ⟨AX [(2, .ptr 20802 0 0), (3, .ptr 20803 0 0), (5, j6 v5l14), (6, .ptr 20806 0 0), (7, .ptr 20807 0 0), (70, AL x69), (71, .ptr 20803 0 12), (73, j6 v5l14)], AX [(20802, ⟨13, false, [AJ a0]⟩), (20803, ⟨13, false, [AJ a1]⟩), (20806, ⟨3, false, [.agg [j6 0, .str ([] : List UInt8), .nl]]⟩), (20807, ⟨3, false, [.agg [j6 0, .str ([] : List UInt8), .nl]]⟩)]⟩ ⟨AX [(2, .ptr 20802 0 0), (3, .ptr 20803 0 0), (5, j6 v5l14), (6, .ptr 20806 0 0), (7, .ptr 20807 0 0)], AX [(20802, ⟨13, false, [AJ a0]⟩), (20803, ⟨13, false, [AJ a1]⟩), (20806, ⟨3, false, [AL x69]⟩), (20807, ⟨3, false, [AL NE]⟩)]⟩ := by
  refine yc (l := [6, 12]) rfl nofun ⟨⟨_, rfl, ?_⟩, ⟨_, rfl, ?_⟩, trivial⟩
  refine wq rfl ?_
  exact AnyW.of yX rfl (cq rfl)
  refine ED (e' := AL x69) rfl rfl rfl rfl rfl rfl rfl rfl nofun rfl ?_
  exact AnyW.of o9 rfl (cq rfl)
 have En : AnyW Tryz.prog (fun _ => false) I4 I1 5 [0, 1, 2, 3, 4, 5, 10, 11, 12] ⟨AX [(2, .ptr 20802 0 0), (3, .ptr 20803 0 0), (5, j6 v5l14), (6, .ptr 20806 0 0), (7, .ptr 20807 0 0), (71, .ptr 20803 0 12)], AX [(20802, ⟨13, false, [AJ a0]⟩), (20803, ⟨13, false, [AJ a1]⟩), (20806, ⟨3, false, [AL x69]⟩), (20807, ⟨3, false, [.agg [j6 0, .str ([] : List UInt8), .nl]]⟩)]⟩ ⟨AX [(2, .ptr 20802 0 0), (3, .ptr 20803 0 0), (5, j6 v5l14), (6, .ptr 20806 0 0), (7, .ptr 20807 0 0)], AX [(20802, ⟨13, false, [AJ a0]⟩), (20803, ⟨13, false, [AJ a1]⟩), (20806, ⟨3, false, [AL x69]⟩), (20807, ⟨3, false, [AL NE]⟩)]⟩ := by
  refine yc (l := [6, 7]) rfl nofun ⟨⟨_, rfl, ?_⟩, ⟨_, rfl, ?_⟩, trivial⟩
  refine wq rfl ?_
  exact AnyW.of zA rfl (cq rfl)
  refine wq rfl ?_
  exact AnyW.of o9 rfl (cq rfl)
 have zB : AnyW Tryz.prog (fun _ => false) I4 I1 5 [0, 1, 2, 3, 4, 7, 10, 11, 12] ⟨AX [(2, .ptr 20802 0 0), (3, .ptr 20803 0 0), (5, j6 v5l14), (6, .ptr 20806 0 0), (7, .ptr 20807 0 0), (73, j6 v5l14)], AX [(20802, ⟨13, false, [AJ a0]⟩), (20803, ⟨13, false, [AJ a1]⟩), (20806, ⟨3, false, [AL x69]⟩), (20807, ⟨3, false, [.agg [j6 0, .str ([] : List UInt8), .nl]]⟩)]⟩ ⟨AX [(2, .ptr 20802 0 0), (3, .ptr 20803 0 0), (5, j6 v5l14), (6, .ptr 20806 0 0), (7, .ptr 20807 0 0)], AX [(20802, ⟨13, false, [AJ a0]⟩), (20803, ⟨13, false, [AJ a1]⟩), (20806, ⟨3, false, [AL x69]⟩), (20807, ⟨3, false, [AL NE]⟩)]⟩ := by
  refine yc (l := [5]) rfl nofun ⟨⟨_, rfl, ?_⟩, trivial⟩
  refine wq rfl ?_
  exact AnyW.of o9 rfl (cq rfl)
 have Et : AnyW Tryz.prog (fun _ => false) I4 I1 6 [0, 1, 2, 3, 4, 5, 10, 11] ⟨AX [(2, .ptr 20802 0 0), (3, .ptr 20803 0 0), (5, j6 v5l14), (6, .ptr 20806 0 0), (7, .ptr 20807 0 0), (70, AL x69), (71, .ptr 20803 0 12)], AX [(20802, ⟨13, false, [AJ a0]⟩), (20803, ⟨13, false, [AJ a1]⟩), (20806, ⟨3, false, [.agg [j6 0, .str ([] : List UInt8), .nl]]⟩), (20807, ⟨3, false, [.agg [j6 0, .str ([] : List UInt8), .nl]]⟩)]⟩ ⟨AX [(2, .ptr 20802 0 0), (3, .ptr 20803 0 0), (5, j6 v5l14), (6, .ptr 20806 0 0), (7, .ptr 20807 0 0)], AX [(20802, ⟨13, false, [AJ a0]⟩), (20803, ⟨13, false, [AJ a1]⟩), (20806, ⟨3, false, [AL x69]⟩), (20807, ⟨3, false, [AL NE]⟩)]⟩ := by
  refine yc (l := [6, 7, 12]) rfl nofun ⟨⟨_, rfl, ?_⟩, ⟨_, rfl, ?_⟩, ⟨_, rfl, ?_⟩, trivial⟩
  refine wq rfl ?_
  exact AnyW.of Er rfl (cq rfl)
  refine wq rfl ?_
  exact AnyW.of yY rfl (cq rfl)
  refine ED (e' := AL x69) rfl rfl rfl rfl rfl rfl rfl rfl nofun rfl ?_
  exact AnyW.of En rfl (cq rfl)
 have Es : AnyW Tryz.prog (fun _ => false) I4 I1 6 [0, 1, 2, 3, 4, 7, 10, 11] ⟨AX [(2, .ptr 20802 0 0), (3, .ptr 20803 0 0), (5, j6 v5l14), (6, .ptr 20806 0 0), (7, .ptr 20807 0 0), (70, AL x69), (73, j6 v5l14)], AX [(20802, ⟨13, false, [AJ a0]⟩), (20803, ⟨13, false, [AJ a1]⟩), (20806, ⟨3, false, [.agg [j6 0, .str ([] : List UInt8), .nl]]⟩), (20807, ⟨3, false, [.agg [j6 0, .str ([] : List UInt8), .nl]]⟩)]⟩ ⟨AX [(2, .ptr 20802 0 0), (3, .ptr 20803 0 0), (5, j6 v5l14), (6, .ptr 20806 0 0), (7, .ptr 20807 0 0)], AX [(20802, ⟨13, false, [AJ a0]⟩), (20803, ⟨13, false, [AJ a1]⟩), (20806, ⟨3, false, [AL x69]⟩), (20807, ⟨3, false, [AL NE]⟩)]⟩ := by
  refine yc (l := [5, 12]) rfl nofun ⟨⟨_, rfl, ?_⟩, ⟨_, rfl, ?_⟩, trivial⟩
  refine wq rfl ?_
  exact AnyW.of yY rfl (cq rfl)
  refine ED (e' := AL x69) rfl rfl rfl rfl rfl rfl rfl rfl nofun rfl ?_
  exact AnyW.of zB rfl (cq rfl)
 have a24_8 : AnyW Tryz.prog (fun _ => false) I4 I1 6 [0, 1, 2, 3, 4, 10, 11, 12] ⟨AX [(2, .ptr 20802 0 0), (3, .ptr 20803 0 0), (5, j6 v5l14), (6, .ptr 20806 0 0), (7, .ptr 20807 0 0)], AX [(20802, ⟨13, false, [AJ a0]⟩), (20803, ⟨13, false, [AJ a1]⟩), (20806, ⟨3, false, [AL x69]⟩), (20807, ⟨3, false, [.agg [j6 0, .str ([] : List UInt8), .nl]]⟩)]⟩ ⟨AX [(2, .ptr 20802 0 0), (3, .ptr 20803 0 0), (5, j6 v5l14), (6, .ptr 20806 0 0), (7, .ptr 20807 0 0)], AX [(20802, ⟨13, false, [AJ a0]⟩), (20803, ⟨13, false, [AJ a1]⟩), (20806, ⟨3, false, [AL x69]⟩), (20807, ⟨3, false, [AL NE]⟩)]⟩ := by
  refine yc (l := [5, 7]) rfl nofun ⟨⟨_, rfl, ?_⟩, ⟨_, rfl, ?_⟩, trivial⟩
  refine wq rfl ?_
  exact AnyW.of En rfl (cq rfl)
  refine wq rfl ?_
  exact AnyW.of zB rfl (cq rfl)
 have a24_0 : AnyW Tryz.prog (fun _ => false) I4 I1 7 [0, 1, 2, 3, 4, 10, 11] ⟨AX [(2, .ptr 20802 0 0), (3, .ptr 20803 0 0), (5, j6 v5l14), (6, .ptr 20806 0 0), (7, .ptr 20807 0 0), (70, AL x69)], AX [(20802, ⟨13, false, [AJ a0]⟩), (20803, ⟨13, false, [AJ a1]⟩), (20806, ⟨3, false, [.agg [j6 0, .str ([] : List UInt8), .nl]]⟩), (20807, ⟨3, false, [.agg [j6 0, .str ([] : List UInt8), .nl]]⟩)]⟩ ⟨AX [(2, .ptr 20802 0 0), (3, .ptr 20803 0 0), (5, j6 v5l14), (6, .ptr 20806 0 0), (7, .ptr 20807 0 0)], AX [(20802, ⟨13, false, [AJ a0]⟩), (20803, ⟨13, false, [AJ a1]⟩), (20806, ⟨3, false, [AL x69]⟩), (20807, ⟨3, false, [AL NE]⟩)]⟩ := by
  refine yc (l := [5, 7, 12]) rfl nofun ⟨⟨_, rfl, ?_⟩, ⟨_, rfl, ?_⟩, ⟨_, rfl, ?_⟩, trivial⟩
  refine wq rfl ?_
  exact AnyW.of Et rfl (cq rfl)
  refine wq rfl ?_
  exact AnyW.of Es rfl (cq rfl)
  refine ED (e' := AL x69) rfl rfl rfl rfl rfl rfl rfl rfl nofun rfl ?_
  exact AnyW.of a24_8 rfl (cq rfl)
 exact ⟨⟨2, AnyW.of Eo rfl (cq rfl)⟩, ⟨3, AnyW.of Ep rfl (cq rfl)⟩, ⟨4, AnyW.of yX rfl (cq rfl)⟩, ⟨5, AnyW.of Er rfl (cq rfl)⟩, ⟨5, AnyW.of yY rfl (cq rfl)⟩, ⟨6, AnyW.of Et rfl (cq rfl)⟩, ⟨6, AnyW.of Es rfl (cq rfl)⟩, ⟨7, AnyW.of a24_0 rfl (cq rfl)⟩, trivial⟩
 refine AA ?_
 obtain ⟨g10, kW, h⟩ := AP h
 refine GZ ⟨AX [(2, .ptr 20802 0 0), (3, .ptr 20803 0 0), (5, j6 v5l14), (6, .ptr 20806 0 0), (7, .ptr 20807 0 0), (96, .bool g10)], AX [(20802, ⟨13, false, [AJ a0]⟩), (20803, ⟨13, false, [AJ a1]⟩), (20806, ⟨3, false, [AL x69]⟩), (20807, ⟨3, false, [AL NE]⟩)]⟩ ?_ ?_
 have h := kW
 refine AB ?_
 iterate 6 refine wq rfl ?_
 rcases CY h with ⟨c11, h⟩ | ⟨c11, h⟩
 iterate 5 refine D7 (gn rfl c11) ?_
 refine AZ rfl (BG c11 rfl rfl) ?_
 refine wq rfl ?_
 iterate 7 refine D7 rfl ?_
 refine wq rfl ?_
 obtain rfl := AO h
 exact cq rfl
 iterate 5 refine AZ (gy rfl c11) rfl ?_
 refine AZ rfl (BD c11 rfl rfl) ?_
 refine wq rfl ?_
 rcases CY h with ⟨c12, h⟩ | ⟨c12, h⟩
 iterate 7 refine D7 (gn rfl c12) ?_
 refine AZ rfl (BG c12 rfl rfl) ?_
 obtain rfl := AO h
 exact cq rfl
 iterate 2 refine AZ (gy rfl c12) rfl ?_
 refine AZ (gy rfl c12) (CO rfl) ?_
 iterate 2 refine AZ (gy rfl c12) rfl ?_
 refine AZ (gy rfl c12) (CO rfl) ?_
 refine AZ (gy rfl c12) rfl ?_
 refine AZ rfl (BD c12 rfl rfl) ?_
 cases AO h
 exact cq rfl
 clear kW
 refine EP h rfl (fun c13 h => ?_) (fun c13 h => ?_)
 refine AA (AB ?_)
 refine wq rfl ?_
 obtain rfl := AO h
 exact EX (st1 := ⟨AX [(4, .bool false)], AX []⟩) (cq rfl) ⟨rfl, rfl⟩
 refine BH (AA (AB ?_))
 refine wq rfl ?_
 refine CJ ?_
 obtain ⟨Dn, hy16, h⟩ := AP h
 refine PQ (O7 N a0 a1 v5l14 x69 NE N _ _ hy16) (cq rfl) ?_
 clear hy16
 rcases Dn with Dn | Dn
 rintro e s ⟨rfl, rfl⟩
 refine AB ?_
 refine wq rfl ?_
 refine AZ (p := j6 (BX (v5l14 + (1 : Int)))) rfl rfl ?_
 refine wq rfl ?_
 exact ⟨(BX (v5l14 + (1 : Int))), (cq rfl), h⟩
 rintro e s ⟨rfl, rfl⟩
 obtain rfl := AO h
 exact ⟨rfl, rfl⟩
 cases AO h
 exact D9 (st1 := ⟨AX [], AX []⟩) (cq rfl) ⟨rfl, rfl⟩
theorem PD (N : Nat) (a0 : AR) (a1 : AR) (r : Bool) (h : MI N a0 a1 = some r) : Sat Tryz.prog 13 AC [AJ a0, AJ a1] (.bool r) AC := by
 refine EL mixed Tryz.func13 Jm (rs := [.bool r]) rfl rfl ?_
 refine AA (AB ?_)
 refine CW rfl (F8 20802 rfl rfl rfl rfl rfl) ?_
 refine CW rfl (F8 20803 rfl rfl rfl rfl rfl) ?_
 refine wq rfl ?_
 refine AA ?_
 obtain ⟨g1, hg1, h⟩ := AP h
 refine GZ ⟨AX [(2, .ptr 20802 0 0), (3, .ptr 20803 0 0), (58, .bool g1)], AX [(20802, ⟨13, false, [AJ a0]⟩), (20803, ⟨13, false, [AJ a1]⟩)]⟩ ?_ ?_
 have h := hg1
 refine AB ?_
 refine wq rfl ?_
 refine AZ (p := .agg [j6 a0.CSN.Time, j6 a0.CSN.Seq, j6 a0.CSN.Rep]) rfl rfl ?_
 refine wq rfl ?_
 refine AZ (p := .agg [j6 a1.CSN.Time, j6 a1.CSN.Seq, j6 a1.CSN.Rep]) rfl rfl ?_
 refine AZ (p := .bool (!(a0.CSN.Time == a1.CSN.Time && (a0.CSN.Seq == a1.CSN.Seq && (a0.CSN.Rep == a1.CSN.Rep && true))))) rfl rfl ?_
 refine wq rfl ?_
 rcases CY h with ⟨c2, h⟩ | ⟨c2, h⟩
 iterate 5 refine D7 (gn rfl c2) ?_
 refine AZ rfl (BG c2 rfl rfl) ?_
 refine wq rfl ?_
 iterate 5 refine D7 rfl ?_
 iterate 2 refine wq rfl ?_
 iterate 5 refine D7 rfl ?_
 iterate 2 refine wq rfl ?_
 iterate 5 refine D7 rfl ?_
 iterate 2 refine wq rfl ?_
 iterate 6 refine D7 rfl ?_
 iterate 2 refine wq rfl ?_
 iterate 7 refine D7 rfl ?_
 refine wq rfl ?_
 obtain rfl := AO h
 exact cq rfl
 iterate 5 refine AZ (gy rfl c2) rfl ?_
 refine AZ rfl (BD c2 rfl rfl) ?_
 refine wq rfl ?_
 rcases CY h with ⟨c3, h⟩ | ⟨c3, h⟩
 iterate 5 refine D7 (gn rfl c3) ?_
 refine AZ rfl (BG c3 rfl rfl) ?_
 refine wq rfl ?_
 iterate 5 refine D7 rfl ?_
 iterate 2 refine wq rfl ?_
 iterate 5 refine D7 rfl ?_
 iterate 2 refine wq rfl ?_
 iterate 6 refine D7 rfl ?_
 iterate 2 refine wq rfl ?_
 iterate 7 refine D7 rfl ?_
 refine wq rfl ?_
 obtain rfl := AO h
 exact cq rfl
 refine AZ (gy rfl c3) rfl ?_
 refine AZ (p := .agg [j6 a0.ID.Time, j6 a0.ID.Seq, j6 a0.ID.Rep]) (gy rfl c3) rfl ?_
 refine AZ (gy rfl c3) rfl ?_
 refine AZ (p := .agg [j6 a1.ID.Time, j6 a1.ID.Seq, j6 a1.ID.Rep]) (gy rfl c3) rfl ?_
 refine AZ (p := .bool (!(a0.ID.Time == a1.ID.Time && (a0.ID.Seq == a1.ID.Seq && (a0.ID.Rep == a1.ID.Rep && true))))) (gy rfl c3) rfl ?_
 refine AZ rfl (BD c3 rfl rfl) ?_
 refine wq rfl ?_
 rcases CY h with ⟨c4, h⟩ | ⟨c4, h⟩
 iterate 5 refine D7 (gn rfl c4) ?_
 refine AZ rfl (BG c4 rfl rfl) ?_
 refine wq rfl ?_
 iterate 5 refine D7 rfl ?_
 iterate 2 refine wq rfl ?_
 iterate 6 refine D7 rfl ?_
 iterate 2 refine wq rfl ?_
 iterate 7 refine D7 rfl ?_
 refine wq rfl ?_
 obtain rfl := AO h
 exact cq rfl
 refine AZ (gy rfl c4) rfl ?_
 refine AZ (p := .agg [j6 a0.Parent.Time, j6 a0.Parent.Seq, j6 a0.Parent.Rep]) (gy rfl c4) rfl ?_
 refine AZ (gy rfl c4) rfl ?_
 refine AZ (p := .agg [j6 a1.Parent.Time, j6 a1.Parent.Seq, j6 a1.Parent.Rep]) (gy rfl c4) rfl ?_
 refine AZ (p := .bool (!(a0.Parent.Time == a1.Parent.Time && (a0.Parent.Seq == a1.Parent.Seq && (a0.Parent.Rep == a1.Parent.Rep && true))))) (gy rfl c4) rfl ?_
 refine AZ rfl (BD c4 rfl rfl) ?_
 refine wq rfl ?_
 rcases CY h with ⟨c5, h⟩ | ⟨c5, h⟩
 iterate 5 refine D7 (gn rfl c5) ?_
 refine AZ rfl (BG c5 rfl rfl) ?_
 refine wq rfl ?_
 iterate 6 refine D7 rfl ?_
 iterate 2 refine wq rfl ?_
 iterate 7 refine D7 rfl ?_
 refine wq rfl ?_
 obtain rfl := AO h
 exact cq rfl
 iterate 5 refine AZ (gy rfl c5) rfl ?_
 refine AZ rfl (BD c5 rfl rfl) ?_
 refine wq rfl ?_
 rcases CY h with ⟨c6, h⟩ | ⟨c6, h⟩
 iterate 6 refine D7 (gn rfl c6) ?_
 refine AZ rfl (BG c6 rfl rfl) ?_
 refine wq rfl ?_
 iterate 7 refine D7 rfl ?_
 refine wq rfl ?_
 obtain rfl := AO h
 exact cq rfl
 iterate 4 refine AZ (gy rfl c6) rfl ?_
 obtain ⟨Y1, iR, h⟩ := AP h
 refine CW (gy rfl c6) (CX (SA N _ _ _ iR) rfl (.cons A9 (.cons A9 .nil)) rfl rfl rfl) ?_
 refine AZ (gy rfl c6) rfl ?_
 refine AZ rfl (BD c6 rfl rfl) ?_
 refine wq rfl ?_
 rcases CY h with ⟨c7, h⟩ | ⟨c7, h⟩
 iterate 7 refine D7 (gn rfl c7) ?_
 refine AZ rfl (BG c7 rfl rfl) ?_
 obtain rfl := AO h
 exact cq rfl
 iterate 2 refine AZ (gy rfl c7) rfl ?_
 refine AZ (gy rfl c7) (CO rfl) ?_
 iterate 2 refine AZ (gy rfl c7) rfl ?_
 refine AZ (gy rfl c7) (CO rfl) ?_
 refine AZ (gy rfl c7) rfl ?_
 refine AZ rfl (BD c7 rfl rfl) ?_
 cases AO h
 exact cq rfl
 clear hg1
 refine EP h rfl (fun c8 h => ?_) (fun c8 h => ?_)
 refine AA (AB ?_)
 refine wq rfl ?_
 obtain rfl := AO h
 refine BR ?_
 exact ⟨nofun, rfl, rfl⟩
 refine BH ?_
 iterate 2 refine AA ?_
 refine AB ?_
 refine wq rfl ?_
 refine CJ ?_
 obtain ⟨Dm, hy17, h⟩ := AP h
 refine PQ (O8 N a0 a1 N _ _ hy17) (cq rfl) ?_
 clear hy17
 rcases Dm with Dm | Dm
 rintro e s ⟨rfl, rfl⟩
 refine AA (AB ?_)
 refine wq rfl ?_
 obtain rfl := AO h
 refine BR ?_
 exact ⟨nofun, rfl, rfl⟩
 rintro e s ⟨rfl, rfl⟩
 obtain rfl := AO h
 exact ⟨nofun, rfl, rfl⟩
def qB : IC := (.seq (.reg [jb .lss 14 13 12]) (.seq (.cond (.t 14) .skip (.exit 0)) (.seq (.block 1 (.seq (.reg [jm 15 13, jm 5 15]) (.seq (.regd 9 [jm 16 0, jm 17 5, jx 18 1 16 17, jl 19 1 18, jm 20 1, jm 21 5, jx 22 1 20 21, jl 23 1 22, jb .neq 24 19 23]) (.cond (.t 24) (.seq (.reg [jc 4 (.bool false)]) .ret) .skip)))) (.reg [ju .add 25 13 1, jm 13 25]))))
def k37 : IC := (.seq (.reg [jc 4 (.bool false)]) (.seq (.seq (.reg [jm 6 0, jL 7 6, jm 8 1, jL 9 8, jb .neq 10 7 9]) (.cond (.t 10) (.seq (.reg [jc 4 (.bool false)]) .ret) .skip)) (.seq (.seq (.reg [jm 11 0, jL 12 11, jc 13 (j6 0)]) (.block 0 (.loop qB))) (.seq (.reg [jc 4 (.bool true)]) .ret))))
theorem Ir : BV Tryz.prog Tryz.f37 = some ⟨26, k37, [(.tmp 4)]⟩ := by kernel_rfl
theorem MO (N : Nat) (a0 : List (List UInt8)) (a1 : List (List UInt8)) : ∀ (n : Nat) (x : Int) (y : Unit ⊕ Bool), CP N a0 a1 n x = some y → WX Tryz.prog (fun _ => false) (.loop qB) ((fun (x : Int) => ⟨AX [(0, .sl 1 (List.map PV.str a0)), (1, .sl 1 (List.map PV.str a1)), (12, j6 (a0.length : Int)), (13, j6 x)], AX []⟩) x) ((Sum.elim (fun y e s => e = .exit 0 ∧ s = ⟨AX [], AX []⟩) (fun y e s => e = .ret ∧ s = ⟨AX [(4, .bool y)], AX []⟩) : (Unit ⊕ Bool) → Xt → St → Prop) y) := by
 refine F5 _ _ (CP N a0 a1) (ET N a0 a1) (fun _ => rfl) (fun _ _ => rfl) ?_
 rintro rec v13l14 y h
 refine AA (AB ?_)
 refine wq rfl ?_
 refine AA ?_
 refine EP h rfl (fun c2 h => ?_) (fun c2 h => ?_)
 refine BH (AA (CJ (AA (AB ?_))))
 iterate 2 refine wq rfl ?_
 refine AA (NG ?_)
 iterate 2 refine dq rfl ?_
 obtain ⟨ZF, iU, h⟩ := AP h
 refine JF rfl (EU (cs := [.str ZF]) iU rfl rfl rfl) ?_
 iterate 3 refine dq rfl ?_
 obtain ⟨YW, bL, h⟩ := AP h
 refine JF rfl (EU (cs := [.str YW]) bL rfl rfl rfl) ?_
 iterate 2 refine dq rfl ?_
 refine EP h rfl (fun c3 h => ?_) (fun c3 h => ?_)
 refine AA (AB ?_)
 refine wq rfl ?_
 obtain rfl := AO h
 exact EX (st1 := ⟨AX [(4, .bool false)], AX []⟩) (cq rfl) ⟨rfl, rfl⟩
 refine BH (AB ?_)
 refine AZ (p := j6 (BX (v13l14 + (1 : Int)))) rfl rfl ?_
 refine wq rfl ?_
 exact ⟨(BX (v13l14 + (1 : Int))), (cq rfl), h⟩
 cases AO h
 exact D9 (st1 := ⟨AX [], AX []⟩) (cq rfl) ⟨rfl, rfl⟩
theorem NP (N : Nat) (a0 : List (List UInt8)) (a1 : List (List UInt8)) (r : Bool) (h : FI N a0 a1 = some r) : Sat Tryz.prog 37 AC [.sl 1 (List.map PV.str a0), .sl 1 (List.map PV.str a1)] (.bool r) AC := by
 refine EL mixed Tryz.func37 Ir (rs := [.bool r]) rfl rfl ?_
 refine AA (AB ?_)
 refine wq rfl ?_
 iterate 2 refine AA ?_
 refine AB ?_
 refine wq rfl ?_
 refine AZ rfl (CO rfl) ?_
 refine wq rfl ?_
 refine AZ rfl (CO rfl) ?_
 refine wq rfl ?_
 refine EP h rfl (fun c1 h => ?_) (fun c1 h => ?_)
 refine AA (AB ?_)
 refine wq rfl ?_
 obtain rfl := AO h
 refine BR ?_
 exact ⟨nofun, rfl, rfl⟩
 refine BH ?_
 iterate 2 refine AA ?_
 refine AB ?_
 refine wq rfl ?_
 refine AZ rfl (CO rfl) ?_
 refine wq rfl ?_
 refine CJ ?_
 obtain ⟨y4, hy4, h⟩ := AP h
 refine PQ (MO N a0 a1 N _ _ hy4) (cq rfl) ?_
 clear hy4
 rcases y4 with y4 | y4
 rintro e s ⟨rfl, rfl⟩
 refine AA (AB ?_)
 refine wq rfl ?_
 obtain rfl := AO h
 refine BR ?_
 exact ⟨nofun, rfl, rfl⟩
 rintro e s ⟨rfl, rfl⟩
 obtain rfl := AO h
 exact ⟨nofun, rfl, rfl⟩
def k36 : IC := (.seq (.reg [jn 2 (.box 44 (.t 0)), jn 3 (.box 44 (.t 1)), jc 4 (.bool false)]) (.seq (.reg [ja 5 0 2, jl 6 1 5, ja 7 0 3, jl 8 1 7, jb .eql 9 6 8, jm 10 9, jt 10 11 (.fda 1 (.t 2)), jt 10 12 (.load 1 false (.t 11)), jt 10 13 (.fda 1 (.t 3)), jt 10 14 (.load 1 false (.t 13)), jt 10 15 (.bin .eql (.t 12) (.t 14)), jp 16 10 15, jm 17 16, jt 17 18 (.fda 2 (.t 2)), jt 17 19 (.load 1 false (.t 18)), jt 17 20 (.fda 2 (.t 3)), jt 17 21 (.load 1 false (.t 20)), jt 17 22 (.call 37 [(.t 19), (.t 21)]), jp 23 17 22, jm 4 23]) .ret))
theorem Iu : BV Tryz.prog Tryz.f36 = some ⟨24, k36, [(.tmp 4)]⟩ := by kernel_rfl
theorem XF (N : Nat) (a0 : AY) (a1 : AY) (r : Bool) (h : O6 N a0 a1 = some r) : Sat Tryz.prog 36 AC [AL a0, AL a1] (.bool r) AC := by
 refine EL mixed Tryz.func36 Iu (rs := [.bool r]) rfl rfl ?_
 refine AA (AB ?_)
 refine CW rfl (F8 57602 rfl rfl rfl rfl rfl) ?_
 refine CW rfl (F8 57603 rfl rfl rfl rfl rfl) ?_
 refine wq rfl ?_
 obtain ⟨g1, hg1, h⟩ := AP h
 refine GZ ⟨AX [(4, .bool g1)], AX []⟩ ?_ ?_
 have h := hg1
 refine AB ?_
 iterate 6 refine wq rfl ?_
 rcases CY h with ⟨c2, h⟩ | ⟨c2, h⟩
 iterate 5 refine AZ (gy rfl c2) rfl ?_
 refine AZ rfl (BG c2 rfl rfl) ?_
 refine wq rfl ?_
 rcases CY h with ⟨c3, h⟩ | ⟨c3, h⟩
 iterate 4 refine AZ (gy rfl c3) rfl ?_
 obtain ⟨YW, bL, h⟩ := AP h
 refine CW (gy rfl c3) (CX (NP N _ _ _ bL) rfl (.cons A9 (.cons A9 .nil)) rfl rfl rfl) ?_
 refine AZ rfl (BG c3 rfl rfl) ?_
 refine wq rfl ?_
 obtain rfl := AO h
 exact cq rfl
 iterate 5 refine D7 (gn rfl c3) ?_
 refine AZ rfl (BD c3 rfl rfl) ?_
 refine wq rfl ?_
 obtain rfl := AO h
 exact cq rfl
 iterate 5 refine D7 (gn rfl c2) ?_
 refine AZ rfl (BD c2 rfl rfl) ?_
 refine wq rfl ?_
 iterate 5 refine D7 rfl ?_
 iterate 2 refine wq rfl ?_
 obtain rfl := AO h
 exact cq rfl
 clear hg1
 obtain rfl := AO h
 refine BR ?_
 exact ⟨nofun, rfl, rfl⟩
def bG : IC := (.seq (.reg [jb .lss 18 17 16]) (.seq (.cond (.t 18) .skip (.exit 0)) (.seq (.block 1 (.seq (.reg [jm 19 17, jx 20 3 15 17, jg 21 3 20, jn 8 (.box 44 (.c (.agg [(j6 0), (.str []), .nl]))), jm 7 19, js 3 8 21]) (.seq (.reg [jm 22 1, jm 23 7, jx 24 3 22 23, jg 25 3 24, jn 9 (.box 44 (.c (.agg [(j6 0), (.str []), .nl]))), js 3 9 25]) (.seq (.reg [jm 26 2, jg 27 3 8, jg 28 3 9, jn 29 (.calv (.t 26) [(.t 27), (.t 28)]), jn 30 (.un .not (.t 29))]) (.cond (.t 30) (.seq (.reg [jc 6 (.bool false)]) .ret) .skip))))) (.reg [ju .add 31 17 1, jm 17 31]))))
def Iw : IC := (.seq (.reg [jc 6 (.bool false)]) (.seq (.seq (.reg [jm 10 0, jL 11 10, jm 12 1, jL 13 12, jb .neq 14 11 13]) (.cond (.t 14) (.seq (.reg [jc 6 (.bool false)]) .ret) .skip)) (.seq (.seq (.reg [jm 15 0, jL 16 15, jc 17 (j6 0)]) (.block 0 (.loop bG))) (.seq (.reg [jc 6 (.bool true)]) .ret))))
theorem rZ : BV Tryz.prog Tryz.f35 = some ⟨32, Iw, [(.tmp 6)]⟩ := by kernel_rfl
theorem F4 (N : Nat) (a0 : List AY) (a1 : List AY) : ∀ (n : Nat) (x : Int) (y : Unit ⊕ Bool), BB N a0 a1 n x = some y → WX Tryz.prog (fun _ => false) (.loop bG) ((fun (x : Int) => ⟨AX [(1, .sl 3 (List.map AL a1)), (2, .clo 36 []), (15, .sl 3 (List.map AL a0)), (16, j6 (a0.length : Int)), (17, j6 x)], AX []⟩) x) ((Sum.elim (fun y e s => e = .exit 0 ∧ s = ⟨AX [], AX []⟩) (fun y e s => e = .ret ∧ s = ⟨AX [(6, .bool y)], AX []⟩) : (Unit ⊕ Bool) → Xt → St → Prop) y) := by
 refine F5 _ _ (BB N a0 a1) (BN N a0 a1) (fun _ => rfl) (fun _ _ => rfl) ?_
 rintro rec v17l14 y h
 refine AA (AB ?_)
 refine wq rfl ?_
 refine AA ?_
 refine EP h rfl (fun c2 h => ?_) (fun c2 h => ?_)
 refine BH (AA (CJ (AA (AB ?_))))
 refine wq rfl ?_
 obtain ⟨x20, bN, h⟩ := AP h
 refine AZ rfl (EU (cs := [j6 x20.Kind, .str x20.Attr, .sl 1 (List.map PV.str x20.Values)]) bN rfl rfl rfl) ?_
 refine AZ (p := AL x20) rfl rfl ?_
 refine CW rfl (F8 56008 rfl rfl rfl rfl rfl) ?_
 refine wq rfl ?_
 refine ED (e' := AL x20) rfl rfl rfl rfl rfl rfl rfl rfl nofun rfl ?_
 refine AA (AB ?_)
 iterate 2 refine wq rfl ?_
 obtain ⟨x24, hx24, h⟩ := AP h
 refine AZ rfl (EU (cs := [j6 x24.Kind, .str x24.Attr, .sl 1 (List.map PV.str x24.Values)]) hx24 rfl rfl rfl) ?_
 refine AZ (p := AL x24) rfl rfl ?_
 refine CW rfl (F8 56009 rfl rfl rfl rfl rfl) ?_
 refine ED (e' := AL x24) rfl rfl rfl rfl rfl rfl rfl rfl nofun rfl ?_
 refine AA (AB ?_)
 refine wq rfl ?_
 refine AZ (p := AL x20) rfl rfl ?_
 refine AZ (p := AL x24) rfl rfl ?_
 obtain ⟨x29, hx29, h⟩ := AP h
 refine CW rfl (VP (XF N _ _ _ hx29) rfl rfl rfl (.cons A9 (.cons A9 .nil)) rfl rfl rfl) ?_
 refine wq rfl ?_
 refine EP h rfl (fun c3 h => ?_) (fun c3 h => ?_)
 refine AA (AB ?_)
 refine wq rfl ?_
 obtain rfl := AO h
 exact EX (st1 := ⟨AX [(6, .bool false)], AX []⟩) (cq rfl) ⟨rfl, rfl⟩
 refine BH (AB ?_)
 refine AZ (p := j6 (BX (v17l14 + (1 : Int)))) rfl rfl ?_
 refine wq rfl ?_
 exact ⟨(BX (v17l14 + (1 : Int))), (cq rfl), h⟩
 cases AO h
 exact D9 (st1 := ⟨AX [], AX []⟩) (cq rfl) ⟨rfl, rfl⟩
theorem F6 (N : Nat) (a0 : List AY) (a1 : List AY) (r : Bool) (h : BO N a0 a1 = some r) : Sat Tryz.prog 35 AC [.sl 3 (List.map AL a0), .sl 3 (List.map AL a1), .clo 36 []] (.bool r) AC := by
 refine EL mixed Tryz.func35 rZ (rs := [.bool r]) rfl rfl ?_
 refine AA (AB ?_)
 refine wq rfl ?_
 iterate 2 refine AA ?_
 refine AB ?_
 refine wq rfl ?_
 refine AZ rfl (CO rfl) ?_
 refine wq rfl ?_
 refine AZ rfl (CO rfl) ?_
 refine wq rfl ?_
 refine EP h rfl (fun c1 h => ?_) (fun c1 h => ?_)
 refine AA (AB ?_)
 refine wq rfl ?_
 obtain rfl := AO h
 refine BR ?_
 exact ⟨nofun, rfl, rfl⟩
 refine BH ?_
 iterate 2 refine AA ?_
 refine AB ?_
 refine wq rfl ?_
 refine AZ rfl (CO rfl) ?_
 refine wq rfl ?_
 refine CJ ?_
 obtain ⟨y4, hy4, h⟩ := AP h
 refine PQ (F4 N a0 a1 N _ _ hy4) (cq rfl) ?_
 clear hy4
 rcases y4 with y4 | y4
 rintro e s ⟨rfl, rfl⟩
 refine AA (AB ?_)
 refine wq rfl ?_
 obtain rfl := AO h
 refine BR ?_
 exact ⟨nofun, rfl, rfl⟩
 rintro e s ⟨rfl, rfl⟩
 obtain rfl := AO h
 exact ⟨nofun, rfl, rfl⟩
def qA : IC := (.seq (.reg [jb .lss 14 13 12]) (.seq (.cond (.t 14) .skip (.exit 0)) (.seq (.block 1 (.seq (.reg [jm 15 13, jm 5 15]) (.seq (.regd 9 [jm 16 0, jm 17 5, jx 18 2 16 17, jg 19 2 18, jm 20 1, jm 21 5, jx 22 2 20 21, jg 23 2 22, jn 24 (.eqs true [.s, .s] (.t 19) (.t 23))]) (.cond (.t 24) (.seq (.reg [jc 4 (.bool false)]) .ret) .skip)))) (.reg [ju .add 25 13 1, jm 13 25]))))
def k38 : IC := (.seq (.reg [jc 4 (.bool false)]) (.seq (.seq (.reg [jm 6 0, jL 7 6, jm 8 1, jL 9 8, jb .neq 10 7 9]) (.cond (.t 10) (.seq (.reg [jc 4 (.bool false)]) .ret) .skip)) (.seq (.seq (.reg [jm 11 0, jL 12 11, jc 13 (j6 0)]) (.block 0 (.loop qA))) (.seq (.reg [jc 4 (.bool true)]) .ret))))
theorem Iq : BV Tryz.prog Tryz.f38 = some ⟨26, k38, [(.tmp 4)]⟩ := by kernel_rfl
theorem LU (N : Nat) (a0 : List AU) (a1 : List AU) : ∀ (n : Nat) (x : Int) (y : Unit ⊕ Bool), CG N a0 a1 n x = some y → WX Tryz.prog (fun _ => false) (.loop qA) ((fun (x : Int) => ⟨AX [(0, .sl 2 (List.map AV a0)), (1, .sl 2 (List.map AV a1)), (12, j6 (a0.length : Int)), (13, j6 x)], AX []⟩) x) ((Sum.elim (fun y e s => e = .exit 0 ∧ s = ⟨AX [], AX []⟩) (fun y e s => e = .ret ∧ s = ⟨AX [(4, .bool y)], AX []⟩) : (Unit ⊕ Bool) → Xt → St → Prop) y) := by
 refine F5 _ _ (CG N a0 a1) (EN N a0 a1) (fun _ => rfl) (fun _ _ => rfl) ?_
 rintro rec v13l14 y h
 refine AA (AB ?_)
 refine wq rfl ?_
 refine AA ?_
 refine EP h rfl (fun c2 h => ?_) (fun c2 h => ?_)
 refine BH (AA (CJ (AA (AB ?_))))
 iterate 2 refine wq rfl ?_
 refine AA (NG ?_)
 iterate 2 refine dq rfl ?_
 obtain ⟨ZF, iU, h⟩ := AP h
 refine JF rfl (EU (cs := [.str ZF.Attr, .str ZF.Value]) iU rfl rfl rfl) ?_
 refine JF (p := AV ZF) rfl rfl ?_
 iterate 2 refine dq rfl ?_
 obtain ⟨YW, bL, h⟩ := AP h
 refine JF rfl (EU (cs := [.str YW.Attr, .str YW.Value]) bL rfl rfl rfl) ?_
 refine JF (p := AV YW) rfl rfl ?_
 refine JF (p := .bool (!(ZF.Attr == YW.Attr && (ZF.Value == YW.Value && true)))) rfl rfl ?_
 refine EP h rfl (fun c3 h => ?_) (fun c3 h => ?_)
 refine AA (AB ?_)
 refine wq rfl ?_
 obtain rfl := AO h
 exact EX (st1 := ⟨AX [(4, .bool false)], AX []⟩) (cq rfl) ⟨rfl, rfl⟩
 refine BH (AB ?_)
 refine AZ (p := j6 (BX (v13l14 + (1 : Int)))) rfl rfl ?_
 refine wq rfl ?_
 exact ⟨(BX (v13l14 + (1 : Int))), (cq rfl), h⟩
 cases AO h
 exact D9 (st1 := ⟨AX [], AX []⟩) (cq rfl) ⟨rfl, rfl⟩
theorem MV (N : Nat) (a0 : List AU) (a1 : List AU) (r : Bool) (h : F7 N a0 a1 = some r) : Sat Tryz.prog 38 AC [.sl 2 (List.map AV a0), .sl 2 (List.map AV a1)] (.bool r) AC := by
 refine EL mixed Tryz.func38 Iq (rs := [.bool r]) rfl rfl ?_
 refine AA (AB ?_)
 refine wq rfl ?_
 iterate 2 refine AA ?_
 refine AB ?_
 refine wq rfl ?_
 refine AZ rfl (CO rfl) ?_
 refine wq rfl ?_
 refine AZ rfl (CO rfl) ?_
 refine wq rfl ?_
 refine EP h rfl (fun c1 h => ?_) (fun c1 h => ?_)
 refine AA (AB ?_)
 refine wq rfl ?_
 obtain rfl := AO h
 refine BR ?_
 exact ⟨nofun, rfl, rfl⟩
 refine BH ?_
 iterate 2 refine AA ?_
 refine AB ?_
 refine wq rfl ?_
 refine AZ rfl (CO rfl) ?_
 refine wq rfl ?_
 refine CJ ?_
 obtain ⟨y4, hy4, h⟩ := AP h
 refine PQ (LU N a0 a1 N _ _ hy4) (cq rfl) ?_
 clear hy4
 rcases y4 with y4 | y4
 rintro e s ⟨rfl, rfl⟩
 refine AA (AB ?_)
 refine wq rfl ?_
 obtain rfl := AO h
 refine BR ?_
 exact ⟨nofun, rfl, rfl⟩
 rintro e s ⟨rfl, rfl⟩
 obtain rfl := AO h
 exact ⟨nofun, rfl, rfl⟩
def k12 : IC := (.seq (.reg [jn 2 (.box 28 (.t 0)), jn 3 (.box 28 (.t 1)), jc 4 (.bool false)]) (.seq (.reg [ja 6 12 2, jl 7 1 6, ja 8 12 3, jl 9 1 8, jn 10 (.call 35 [(.t 7), (.t 9), (.c (.clo 36 []))]), jm 5 10]) (.seq (.reg [ja 11 0 2, jg 12 3 11, ja 13 0 3, jg 14 3 13, jn 15 (.eqs false [(.i .i64), (.i .i64), (.i .i64)] (.t 12) (.t 14)), jm 16 15, jt 16 17 (.fda 3 (.t 2)), jt 16 18 (.load 1 false (.t 17)), jt 16 19 (.fda 3 (.t 3)), jt 16 20 (.load 1 false (.t 19)), jt 16 21 (.bin .eql (.t 18) (.t 20)), jp 22 16 21, jm 23 22, jt 23 24 (.fda 4 (.t 2)), jt 23 25 (.load 3 true (.t 24)), jt 23 26 (.fda 4 (.t 3)), jt 23 27 (.load 3 true (.t 26)), jt 23 28 (.eqs false [(.i .i64), (.i .i64), (.i .i64)] (.t 25) (.t 27)), jp 29 23 28, jm 30 29, jt 30 31 (.fda 7 (.t 2)), jt 30 32 (.load 3 true (.t 31)), jt 30 33 (.fda 7 (.t 3)), jt 30 34 (.load 3 true (.t 33)), jt 30 35 (.eqs false [(.i .i64), (.i .i64), (.i .i64)] (.t 32) (.t 34)), jp 36 30 35, jm 37 36, jt 37 38 (.fda 10 (.t 2)), jt 37 39 (.load 1 false (.t 38)), jt 37 40 (.fda 10 (.t 3)), jt 37 41 (.load 1 false (.t 40)), jt 37 42 (.call 38 [(.t 39), (.t 41)]), jp 43 37 42, jm 44 43, jt 44 45 (.fda 11 (.t 2)), jt 44 46 (.load 1 false (.t 45)), jt 44 47 (.fda 11 (.t 3)), jt 44 48 (.load 1 false (.t 47)), jt 44 49 (.beq false (.t 46) (.t 48)), jp 50 44 49, jm 51 50, jt 51 52 (.mov (.t 5)), jp 53 51 52, jm 4 53]) .ret)))
theorem Jn : BV Tryz.prog Tryz.f12 = some ⟨54, k12, [(.tmp 4)]⟩ := by kernel_rfl
theorem U1 (N : Nat) (a0 : AR) (a1 : AR) (r : Bool) (h : OG N a0 a1 = some r) : Sat Tryz.prog 12 AC [AJ a0, AJ a1] (.bool r) AC := by
 refine EL mixed Tryz.func12 Jn (rs := [.bool r]) rfl rfl ?_
 refine AA (AB ?_)
 refine CW rfl (F8 19202 rfl rfl rfl rfl rfl) ?_
 refine CW rfl (F8 19203 rfl rfl rfl rfl rfl) ?_
 refine wq rfl ?_
 refine AA (AB ?_)
 iterate 4 refine wq rfl ?_
 obtain ⟨P5, TR, h⟩ := AP h
 refine CW rfl (CX (F6 N _ _ _ TR) rfl (.cons A9 (.cons A9 (.cons A9 .nil))) rfl rfl rfl) ?_
 refine wq rfl ?_
 obtain ⟨g1, hg1, h⟩ := AP h
 refine GZ ⟨AX [(4, .bool g1)], AX []⟩ ?_ ?_
 have h := hg1
 refine AB ?_
 refine wq rfl ?_
 refine AZ (p := .agg [j6 a0.CSN.Time, j6 a0.CSN.Seq, j6 a0.CSN.Rep]) rfl rfl ?_
 refine wq rfl ?_
 refine AZ (p := .agg [j6 a1.CSN.Time, j6 a1.CSN.Seq, j6 a1.CSN.Rep]) rfl rfl ?_
 refine AZ (p := .bool (a0.CSN.Time == a1.CSN.Time && (a0.CSN.Seq == a1.CSN.Seq && (a0.CSN.Rep == a1.CSN.Rep && true)))) rfl rfl ?_
 refine wq rfl ?_
 rcases CY h with ⟨c2, h⟩ | ⟨c2, h⟩
 iterate 5 refine AZ (gy rfl c2) rfl ?_
 refine AZ rfl (BG c2 rfl rfl) ?_
 refine wq rfl ?_
 rcases CY h with ⟨c3, h⟩ | ⟨c3, h⟩
 refine AZ (gy rfl c3) rfl ?_
 refine AZ (p := .agg [j6 a0.ID.Time, j6 a0.ID.Seq, j6 a0.ID.Rep]) (gy rfl c3) rfl ?_
 refine AZ (gy rfl c3) rfl ?_
 refine AZ (p := .agg [j6 a1.ID.Time, j6 a1.ID.Seq, j6 a1.ID.Rep]) (gy rfl c3) rfl ?_
 refine AZ (p := .bool (a0.ID.Time == a1.ID.Time && (a0.ID.Seq == a1.ID.Seq && (a0.ID.Rep == a1.ID.Rep && true)))) (gy rfl c3) rfl ?_
 refine AZ rfl (BG c3 rfl rfl) ?_
 refine wq rfl ?_
 rcases CY h with ⟨c4, h⟩ | ⟨c4, h⟩
 refine AZ (gy rfl c4) rfl ?_
 refine AZ (p := .agg [j6 a0.Parent.Time, j6 a0.Parent.Seq, j6 a0.Parent.Rep]) (gy rfl c4) rfl ?_
 refine AZ (gy rfl c4) rfl ?_
 refine AZ (p := .agg [j6 a1.Parent.Time, j6 a1.Parent.Seq, j6 a1.Parent.Rep]) (gy rfl c4) rfl ?_
 refine AZ (p := .bool (a0.Parent.Time == a1.Parent.Time && (a0.Parent.Seq == a1.Parent.Seq && (a0.Parent.Rep == a1.Parent.Rep && true)))) (gy rfl c4) rfl ?_
 refine AZ rfl (BG c4 rfl rfl) ?_
 refine wq rfl ?_
 rcases CY h with ⟨c5, h⟩ | ⟨c5, h⟩
 iterate 4 refine AZ (gy rfl c5) rfl ?_
 obtain ⟨Fg, Cj, h⟩ := AP h
 refine CW (gy rfl c5) (CX (MV N _ _ _ Cj) rfl (.cons A9 (.cons A9 .nil)) rfl rfl rfl) ?_
 refine AZ rfl (BG c5 rfl rfl) ?_
 refine wq rfl ?_
 rcases CY h with ⟨c6, h⟩ | ⟨c6, h⟩
 iterate 5 refine AZ (gy rfl c6) rfl ?_
 refine AZ rfl (BG c6 rfl rfl) ?_
 refine wq rfl ?_
 rcases CY h with ⟨c7, h⟩ | ⟨c7, h⟩
 refine AZ (gy rfl c7) rfl ?_
 refine AZ rfl (BG c7 rfl rfl) ?_
 refine wq rfl ?_
 obtain rfl := AO h
 exact cq rfl
 refine D7 (gn rfl c7) ?_
 refine AZ rfl (BD c7 rfl rfl) ?_
 refine wq rfl ?_
 obtain rfl := AO h
 exact cq rfl
 iterate 5 refine D7 (gn rfl c6) ?_
 refine AZ rfl (BD c6 rfl rfl) ?_
 refine wq rfl ?_
 refine D7 rfl ?_
 iterate 2 refine wq rfl ?_
 obtain rfl := AO h
 exact cq rfl
 iterate 5 refine D7 (gn rfl c5) ?_
 refine AZ rfl (BD c5 rfl rfl) ?_
 refine wq rfl ?_
 iterate 5 refine D7 rfl ?_
 iterate 2 refine wq rfl ?_
 refine D7 rfl ?_
 iterate 2 refine wq rfl ?_
 obtain rfl := AO h
 exact cq rfl
 iterate 5 refine D7 (gn rfl c4) ?_
 refine AZ rfl (BD c4 rfl rfl) ?_
 refine wq rfl ?_
 iterate 5 refine D7 rfl ?_
 iterate 2 refine wq rfl ?_
 iterate 5 refine D7 rfl ?_
 iterate 2 refine wq rfl ?_
 refine D7 rfl ?_
 iterate 2 refine wq rfl ?_
 obtain rfl := AO h
 exact cq rfl
 iterate 5 refine D7 (gn rfl c3) ?_
 refine AZ rfl (BD c3 rfl rfl) ?_
 refine wq rfl ?_
 iterate 5 refine D7 rfl ?_
 iterate 2 refine wq rfl ?_
 iterate 5 refine D7 rfl ?_
 iterate 2 refine wq rfl ?_
 iterate 5 refine D7 rfl ?_
 iterate 2 refine wq rfl ?_
 refine D7 rfl ?_
 iterate 2 refine wq rfl ?_
 obtain rfl := AO h
 exact cq rfl
 iterate 5 refine D7 (gn rfl c2) ?_
 refine AZ rfl (BD c2 rfl rfl) ?_
 refine wq rfl ?_
 iterate 5 refine D7 rfl ?_
 iterate 2 refine wq rfl ?_
 iterate 5 refine D7 rfl ?_
 iterate 2 refine wq rfl ?_
 iterate 5 refine D7 rfl ?_
 iterate 2 refine wq rfl ?_
 iterate 5 refine D7 rfl ?_
 iterate 2 refine wq rfl ?_
 refine D7 rfl ?_
 iterate 2 refine wq rfl ?_
 obtain rfl := AO h
 exact cq rfl
 clear hg1
 obtain rfl := AO h
 refine BR ?_
 exact ⟨nofun, rfl, rfl⟩
def k7 : IC := (.seq (.reg [jc 0 (.bool false)]) (.seq (.reg [jn 10 (.build [(j6 0), (j6 0), (j6 0)] [(0, (1, (ji 2)))]), jn 11 (.build [(j6 0), (j6 0), (j6 0)] [(0, (1, (ji 1)))]), jn 12 (.build [(j6 0), (j6 0), (j6 0), (j6 0), (j6 0), (j6 0), (j6 0), (j6 0), (j6 0), (j6 0), .nl, (.bool false), .nl] [(0, (3, (.t 10))), (3, (1, (ji 2))), (4, (3, (.t 11)))]), jn 1 (.box 28 (.c (.agg [(j6 0), (j6 0), (j6 0), (j6 0), (j6 0), (j6 0), (j6 0), (j6 0), (j6 0), (j6 0), .nl, (.bool false), .nl]))), js 13 1 12]) (.seq (.reg [jg 14 13 1, jn 15 (.call 9 [(.t 14)]), jm 13 15, je 16 0 13, je 17 1 13, jm 2 16, jm 3 17]) (.seq (.reg [jm 19 2, jn 20 (.call 16 [(.t 19)]), jm 18 20, je 21 0 18, je 22 1 18, jn 4 (.box 28 (.c (.agg [(j6 0), (j6 0), (j6 0), (j6 0), (j6 0), (j6 0), (j6 0), (j6 0), (j6 0), (j6 0), .nl, (.bool false), .nl]))), js 13 4 21, jm 5 22]) (.seq (.reg [jn 24 (.build [(j6 0), (j6 0), (j6 0), (j6 0), (j6 0), (j6 0), (j6 0), (j6 0), (j6 0), (j6 0), .nl, (.bool false), .nl] []), jn 25 (.call 9 [(.t 24)]), jm 23 25, je 26 0 23, je 27 1 23, jm 6 26, jm 7 27]) (.seq (.reg [jn 29 (.call 16 [(.c (.str []))]), jm 28 29, je 30 0 28, je 31 1 28, jn 8 (.box 28 (.c (.agg [(j6 0), (j6 0), (j6 0), (j6 0), (j6 0), (j6 0), (j6 0), (j6 0), (j6 0), (j6 0), .nl, (.bool false), .nl]))), js 13 8 30, jm 9 31]) (.seq (.regd 35 [jm 32 3, ju .eql 33 32 0, jm 34 33, jt 34 35 (.mov (.t 5)), jt 34 36 (.bin .eql (.t 35) (ji 0)), jp 37 34 36, jm 38 37, jt 38 39 (.load 13 true (.t 1)), jt 38 40 (.load 13 true (.t 4)), jt 38 41 (.call 13 [(.t 39), (.t 40)]), jp 42 38 41, jm 43 42, jt 43 44 (.mov (.t 7)), jt 43 45 (.bin .eql (.t 44) (ji 14)), jp 46 43 45, jm 47 46, jt 47 48 (.mov (.t 9)), jt 47 49 (.bin .eql (.t 48) (ji 14)), jp 50 47 49, jm 51 50, jt 51 52 (.load 13 true (.t 1)), jt 51 53 (.call 10 [(.t 52)]), jp 54 51 53, jm 55 54, jt 55 56 (.build [(j6 0), (j6 0), (j6 0), (j6 0), (j6 0), (j6 0), (j6 0), (j6 0), (j6 0), (j6 0), .nl, (.bool false), .nl] []), jt 55 57 (.call 10 [(.t 56)]), jt 55 58 (.un .not (.t 57)), jp 59 55 58, jm 60 59, jt 60 61 (.load 13 true (.t 1)), jt 60 62 (.load 13 true (.t 1)), jt 60 63 (.call 15 [(.t 62)]), jt 60 64 (.call 12 [(.t 61), (.t 63)]), jp 65 60 64, jm 0 65]) .ret)))))))
theorem k7_cf : BV Tryz.prog Tryz.f7 = some ⟨66, k7, [(.tmp 0)]⟩ := by kernel_rfl
theorem TI (N : Nat)  (r : Bool) (h : LW N  = some r) : Sat Tryz.prog 7 AC [] (.bool r) AC := by
 refine EL mixed Tryz.func7 k7_cf (rs := [.bool r]) rfl rfl ?_
 refine AA (AB ?_)
 refine wq rfl ?_
 refine AA (AB ?_)
 refine AZ (p := .agg [j6 2, j6 0, j6 0]) rfl rfl ?_
 refine AZ (p := .agg [j6 1, j6 0, j6 0]) rfl rfl ?_
 refine AZ (p := .agg [j6 2, j6 0, j6 0, j6 2, j6 1, j6 0, j6 0, j6 0, j6 0, j6 0, .nl, .bool false, .nl]) rfl rfl ?_
 refine tH (L6 12 (J4 (.cons A9 (.cons A9 (.cons A9 (.cons A9 (.cons A9 (.cons A9 (.cons A9 (.cons A9 (.cons A9 (.cons A9 (.cons (FH 2) (.cons A9 (.cons (FH 3) .nil))))))))))))) rfl) rfl) ?_
 refine CW rfl (F8 11201 rfl rfl rfl rfl rfl) ?_
 refine ED (e' := .agg [j6 2, j6 0, j6 0, j6 2, j6 1, j6 0, j6 0, j6 0, j6 0, j6 0, .sl 2 (List.map AV []), .bool false, .sl 3 (List.map AL [])]) rfl rfl rfl rfl rfl rfl rfl rfl nofun rfl ?_
 refine AA (AB ?_)
 refine AZ (p := .agg [j6 2, j6 0, j6 0, j6 2, j6 1, j6 0, j6 0, j6 0, j6 0, j6 0, .sl 2 (List.map AV []), .bool false, .sl 3 (List.map AL [])]) rfl rfl ?_
 obtain ⟨Y2, YL, h⟩ := AP h
 refine CW rfl (CX (NQ N _ _ YL) rfl (.cons A9 .nil) rfl rfl rfl) ?_
 iterate 5 refine wq rfl ?_
 refine AA (AB ?_)
 refine wq rfl ?_
 obtain ⟨x20, bN, h⟩ := AP h
 refine CW rfl (CX (U2 N _ _ bN) rfl (.cons A9 .nil) rfl rfl rfl) ?_
 iterate 3 refine wq rfl ?_
 refine CW rfl (F8 11204 rfl rfl rfl rfl rfl) ?_
 refine ED (e' := AJ x20.1) rfl rfl rfl rfl rfl rfl rfl rfl nofun rfl ?_
 refine wq rfl ?_
 refine AA (AB ?_)
 refine AZ (p := .agg [j6 0, j6 0, j6 0, j6 0, j6 0, j6 0, j6 0, j6 0, j6 0, j6 0, .nl, .bool false, .nl]) rfl rfl ?_
 refine tH (L6 24 (J4 (.cons A9 (.cons A9 (.cons A9 (.cons A9 (.cons A9 (.cons A9 (.cons A9 (.cons A9 (.cons A9 (.cons A9 (.cons (FH 2) (.cons A9 (.cons (FH 3) .nil))))))))))))) rfl) rfl) ?_
 obtain ⟨x25, hx25, h⟩ := AP h
 refine CW rfl (CX (NQ N _ _ hx25) rfl (.cons A9 .nil) rfl rfl rfl) ?_
 iterate 5 refine wq rfl ?_
 refine AA ?_
 refine NH (cn (st := _) (l := [(1, .ptr 11201 0 0), (3, j6 Y2.2), (4, .ptr 11204 0 0), (5, j6 x20.2), (7, j6 x25.2)]) (m := [(11201, ⟨13, false, [.agg [j6 2, j6 0, j6 0, j6 2, j6 1, j6 0, j6 0, j6 0, j6 0, j6 0, .sl 2 (List.map AV []), .bool false, .sl 3 (List.map AL [])]]⟩), (11204, ⟨13, false, [AJ x20.1]⟩)]) rfl rfl rfl rfl) ?_
 refine AB ?_
 obtain ⟨x29, hx29, h⟩ := AP h
 refine CW rfl (CX (U2 N _ _ hx29) rfl (.cons A9 .nil) rfl rfl rfl) ?_
 iterate 3 refine wq rfl ?_
 refine CW rfl (F8 11208 rfl rfl rfl rfl rfl) ?_
 refine ED (e' := AJ x29.1) rfl rfl rfl rfl rfl rfl rfl rfl nofun rfl ?_
 refine wq rfl ?_
 obtain ⟨g1, hg1, h⟩ := AP h
 refine GZ ⟨AX [(0, .bool g1)], AX []⟩ ?_ ?_
 have h := hg1
 refine NG ?_
 iterate 3 refine dq rfl ?_
 rcases CY h with ⟨c2, h⟩ | ⟨c2, h⟩
 iterate 2 refine JF (gy rfl c2) rfl ?_
 refine JF rfl (BG c2 rfl rfl) ?_
 refine dq rfl ?_
 rcases CY h with ⟨c3, h⟩ | ⟨c3, h⟩
 refine JF (p := .agg [j6 2, j6 0, j6 0, j6 2, j6 1, j6 0, j6 0, j6 0, j6 0, j6 0, .sl 2 (List.map AV []), .bool false, .sl 3 (List.map AL [])]) (gy rfl c3) rfl ?_
 refine JF (p := AJ x20.1) (gy rfl c3) rfl ?_
 obtain ⟨x41, nL, h⟩ := AP h
 refine QK (gy rfl c3) (LX (PD N _ _ _ nL) rfl (.cons A9 (.cons A9 .nil)) rfl rfl rfl) CQ ?_
 refine JF rfl (BG c3 rfl rfl) ?_
 refine dq rfl ?_
 rcases CY h with ⟨c4, h⟩ | ⟨c4, h⟩
 iterate 2 refine JF (gy rfl c4) rfl ?_
 refine JF rfl (BG c4 rfl rfl) ?_
 refine dq rfl ?_
 rcases CY h with ⟨c5, h⟩ | ⟨c5, h⟩
 iterate 2 refine JF (gy rfl c5) rfl ?_
 refine JF rfl (BG c5 rfl rfl) ?_
 refine dq rfl ?_
 rcases CY h with ⟨c6, h⟩ | ⟨c6, h⟩
 refine JF (p := .agg [j6 2, j6 0, j6 0, j6 2, j6 1, j6 0, j6 0, j6 0, j6 0, j6 0, .sl 2 (List.map AV []), .bool false, .sl 3 (List.map AL [])]) (gy rfl c6) rfl ?_
 obtain ⟨x53, hx53, h⟩ := AP h
 refine QK (gy rfl c6) (LX (LA N _ _ hx53) rfl (.cons A9 .nil) rfl rfl rfl) CQ ?_
 refine JF rfl (BG c6 rfl rfl) ?_
 refine dq rfl ?_
 rcases CY h with ⟨c7, h⟩ | ⟨c7, h⟩
 refine JF (p := .agg [j6 0, j6 0, j6 0, j6 0, j6 0, j6 0, j6 0, j6 0, j6 0, j6 0, .nl, .bool false, .nl]) (gy rfl c7) rfl ?_
 obtain ⟨x57, hx57, h⟩ := AP h
 refine QK (gy rfl c7) (LX (LA N _ _ hx57) rfl (.cons (J4 (.cons A9 (.cons A9 (.cons A9 (.cons A9 (.cons A9 (.cons A9 (.cons A9 (.cons A9 (.cons A9 (.cons A9 (.cons (FH 2) (.cons A9 (.cons (FH 3) .nil))))))))))))) rfl) .nil) rfl rfl rfl) CQ ?_
 refine JF (gy rfl c7) rfl ?_
 refine JF rfl (BG c7 rfl rfl) ?_
 refine dq rfl ?_
 rcases CY h with ⟨c8, h⟩ | ⟨c8, h⟩
 iterate 2 refine JF (p := .agg [j6 2, j6 0, j6 0, j6 2, j6 1, j6 0, j6 0, j6 0, j6 0, j6 0, .sl 2 (List.map AV []), .bool false, .sl 3 (List.map AL [])]) (gy rfl c8) rfl ?_
 obtain ⟨x63, hx63, h⟩ := AP h
 refine QK (gy rfl c8) (LX (U3 N _ _ hx63) rfl (.cons A9 .nil) rfl rfl rfl) CQ ?_
 obtain ⟨x64, Jw, h⟩ := AP h
 refine QK (gy rfl c8) (LX (U1 N _ _ _ Jw) rfl (.cons A9 (.cons A9 .nil)) rfl rfl rfl) CQ ?_
 refine JF rfl (BG c8 rfl rfl) ?_
 refine dq rfl ?_
 obtain rfl := AO h
 exact cq rfl
 iterate 4 refine WU (gn rfl c8) ?_
 refine JF rfl (BD c8 rfl rfl) ?_
 refine dq rfl ?_
 obtain rfl := AO h
 exact cq rfl
 iterate 3 refine WU (gn rfl c7) ?_
 refine JF rfl (BD c7 rfl rfl) ?_
 refine dq rfl ?_
 iterate 4 refine WU rfl ?_
 iterate 2 refine dq rfl ?_
 obtain rfl := AO h
 exact cq rfl
 iterate 2 refine WU (gn rfl c6) ?_
 refine JF rfl (BD c6 rfl rfl) ?_
 refine dq rfl ?_
 iterate 3 refine WU rfl ?_
 iterate 2 refine dq rfl ?_
 iterate 4 refine WU rfl ?_
 iterate 2 refine dq rfl ?_
 obtain rfl := AO h
 exact cq rfl
 iterate 2 refine WU (gn rfl c5) ?_
 refine JF rfl (BD c5 rfl rfl) ?_
 refine dq rfl ?_
 iterate 2 refine WU rfl ?_
 iterate 2 refine dq rfl ?_
 iterate 3 refine WU rfl ?_
 iterate 2 refine dq rfl ?_
 iterate 4 refine WU rfl ?_
 iterate 2 refine dq rfl ?_
 obtain rfl := AO h
 exact cq rfl
 iterate 2 refine WU (gn rfl c4) ?_
 refine JF rfl (BD c4 rfl rfl) ?_
 refine dq rfl ?_
 iterate 2 refine WU rfl ?_
 iterate 2 refine dq rfl ?_
 iterate 2 refine WU rfl ?_
 iterate 2 refine dq rfl ?_
 iterate 3 refine WU rfl ?_
 iterate 2 refine dq rfl ?_
 iterate 4 refine WU rfl ?_
 iterate 2 refine dq rfl ?_
 obtain rfl := AO h
 exact cq rfl
 iterate 3 refine WU (gn rfl c3) ?_
 refine JF rfl (BD c3 rfl rfl) ?_
 refine dq rfl ?_
 iterate 2 refine WU rfl ?_
 iterate 2 refine dq rfl ?_
 iterate 2 refine WU rfl ?_
 iterate 2 refine dq rfl ?_
 iterate 2 refine WU rfl ?_
 iterate 2 refine dq rfl ?_
 iterate 3 refine WU rfl ?_
 iterate 2 refine dq rfl ?_
 iterate 4 refine WU rfl ?_
 iterate 2 refine dq rfl ?_
 obtain rfl := AO h
 exact cq rfl
 iterate 2 refine WU (gn rfl c2) ?_
 refine JF rfl (BD c2 rfl rfl) ?_
 refine dq rfl ?_
 iterate 3 refine WU rfl ?_
 iterate 2 refine dq rfl ?_
 iterate 2 refine WU rfl ?_
 iterate 2 refine dq rfl ?_
 iterate 2 refine WU rfl ?_
 iterate 2 refine dq rfl ?_
 iterate 2 refine WU rfl ?_
 iterate 2 refine dq rfl ?_
 iterate 3 refine WU rfl ?_
 iterate 2 refine dq rfl ?_
 iterate 4 refine WU rfl ?_
 iterate 2 refine dq rfl ?_
 obtain rfl := AO h
 exact cq rfl
 clear hg1
 obtain rfl := AO h
 refine BR ?_
 exact ⟨nofun, rfl, rfl⟩
end Go.Gp
end
