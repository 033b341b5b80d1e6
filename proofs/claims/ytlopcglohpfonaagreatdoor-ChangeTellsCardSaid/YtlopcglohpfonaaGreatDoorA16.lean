/- A part of the proof: functions of the program and what they compute. -/
import Derived.Test.YtlopcglohpfonaaGreatDoorA5
import Derived.Test.YtlopcglohpfonaaGreatDoorA6
import Derived.Test.YtlopcglohpfonaaGreatDoorA15
import Derived.Test.YtlopcglohpfonaaGreatDoorA9
import Derived.Test.YtlopcglohpfonaaGreatDoorA12
import Derived.Test.YtlopcglohpfonaaGreatDoorA14
section
set_option linter.unusedVariables false
set_option linter.unusedSimpArgs false
set_option maxRecDepth 4000
set_option maxHeartbeats 4000000
namespace Go.Gp
open Go.Vd Go.RowKit Go.Proofs
def yE : IC := (.seq (.seq (.reg [jm 7 5, jm 8 0, jS 9 8, jb .lss 10 7 9]) (.cond (.t 10) .skip (.exit 0))) (.seq (.block 1 (.seq (.reg [jm 13 0, jm 14 5, jn 15 (.idxs (.t 13) (.t 14)), jm 6 15]) (.seq (.seq (.reg [jm 16 6, jn 17 (.bin .neq (.t 16) (.c (.int .u8 92)))]) (.cond (.t 17) (.seq (.seq (.reg [jm 18 6, jn 19 (.call 142 [(.t 18)]), jm 20 19, jf 20 21 (.mov (.t 5)), jf 20 22 (.bin .eql (.t 21) (ji 0)), jf 20 23 (.mov (.t 22)), jt 23 24 (.mov (.t 6)), jt 23 25 (.bin .eql (.t 24) (.c (.int .u8 35))), jt 23 26 (.mov (.t 25)), jf 26 27 (.mov (.t 6)), jf 26 28 (.bin .eql (.t 27) (.c (.int .u8 32))), jt 23 29 (.pick (.t 26) jB (.t 28)), jf 20 30 (.pick (.t 23) (.t 29) jA), jo 31 20 30, jm 32 31, jf 32 33 (.mov (.t 5)), jf 32 34 (.mov (.t 0)), jf 32 35 (.len true (.t 34)), jf 32 36 (.bin .sub (.t 35) (ji 1)), jf 32 37 (.bin .eql (.t 33) (.t 36)), jf 32 38 (.mov (.t 37)), jt 38 39 (.mov (.t 6)), jt 38 40 (.bin .eql (.t 39) (.c (.int .u8 32))), jf 32 41 (.pick (.t 38) (.t 40) jA), jo 42 32 41]) (.cond (.t 42) (.seq (.reg [jc 2 (.str []), jc 3 (.bool false)]) .ret) .skip)) (.seq (.reg [jm 43 4, jm 44 6, jn 45 (.bsl 1 [(.t 44)]), jn 46 (.app 5 1 1 (.t 43) (.t 45)), jm 4 46]) (.exit 1))) .skip)) (.block 2 (.seq (.reg [jm 48 5, ju .add 49 48 1, jm 50 0, jS 51 50, jb .lss 52 49 51, jm 53 52, jt 53 54 (.mov (.t 0)), jt 53 55 (.mov (.t 5)), jt 53 56 (.bin .add (.t 55) (ji 1)), jt 53 57 (.idxs (.t 54) (.t 56)), jt 53 58 (.call 142 [(.t 57)]), jt 53 59 (.mov (.t 58)), jf 59 60 (.mov (.t 0)), jf 59 61 (.mov (.t 5)), jf 59 62 (.bin .add (.t 61) (ji 1)), jf 59 63 (.idxs (.t 60) (.t 62)), jf 59 64 (.bin .eql (.t 63) (.c (.int .u8 35))), jt 53 65 (.pick (.t 59) jB (.t 64)), jt 53 66 (.mov (.t 65)), jf 66 67 (.mov (.t 0)), jf 66 68 (.mov (.t 5)), jf 66 69 (.bin .add (.t 68) (ji 1)), jf 66 70 (.idxs (.t 67) (.t 69)), jf 66 71 (.bin .eql (.t 70) (.c (.int .u8 61))), jt 53 72 (.pick (.t 66) jB (.t 71)), jt 53 73 (.mov (.t 72)), jf 73 74 (.mov (.t 0)), jf 73 75 (.mov (.t 5)), jf 73 76 (.bin .add (.t 75) (ji 1)), jf 73 77 (.idxs (.t 74) (.t 76)), jf 73 78 (.bin .eql (.t 77) (.c (.int .u8 32))), jt 53 79 (.pick (.t 73) jB (.t 78)), jp 80 53 79, jm 47 80]) (.cond (.t 47) (.seq (.reg [jm 81 4, jm 82 0, jm 83 5, ju .add 84 83 1, jn 85 (.idxs (.t 82) (.t 84)), jn 86 (.bsl 1 [(.t 85)]), jn 87 (.app 5 1 1 (.t 81) (.t 86)), jm 4 87]) (.reg [jm 88 5, ju .add 89 88 1, jm 5 89])) (.seq (.reg [jm 91 5, ju .add 92 91 2, jm 93 0, jS 94 93, jb .lss 95 92 94, jm 96 95, jt 96 97 (.mov (.t 0)), jt 96 98 (.mov (.t 5)), jt 96 99 (.bin .add (.t 98) (ji 1)), jt 96 100 (.idxs (.t 97) (.t 99)), jt 96 101 (.call 143 [(.t 100)]), jt 96 102 (.bin .geq (.t 101) (ji 0)), jp 103 96 102, jm 104 103, jt 104 105 (.mov (.t 0)), jt 104 106 (.mov (.t 5)), jt 104 107 (.bin .add (.t 106) (ji 2)), jt 104 108 (.idxs (.t 105) (.t 107)), jt 104 109 (.call 143 [(.t 108)]), jt 104 110 (.bin .geq (.t 109) (ji 0)), jp 111 104 110, jm 90 111]) (.cond (.t 90) (.seq (.regd 15 [jm 112 4, jm 113 0, jm 114 5, ju .add 115 114 1, jn 116 (.idxs (.t 113) (.t 115)), jn 117 (.call 143 [(.t 116)]), jn 118 (.bin .mul (ji 16) (.t 117)), jm 119 0, jm 120 5, ju .add 121 120 2, jn 122 (.idxs (.t 119) (.t 121)), jn 123 (.call 143 [(.t 122)]), jb .add 124 118 123, jn 125 (.cvi .u8 (.t 124)), jn 126 (.bsl 1 [(.t 125)]), jn 127 (.app 5 1 1 (.t 112) (.t 126)), jm 4 127]) (.reg [jm 128 5, ju .add 129 128 2, jm 5 129])) (.seq (.reg [jc 2 (.str []), jc 3 (.bool false)]) .ret))))))))) (.reg [jm 11 5, ju .add 12 11 1, jm 5 12])))
def k122 : IC := (.seq (.reg [jc 2 (.str []), jc 3 (.bool false)]) (.seq (.reg [jc 4 .nl]) (.seq (.seq (.reg [jc 5 (j6 0)]) (.block 0 (.loop yE))) (.seq (.reg [jm 130 4, jn 131 (.cvb (.t 130)), jm 2 131, jc 3 (.bool true)]) .ret))))
theorem Mj : BX Tryz.prog Tryz.f122 = some ⟨132, k122, [(.tmp 2), (.tmp 3)]⟩ := by kernel_rfl
theorem WS (N : Nat) (a0 : List UInt8) : ∀ (n : Nat) (x : Int × List UInt8) (y : (List UInt8) ⊕ (List UInt8 × Bool)), FB N a0 n x = some y → WX Tryz.prog (fun _ => false) (.loop yE) ((fun (x : Int × List UInt8) => ⟨AY [(0, .str a0), (4, .slr 196004 0 x.2.length), (5, .int .i64 x.1)], AY [(196004, ⟨1, true, List.map eb x.2⟩)]⟩) x) ((Sum.elim (fun y e s => e = .exit 0 ∧ s = ⟨AY [(4, .slr 196004 0 y.length)], AY [(196004, ⟨1, true, List.map eb y⟩)]⟩) (fun y e s => e = .ret ∧ s = ⟨AY [(2, .str y.1), (3, .bool y.2)], AY []⟩) : ((List UInt8) ⊕ (List UInt8 × Bool)) → Xt → St → Prop) y) := by
 refine EQ _ _ (FB N a0) (GV N a0) (fun _ => rfl) (fun _ _ => rfl) ?_
 rintro rec ⟨v5l8, JJ⟩ y h
 iterate 2 refine AJ ?_
 refine AC ?_
 iterate 4 refine A7 rfl rfl ?_
 refine D8 h rfl (fun c1 h => ?_) (fun c1 h => ?_)
 refine BF ?_
 refine QO (fun (x : Int × List UInt8) => ⟨AY [(0, .str a0), (4, .slr 196004 0 x.2.length), (5, .int .i64 x.1)], AY [(196004, ⟨1, true, List.map eb x.2⟩)]⟩) (fun x => I5 rec x.1 x.2 = some y) ?_ ?_
 rintro ⟨wF, aP⟩ h
 refine AC ?_
 refine A7 rfl rfl ?_
 refine A7 (p := .int .i64 (BQ (wF + (1 : Int)))) rfl rfl ?_
 refine A7 rfl rfl ?_
 exact ⟨((BQ (wF + (1 : Int))), aP), (cn rfl rfl rfl rfl), h⟩
 refine C9 ?_
 refine AJ ?_
 refine AC ?_
 iterate 2 refine A7 rfl rfl ?_
 obtain ⟨N7, SE, h⟩ := AL h
 refine A7 rfl (GN SE rfl rfl) ?_
 refine A7 rfl rfl ?_
 iterate 2 refine AJ ?_
 refine AC ?_
 refine A7 rfl rfl ?_
 refine A7 (p := .bool (((N7).toNat : Int) != (92 : Int))) rfl rfl ?_
 refine D8 h rfl (fun c2 h => ?_) (fun c2 h => ?_)
 refine AJ ?_
 obtain ⟨g3, hg3, h⟩ := AL h
 refine F9 ⟨AY [(0, .str a0), (4, .slr 196004 0 JJ.length), (5, .int .i64 v5l8), (6, eb N7), (42, .bool g3)], AY [(196004, ⟨1, true, List.map eb JJ⟩)]⟩ ?_ ?_
 have h := hg3
 refine AC ?_
 refine A7 rfl rfl ?_
 obtain ⟨PR, YH, h⟩ := AL h
 refine CS rfl (CG (P6 N _ _ YH) rfl (.cons A9 .nil) rfl rfl rfl) ?_
 refine A7 rfl rfl ?_
 rcases BO h with ⟨c4, h⟩ | ⟨c4, h⟩
 iterate 3 refine BK (gn rfl c4) ?_
 iterate 6 refine BK (gu rfl) ?_
 refine BK (gn rfl c4) ?_
 refine A7 rfl (BA c4 rfl rfl) ?_
 refine A7 rfl rfl ?_
 iterate 6 refine BK rfl ?_
 iterate 2 refine BK (gu rfl) ?_
 refine BK rfl ?_
 refine A7 rfl rfl ?_
 obtain rfl := AB h
 exact (cn rfl rfl rfl rfl)
 iterate 3 refine A7 (gy rfl c4) rfl ?_
 rcases BO h with ⟨c5, h⟩ | ⟨c5, h⟩
 refine A7 (gy rfl c5) rfl ?_
 refine A7 (p := .bool (((N7).toNat : Int) == (35 : Int))) (gy rfl c5) rfl ?_
 refine A7 (gy rfl c5) rfl ?_
 rcases BO h with ⟨c6, h⟩ | ⟨c6, h⟩
 iterate 2 refine BK (gn rfl c6) ?_
 refine A7 (gy rfl c5) (BA c6 rfl rfl) ?_
 refine A7 (gy rfl c4) (BA c5 rfl rfl) ?_
 refine A7 rfl (AZ c4 rfl rfl) ?_
 refine A7 rfl rfl ?_
 iterate 6 refine BK rfl ?_
 iterate 2 refine BK (gu rfl) ?_
 refine BK rfl ?_
 refine A7 rfl rfl ?_
 obtain rfl := AB h
 exact (cn rfl rfl rfl rfl)
 refine A7 (gy rfl c6) rfl ?_
 refine A7 (p := .bool (((N7).toNat : Int) == (32 : Int))) (gy rfl c6) rfl ?_
 refine A7 (gy rfl c5) (AZ c6 rfl rfl) ?_
 refine A7 (gy rfl c4) (BA c5 rfl rfl) ?_
 refine A7 rfl (AZ c4 rfl rfl) ?_
 refine A7 rfl rfl ?_
 rcases BO h with ⟨c7, h⟩ | ⟨c7, h⟩
 iterate 6 refine BK (gn rfl c7) ?_
 iterate 2 refine BK (gu rfl) ?_
 refine BK (gn rfl c7) ?_
 refine A7 rfl (BA c7 rfl rfl) ?_
 obtain rfl := AB h
 exact (cn rfl rfl rfl rfl)
 iterate 3 refine A7 (gy rfl c7) rfl ?_
 refine A7 (p := .int .i64 (BQ ((a0.length : Int) - (1 : Int)))) (gy rfl c7) rfl ?_
 iterate 2 refine A7 (gy rfl c7) rfl ?_
 rcases BO h with ⟨c8, h⟩ | ⟨c8, h⟩
 refine A7 (gy rfl c8) rfl ?_
 refine A7 (p := .bool (((N7).toNat : Int) == (32 : Int))) (gy rfl c8) rfl ?_
 refine A7 (gy rfl c7) (BA c8 rfl rfl) ?_
 refine A7 rfl (AZ c7 rfl rfl) ?_
 cases AB h
 exact (cn rfl rfl rfl rfl)
 iterate 2 refine BK (gn rfl c8) ?_
 refine A7 (gy rfl c7) (AZ c8 rfl rfl) ?_
 refine A7 rfl (AZ c7 rfl rfl) ?_
 obtain rfl := AB h
 exact (cn rfl rfl rfl rfl)
 iterate 3 refine BK (gn rfl c5) ?_
 iterate 2 refine BK (gu rfl) ?_
 refine BK (gn rfl c5) ?_
 refine A7 (gy rfl c4) (AZ c5 rfl rfl) ?_
 refine A7 rfl (AZ c4 rfl rfl) ?_
 iterate 4 refine A7 rfl rfl ?_
 refine A7 (p := .int .i64 (BQ ((a0.length : Int) - (1 : Int)))) rfl rfl ?_
 iterate 2 refine A7 rfl rfl ?_
 rcases BO h with ⟨c9, h⟩ | ⟨c9, h⟩
 refine A7 (gy rfl c9) rfl ?_
 refine A7 (p := .bool (((N7).toNat : Int) == (32 : Int))) (gy rfl c9) rfl ?_
 refine A7 rfl (BA c9 rfl rfl) ?_
 refine A7 rfl rfl ?_
 cases AB h
 exact (cn rfl rfl rfl rfl)
 iterate 2 refine BK (gn rfl c9) ?_
 refine A7 rfl (AZ c9 rfl rfl) ?_
 refine A7 rfl rfl ?_
 obtain rfl := AB h
 exact (cn rfl rfl rfl rfl)
 clear hg3
 refine D8 h rfl (fun c10 h => ?_) (fun c10 h => ?_)
 refine AJ ?_
 refine AC ?_
 iterate 2 refine A7 rfl rfl ?_
 cases AB h
 exact DU (st1 := ⟨AY [(2, .str ([] : List UInt8)), (3, .bool false)], AY []⟩) (cn rfl rfl rfl rfl) ⟨rfl, rfl⟩
 refine BF ?_
 refine AJ ?_
 refine AC ?_
 iterate 2 refine A7 rfl rfl ?_
 refine CS rfl (SB 195245 rfl rfl rfl) ?_
 obtain ⟨sZ, oM, h⟩ := AL h
 refine UC (f := eb) 195246 oM rfl rfl rfl rfl rfl (KA rfl (BR (f := eb) (l := [N7]))) rfl rfl rfl rfl ?_
 refine A7 rfl rfl ?_
 refine PU ?_
 exact ⟨(v5l8, sZ), (CB.trans (rename 195246 196004 rfl rfl) (cn rfl rfl rfl rfl)), h⟩
 refine BF ?_
 refine C9 ?_
 obtain ⟨g11, kD, h⟩ := AL h
 refine F9 ⟨AY [(0, .str a0), (4, .slr 196004 0 JJ.length), (5, .int .i64 v5l8), (47, .bool g11)], AY [(196004, ⟨1, true, List.map eb JJ⟩)]⟩ ?_ ?_
 have h := kD
 refine AC ?_
 refine A7 rfl rfl ?_
 refine A7 (p := .int .i64 (BQ (v5l8 + (1 : Int)))) rfl rfl ?_
 iterate 4 refine A7 rfl rfl ?_
 rcases BO h with ⟨c12, h⟩ | ⟨c12, h⟩
 iterate 2 refine A7 (gy rfl c12) rfl ?_
 refine A7 (p := .int .i64 (BQ (v5l8 + (1 : Int)))) (gy rfl c12) rfl ?_
 obtain ⟨x57, Vn, h⟩ := AL h
 refine A7 (gy rfl c12) (GN Vn rfl rfl) ?_
 obtain ⟨Jy, Vm, h⟩ := AL h
 refine CS (gy rfl c12) (CG (P6 N _ _ Vm) rfl (.cons A9 .nil) rfl rfl rfl) ?_
 refine A7 (gy rfl c12) rfl ?_
 rcases BO h with ⟨c13, h⟩ | ⟨c13, h⟩
 iterate 5 refine BK (gn rfl c13) ?_
 refine A7 (gy rfl c12) (BA c13 rfl rfl) ?_
 refine A7 (gy rfl c12) rfl ?_
 iterate 5 refine BK rfl ?_
 iterate 2 refine A7 (gy rfl c12) rfl ?_
 iterate 5 refine BK rfl ?_
 refine A7 (gy rfl c12) rfl ?_
 refine A7 rfl (BA c12 rfl rfl) ?_
 refine A7 rfl rfl ?_
 obtain rfl := AB h
 exact (cn rfl rfl rfl rfl)
 iterate 2 refine A7 (gy rfl c13) rfl ?_
 refine A7 (p := .int .i64 (BQ (v5l8 + (1 : Int)))) (gy rfl c13) rfl ?_
 obtain ⟨x63, Vk, h⟩ := AL h
 refine A7 (gy rfl c13) (GN Vk rfl rfl) ?_
 refine A7 (p := .bool (((x63).toNat : Int) == (35 : Int))) (gy rfl c13) rfl ?_
 refine A7 (gy rfl c12) (AZ c13 rfl rfl) ?_
 refine A7 (gy rfl c12) rfl ?_
 rcases BO h with ⟨c14, h⟩ | ⟨c14, h⟩
 iterate 5 refine BK (gn rfl c14) ?_
 refine A7 (gy rfl c12) (BA c14 rfl rfl) ?_
 refine A7 (gy rfl c12) rfl ?_
 iterate 5 refine BK rfl ?_
 refine A7 (gy rfl c12) rfl ?_
 refine A7 rfl (BA c12 rfl rfl) ?_
 refine A7 rfl rfl ?_
 obtain rfl := AB h
 exact (cn rfl rfl rfl rfl)
 iterate 2 refine A7 (gy rfl c14) rfl ?_
 refine A7 (p := .int .i64 (BQ (v5l8 + (1 : Int)))) (gy rfl c14) rfl ?_
 obtain ⟨x70, hx70, h⟩ := AL h
 refine A7 (gy rfl c14) (GN hx70 rfl rfl) ?_
 refine A7 (p := .bool (((x70).toNat : Int) == (61 : Int))) (gy rfl c14) rfl ?_
 refine A7 (gy rfl c12) (AZ c14 rfl rfl) ?_
 refine A7 (gy rfl c12) rfl ?_
 rcases BO h with ⟨c15, h⟩ | ⟨c15, h⟩
 iterate 5 refine BK (gn rfl c15) ?_
 refine A7 (gy rfl c12) (BA c15 rfl rfl) ?_
 refine A7 rfl (BA c12 rfl rfl) ?_
 refine A7 rfl rfl ?_
 obtain rfl := AB h
 exact (cn rfl rfl rfl rfl)
 iterate 2 refine A7 (gy rfl c15) rfl ?_
 refine A7 (p := .int .i64 (BQ (v5l8 + (1 : Int)))) (gy rfl c15) rfl ?_
 obtain ⟨x77, Ve, h⟩ := AL h
 refine A7 (gy rfl c15) (GN Ve rfl rfl) ?_
 refine A7 (p := .bool (((x77).toNat : Int) == (32 : Int))) (gy rfl c15) rfl ?_
 refine A7 (gy rfl c12) (AZ c15 rfl rfl) ?_
 refine A7 rfl (BA c12 rfl rfl) ?_
 refine A7 rfl rfl ?_
 cases AB h
 exact (cn rfl rfl rfl rfl)
 iterate 6 refine BK (gn rfl c12) ?_
 iterate 5 refine BK (gu rfl) ?_
 iterate 2 refine BK (gn rfl c12) ?_
 iterate 5 refine BK (gu rfl) ?_
 iterate 2 refine BK (gn rfl c12) ?_
 iterate 5 refine BK (gu rfl) ?_
 refine BK (gn rfl c12) ?_
 refine A7 rfl (AZ c12 rfl rfl) ?_
 refine A7 rfl rfl ?_
 obtain rfl := AB h
 exact (cn rfl rfl rfl rfl)
 clear kD
 refine D8 h rfl (fun c16 h => ?_) (fun c16 h => ?_)
 refine AJ ?_
 refine AC ?_
 iterate 3 refine A7 rfl rfl ?_
 refine A7 (p := .int .i64 (BQ (v5l8 + (1 : Int)))) rfl rfl ?_
 obtain ⟨x85, Uz, h⟩ := AL h
 refine A7 rfl (GN Uz rfl rfl) ?_
 refine CS rfl (SB 195286 rfl rfl rfl) ?_
 obtain ⟨x87, Uy, h⟩ := AL h
 refine UC (f := eb) 195287 Uy rfl rfl rfl rfl rfl (KA rfl (BR (f := eb) (l := [x85]))) rfl rfl rfl rfl ?_
 refine A7 rfl rfl ?_
 refine AC ?_
 refine A7 rfl rfl ?_
 refine A7 (p := .int .i64 (BQ (v5l8 + (1 : Int)))) rfl rfl ?_
 refine A7 rfl rfl ?_
 exact ⟨((BQ (v5l8 + (1 : Int))), x87), (CB.trans (rename 195287 196004 rfl rfl) (cn rfl rfl rfl rfl)), h⟩
 obtain ⟨g17, hg17, h⟩ := AL h
 refine F9 ⟨AY [(0, .str a0), (4, .slr 196004 0 JJ.length), (5, .int .i64 v5l8), (90, .bool g17)], AY [(196004, ⟨1, true, List.map eb JJ⟩)]⟩ ?_ ?_
 have h := hg17
 refine AC ?_
 refine A7 rfl rfl ?_
 refine A7 (p := .int .i64 (BQ (v5l8 + (2 : Int)))) rfl rfl ?_
 iterate 4 refine A7 rfl rfl ?_
 rcases BO h with ⟨c18, h⟩ | ⟨c18, h⟩
 iterate 2 refine A7 (gy rfl c18) rfl ?_
 refine A7 (p := .int .i64 (BQ (v5l8 + (1 : Int)))) (gy rfl c18) rfl ?_
 obtain ⟨x100, hx100, h⟩ := AL h
 refine A7 (gy rfl c18) (GN hx100 rfl rfl) ?_
 obtain ⟨x101, hx101, h⟩ := AL h
 refine CS (gy rfl c18) (CG (JU N _ _ hx101) rfl (.cons A9 .nil) rfl rfl rfl) ?_
 refine A7 (gy rfl c18) rfl ?_
 refine A7 rfl (BA c18 rfl rfl) ?_
 refine A7 rfl rfl ?_
 rcases BO h with ⟨c19, h⟩ | ⟨c19, h⟩
 iterate 2 refine A7 (gy rfl c19) rfl ?_
 refine A7 (p := .int .i64 (BQ (v5l8 + (2 : Int)))) (gy rfl c19) rfl ?_
 obtain ⟨x108, hx108, h⟩ := AL h
 refine A7 (gy rfl c19) (GN hx108 rfl rfl) ?_
 obtain ⟨x109, hx109, h⟩ := AL h
 refine CS (gy rfl c19) (CG (JU N _ _ hx109) rfl (.cons A9 .nil) rfl rfl rfl) ?_
 refine A7 (gy rfl c19) rfl ?_
 refine A7 rfl (BA c19 rfl rfl) ?_
 refine A7 rfl rfl ?_
 cases AB h
 exact (cn rfl rfl rfl rfl)
 iterate 6 refine BK (gn rfl c19) ?_
 refine A7 rfl (AZ c19 rfl rfl) ?_
 refine A7 rfl rfl ?_
 obtain rfl := AB h
 exact (cn rfl rfl rfl rfl)
 iterate 6 refine BK (gn rfl c18) ?_
 refine A7 rfl (AZ c18 rfl rfl) ?_
 refine A7 rfl rfl ?_
 iterate 6 refine BK rfl ?_
 iterate 2 refine A7 rfl rfl ?_
 obtain rfl := AB h
 exact (cn rfl rfl rfl rfl)
 clear hg17
 refine D8 h rfl (fun c20 h => ?_) (fun c20 h => ?_)
 refine AJ ?_
 refine OD ?_
 iterate 3 refine DL rfl rfl ?_
 refine DL (p := .int .i64 (BQ (v5l8 + (1 : Int)))) rfl rfl ?_
 obtain ⟨lC, rQ, h⟩ := AL h
 refine DL rfl (GN rQ rfl rfl) ?_
 obtain ⟨Ca, hx117, h⟩ := AL h
 refine TF rfl (MP (JU N _ _ hx117) rfl (.cons A9 .nil) rfl rfl rfl) CP ?_
 refine DL (p := .int .i64 (BQ ((16 : Int) * Ca))) rfl rfl ?_
 iterate 2 refine DL rfl rfl ?_
 refine DL (p := .int .i64 (BQ (v5l8 + (2 : Int)))) rfl rfl ?_
 obtain ⟨LF, rP, h⟩ := AL h
 refine DL rfl (GN rP rfl rfl) ?_
 obtain ⟨Km, hx123, h⟩ := AL h
 refine TF rfl (MP (JU N _ _ hx123) rfl (.cons A9 .nil) rfl rfl rfl) CP ?_
 refine DL (p := .int .i64 (BQ ((BQ ((16 : Int) * Ca)) + Km))) rfl rfl ?_
 refine DL rfl (YD rfl) ?_
 refine TF rfl (.bsl _ 195326 rfl (O0 rfl) rfl) (QZ rfl) ?_
 obtain ⟨Qh, hx127, h⟩ := AL h
 refine UC (f := eb) 195327 hx127 rfl rfl rfl rfl rfl (KA rfl (BR (f := eb) (l := [(byte (BQ ((BQ ((16 : Int) * Ca)) + Km)))]))) rfl rfl rfl rfl ?_
 refine A7 rfl rfl ?_
 refine AC ?_
 refine A7 rfl rfl ?_
 refine A7 (p := .int .i64 (BQ (v5l8 + (2 : Int)))) rfl rfl ?_
 refine A7 rfl rfl ?_
 exact ⟨((BQ (v5l8 + (2 : Int))), Qh), (CB.trans (rename 195327 196004 rfl rfl) (cn rfl rfl rfl rfl)), h⟩
 refine AJ ?_
 refine AC ?_
 iterate 2 refine A7 rfl rfl ?_
 cases AB h
 exact DU (st1 := ⟨AY [(2, .str ([] : List UInt8)), (3, .bool false)], AY []⟩) (cn rfl rfl rfl rfl) ⟨rfl, rfl⟩
 obtain rfl := AB h
 exact CW (st1 := ⟨AY [(4, .slr 196004 0 JJ.length)], AY [(196004, ⟨1, true, List.map eb JJ⟩)]⟩) (cn rfl rfl rfl rfl) ⟨rfl, rfl⟩
theorem Y0 (N : Nat) (a0 : List UInt8) (r : List UInt8 × Bool) (h : MV N a0 = some r) : Sat Tryz.prog 122 AO [.str a0] (.tup [.str r.1, .bool r.2]) AO := by
 refine DT mixed Tryz.func122 Mj (rs := [.str r.1, .bool r.2]) rfl rfl ?_
 refine AJ ?_
 refine AC ?_
 iterate 2 refine A7 rfl rfl ?_
 refine AJ ?_
 refine AC ?_
 refine A7 rfl rfl ?_
 iterate 2 refine AJ ?_
 refine AC ?_
 refine A7 rfl rfl ?_
 refine C9 ?_
 obtain ⟨y21, hy21, h⟩ := AL h
 refine PT (WS N a0 N _ _ hy21) (CB.trans (ZZ 4 196004 1 true rfl rfl rfl) (cn rfl rfl rfl rfl)) ?_
 clear hy21
 rcases y21 with y21 | y21
 rintro e s ⟨rfl, rfl⟩
 refine AJ ?_
 refine AC ?_
 refine A7 rfl rfl ?_
 refine A7 rfl (VH (l := y21) rfl rfl (BR (f := eb) (l := y21))) ?_
 iterate 2 refine A7 rfl rfl ?_
 cases AB h
 refine BS ?_
 exact ⟨nofun, rfl, rfl⟩
 rintro e s ⟨rfl, rfl⟩
 cases AB h
 exact ⟨nofun, rfl, rfl⟩
end Go.Gp
end
section
set_option linter.unusedVariables false
set_option linter.unusedSimpArgs false
set_option maxRecDepth 4000
namespace Go.Gp
open Go.Vd Go.RowKit Go.Proofs
def xA : IC := (.seq (.seq (.reg [jm 18 7, jm 19 5, jm 20 6, jx 21 1 19 20, jl 22 1 21, jS 23 22, jb .lss 24 18 23, jm 25 24, jt 25 26 (.mov (.t 5)), jt 25 27 (.mov (.t 6)), jt 25 28 (.ixp 1 (.t 26) (.t 27)), jt 25 29 (.load 1 false (.t 28)), jt 25 30 (.mov (.t 7)), jt 25 31 (.idxs (.t 29) (.t 30)), jt 25 32 (.bin .neq (.t 31) (.c (.int .u8 61))), jp 33 25 32]) (.cond (.t 33) .skip (.exit 2))) (.block 3 (.reg [jm 34 7, ju .add 35 34 1, jm 7 35])))
def xB : IC := (.seq (.seq (.reg [jm 12 6, jm 13 5, jL 14 13, jb .lss 15 12 14]) (.cond (.t 15) .skip (.exit 0))) (.seq (.block 1 (.seq (.reg [jc 7 (j6 0)]) (.seq (.block 2 (.loop xA)) (.seq (.seq (.reg [jm 36 7, jm 37 5, jm 38 6, jx 39 1 37 38, jl 40 1 39, jS 41 40, jb .eql 42 36 41, jm 43 42, jf 43 44 (.mov (.t 5)), jf 43 45 (.mov (.t 6)), jf 43 46 (.ixp 1 (.t 44) (.t 45)), jf 43 47 (.load 1 false (.t 46)), jf 43 48 (.call 97 [(.t 47), (.c (.int .u8 44))]), jf 43 49 (.len false (.t 48)), jf 43 50 (.bin .gtr (.t 49) (ji 1)), jo 51 43 50]) (.cond (.t 51) (.seq (.reg [jc 2 .nl, jc 3 (.bool false)]) .ret) .skip)) (.seq (.reg [jm 53 5, jm 54 6, jx 55 1 53 54, jl 56 1 55, jm 57 7, ju .add 58 57 1, jn 59 (.slcs (.t 56) (some (.t 58)) none), jn 60 (.call 122 [(.t 59)]), jm 52 60, je 61 0 52, je 62 1 52, jm 8 61, jm 9 62]) (.seq (.seq (.reg [jm 63 9, jn 64 (.un .not (.t 63))]) (.cond (.t 64) (.seq (.reg [jc 2 .nl, jc 3 (.bool false)]) .ret) .skip)) (.reg [jm 65 4, jm 66 5, jm 67 6, jx 68 1 66 67, jl 69 1 68, jm 70 7, jn 71 (.slcs (.t 69) none (some (.t 70))), jn 72 (.call 85 [(.t 71)]), jm 73 8, jn 74 (.build [(.str []), (.str [])] [(0, (1, (.t 72))), (1, (1, (.t 73)))]), jn 75 (.bsl 2 [(.t 74)]), jn 76 (.app 41 2 32 (.t 65) (.t 75)), jm 4 76]))))))) (.reg [jm 16 6, ju .add 17 16 1, jm 6 17])))
def k98 : IC := (.seq (.reg [jc 2 .nl, jc 3 (.bool false)]) (.seq (.reg [jc 4 .nl]) (.seq (.reg [jm 10 0, jn 11 (.call 97 [(.t 10), (.c (.int .u8 43))]), jm 5 11]) (.seq (.seq (.reg [jc 6 (j6 0)]) (.block 0 (.loop xB))) (.seq (.seq (.reg [jm 77 4, jn 78 (.call 61 [(.t 77)]), jn 79 (.un .not (.t 78))]) (.cond (.t 79) (.seq (.reg [jc 2 .nl, jc 3 (.bool false)]) .ret) .skip)) (.seq (.reg [jm 80 4, jm 2 80, jc 3 (.bool true)]) .ret))))))
theorem Ra : BX Tryz.prog Tryz.f98 = some ⟨81, k98, [(.tmp 2), (.tmp 3)]⟩ := by kernel_rfl
theorem TJ (N : Nat) (KW : List (List UInt8)) (G6 : Int) (DR : List AP) : ∀ (n : Nat) (x : Int) (y : Int), ER N KW G6 DR n x = some y → WX Tryz.prog (fun _ => false) (.loop xA) ((fun (x : Int) => ⟨AY [(4, .slr 157604 0 DR.length), (5, .sl 1 (List.map PV.str KW)), (6, .int .i64 G6), (7, .int .i64 x)], AY [(157604, ⟨2, true, List.map AV DR⟩)]⟩) x) ((fun y e s => e = .exit 2 ∧ s = ⟨AY [(4, .slr 157604 0 DR.length), (5, .sl 1 (List.map PV.str KW)), (6, .int .i64 G6), (7, .int .i64 y)], AY [(157604, ⟨2, true, List.map AV DR⟩)]⟩ : Int → Xt → St → Prop) y) := by
 refine EQ _ _ (ER N KW G6 DR) (GX N KW G6 DR) (fun _ => rfl) (fun _ _ => rfl) ?_
 rintro rec v7l23 y h
 refine AJ ?_
 obtain ⟨g2, hg2, h⟩ := AL h
 refine F9 ⟨AY [(4, .slr 157604 0 DR.length), (5, .sl 1 (List.map PV.str KW)), (6, .int .i64 G6), (7, .int .i64 v7l23), (33, .bool g2)], AY [(157604, ⟨2, true, List.map AV DR⟩)]⟩ ?_ ?_
 have h := hg2
 refine AC ?_
 iterate 3 refine A7 rfl rfl ?_
 obtain ⟨V3, YG, h⟩ := AL h
 refine A7 rfl (DK (cs := [.str V3]) YG rfl rfl rfl) ?_
 iterate 4 refine A7 rfl rfl ?_
 rcases BO h with ⟨c3, h⟩ | ⟨c3, h⟩
 iterate 2 refine A7 (gy rfl c3) rfl ?_
 obtain ⟨x28, hx28, h⟩ := AL h
 refine A7 (gy rfl c3) (DK (cs := [.str x28]) hx28 rfl rfl rfl) ?_
 iterate 2 refine A7 (gy rfl c3) rfl ?_
 obtain ⟨x31, hx31, h⟩ := AL h
 refine A7 (gy rfl c3) (GN hx31 rfl rfl) ?_
 refine A7 (p := .bool (((x31).toNat : Int) != (61 : Int))) (gy rfl c3) rfl ?_
 refine A7 rfl (BA c3 rfl rfl) ?_
 cases AB h
 exact (cn rfl rfl rfl rfl)
 iterate 7 refine BK (gn rfl c3) ?_
 refine A7 rfl (AZ c3 rfl rfl) ?_
 obtain rfl := AB h
 exact (cn rfl rfl rfl rfl)
 clear hg2
 refine D8 h rfl (fun c4 h => ?_) (fun c4 h => ?_)
 refine BF ?_
 refine C9 ?_
 refine AC ?_
 refine A7 rfl rfl ?_
 refine A7 (p := .int .i64 (BQ (v7l23 + (1 : Int)))) rfl rfl ?_
 refine A7 rfl rfl ?_
 exact ⟨(BQ (v7l23 + (1 : Int))), (cn rfl rfl rfl rfl), h⟩
 obtain rfl := AB h
 exact CW (st1 := ⟨AY [(4, .slr 157604 0 DR.length), (5, .sl 1 (List.map PV.str KW)), (6, .int .i64 G6), (7, .int .i64 v7l23)], AY [(157604, ⟨2, true, List.map AV DR⟩)]⟩) (cn rfl rfl rfl rfl) ⟨rfl, rfl⟩
theorem TK (N : Nat) (KW : List (List UInt8)) : ∀ (n : Nat) (x : Int × List AP) (y : (List AP) ⊕ (List AP × Bool)), ES N KW n x = some y → WX Tryz.prog (fun _ => false) (.loop xB) ((fun (x : Int × List AP) => ⟨AY [(4, .slr 157604 0 x.2.length), (5, .sl 1 (List.map PV.str KW)), (6, .int .i64 x.1)], AY [(157604, ⟨2, true, List.map AV x.2⟩)]⟩) x) ((Sum.elim (fun y e s => e = .exit 0 ∧ s = ⟨AY [(4, .slr 157604 0 y.length)], AY [(157604, ⟨2, true, List.map AV y⟩)]⟩) (fun y e s => e = .ret ∧ s = ⟨AY [(2, .sl 2 (List.map AV y.1)), (3, .bool y.2)], AY []⟩) : ((List AP) ⊕ (List AP × Bool)) → Xt → St → Prop) y) := by
 refine EQ _ _ (ES N KW) (GY N KW) (fun _ => rfl) (fun _ _ => rfl) ?_
 rintro rec ⟨G6, DR⟩ y h
 iterate 2 refine AJ ?_
 refine AC ?_
 iterate 2 refine A7 rfl rfl ?_
 refine A7 rfl (BV rfl) ?_
 refine A7 rfl rfl ?_
 refine D8 h rfl (fun c1 h => ?_) (fun c1 h => ?_)
 refine BF ?_
 refine AJ ?_
 refine C9 ?_
 refine AJ ?_
 refine AC ?_
 refine A7 rfl rfl ?_
 refine AJ ?_
 refine C9 ?_
 obtain ⟨y5, Kb, h⟩ := AL h
 refine PT (TJ N KW G6 DR N _ _ Kb) (cn rfl rfl rfl rfl) ?_
 rintro e s ⟨rfl, rfl⟩
 refine AJ ?_
 obtain ⟨g6, yK, h⟩ := AL h
 refine F9 ⟨AY [(4, .slr 157604 0 DR.length), (5, .sl 1 (List.map PV.str KW)), (6, .int .i64 G6), (7, .int .i64 y5), (51, .bool g6)], AY [(157604, ⟨2, true, List.map AV DR⟩)]⟩ ?_ ?_
 have h := yK
 refine AC ?_
 iterate 3 refine A7 rfl rfl ?_
 obtain ⟨x39, hx39, h⟩ := AL h
 refine A7 rfl (DK (cs := [.str x39]) hx39 rfl rfl rfl) ?_
 iterate 4 refine A7 rfl rfl ?_
 rcases BO h with ⟨c7, h⟩ | ⟨c7, h⟩
 iterate 7 refine BK (gn rfl c7) ?_
 refine A7 rfl (BA c7 rfl rfl) ?_
 obtain rfl := AB h
 exact (cn rfl rfl rfl rfl)
 iterate 2 refine A7 (gy rfl c7) rfl ?_
 obtain ⟨sZ, oM, h⟩ := AL h
 refine A7 (gy rfl c7) (DK (cs := [.str sZ]) oM rfl rfl rfl) ?_
 refine A7 (gy rfl c7) rfl ?_
 obtain ⟨iF, kC, h⟩ := AL h
 refine CS (gy rfl c7) (CG (O8 N _ _ _ kC) rfl (.cons A9 (.cons A9 .nil)) rfl rfl rfl) ?_
 refine A7 (gy rfl c7) (BV rfl) ?_
 refine A7 (gy rfl c7) rfl ?_
 refine A7 rfl (AZ c7 rfl rfl) ?_
 cases AB h
 exact (cn rfl rfl rfl rfl)
 clear yK
 refine D8 h rfl (fun c8 h => ?_) (fun c8 h => ?_)
 refine AJ ?_
 refine AC ?_
 iterate 2 refine A7 rfl rfl ?_
 cases AB h
 exact DU (st1 := ⟨AY [(2, .sl 2 (List.map AV [])), (3, .bool false)], AY []⟩) (CB.trans (KN 2 (FV 2) rfl) (cn rfl rfl rfl rfl)) ⟨rfl, rfl⟩
 refine BF ?_
 refine AJ ?_
 refine AC ?_
 iterate 2 refine A7 rfl rfl ?_
 obtain ⟨x55, Gf, h⟩ := AL h
 refine A7 rfl (DK (cs := [.str x55]) Gf rfl rfl rfl) ?_
 iterate 2 refine A7 rfl rfl ?_
 refine A7 (p := .int .i64 (BQ (y5 + (1 : Int)))) rfl rfl ?_
 obtain ⟨Kg, Gd, h⟩ := AL h
 refine A7 rfl (YC Gd rfl rfl) ?_
 obtain ⟨x60, hx60, h⟩ := AL h
 refine CS rfl (CG (Y0 N _ _ hx60) rfl (.cons A9 .nil) rfl rfl rfl) ?_
 iterate 5 refine A7 rfl rfl ?_
 iterate 2 refine AJ ?_
 refine AC ?_
 iterate 2 refine A7 rfl rfl ?_
 refine D8 h rfl (fun c9 h => ?_) (fun c9 h => ?_)
 refine AJ ?_
 refine AC ?_
 iterate 2 refine A7 rfl rfl ?_
 cases AB h
 exact DU (st1 := ⟨AY [(2, .sl 2 (List.map AV [])), (3, .bool false)], AY []⟩) (CB.trans (KN 2 (FV 2) rfl) (cn rfl rfl rfl rfl)) ⟨rfl, rfl⟩
 refine BF ?_
 refine AC ?_
 iterate 3 refine A7 rfl rfl ?_
 obtain ⟨iE, Vi, h⟩ := AL h
 refine A7 rfl (DK (cs := [.str iE]) Vi rfl rfl rfl) ?_
 iterate 2 refine A7 rfl rfl ?_
 obtain ⟨x71, hx71, h⟩ := AL h
 refine A7 rfl (jJ hx71 rfl rfl) ?_
 obtain ⟨x72, hx72, h⟩ := AL h
 refine CS rfl (CG (QR N _ _ hx72) rfl (.cons A9 .nil) rfl rfl rfl) ?_
 refine A7 rfl rfl ?_
 refine A7 (p := .agg [.str x72, .str x60.1]) rfl rfl ?_
 refine CS rfl (SB 156875 rfl rfl rfl) ?_
 obtain ⟨x76, hx76, h⟩ := AL h
 refine UC (f := AV) 156876 hx76 rfl rfl rfl rfl rfl (KA rfl (BR (f := AV) (l := [(⟨x72, x60.1⟩ : AP)]))) rfl rfl rfl rfl ?_
 refine A7 rfl rfl ?_
 refine UI (cn (st := _) (l := [(4, .slr 156876 0 x76.length), (5, .sl 1 (List.map PV.str KW)), (6, .int .i64 G6)]) (m := [(156876, ⟨2, true, List.map AV x76⟩)]) rfl rfl rfl rfl) ?_
 refine AC ?_
 refine A7 rfl rfl ?_
 refine A7 (p := .int .i64 (BQ (G6 + (1 : Int)))) rfl rfl ?_
 refine A7 rfl rfl ?_
 exact ⟨((BQ (G6 + (1 : Int))), x76), (CB.trans (rename 156876 157604 rfl rfl) (cn rfl rfl rfl rfl)), h⟩
 obtain rfl := AB h
 exact CW (st1 := ⟨AY [(4, .slr 157604 0 DR.length)], AY [(157604, ⟨2, true, List.map AV DR⟩)]⟩) (cn rfl rfl rfl rfl) ⟨rfl, rfl⟩
theorem VC (N : Nat) (a0 : List UInt8) (r : List AP × Bool) (h : KH N a0 = some r) : Sat Tryz.prog 98 AO [.str a0] (.tup [.sl 2 (List.map AV r.1), .bool r.2]) AO := by
 refine DT mixed Tryz.func98 Ra (rs := [.sl 2 (List.map AV r.1), .bool r.2]) rfl rfl ?_
 refine AJ ?_
 refine AC ?_
 iterate 2 refine A7 rfl rfl ?_
 refine AJ ?_
 refine AC ?_
 refine A7 rfl rfl ?_
 refine AJ ?_
 refine AC ?_
 refine A7 rfl rfl ?_
 obtain ⟨KW, aW, h⟩ := AL h
 refine CS rfl (CG (O8 N _ _ _ aW) rfl (.cons A9 (.cons A9 .nil)) rfl rfl rfl) ?_
 refine A7 rfl rfl ?_
 iterate 2 refine AJ ?_
 refine AC ?_
 refine A7 rfl rfl ?_
 refine C9 ?_
 obtain ⟨LC, gV, h⟩ := AL h
 refine PT (TK N KW N _ _ gV) (CB.trans (ZZ 4 157604 2 true rfl rfl rfl) (cn rfl rfl rfl rfl)) ?_
 clear gV
 rcases LC with LC | LC
 rintro e s ⟨rfl, rfl⟩
 iterate 2 refine AJ ?_
 refine AC ?_
 refine A7 rfl rfl ?_
 obtain ⟨Jw, Vb, h⟩ := AL h
 refine CS rfl (CG (MN N _ _ Vb) rfl (.cons (ZG rfl (BR (f := AV) (l := LC))) .nil) rfl rfl rfl) ?_
 refine A7 rfl rfl ?_
 refine D8 h rfl (fun c11 h => ?_) (fun c11 h => ?_)
 refine AJ ?_
 refine AC ?_
 iterate 2 refine A7 rfl rfl ?_
 cases AB h
 refine DU (st1 := ⟨AY [(2, .sl 2 (List.map AV [])), (3, .bool false)], AY []⟩) (CB.trans (KN 2 (FV 2) rfl) (cn rfl rfl rfl rfl)) ?_
 exact ⟨nofun, rfl, rfl⟩
 refine BF ?_
 refine AJ ?_
 refine AC ?_
 iterate 3 refine A7 rfl rfl ?_
 cases AB h
 refine DU (st1 := ⟨AY [(2, .sl 2 (List.map AV LC)), (3, .bool true)], AY []⟩) (CB.trans (Vd.freeze 157604 _ rfl rfl rfl) (CB.trans (KN 2 (GQ (congrArg (PV.sl 2) (BR (f := AV) (l := LC)))) rfl) (cn rfl rfl rfl rfl))) ?_
 exact ⟨nofun, rfl, rfl⟩
 rintro e s ⟨rfl, rfl⟩
 cases AB h
 exact ⟨nofun, rfl, rfl⟩
def wZ : IC := (.seq (.seq (.reg [jm 7 3, jm 8 0, jL 9 8, jb .lss 10 7 9]) (.cond (.t 10) .skip (.exit 0))) (.seq (.block 1 (.seq (.reg [jm 13 0, jm 14 3, jx 15 1 13 14, jl 16 1 15, jn 17 (.call 61 [(.t 16)]), jn 18 (.un .not (.t 17))]) (.cond (.t 18) (.seq (.reg [jc 2 (.bool false)]) .ret) .skip))) (.reg [jm 11 3, ju .add 12 11 1, jm 3 12])))
def k99 : IC := (.seq (.reg [jc 2 (.bool false)]) (.seq (.seq (.reg [jm 4 0, jL 5 4, ju .gtr 6 5 8]) (.cond (.t 6) (.seq (.reg [jc 2 (.bool false)]) .ret) .skip)) (.seq (.seq (.reg [jc 3 (j6 0)]) (.block 0 (.loop wZ))) (.seq (.reg [jc 2 (.bool true)]) .ret))))
theorem Qz : BX Tryz.prog Tryz.f99 = some ⟨19, k99, [(.tmp 2)]⟩ := by kernel_rfl
theorem Y6 (N : Nat) (a0 : List (List AP)) : ∀ (n : Nat) (x : Int) (y : Unit ⊕ Bool), GK N a0 n x = some y → WX Tryz.prog (fun _ => false) (.loop wZ) ((fun (x : Int) => ⟨AY [(0, .sl 1 (List.map (es 2 AV) a0)), (3, .int .i64 x)], AY []⟩) x) ((Sum.elim (fun y e s => e = .exit 0 ∧ s = ⟨AY [], AY []⟩) (fun y e s => e = .ret ∧ s = ⟨AY [(2, .bool y)], AY []⟩) : (Unit ⊕ Bool) → Xt → St → Prop) y) := by
 refine EQ _ _ (GK N a0) (KJ N a0) (fun _ => rfl) (fun _ _ => rfl) ?_
 rintro rec v3l14 y h
 iterate 2 refine AJ ?_
 refine AC ?_
 iterate 2 refine A7 rfl rfl ?_
 refine A7 rfl (BV rfl) ?_
 refine A7 rfl rfl ?_
 refine D8 h rfl (fun c2 h => ?_) (fun c2 h => ?_)
 refine BF ?_
 refine AJ ?_
 refine C9 ?_
 refine AJ ?_
 refine AC ?_
 iterate 2 refine A7 rfl rfl ?_
 obtain ⟨N7, SE, h⟩ := AL h
 refine A7 rfl (DK (cs := [.sl 2 (List.map AV N7)]) SE rfl rfl rfl) ?_
 refine A7 rfl rfl ?_
 obtain ⟨EC, VJ, h⟩ := AL h
 refine CS rfl (CG (MN N _ _ VJ) rfl (.cons A9 .nil) rfl rfl rfl) ?_
 refine A7 rfl rfl ?_
 refine D8 h rfl (fun c3 h => ?_) (fun c3 h => ?_)
 refine AJ ?_
 refine AC ?_
 refine A7 rfl rfl ?_
 obtain rfl := AB h
 exact DU (st1 := ⟨AY [(2, .bool false)], AY []⟩) (cn rfl rfl rfl rfl) ⟨rfl, rfl⟩
 refine BF ?_
 refine AC ?_
 refine A7 rfl rfl ?_
 refine A7 (p := .int .i64 (BQ (v3l14 + (1 : Int)))) rfl rfl ?_
 refine A7 rfl rfl ?_
 exact ⟨(BQ (v3l14 + (1 : Int))), (cn rfl rfl rfl rfl), h⟩
 cases AB h
 exact CW (st1 := ⟨AY [], AY []⟩) (cn rfl rfl rfl rfl) ⟨rfl, rfl⟩
theorem aM (N : Nat) (a0 : List (List AP)) (r : Bool) (h : Q9 N a0 = some r) : Sat Tryz.prog 99 AO [.sl 1 (List.map (es 2 AV) a0)] (.bool r) AO := by
 refine DT mixed Tryz.func99 Qz (rs := [.bool r]) rfl rfl ?_
 refine AJ ?_
 refine AC ?_
 refine A7 rfl rfl ?_
 iterate 2 refine AJ ?_
 refine AC ?_
 refine A7 rfl rfl ?_
 refine A7 rfl (BV rfl) ?_
 refine A7 rfl rfl ?_
 refine D8 h rfl (fun c1 h => ?_) (fun c1 h => ?_)
 refine AJ ?_
 refine AC ?_
 refine A7 rfl rfl ?_
 obtain rfl := AB h
 refine BS ?_
 exact ⟨nofun, rfl, rfl⟩
 refine BF ?_
 iterate 2 refine AJ ?_
 refine AC ?_
 refine A7 rfl rfl ?_
 refine C9 ?_
 obtain ⟨y4, hy4, h⟩ := AL h
 refine PT (Y6 N a0 N _ _ hy4) (cn rfl rfl rfl rfl) ?_
 clear hy4
 rcases y4 with y4 | y4
 rintro e s ⟨rfl, rfl⟩
 refine AJ ?_
 refine AC ?_
 refine A7 rfl rfl ?_
 obtain rfl := AB h
 refine BS ?_
 exact ⟨nofun, rfl, rfl⟩
 rintro e s ⟨rfl, rfl⟩
 obtain rfl := AB h
 exact ⟨nofun, rfl, rfl⟩
def xI : IC := (.seq (.seq (.reg [jm 13 6, jm 14 5, jL 15 14, jb .lss 16 13 15]) (.cond (.t 16) .skip (.exit 0))) (.seq (.block 1 (.seq (.reg [jm 20 5, jm 21 6, jx 22 1 20 21, jl 23 1 22, jn 24 (.call 98 [(.t 23)]), jm 19 24, je 25 0 19, je 26 1 19, jm 7 25, jm 8 26]) (.seq (.seq (.reg [jm 27 8, jn 28 (.un .not (.t 27))]) (.cond (.t 28) (.seq (.reg [jc 2 .nl, jc 3 (.bool false)]) .ret) .skip)) (.reg [jm 29 4, jm 30 7, jn 31 (.bsl 1 [(.t 30)]), jn 32 (.app 25 1 24 (.t 29) (.t 31)), jm 4 32])))) (.reg [jm 17 6, ju .add 18 17 1, jm 6 18])))
def k83 : IC := (.seq (.reg [jc 2 .nl, jc 3 (.bool false)]) (.seq (.seq (.reg [jm 9 0, jn 10 (.bin .eql (.t 9) (.c (.str [])))]) (.cond (.t 10) (.seq (.reg [jc 2 .nl, jc 3 (.bool true)]) .ret) .skip)) (.seq (.reg [jc 4 .nl]) (.seq (.reg [jm 11 0, jn 12 (.call 97 [(.t 11), (.c (.int .u8 44))]), jm 5 12]) (.seq (.seq (.reg [jc 6 (j6 0)]) (.block 0 (.loop xI))) (.seq (.seq (.reg [jm 33 4, jn 34 (.call 99 [(.t 33)]), jn 35 (.un .not (.t 34))]) (.cond (.t 35) (.seq (.reg [jc 2 .nl, jc 3 (.bool false)]) .ret) .skip)) (.seq (.reg [jm 36 4, jm 2 36, jc 3 (.bool true)]) .ret)))))))
theorem Rp : BX Tryz.prog Tryz.f83 = some ⟨37, k83, [(.tmp 2), (.tmp 3)]⟩ := by kernel_rfl
theorem VO (N : Nat) (IP : List (List UInt8)) : ∀ (n : Nat) (x : Int × List (List AP)) (y : (List (List AP)) ⊕ (List (List AP) × Bool)), FL N IP n x = some y → WX Tryz.prog (fun _ => false) (.loop xI) ((fun (x : Int × List (List AP)) => ⟨AY [(4, .slr 133604 0 x.2.length), (5, .sl 1 (List.map PV.str IP)), (6, .int .i64 x.1)], AY [(133604, ⟨1, true, List.map (es 2 AV) x.2⟩)]⟩) x) ((Sum.elim (fun y e s => e = .exit 0 ∧ s = ⟨AY [(4, .slr 133604 0 y.length)], AY [(133604, ⟨1, true, List.map (es 2 AV) y⟩)]⟩) (fun y e s => e = .ret ∧ s = ⟨AY [(2, .sl 1 (List.map (es 2 AV) y.1)), (3, .bool y.2)], AY []⟩) : ((List (List AP)) ⊕ (List (List AP) × Bool)) → Xt → St → Prop) y) := by
 refine EQ _ _ (FL N IP) (IV N IP) (fun _ => rfl) (fun _ _ => rfl) ?_
 rintro rec ⟨LG, TY⟩ y h
 iterate 2 refine AJ ?_
 refine AC ?_
 iterate 2 refine A7 rfl rfl ?_
 refine A7 rfl (BV rfl) ?_
 refine A7 rfl rfl ?_
 refine D8 h rfl (fun c2 h => ?_) (fun c2 h => ?_)
 refine BF ?_
 refine AJ ?_
 refine C9 ?_
 refine AJ ?_
 refine AC ?_
 iterate 2 refine A7 rfl rfl ?_
 obtain ⟨WO, YF, h⟩ := AL h
 refine A7 rfl (DK (cs := [.str WO]) YF rfl rfl rfl) ?_
 refine A7 rfl rfl ?_
 obtain ⟨x24, hx24, h⟩ := AL h
 refine CS rfl (CG (VC N _ _ hx24) rfl (.cons A9 .nil) rfl rfl rfl) ?_
 iterate 5 refine A7 rfl rfl ?_
 iterate 2 refine AJ ?_
 refine AC ?_
 iterate 2 refine A7 rfl rfl ?_
 refine D8 h rfl (fun c3 h => ?_) (fun c3 h => ?_)
 refine AJ ?_
 refine AC ?_
 iterate 2 refine A7 rfl rfl ?_
 cases AB h
 exact DU (st1 := ⟨AY [(2, .sl 1 (List.map (es 2 AV) [])), (3, .bool false)], AY []⟩) (CB.trans (KN 2 (FV 1) rfl) (cn rfl rfl rfl rfl)) ⟨rfl, rfl⟩
 refine BF ?_
 refine AC ?_
 iterate 2 refine A7 rfl rfl ?_
 refine CS rfl (SB 132831 rfl rfl rfl) ?_
 obtain ⟨x32, hx32, h⟩ := AL h
 refine UC (f := (es 2 AV)) 132832 hx32 rfl rfl rfl rfl rfl (KA rfl (BR (f := (es 2 AV)) (l := [x24.1]))) rfl rfl rfl rfl ?_
 refine A7 rfl rfl ?_
 refine AC ?_
 refine A7 rfl rfl ?_
 refine A7 (p := .int .i64 (BQ (LG + (1 : Int)))) rfl rfl ?_
 refine A7 rfl rfl ?_
 exact ⟨((BQ (LG + (1 : Int))), x32), (CB.trans (rename 132832 133604 rfl rfl) (cn rfl rfl rfl rfl)), h⟩
 obtain rfl := AB h
 exact CW (st1 := ⟨AY [(4, .slr 133604 0 TY.length)], AY [(133604, ⟨1, true, List.map (es 2 AV) TY⟩)]⟩) (cn rfl rfl rfl rfl) ⟨rfl, rfl⟩
theorem Y1 (N : Nat) (a0 : List UInt8) (r : List (List AP) × Bool) (h : MW N a0 = some r) : Sat Tryz.prog 83 AO [.str a0] (.tup [.sl 1 (List.map (es 2 AV) r.1), .bool r.2]) AO := by
 refine DT mixed Tryz.func83 Rp (rs := [.sl 1 (List.map (es 2 AV) r.1), .bool r.2]) rfl rfl ?_
 refine AJ ?_
 refine AC ?_
 iterate 2 refine A7 rfl rfl ?_
 iterate 2 refine AJ ?_
 refine AC ?_
 iterate 2 refine A7 rfl rfl ?_
 refine D8 h rfl (fun c1 h => ?_) (fun c1 h => ?_)
 refine AJ ?_
 refine AC ?_
 iterate 2 refine A7 rfl rfl ?_
 cases AB h
 refine DU (st1 := ⟨AY [(2, .sl 1 (List.map (es 2 AV) [])), (3, .bool true)], AY []⟩) (CB.trans (KN 2 (FV 1) rfl) (cn rfl rfl rfl rfl)) ?_
 exact ⟨nofun, rfl, rfl⟩
 refine BF ?_
 refine AJ ?_
 refine AC ?_
 refine A7 rfl rfl ?_
 refine AJ ?_
 refine AC ?_
 refine A7 rfl rfl ?_
 obtain ⟨IP, YI, h⟩ := AL h
 refine CS rfl (CG (O8 N _ _ _ YI) rfl (.cons A9 (.cons A9 .nil)) rfl rfl rfl) ?_
 refine A7 rfl rfl ?_
 iterate 2 refine AJ ?_
 refine AC ?_
 refine A7 rfl rfl ?_
 refine C9 ?_
 obtain ⟨y4, hy4, h⟩ := AL h
 refine PT (VO N IP N _ _ hy4) (CB.trans (ZZ 4 133604 1 true rfl rfl rfl) (cn rfl rfl rfl rfl)) ?_
 clear hy4
 rcases y4 with y4 | y4
 rintro e s ⟨rfl, rfl⟩
 iterate 2 refine AJ ?_
 refine AC ?_
 refine A7 rfl rfl ?_
 obtain ⟨x34, hx34, h⟩ := AL h
 refine CS rfl (CG (aM N _ _ hx34) rfl (.cons (ZG rfl (BR (f := (es 2 AV)) (l := y4))) .nil) rfl rfl rfl) ?_
 refine A7 rfl rfl ?_
 refine D8 h rfl (fun c5 h => ?_) (fun c5 h => ?_)
 refine AJ ?_
 refine AC ?_
 iterate 2 refine A7 rfl rfl ?_
 cases AB h
 refine DU (st1 := ⟨AY [(2, .sl 1 (List.map (es 2 AV) [])), (3, .bool false)], AY []⟩) (CB.trans (KN 2 (FV 1) rfl) (cn rfl rfl rfl rfl)) ?_
 exact ⟨nofun, rfl, rfl⟩
 refine BF ?_
 refine AJ ?_
 refine AC ?_
 iterate 3 refine A7 rfl rfl ?_
 cases AB h
 refine DU (st1 := ⟨AY [(2, .sl 1 (List.map (es 2 AV) y4)), (3, .bool true)], AY []⟩) (CB.trans (Vd.freeze 133604 _ rfl rfl rfl) (CB.trans (KN 2 (GQ (congrArg (PV.sl 1) (BR (f := (es 2 AV)) (l := y4)))) rfl) (cn rfl rfl rfl rfl))) ?_
 exact ⟨nofun, rfl, rfl⟩
 rintro e s ⟨rfl, rfl⟩
 cases AB h
 exact ⟨nofun, rfl, rfl⟩
def xM : IC := (.seq (.seq (.reg [jm 25 9, jm 26 1, jS 27 26, jb .lss 28 25 27]) (.cond (.t 28) .skip (.exit 0))) (.seq (.block 1 (.seq (.reg [jm 31 7, jm 32 31, jt 32 33 (.mov (.t 1)), jt 32 34 (.mov (.t 9)), jt 32 35 (.idxs (.t 33) (.t 34)), jt 32 36 (.bin .geq (.t 35) (.c (.int .u8 32))), jp 37 32 36, jm 38 37, jt 38 39 (.mov (.t 1)), jt 38 40 (.mov (.t 9)), jt 38 41 (.idxs (.t 39) (.t 40)), jt 38 42 (.bin .leq (.t 41) (.c (.int .u8 126))), jp 43 38 42, jm 7 43]) (.reg [jm 44 8, jm 45 44, jf 45 46 (.mov (.t 1)), jf 45 47 (.mov (.t 9)), jf 45 48 (.idxs (.t 46) (.t 47)), jf 45 49 (.bin .neq (.t 48) (.c (.int .u8 32))), jo 50 45 49, jm 8 50]))) (.reg [jm 29 9, ju .add 30 29 1, jm 9 30])))
def k62 : IC := (.seq (.reg [jc 4 (j6 0)]) (.seq (.reg [jm 11 0, jn 12 (.call 63 [(.t 11)]), jm 10 12, je 13 0 10, je 14 1 10, jn 5 (.box 90 (.c (.agg [(.str []), (j6 0), (.bool false)]))), js 3 5 13, jm 6 14]) (.seq (.seq (.reg [jm 15 6, jn 16 (.un .not (.t 15))]) (.cond (.t 16) (.seq (.reg [jc 4 (j6 16)]) .ret) .skip)) (.seq (.seq (.reg [jm 17 1, jS 18 17, ju .lss 19 18 1, jm 20 19, jf 20 21 (.mov (.t 1)), jf 20 22 (.len true (.t 21)), jf 20 23 (.bin .gtr (.t 22) (ji 60)), jo 24 20 23]) (.cond (.t 24) (.seq (.reg [jc 4 (j6 17)]) .ret) .skip)) (.seq (.reg [jc 7 (.bool true)]) (.seq (.reg [jc 8 (.bool false)]) (.seq (.seq (.reg [jc 9 (j6 0)]) (.block 0 (.loop xM))) (.seq (.seq (.reg [ja 51 1 5, jl 52 1 51]) (.block 2 (.seq (.reg [ju .eql 54 52 1, jm 53 54]) (.cond (.t 53) (.reg [jm 55 7, jm 56 55, jt 56 57 (.mov (.t 8)), jp 58 56 57, jm 7 58]) (.seq (.reg [ju .eql 60 52 3, jm 59 60]) (.cond (.t 59) (.reg [jm 61 1, jn 62 (.call 82 [(.t 61)]), jm 7 62]) (.seq (.reg [ju .eql 64 52 4, jm 63 64]) (.cond (.t 63) (.reg [jc 7 (.bool true)]) (.seq (.reg [ju .eql 66 52 5, jm 65 66]) (.cond (.t 65) (.reg [jm 68 1, jn 69 (.call 83 [(.t 68)]), jm 67 69, je 70 0 67, je 71 1 67, jm 7 71]) .skip)))))))))) (.seq (.seq (.reg [jm 72 7, jn 73 (.un .not (.t 72))]) (.cond (.t 73) (.seq (.reg [jc 4 (j6 17)]) .ret) .skip)) (.seq (.reg [jc 4 (j6 0)]) .ret))))))))))
theorem Sl : BX Tryz.prog Tryz.f62 = some ⟨74, k62, [(.tmp 4)]⟩ := by kernel_rfl
theorem VS (N : Nat) (a1 : List UInt8) (IP : BB × Bool) : ∀ (n : Nat) (x : Bool × Bool × Int) (y : Bool × Bool), FP N a1 IP n x = some y → WX Tryz.prog (fun _ => false) (.loop xM) ((fun (x : Bool × Bool × Int) => ⟨AY [(1, .str a1), (5, .ptr 99205 0 0), (7, .bool x.1), (8, .bool x.2.1), (9, .int .i64 x.2.2)], AY [(99205, ⟨3, false, [CJ IP.1]⟩)]⟩) x) ((fun y e s => e = .exit 0 ∧ s = ⟨AY [(1, .str a1), (5, .ptr 99205 0 0), (7, .bool y.1), (8, .bool y.2)], AY [(99205, ⟨3, false, [CJ IP.1]⟩)]⟩ : (Bool × Bool) → Xt → St → Prop) y) := by
 refine EQ _ _ (FP N a1 IP) (J2 N a1 IP) (fun _ => rfl) (fun _ _ => rfl) ?_
 rintro rec ⟨wD, pV, XI⟩ y h
 iterate 2 refine AJ ?_
 refine AC ?_
 iterate 4 refine A7 rfl rfl ?_
 refine D8 h rfl (fun c5 h => ?_) (fun c5 h => ?_)
 refine BF ?_
 refine AJ ?_
 refine C9 ?_
 obtain ⟨g6, yK, h⟩ := AL h
 refine F9 ⟨AY [(1, .str a1), (5, .ptr 99205 0 0), (7, .bool g6), (8, .bool pV), (9, .int .i64 XI)], AY [(99205, ⟨3, false, [CJ IP.1]⟩)]⟩ ?_ ?_
 have h := yK
 refine AC ?_
 iterate 2 refine A7 rfl rfl ?_
 rcases BO h with ⟨c7, h⟩ | ⟨c7, h⟩
 iterate 2 refine A7 (gy rfl c7) rfl ?_
 obtain ⟨LD, uY, h⟩ := AL h
 refine A7 (gy rfl c7) (GN uY rfl rfl) ?_
 refine A7 (p := .bool (decide (((LD).toNat : Int) ≥ (32 : Int)))) (gy rfl c7) rfl ?_
 refine A7 rfl (BA c7 rfl rfl) ?_
 refine A7 rfl rfl ?_
 rcases BO h with ⟨c8, h⟩ | ⟨c8, h⟩
 iterate 2 refine A7 (gy rfl c8) rfl ?_
 obtain ⟨x41, oN, h⟩ := AL h
 refine A7 (gy rfl c8) (GN oN rfl rfl) ?_
 refine A7 (p := .bool (decide (((x41).toNat : Int) ≤ (126 : Int)))) (gy rfl c8) rfl ?_
 refine A7 rfl (BA c8 rfl rfl) ?_
 refine A7 rfl rfl ?_
 cases AB h
 exact (cn rfl rfl rfl rfl)
 iterate 4 refine BK (gn rfl c8) ?_
 refine A7 rfl (AZ c8 rfl rfl) ?_
 refine A7 rfl rfl ?_
 obtain rfl := AB h
 exact (cn rfl rfl rfl rfl)
 iterate 4 refine BK (gn rfl c7) ?_
 refine A7 rfl (AZ c7 rfl rfl) ?_
 refine A7 rfl rfl ?_
 iterate 4 refine BK rfl ?_
 iterate 2 refine A7 rfl rfl ?_
 obtain rfl := AB h
 exact (cn rfl rfl rfl rfl)
 clear yK
 refine AC ?_
 iterate 2 refine A7 rfl rfl ?_
 rcases BO h with ⟨c9, h⟩ | ⟨c9, h⟩
 iterate 4 refine BK (gn rfl c9) ?_
 refine A7 rfl (BA c9 rfl rfl) ?_
 refine A7 rfl rfl ?_
 refine AC ?_
 refine A7 rfl rfl ?_
 refine A7 (p := .int .i64 (BQ (XI + (1 : Int)))) rfl rfl ?_
 refine A7 rfl rfl ?_
 exact ⟨(g6, true, (BQ (XI + (1 : Int)))), (cn rfl rfl rfl rfl), h⟩
 iterate 2 refine A7 (gy rfl c9) rfl ?_
 obtain ⟨iF, kC, h⟩ := AL h
 refine A7 (gy rfl c9) (GN kC rfl rfl) ?_
 refine A7 (p := .bool (((iF).toNat : Int) != (32 : Int))) (gy rfl c9) rfl ?_
 refine A7 rfl (AZ c9 rfl rfl) ?_
 refine A7 rfl rfl ?_
 refine AC ?_
 refine A7 rfl rfl ?_
 refine A7 (p := .int .i64 (BQ (XI + (1 : Int)))) rfl rfl ?_
 refine A7 rfl rfl ?_
 exact ⟨(g6, (((iF).toNat : Int) != (32 : Int)), (BQ (XI + (1 : Int)))), (cn rfl rfl rfl rfl), h⟩
 cases AB h
 exact CW (st1 := ⟨AY [(1, .str a1), (5, .ptr 99205 0 0), (7, .bool wD), (8, .bool pV)], AY [(99205, ⟨3, false, [CJ IP.1]⟩)]⟩) (cn rfl rfl rfl rfl) ⟨rfl, rfl⟩
theorem QS (N : Nat) (a0 : List UInt8) (a1 : List UInt8) (r : Int) (h : KL N a0 a1 = some r) : Sat Tryz.prog 62 AO [.str a0, .str a1] (.int .i64 r) AO := by
 refine DT mixed Tryz.func62 Sl (rs := [.int .i64 r]) rfl rfl ?_
 refine AJ ?_
 refine AC ?_
 refine A7 rfl rfl ?_
 refine AJ ?_
 refine AC ?_
 refine A7 rfl rfl ?_
 obtain ⟨IP, YI, h⟩ := AL h
 refine CS rfl (CG (RP N _ _ YI) rfl (.cons A9 .nil) rfl rfl rfl) ?_
 iterate 3 refine A7 rfl rfl ?_
 refine CS rfl (FZ 99205 rfl rfl rfl rfl rfl) ?_
 refine F3 (e' := CJ IP.1) rfl rfl rfl rfl rfl rfl rfl rfl nofun rfl ?_
 refine A7 rfl rfl ?_
 iterate 2 refine AJ ?_
 refine AC ?_
 iterate 2 refine A7 rfl rfl ?_
 refine D8 h rfl (fun c1 h => ?_) (fun c1 h => ?_)
 refine AJ ?_
 refine AC ?_
 refine A7 rfl rfl ?_
 obtain rfl := AB h
 refine BS ?_
 exact ⟨nofun, rfl, rfl⟩
 refine BF ?_
 refine AJ ?_
 obtain ⟨g2, hg2, h⟩ := AL h
 refine F9 ⟨AY [(1, .str a1), (5, .ptr 99205 0 0), (24, .bool g2)], AY [(99205, ⟨3, false, [CJ IP.1]⟩)]⟩ ?_ ?_
 have h := hg2
 refine AC ?_
 iterate 4 refine A7 rfl rfl ?_
 rcases BO h with ⟨c3, h⟩ | ⟨c3, h⟩
 iterate 3 refine BK (gn rfl c3) ?_
 refine A7 rfl (BA c3 rfl rfl) ?_
 obtain rfl := AB h
 exact (cn rfl rfl rfl rfl)
 iterate 3 refine A7 (gy rfl c3) rfl ?_
 refine A7 rfl (AZ c3 rfl rfl) ?_
 cases AB h
 exact (cn rfl rfl rfl rfl)
 clear hg2
 refine D8 h rfl (fun c4 h => ?_) (fun c4 h => ?_)
 refine AJ ?_
 refine AC ?_
 refine A7 rfl rfl ?_
 obtain rfl := AB h
 refine BS ?_
 exact ⟨nofun, rfl, rfl⟩
 refine BF ?_
 refine AJ ?_
 refine AC ?_
 refine A7 rfl rfl ?_
 refine AJ ?_
 refine AC ?_
 refine A7 rfl rfl ?_
 iterate 2 refine AJ ?_
 refine AC ?_
 refine A7 rfl rfl ?_
 refine C9 ?_
 obtain ⟨LC, gV, h⟩ := AL h
 refine PT (VS N a1 IP N _ _ gV) (cn rfl rfl rfl rfl) ?_
 rintro e s ⟨rfl, rfl⟩
 refine QO (fun (x : Bool) => ⟨AY [(7, .bool x)], AY []⟩) (fun x => EY x = some r) ?_ ?_
 rintro Ol h
 iterate 2 refine AJ ?_
 refine AC ?_
 iterate 2 refine A7 rfl rfl ?_
 refine D8 h rfl (fun c11 h => ?_) (fun c11 h => ?_)
 refine AJ ?_
 refine AC ?_
 refine A7 rfl rfl ?_
 obtain rfl := AB h
 refine BS ?_
 exact ⟨nofun, rfl, rfl⟩
 refine BF ?_
 refine AJ ?_
 refine AC ?_
 refine A7 rfl rfl ?_
 obtain rfl := AB h
 refine BS ?_
 exact ⟨nofun, rfl, rfl⟩
 refine AJ ?_
 refine AC ?_
 iterate 2 refine A7 rfl rfl ?_
 refine C9 ?_
 refine AJ ?_
 refine AC ?_
 iterate 2 refine A7 rfl rfl ?_
 refine D8 h rfl (fun c12 h => ?_) (fun c12 h => ?_)
 refine AC ?_
 iterate 2 refine A7 rfl rfl ?_
 rcases BO h with ⟨c13, h⟩ | ⟨c13, h⟩
 refine A7 (gy rfl c13) rfl ?_
 refine A7 rfl (BA c13 rfl rfl) ?_
 refine A7 rfl rfl ?_
 exact ⟨LC.2, (cn rfl rfl rfl rfl), h⟩
 refine BK (gn rfl c13) ?_
 refine A7 rfl (AZ c13 rfl rfl) ?_
 refine A7 rfl rfl ?_
 exact ⟨false, (cn rfl rfl rfl rfl), h⟩
 refine AJ ?_
 refine AC ?_
 iterate 2 refine A7 rfl rfl ?_
 refine D8 h rfl (fun c14 h => ?_) (fun c14 h => ?_)
 refine AC ?_
 refine A7 rfl rfl ?_
 obtain ⟨x62, hx62, h⟩ := AL h
 refine CS rfl (CG (Y2 N _ _ hx62) rfl (.cons A9 .nil) rfl rfl rfl) ?_
 refine A7 rfl rfl ?_
 exact ⟨x62, (cn rfl rfl rfl rfl), h⟩
 refine AJ ?_
 refine AC ?_
 iterate 2 refine A7 rfl rfl ?_
 refine D8 h rfl (fun c15 h => ?_) (fun c15 h => ?_)
 refine AC ?_
 refine A7 rfl rfl ?_
 exact ⟨true, (cn rfl rfl rfl rfl), h⟩
 refine AJ ?_
 refine AC ?_
 iterate 2 refine A7 rfl rfl ?_
 refine D8 h rfl (fun c16 h => ?_) (fun c16 h => ?_)
 refine AC ?_
 refine A7 rfl rfl ?_
 obtain ⟨x69, Vh, h⟩ := AL h
 refine CS rfl (CG (Y1 N _ _ Vh) rfl (.cons A9 .nil) rfl rfl rfl) ?_
 iterate 4 refine A7 rfl rfl ?_
 exact ⟨x69.2, (cn rfl rfl rfl rfl), h⟩
 refine BF ?_
 exact ⟨LC.1, (cn rfl rfl rfl rfl), h⟩
def xW : IC := (.seq (.seq (.reg [jm 12 3, jm 13 0, jL 14 13, jb .lss 15 12 14]) (.cond (.t 15) .skip (.exit 0))) (.seq (.block 1 (.seq (.regd 20 [jm 18 0, jm 19 3, jx 20 2 18 19, ja 21 0 20, jl 22 1 21, jn 23 (.bin .eql (.t 22) (.c (.str [101, 110, 116, 114, 121, 105, 100]))), jm 24 23, jf 24 25 (.mov (.t 0)), jf 24 26 (.mov (.t 3)), jf 24 27 (.ixp 2 (.t 25) (.t 26)), jf 24 28 (.fda 0 (.t 27)), jf 24 29 (.load 1 false (.t 28)), jf 24 30 (.mov (.t 0)), jf 24 31 (.mov (.t 3)), jf 24 32 (.ixp 2 (.t 30) (.t 31)), jf 24 33 (.fda 1 (.t 32)), jf 24 34 (.load 1 false (.t 33)), jf 24 35 (.call 62 [(.t 29), (.t 34)]), jf 24 36 (.bin .neq (.t 35) (ji 0)), jo 37 24 36]) (.cond (.t 37) (.seq (.reg [jc 2 (.bool false)]) .ret) .skip))) (.reg [jm 16 3, ju .add 17 16 1, jm 3 17])))
def k33 : IC := (.seq (.reg [jc 2 (.bool false)]) (.seq (.seq (.reg [jm 4 0, jn 5 (.call 61 [(.t 4)]), jn 6 (.un .not (.t 5)), jm 7 6, jf 7 8 (.mov (.t 0)), jf 7 9 (.len false (.t 8)), jf 7 10 (.bin .geq (.t 9) (ji 4)), jo 11 7 10]) (.cond (.t 11) (.seq (.reg [jc 2 (.bool false)]) .ret) .skip)) (.seq (.seq (.reg [jc 3 (j6 0)]) (.block 0 (.loop xW))) (.seq (.reg [jc 2 (.bool true)]) .ret))))
theorem Tx : BX Tryz.prog Tryz.f33 = some ⟨38, k33, [(.tmp 2)]⟩ := by kernel_rfl
theorem WU (N : Nat) (a0 : List AP) : ∀ (n : Nat) (x : Int) (y : Unit ⊕ Bool), FX N a0 n x = some y → WX Tryz.prog (fun _ => false) (.loop xW) ((fun (x : Int) => ⟨AY [(0, .sl 2 (List.map AV a0)), (3, .int .i64 x)], AY []⟩) x) ((Sum.elim (fun y e s => e = .exit 0 ∧ s = ⟨AY [], AY []⟩) (fun y e s => e = .ret ∧ s = ⟨AY [(2, .bool y)], AY []⟩) : (Unit ⊕ Bool) → Xt → St → Prop) y) := by
 refine EQ _ _ (FX N a0) (JF N a0) (fun _ => rfl) (fun _ _ => rfl) ?_
 rintro rec v3l14 y h
 iterate 2 refine AJ ?_
 refine AC ?_
 iterate 2 refine A7 rfl rfl ?_
 refine A7 rfl (BV rfl) ?_
 refine A7 rfl rfl ?_
 refine D8 h rfl (fun c4 h => ?_) (fun c4 h => ?_)
 refine BF ?_
 refine AJ ?_
 refine C9 ?_
 obtain ⟨g5, hg5, h⟩ := AL h
 refine F9 ⟨AY [(0, .sl 2 (List.map AV a0)), (3, .int .i64 v3l14), (37, .bool g5)], AY []⟩ ?_ ?_
 have h := hg5
 refine OD ?_
 iterate 2 refine DL rfl rfl ?_
 obtain ⟨x20, aU, h⟩ := AL h
 refine DL rfl (DK (cs := [.str x20.Attr, .str x20.Value]) aU rfl rfl rfl) ?_
 refine DL (p := .ep [.str x20.Attr, .str x20.Value]) rfl rfl ?_
 iterate 3 refine DL rfl rfl ?_
 rcases BO h with ⟨c6, h⟩ | ⟨c6, h⟩
 iterate 12 refine ZT (gn rfl c6) ?_
 refine DL rfl (BA c6 rfl rfl) ?_
 obtain rfl := AB h
 exact (cn rfl rfl rfl rfl)
 iterate 2 refine DL (gy rfl c6) rfl ?_
 obtain ⟨x27, hx27, h⟩ := AL h
 refine DL (gy rfl c6) (DK (cs := [.str x27.Attr, .str x27.Value]) hx27 rfl rfl rfl) ?_
 refine DL (p := .ep [.str x27.Attr, .str x27.Value]) (gy rfl c6) rfl ?_
 iterate 3 refine DL (gy rfl c6) rfl ?_
 obtain ⟨x32, hx32, h⟩ := AL h
 refine DL (gy rfl c6) (DK (cs := [.str x32.Attr, .str x32.Value]) hx32 rfl rfl rfl) ?_
 refine DL (p := .ep [.str x32.Value]) (gy rfl c6) rfl ?_
 refine DL (gy rfl c6) rfl ?_
 obtain ⟨LD, uY, h⟩ := AL h
 refine TF (gy rfl c6) (MP (QS N _ _ _ uY) rfl (.cons A9 (.cons A9 .nil)) rfl rfl rfl) CP ?_
 refine DL (gy rfl c6) rfl ?_
 refine DL rfl (AZ c6 rfl rfl) ?_
 cases AB h
 exact (cn rfl rfl rfl rfl)
 clear hg5
 refine D8 h rfl (fun c7 h => ?_) (fun c7 h => ?_)
 refine AJ ?_
 refine AC ?_
 refine A7 rfl rfl ?_
 obtain rfl := AB h
 exact DU (st1 := ⟨AY [(2, .bool false)], AY []⟩) (cn rfl rfl rfl rfl) ⟨rfl, rfl⟩
 refine BF ?_
 refine AC ?_
 refine A7 rfl rfl ?_
 refine A7 (p := .int .i64 (BQ (v3l14 + (1 : Int)))) rfl rfl ?_
 refine A7 rfl rfl ?_
 exact ⟨(BQ (v3l14 + (1 : Int))), (cn rfl rfl rfl rfl), h⟩
 cases AB h
 exact CW (st1 := ⟨AY [], AY []⟩) (cn rfl rfl rfl rfl) ⟨rfl, rfl⟩
theorem YA (N : Nat) (a0 : List AP) (r : Bool) (h : NZ N a0 = some r) : Sat Tryz.prog 33 AO [.sl 2 (List.map AV a0)] (.bool r) AO := by
 refine DT mixed Tryz.func33 Tx (rs := [.bool r]) rfl rfl ?_
 refine AJ ?_
 refine AC ?_
 refine A7 rfl rfl ?_
 refine AJ ?_
 obtain ⟨g1, hg1, h⟩ := AL h
 refine F9 ⟨AY [(0, .sl 2 (List.map AV a0)), (11, .bool g1)], AY []⟩ ?_ ?_
 have h := hg1
 refine AC ?_
 refine A7 rfl rfl ?_
 obtain ⟨x5, hx5, h⟩ := AL h
 refine CS rfl (CG (MN N _ _ hx5) rfl (.cons A9 .nil) rfl rfl rfl) ?_
 iterate 2 refine A7 rfl rfl ?_
 rcases BO h with ⟨c2, h⟩ | ⟨c2, h⟩
 iterate 3 refine BK (gn rfl c2) ?_
 refine A7 rfl (BA c2 rfl rfl) ?_
 obtain rfl := AB h
 exact (cn rfl rfl rfl rfl)
 refine A7 (gy rfl c2) rfl ?_
 refine A7 (gy rfl c2) (BV rfl) ?_
 refine A7 (gy rfl c2) rfl ?_
 refine A7 rfl (AZ c2 rfl rfl) ?_
 cases AB h
 exact (cn rfl rfl rfl rfl)
 clear hg1
 refine D8 h rfl (fun c3 h => ?_) (fun c3 h => ?_)
 refine AJ ?_
 refine AC ?_
 refine A7 rfl rfl ?_
 obtain rfl := AB h
 refine BS ?_
 exact ⟨nofun, rfl, rfl⟩
 refine BF ?_
 iterate 2 refine AJ ?_
 refine AC ?_
 refine A7 rfl rfl ?_
 refine C9 ?_
 obtain ⟨y8, Am, h⟩ := AL h
 refine PT (WU N a0 N _ _ Am) (cn rfl rfl rfl rfl) ?_
 clear Am
 rcases y8 with y8 | y8
 rintro e s ⟨rfl, rfl⟩
 refine AJ ?_
 refine AC ?_
 refine A7 rfl rfl ?_
 obtain rfl := AB h
 refine BS ?_
 exact ⟨nofun, rfl, rfl⟩
 rintro e s ⟨rfl, rfl⟩
 obtain rfl := AB h
 exact ⟨nofun, rfl, rfl⟩
end Go.Gp
end
section
set_option linter.unusedVariables false
set_option linter.unusedSimpArgs false
set_option maxRecDepth 4000
set_option maxHeartbeats 4000000
namespace Go.Gp
open Go.Vd Go.RowKit Go.Proofs
def xV : IC := (.seq (.seq (.reg [jm 75 9, ja 76 2 6, jl 77 1 76, jL 78 77, jb .lss 79 75 78]) (.cond (.t 79) .skip (.exit 2))) (.seq (.block 3 (.seq (.regd 9 [ja 82 1 6, jl 83 1 82, ja 84 2 6, jl 85 1 84, jm 86 9, jx 87 1 85 86, jl 88 1 87, jn 89 (.call 62 [(.t 83), (.t 88)]), ju .neq 90 89 0]) (.cond (.t 90) (.seq (.reg [jc 4 (.bool false)]) .ret) .skip))) (.reg [jm 80 9, ju .add 81 80 1, jm 9 81])))
def Fe : IC := (.seq (.seq (.reg [jm 10 5, jm 11 0, jL 12 11, jb .lss 13 10 12]) (.cond (.t 13) .skip (.exit 0))) (.seq (.block 1 (.seq (.reg [jm 16 0, jm 17 5, jx 18 3 16 17, jg 19 3 18, jn 6 (.box 44 (.c (.agg [(j6 0), (.str []), .nl]))), js 3 6 19]) (.seq (.reg [ja 21 1 6, jl 22 1 21, jn 23 (.call 63 [(.t 22)]), jm 20 23, je 24 0 20, je 25 1 20, jn 7 (.box 90 (.c (.agg [(.str []), (j6 0), (.bool false)]))), js 3 7 24, jm 8 25]) (.seq (.seq (.reg [jm 26 8, jn 27 (.un .not (.t 26)), jm 28 27, jf 28 29 (.fda 0 (.t 7)), jf 28 30 (.load 1 false (.t 29)), jf 28 31 (.fda 1 (.t 6)), jf 28 32 (.load 1 false (.t 31)), jf 28 33 (.bin .neq (.t 30) (.t 32)), jo 34 28 33, jm 35 34, jf 35 36 (.fda 0 (.t 7)), jf 35 37 (.load 1 false (.t 36)), jf 35 38 (.bin .eql (.t 37) (.c (.str [101, 110, 116, 114, 121, 105, 100]))), jo 39 35 38, jm 40 39, jf 40 41 (.fda 0 (.t 6)), jf 40 42 (.load 1 false (.t 41)), jf 40 43 (.bin .lss (.t 42) (ji 1)), jo 44 40 43, jm 45 44, jf 45 46 (.fda 0 (.t 6)), jf 45 47 (.load 1 false (.t 46)), jf 45 48 (.bin .gtr (.t 47) (ji 3)), jo 49 45 48, jm 50 49, jf 50 51 (.mov (.t 1)), jf 50 52 (.mov (.t 51)), jt 52 53 (.fda 0 (.t 6)), jt 52 54 (.load 1 false (.t 53)), jt 52 55 (.bin .neq (.t 54) (ji 1)), jf 50 56 (.pick (.t 52) (.t 55) jA), jo 57 50 56, jm 58 57, jf 58 59 (.fda 0 (.t 6)), jf 58 60 (.load 1 false (.t 59)), jf 58 61 (.bin .eql (.t 60) (ji 1)), jf 58 62 (.mov (.t 61)), jt 62 63 (.fda 2 (.t 6)), jt 62 64 (.load 1 false (.t 63)), jt 62 65 (.len false (.t 64)), jt 62 66 (.bin .eql (.t 65) (ji 0)), jf 58 67 (.pick (.t 62) (.t 66) jA), jo 68 58 67, jm 69 68, jf 69 70 (.fda 2 (.t 6)), jf 69 71 (.load 1 false (.t 70)), jf 69 72 (.len false (.t 71)), jf 69 73 (.bin .gtr (.t 72) (ji 12)), jo 74 69 73]) (.cond (.t 74) (.seq (.reg [jc 4 (.bool false)]) .ret) .skip)) (.seq (.reg [jc 9 (j6 0)]) (.block 2 (.loop xV))))))) (.reg [jm 14 5, ju .add 15 14 1, jm 5 15])))
def k34 : IC := (.seq (.reg [jc 4 (.bool false)]) (.seq (.seq (.reg [jc 5 (j6 0)]) (.block 0 (.loop Fe))) (.seq (.reg [jm 91 0, jL 92 91, ju .leq 93 92 8, jm 4 93]) .ret)))
theorem Tw : BX Tryz.prog Tryz.f34 = some ⟨94, k34, [(.tmp 4)]⟩ := by kernel_rfl
theorem VT (N : Nat) (a0 : List BC) (a1 : Bool) (v5l6 : Int) (OV : BC) : ∀ (n : Nat) (x : Int) (y : Unit ⊕ Bool), FQ N a0 a1 v5l6 OV n x = some y → WX Tryz.prog (fun _ => false) (.loop xV) ((fun (x : Int) => ⟨AY [(0, .sl 3 (List.map AU a0)), (1, .bool a1), (5, .int .i64 v5l6), (6, .ptr 54406 0 0), (9, .int .i64 x)], AY [(54406, ⟨3, false, [AU OV]⟩)]⟩) x) ((Sum.elim (fun y e s => e = .exit 2 ∧ s = ⟨AY [(0, .sl 3 (List.map AU a0)), (1, .bool a1), (5, .int .i64 v5l6)], AY []⟩) (fun y e s => e = .ret ∧ s = ⟨AY [(4, .bool y)], AY []⟩) : (Unit ⊕ Bool) → Xt → St → Prop) y) := by
 refine EQ _ _ (FQ N a0 a1 v5l6 OV) (J3 N a0 a1 v5l6 OV) (fun _ => rfl) (fun _ _ => rfl) ?_
 rintro rec v9l30 y h
 iterate 2 refine AJ ?_
 refine AC ?_
 iterate 3 refine A7 rfl rfl ?_
 refine A7 rfl (BV rfl) ?_
 refine A7 rfl rfl ?_
 refine D8 h rfl (fun c15 h => ?_) (fun c15 h => ?_)
 refine BF ?_
 refine AJ ?_
 refine C9 ?_
 refine AJ ?_
 refine OD ?_
 iterate 5 refine DL rfl rfl ?_
 obtain ⟨x87, Uy, h⟩ := AL h
 refine DL rfl (DK (cs := [.str x87]) Uy rfl rfl rfl) ?_
 refine DL rfl rfl ?_
 obtain ⟨x89, hx89, h⟩ := AL h
 refine TF rfl (MP (QS N _ _ _ hx89) rfl (.cons A9 (.cons A9 .nil)) rfl rfl rfl) CP ?_
 refine DL rfl rfl ?_
 refine D8 h rfl (fun c16 h => ?_) (fun c16 h => ?_)
 refine AJ ?_
 refine AC ?_
 refine A7 rfl rfl ?_
 obtain rfl := AB h
 exact DU (st1 := ⟨AY [(4, .bool false)], AY []⟩) (cn rfl rfl rfl rfl) ⟨rfl, rfl⟩
 refine BF ?_
 refine AC ?_
 refine A7 rfl rfl ?_
 refine A7 (p := .int .i64 (BQ (v9l30 + (1 : Int)))) rfl rfl ?_
 refine A7 rfl rfl ?_
 exact ⟨(BQ (v9l30 + (1 : Int))), (cn rfl rfl rfl rfl), h⟩
 cases AB h
 exact CW (st1 := ⟨AY [(0, .sl 3 (List.map AU a0)), (1, .bool a1), (5, .int .i64 v5l6)], AY []⟩) (cn rfl rfl rfl rfl) ⟨rfl, rfl⟩
theorem WV (N : Nat) (a0 : List BC) (a1 : Bool) : ∀ (n : Nat) (x : Int) (y : Unit ⊕ Bool), FY N a0 a1 n x = some y → WX Tryz.prog (fun _ => false) (.loop Fe) ((fun (x : Int) => ⟨AY [(0, .sl 3 (List.map AU a0)), (1, .bool a1), (5, .int .i64 x)], AY []⟩) x) ((Sum.elim (fun y e s => e = .exit 0 ∧ s = ⟨AY [(0, .sl 3 (List.map AU a0))], AY []⟩) (fun y e s => e = .ret ∧ s = ⟨AY [(4, .bool y)], AY []⟩) : (Unit ⊕ Bool) → Xt → St → Prop) y) := by
 refine EQ _ _ (FY N a0 a1) (JG N a0 a1) (fun _ => rfl) (fun _ _ => rfl) ?_
 rintro rec v5l6 y h
 iterate 2 refine AJ ?_
 refine AC ?_
 iterate 2 refine A7 rfl rfl ?_
 refine A7 rfl (BV rfl) ?_
 refine A7 rfl rfl ?_
 refine D8 h rfl (fun c1 h => ?_) (fun c1 h => ?_)
 refine BF ?_
 refine AJ ?_
 refine C9 ?_
 refine AJ ?_
 refine AC ?_
 iterate 2 refine A7 rfl rfl ?_
 obtain ⟨OV, fF, h⟩ := AL h
 refine A7 rfl (DK (cs := [.int .i64 OV.Kind, .str OV.Attr, .sl 1 (List.map PV.str OV.Values)]) fF rfl rfl rfl) ?_
 refine A7 (p := AU OV) rfl rfl ?_
 refine CS rfl (FZ 54406 rfl rfl rfl rfl rfl) ?_
 refine F3 (e' := AU OV) rfl rfl rfl rfl rfl rfl rfl rfl nofun rfl ?_
 refine AJ ?_
 refine AC ?_
 iterate 2 refine A7 rfl rfl ?_
 obtain ⟨XV, fE, h⟩ := AL h
 refine CS rfl (CG (RP N _ _ fE) rfl (.cons A9 .nil) rfl rfl rfl) ?_
 iterate 3 refine A7 rfl rfl ?_
 refine CS rfl (FZ 54407 rfl rfl rfl rfl rfl) ?_
 refine F3 (e' := CJ XV.1) rfl rfl rfl rfl rfl rfl rfl rfl nofun rfl ?_
 refine A7 rfl rfl ?_
 refine AJ ?_
 obtain ⟨g2, hg2, h⟩ := AL h
 refine F9 ⟨AY [(0, .sl 3 (List.map AU a0)), (1, .bool a1), (5, .int .i64 v5l6), (6, .ptr 54406 0 0), (74, .bool g2)], AY [(54406, ⟨3, false, [AU OV]⟩)]⟩ ?_ ?_
 have h := hg2
 refine AC ?_
 iterate 3 refine A7 rfl rfl ?_
 rcases BO h with ⟨c3, h⟩ | ⟨c3, h⟩
 iterate 5 refine BK (gn rfl c3) ?_
 refine A7 rfl (BA c3 rfl rfl) ?_
 refine A7 rfl rfl ?_
 iterate 3 refine BK rfl ?_
 iterate 2 refine A7 rfl rfl ?_
 iterate 3 refine BK rfl ?_
 iterate 2 refine A7 rfl rfl ?_
 iterate 3 refine BK rfl ?_
 iterate 2 refine A7 rfl rfl ?_
 iterate 2 refine BK rfl ?_
 iterate 3 refine BK (gu rfl) ?_
 refine BK rfl ?_
 iterate 2 refine A7 rfl rfl ?_
 iterate 4 refine BK rfl ?_
 iterate 4 refine BK (gu rfl) ?_
 refine BK rfl ?_
 iterate 2 refine A7 rfl rfl ?_
 iterate 4 refine BK rfl ?_
 refine A7 rfl rfl ?_
 obtain rfl := AB h
 exact (cn rfl rfl rfl rfl)
 iterate 5 refine A7 (gy rfl c3) rfl ?_
 refine A7 rfl (AZ c3 rfl rfl) ?_
 refine A7 rfl rfl ?_
 rcases BO h with ⟨c4, h⟩ | ⟨c4, h⟩
 iterate 3 refine BK (gn rfl c4) ?_
 refine A7 rfl (BA c4 rfl rfl) ?_
 refine A7 rfl rfl ?_
 iterate 3 refine BK rfl ?_
 iterate 2 refine A7 rfl rfl ?_
 iterate 3 refine BK rfl ?_
 iterate 2 refine A7 rfl rfl ?_
 iterate 2 refine BK rfl ?_
 iterate 3 refine BK (gu rfl) ?_
 refine BK rfl ?_
 iterate 2 refine A7 rfl rfl ?_
 iterate 4 refine BK rfl ?_
 iterate 4 refine BK (gu rfl) ?_
 refine BK rfl ?_
 iterate 2 refine A7 rfl rfl ?_
 iterate 4 refine BK rfl ?_
 refine A7 rfl rfl ?_
 obtain rfl := AB h
 exact (cn rfl rfl rfl rfl)
 iterate 3 refine A7 (gy rfl c4) rfl ?_
 refine A7 rfl (AZ c4 rfl rfl) ?_
 refine A7 rfl rfl ?_
 rcases BO h with ⟨c5, h⟩ | ⟨c5, h⟩
 iterate 3 refine BK (gn rfl c5) ?_
 refine A7 rfl (BA c5 rfl rfl) ?_
 refine A7 rfl rfl ?_
 iterate 3 refine BK rfl ?_
 iterate 2 refine A7 rfl rfl ?_
 iterate 2 refine BK rfl ?_
 iterate 3 refine BK (gu rfl) ?_
 refine BK rfl ?_
 iterate 2 refine A7 rfl rfl ?_
 iterate 4 refine BK rfl ?_
 iterate 4 refine BK (gu rfl) ?_
 refine BK rfl ?_
 iterate 2 refine A7 rfl rfl ?_
 iterate 4 refine BK rfl ?_
 refine A7 rfl rfl ?_
 obtain rfl := AB h
 exact (cn rfl rfl rfl rfl)
 iterate 3 refine A7 (gy rfl c5) rfl ?_
 refine A7 rfl (AZ c5 rfl rfl) ?_
 refine A7 rfl rfl ?_
 rcases BO h with ⟨c6, h⟩ | ⟨c6, h⟩
 iterate 3 refine BK (gn rfl c6) ?_
 refine A7 rfl (BA c6 rfl rfl) ?_
 refine A7 rfl rfl ?_
 iterate 2 refine BK rfl ?_
 iterate 3 refine BK (gu rfl) ?_
 refine BK rfl ?_
 iterate 2 refine A7 rfl rfl ?_
 iterate 4 refine BK rfl ?_
 iterate 4 refine BK (gu rfl) ?_
 refine BK rfl ?_
 iterate 2 refine A7 rfl rfl ?_
 iterate 4 refine BK rfl ?_
 refine A7 rfl rfl ?_
 obtain rfl := AB h
 exact (cn rfl rfl rfl rfl)
 iterate 3 refine A7 (gy rfl c6) rfl ?_
 refine A7 rfl (AZ c6 rfl rfl) ?_
 refine A7 rfl rfl ?_
 rcases BO h with ⟨c7, h⟩ | ⟨c7, h⟩
 iterate 2 refine BK (gn rfl c7) ?_
 iterate 3 refine BK (gu rfl) ?_
 refine BK (gn rfl c7) ?_
 refine A7 rfl (BA c7 rfl rfl) ?_
 refine A7 rfl rfl ?_
 iterate 4 refine BK rfl ?_
 iterate 4 refine BK (gu rfl) ?_
 refine BK rfl ?_
 iterate 2 refine A7 rfl rfl ?_
 iterate 4 refine BK rfl ?_
 refine A7 rfl rfl ?_
 obtain rfl := AB h
 exact (cn rfl rfl rfl rfl)
 iterate 2 refine A7 (gy rfl c7) rfl ?_
 rcases BO h with ⟨c8, h⟩ | ⟨c8, h⟩
 iterate 3 refine A7 (gy rfl c8) rfl ?_
 refine A7 (gy rfl c7) (BA c8 rfl rfl) ?_
 refine A7 rfl (AZ c7 rfl rfl) ?_
 refine A7 rfl rfl ?_
 rcases BO h with ⟨c9, h⟩ | ⟨c9, h⟩
 iterate 4 refine BK (gn rfl c9) ?_
 iterate 4 refine BK (gu rfl) ?_
 refine BK (gn rfl c9) ?_
 refine A7 rfl (BA c9 rfl rfl) ?_
 refine A7 rfl rfl ?_
 iterate 4 refine BK rfl ?_
 refine A7 rfl rfl ?_
 obtain rfl := AB h
 exact (cn rfl rfl rfl rfl)
 iterate 4 refine A7 (gy rfl c9) rfl ?_
 rcases BO h with ⟨c10, h⟩ | ⟨c10, h⟩
 iterate 2 refine A7 (gy rfl c10) rfl ?_
 refine A7 (gy rfl c10) (BV rfl) ?_
 refine A7 (gy rfl c10) rfl ?_
 refine A7 (gy rfl c9) (BA c10 rfl rfl) ?_
 refine A7 rfl (AZ c9 rfl rfl) ?_
 refine A7 rfl rfl ?_
 rcases BO h with ⟨c11, h⟩ | ⟨c11, h⟩
 iterate 4 refine BK (gn rfl c11) ?_
 refine A7 rfl (BA c11 rfl rfl) ?_
 obtain rfl := AB h
 exact (cn rfl rfl rfl rfl)
 iterate 2 refine A7 (gy rfl c11) rfl ?_
 refine A7 (gy rfl c11) (BV rfl) ?_
 refine A7 (gy rfl c11) rfl ?_
 refine A7 rfl (AZ c11 rfl rfl) ?_
 cases AB h
 exact (cn rfl rfl rfl rfl)
 iterate 4 refine BK (gn rfl c10) ?_
 refine A7 (gy rfl c9) (AZ c10 rfl rfl) ?_
 refine A7 rfl (AZ c9 rfl rfl) ?_
 iterate 3 refine A7 rfl rfl ?_
 refine A7 rfl (BV rfl) ?_
 iterate 2 refine A7 rfl rfl ?_
 cases AB h
 exact (cn rfl rfl rfl rfl)
 iterate 3 refine BK (gn rfl c8) ?_
 refine A7 (gy rfl c7) (AZ c8 rfl rfl) ?_
 refine A7 rfl (AZ c7 rfl rfl) ?_
 iterate 5 refine A7 rfl rfl ?_
 rcases BO h with ⟨c12, h⟩ | ⟨c12, h⟩
 iterate 2 refine A7 (gy rfl c12) rfl ?_
 refine A7 (gy rfl c12) (BV rfl) ?_
 refine A7 (gy rfl c12) rfl ?_
 refine A7 rfl (BA c12 rfl rfl) ?_
 iterate 2 refine A7 rfl rfl ?_
 rcases BO h with ⟨c13, h⟩ | ⟨c13, h⟩
 iterate 4 refine BK (gn rfl c13) ?_
 refine A7 rfl (BA c13 rfl rfl) ?_
 obtain rfl := AB h
 exact (cn rfl rfl rfl rfl)
 iterate 2 refine A7 (gy rfl c13) rfl ?_
 refine A7 (gy rfl c13) (BV rfl) ?_
 refine A7 (gy rfl c13) rfl ?_
 refine A7 rfl (AZ c13 rfl rfl) ?_
 cases AB h
 exact (cn rfl rfl rfl rfl)
 iterate 4 refine BK (gn rfl c12) ?_
 refine A7 rfl (AZ c12 rfl rfl) ?_
 iterate 4 refine A7 rfl rfl ?_
 refine A7 rfl (BV rfl) ?_
 iterate 2 refine A7 rfl rfl ?_
 cases AB h
 exact (cn rfl rfl rfl rfl)
 clear hg2
 refine D8 h rfl (fun c14 h => ?_) (fun c14 h => ?_)
 refine AJ ?_
 refine AC ?_
 refine A7 rfl rfl ?_
 obtain rfl := AB h
 exact DU (st1 := ⟨AY [(4, .bool false)], AY []⟩) (cn rfl rfl rfl rfl) ⟨rfl, rfl⟩
 refine BF ?_
 refine AJ ?_
 refine AC ?_
 refine A7 rfl rfl ?_
 refine C9 ?_
 obtain ⟨pM, Fz, h⟩ := AL h
 refine PT (VT N a0 a1 v5l6 OV N _ _ Fz) (cn rfl rfl rfl rfl) ?_
 clear Fz
 rcases pM with pM | pM
 rintro e s ⟨rfl, rfl⟩
 refine AC ?_
 refine A7 rfl rfl ?_
 refine A7 (p := .int .i64 (BQ (v5l6 + (1 : Int)))) rfl rfl ?_
 refine A7 rfl rfl ?_
 exact ⟨(BQ (v5l6 + (1 : Int))), (cn rfl rfl rfl rfl), h⟩
 rintro e s ⟨rfl, rfl⟩
 obtain rfl := AB h
 exact ⟨rfl, rfl⟩
 cases AB h
 exact CW (st1 := ⟨AY [(0, .sl 3 (List.map AU a0))], AY []⟩) (cn rfl rfl rfl rfl) ⟨rfl, rfl⟩
theorem QT (N : Nat) (a0 : List BC) (a1 : Bool) (r : Bool) (h : KM N a0 a1 = some r) : Sat Tryz.prog 34 AO [.sl 3 (List.map AU a0), .bool a1] (.bool r) AO := by
 refine DT mixed Tryz.func34 Tw (rs := [.bool r]) rfl rfl ?_
 refine AJ ?_
 refine AC ?_
 refine A7 rfl rfl ?_
 iterate 2 refine AJ ?_
 refine AC ?_
 refine A7 rfl rfl ?_
 refine C9 ?_
 obtain ⟨Oh, hy18, h⟩ := AL h
 refine PT (WV N a0 a1 N _ _ hy18) (cn rfl rfl rfl rfl) ?_
 clear hy18
 rcases Oh with Oh | Oh
 rintro e s ⟨rfl, rfl⟩
 refine AJ ?_
 refine AC ?_
 refine A7 rfl rfl ?_
 refine A7 rfl (BV rfl) ?_
 iterate 2 refine A7 rfl rfl ?_
 cases AB h
 refine BS ?_
 exact ⟨nofun, rfl, rfl⟩
 rintro e s ⟨rfl, rfl⟩
 obtain rfl := AB h
 exact ⟨nofun, rfl, rfl⟩
end Go.Gp
end
section
set_option linter.unusedVariables false
set_option linter.unusedSimpArgs false
set_option maxRecDepth 4000
set_option maxHeartbeats 4000000
namespace Go.Gp
open Go.Vd Go.RowKit Go.Proofs
def k11 : IC := (.seq (.reg [jn 1 (.box 28 (.t 0)), jc 2 (.bool false)]) (.seq (.seq (.reg [ja 6 0 1, jg 7 3 6, jn 8 (.call 30 [(.t 7)]), jn 9 (.un .not (.t 8)), jm 10 9, jf 10 11 (.fda 0 (.t 1)), jf 10 12 (.load 3 true (.t 11)), jf 10 13 (.call 31 [(.t 12)]), jo 14 10 13, jm 15 14, jf 15 16 (.fda 4 (.t 1)), jf 15 17 (.load 3 true (.t 16)), jf 15 18 (.call 30 [(.t 17)]), jf 15 19 (.un .not (.t 18)), jo 20 15 19, jm 21 20, jf 21 22 (.fda 7 (.t 1)), jf 21 23 (.load 3 true (.t 22)), jf 21 24 (.call 30 [(.t 23)]), jf 21 25 (.un .not (.t 24)), jo 26 21 25]) (.cond (.t 26) (.seq (.reg [jc 2 (.bool false)]) .ret) .skip)) (.seq (.reg [ja 27 4 1, jg 28 3 27, ja 29 0 1, jg 30 3 29, jn 31 (.call 32 [(.t 28), (.t 30)]), ju .lss 32 31 0, jm 3 32]) (.seq (.reg [ja 33 7 1, jg 34 3 33, ja 35 0 1, jg 36 3 35, jn 37 (.call 32 [(.t 34), (.t 36)]), ju .lss 38 37 0, jm 39 38, jt 39 40 (.fda 10 (.t 1)), jt 39 41 (.load 1 false (.t 40)), jt 39 42 (.call 33 [(.t 41)]), jp 43 39 42, jm 4 43]) (.seq (.reg [ja 44 7 1, jg 45 3 44, jn 46 (.call 31 [(.t 45)]), jm 47 46, jt 47 48 (.fda 10 (.t 1)), jt 47 49 (.load 1 false (.t 48)), jt 47 50 (.len false (.t 49)), jt 47 51 (.bin .eql (.t 50) (ji 0)), jp 52 47 51, jm 5 52]) (.seq (.seq (.reg [ja 53 3 1, jl 54 1 53]) (.block 0 (.seq (.reg [ju .eql 56 54 1, jm 55 56]) (.cond (.t 55) (.seq (.reg [ja 57 4 1, jg 58 3 57, ja 59 0 1, jg 60 3 59, jn 61 (.eqs false [(.i .i64), (.i .i64), (.i .i64)] (.t 58) (.t 60)), jm 62 61, jt 62 63 (.mov (.t 4)), jp 64 62 63, jm 65 64, jt 65 66 (.fda 11 (.t 1)), jt 65 67 (.load 1 false (.t 66)), jt 65 68 (.un .not (.t 67)), jp 69 65 68, jm 70 69, jt 70 71 (.fda 12 (.t 1)), jt 70 72 (.load 1 false (.t 71)), jt 70 73 (.call 34 [(.t 72), jB]), jp 74 70 73, jm 2 74]) .ret) (.seq (.reg [ju .eql 76 54 2, jm 75 76]) (.cond (.t 75) (.seq (.reg [jm 77 3, jm 78 77, jt 78 79 (.fda 4 (.t 1)), jt 78 80 (.load 3 true (.t 79)), jt 78 81 (.call 31 [(.t 80)]), jt 78 82 (.un .not (.t 81)), jp 83 78 82, jm 84 83, jt 84 85 (.mov (.t 5)), jp 86 84 85, jm 87 86, jt 87 88 (.fda 11 (.t 1)), jt 87 89 (.load 1 false (.t 88)), jt 87 90 (.un .not (.t 89)), jp 91 87 90, jm 92 91, jt 92 93 (.fda 12 (.t 1)), jt 92 94 (.load 1 false (.t 93)), jt 92 95 (.len false (.t 94)), jt 92 96 (.bin .eql (.t 95) (ji 0)), jp 97 92 96, jm 2 97]) .ret) (.seq (.reg [ju .eql 99 54 3, jm 98 99]) (.cond (.t 98) (.seq (.reg [jm 100 3, jm 101 100, jt 101 102 (.mov (.t 5)), jp 103 101 102, jm 104 103, jt 104 105 (.fda 11 (.t 1)), jt 104 106 (.load 1 false (.t 105)), jt 104 107 (.un .not (.t 106)), jp 108 104 107, jm 109 108, jt 109 110 (.fda 12 (.t 1)), jt 109 111 (.load 1 false (.t 110)), jt 109 112 (.len false (.t 111)), jt 109 113 (.bin .gtr (.t 112) (ji 0)), jp 114 109 113, jm 115 114, jt 115 116 (.fda 12 (.t 1)), jt 115 117 (.load 1 false (.t 116)), jt 115 118 (.call 34 [(.t 117), jA]), jp 119 115 118, jm 2 119]) .ret) (.seq (.reg [ju .eql 121 54 4, jm 120 121]) (.cond (.t 120) (.seq (.reg [jm 122 3, jm 123 122, jt 123 124 (.fda 4 (.t 1)), jt 123 125 (.load 3 true (.t 124)), jt 123 126 (.call 31 [(.t 125)]), jt 123 127 (.un .not (.t 126)), jp 128 123 127, jm 129 128, jt 129 130 (.mov (.t 4)), jp 131 129 130, jm 132 131, jt 132 133 (.fda 12 (.t 1)), jt 132 134 (.load 1 false (.t 133)), jt 132 135 (.len false (.t 134)), jt 132 136 (.bin .eql (.t 135) (ji 0)), jp 137 132 136, jm 2 137]) .ret) .skip)))))))))) (.seq (.reg [jc 2 (.bool false)]) .ret)))))))
theorem Ut : BX Tryz.prog Tryz.f11 = some ⟨138, k11, [(.tmp 2)]⟩ := by kernel_rfl
theorem O6 (N : Nat) (a0 : AX) (r : Bool) (h : I6 N a0 = some r) : Sat Tryz.prog 11 AO [AQ a0] (.bool r) AO := by
 refine DT mixed Tryz.func11 Ut (rs := [.bool r]) rfl rfl ?_
 refine AJ ?_
 refine AC ?_
 refine CS rfl (FZ 17601 rfl rfl rfl rfl rfl) ?_
 refine A7 rfl rfl ?_
 refine AJ ?_
 obtain ⟨g1, hg1, h⟩ := AL h
 refine F9 ⟨AY [(1, .ptr 17601 0 0), (26, .bool g1)], AY [(17601, ⟨13, false, [AQ a0]⟩)]⟩ ?_ ?_
 have h := hg1
 refine AC ?_
 refine A7 rfl rfl ?_
 refine A7 (p := .agg [.int .i64 a0.CSN.Time, .int .i64 a0.CSN.Seq, .int .i64 a0.CSN.Rep]) rfl rfl ?_
 obtain ⟨x8, Nb, h⟩ := AL h
 refine CS rfl (CG (O9 N _ _ Nb) rfl (.cons A9 .nil) rfl rfl rfl) ?_
 iterate 2 refine A7 rfl rfl ?_
 rcases BO h with ⟨c2, h⟩ | ⟨c2, h⟩
 iterate 3 refine BK (gn rfl c2) ?_
 refine A7 rfl (BA c2 rfl rfl) ?_
 refine A7 rfl rfl ?_
 iterate 4 refine BK rfl ?_
 iterate 2 refine A7 rfl rfl ?_
 iterate 4 refine BK rfl ?_
 refine A7 rfl rfl ?_
 obtain rfl := AB h
 exact (cn rfl rfl rfl rfl)
 refine A7 (gy rfl c2) rfl ?_
 refine A7 (p := .agg [.int .i64 a0.CSN.Time, .int .i64 a0.CSN.Seq, .int .i64 a0.CSN.Rep]) (gy rfl c2) rfl ?_
 obtain ⟨MF, aV, h⟩ := AL h
 refine CS (gy rfl c2) (CG (JV N _ _ aV) rfl (.cons A9 .nil) rfl rfl rfl) ?_
 refine A7 rfl (AZ c2 rfl rfl) ?_
 refine A7 rfl rfl ?_
 rcases BO h with ⟨c3, h⟩ | ⟨c3, h⟩
 iterate 4 refine BK (gn rfl c3) ?_
 refine A7 rfl (BA c3 rfl rfl) ?_
 refine A7 rfl rfl ?_
 iterate 4 refine BK rfl ?_
 refine A7 rfl rfl ?_
 obtain rfl := AB h
 exact (cn rfl rfl rfl rfl)
 refine A7 (gy rfl c3) rfl ?_
 refine A7 (p := .agg [.int .i64 a0.ID.Time, .int .i64 a0.ID.Seq, .int .i64 a0.ID.Rep]) (gy rfl c3) rfl ?_
 obtain ⟨OV, fF, h⟩ := AL h
 refine CS (gy rfl c3) (CG (O9 N _ _ fF) rfl (.cons A9 .nil) rfl rfl rfl) ?_
 refine A7 (gy rfl c3) rfl ?_
 refine A7 rfl (AZ c3 rfl rfl) ?_
 refine A7 rfl rfl ?_
 rcases BO h with ⟨c4, h⟩ | ⟨c4, h⟩
 iterate 4 refine BK (gn rfl c4) ?_
 refine A7 rfl (BA c4 rfl rfl) ?_
 obtain rfl := AB h
 exact (cn rfl rfl rfl rfl)
 refine A7 (gy rfl c4) rfl ?_
 refine A7 (p := .agg [.int .i64 a0.Parent.Time, .int .i64 a0.Parent.Seq, .int .i64 a0.Parent.Rep]) (gy rfl c4) rfl ?_
 obtain ⟨x24, hx24, h⟩ := AL h
 refine CS (gy rfl c4) (CG (O9 N _ _ hx24) rfl (.cons A9 .nil) rfl rfl rfl) ?_
 refine A7 (gy rfl c4) rfl ?_
 refine A7 rfl (AZ c4 rfl rfl) ?_
 cases AB h
 exact (cn rfl rfl rfl rfl)
 clear hg1
 refine D8 h rfl (fun c5 h => ?_) (fun c5 h => ?_)
 refine AJ ?_
 refine AC ?_
 refine A7 rfl rfl ?_
 obtain rfl := AB h
 refine BS ?_
 exact ⟨nofun, rfl, rfl⟩
 refine BF ?_
 refine AJ ?_
 refine AC ?_
 refine A7 rfl rfl ?_
 refine A7 (p := .agg [.int .i64 a0.ID.Time, .int .i64 a0.ID.Seq, .int .i64 a0.ID.Rep]) rfl rfl ?_
 refine A7 rfl rfl ?_
 refine A7 (p := .agg [.int .i64 a0.CSN.Time, .int .i64 a0.CSN.Seq, .int .i64 a0.CSN.Rep]) rfl rfl ?_
 obtain ⟨x31, hx31, h⟩ := AL h
 refine CS rfl (CG (RQ N _ _ _ hx31) rfl (.cons A9 (.cons A9 .nil)) rfl rfl rfl) ?_
 iterate 2 refine A7 rfl rfl ?_
 obtain ⟨g6, yK, h⟩ := AL h
 refine F9 ⟨AY [(1, .ptr 17601 0 0), (3, .bool (decide (x31 < (0 : Int)))), (4, .bool g6)], AY [(17601, ⟨13, false, [AQ a0]⟩)]⟩ ?_ ?_
 have h := yK
 refine AC ?_
 refine A7 rfl rfl ?_
 refine A7 (p := .agg [.int .i64 a0.Parent.Time, .int .i64 a0.Parent.Seq, .int .i64 a0.Parent.Rep]) rfl rfl ?_
 refine A7 rfl rfl ?_
 refine A7 (p := .agg [.int .i64 a0.CSN.Time, .int .i64 a0.CSN.Seq, .int .i64 a0.CSN.Rep]) rfl rfl ?_
 obtain ⟨x37, Vs, h⟩ := AL h
 refine CS rfl (CG (RQ N _ _ _ Vs) rfl (.cons A9 (.cons A9 .nil)) rfl rfl rfl) ?_
 iterate 2 refine A7 rfl rfl ?_
 rcases BO h with ⟨c7, h⟩ | ⟨c7, h⟩
 iterate 2 refine A7 (gy rfl c7) rfl ?_
 obtain ⟨Jz, Ap, h⟩ := AL h
 refine CS (gy rfl c7) (CG (YA N _ _ Ap) rfl (.cons A9 .nil) rfl rfl rfl) ?_
 refine A7 rfl (BA c7 rfl rfl) ?_
 refine A7 rfl rfl ?_
 obtain rfl := AB h
 exact (cn rfl rfl rfl rfl)
 iterate 3 refine BK (gn rfl c7) ?_
 refine A7 rfl (AZ c7 rfl rfl) ?_
 refine A7 rfl rfl ?_
 obtain rfl := AB h
 exact (cn rfl rfl rfl rfl)
 clear yK
 obtain ⟨g8, hg8, h⟩ := AL h
 refine F9 ⟨AY [(1, .ptr 17601 0 0), (3, .bool (decide (x31 < (0 : Int)))), (4, .bool g6), (5, .bool g8)], AY [(17601, ⟨13, false, [AQ a0]⟩)]⟩ ?_ ?_
 have h := hg8
 refine AC ?_
 refine A7 rfl rfl ?_
 refine A7 (p := .agg [.int .i64 a0.Parent.Time, .int .i64 a0.Parent.Seq, .int .i64 a0.Parent.Rep]) rfl rfl ?_
 obtain ⟨sZ, oM, h⟩ := AL h
 refine CS rfl (CG (JV N _ _ oM) rfl (.cons A9 .nil) rfl rfl rfl) ?_
 refine A7 rfl rfl ?_
 rcases BO h with ⟨c9, h⟩ | ⟨c9, h⟩
 iterate 2 refine A7 (gy rfl c9) rfl ?_
 refine A7 (gy rfl c9) (BV rfl) ?_
 refine A7 (gy rfl c9) rfl ?_
 refine A7 rfl (BA c9 rfl rfl) ?_
 refine A7 rfl rfl ?_
 cases AB h
 exact (cn rfl rfl rfl rfl)
 iterate 4 refine BK (gn rfl c9) ?_
 refine A7 rfl (AZ c9 rfl rfl) ?_
 refine A7 rfl rfl ?_
 obtain rfl := AB h
 exact (cn rfl rfl rfl rfl)
 clear hg8
 iterate 2 refine AJ ?_
 refine AC ?_
 iterate 2 refine A7 rfl rfl ?_
 refine C9 ?_
 refine AJ ?_
 refine AC ?_
 iterate 2 refine A7 rfl rfl ?_
 refine D8 h rfl (fun c10 h => ?_) (fun c10 h => ?_)
 obtain ⟨g11, kD, h⟩ := AL h
 refine F9 ⟨AY [(2, .bool g11)], AY []⟩ ?_ ?_
 have h := kD
 refine AC ?_
 refine A7 rfl rfl ?_
 refine A7 (p := .agg [.int .i64 a0.ID.Time, .int .i64 a0.ID.Seq, .int .i64 a0.ID.Rep]) rfl rfl ?_
 refine A7 rfl rfl ?_
 refine A7 (p := .agg [.int .i64 a0.CSN.Time, .int .i64 a0.CSN.Seq, .int .i64 a0.CSN.Rep]) rfl rfl ?_
 refine A7 (p := .bool (a0.ID.Time == a0.CSN.Time && (a0.ID.Seq == a0.CSN.Seq && (a0.ID.Rep == a0.CSN.Rep && true)))) rfl rfl ?_
 refine A7 rfl rfl ?_
 rcases BO h with ⟨c12, h⟩ | ⟨c12, h⟩
 refine A7 (gy rfl c12) rfl ?_
 refine A7 rfl (BA c12 rfl rfl) ?_
 refine A7 rfl rfl ?_
 rcases BO h with ⟨c13, h⟩ | ⟨c13, h⟩
 iterate 3 refine A7 (gy rfl c13) rfl ?_
 refine A7 rfl (BA c13 rfl rfl) ?_
 refine A7 rfl rfl ?_
 rcases BO h with ⟨c14, h⟩ | ⟨c14, h⟩
 iterate 2 refine A7 (gy rfl c14) rfl ?_
 obtain ⟨x73, hx73, h⟩ := AL h
 refine CS (gy rfl c14) (CG (QT N _ _ _ hx73) rfl (.cons A9 (.cons A9 .nil)) rfl rfl rfl) ?_
 refine A7 rfl (BA c14 rfl rfl) ?_
 refine A7 rfl rfl ?_
 obtain rfl := AB h
 exact (cn rfl rfl rfl rfl)
 iterate 3 refine BK (gn rfl c14) ?_
 refine A7 rfl (AZ c14 rfl rfl) ?_
 refine A7 rfl rfl ?_
 obtain rfl := AB h
 exact (cn rfl rfl rfl rfl)
 iterate 3 refine BK (gn rfl c13) ?_
 refine A7 rfl (AZ c13 rfl rfl) ?_
 refine A7 rfl rfl ?_
 iterate 3 refine BK rfl ?_
 iterate 2 refine A7 rfl rfl ?_
 obtain rfl := AB h
 exact (cn rfl rfl rfl rfl)
 refine BK (gn rfl c12) ?_
 refine A7 rfl (AZ c12 rfl rfl) ?_
 refine A7 rfl rfl ?_
 iterate 3 refine BK rfl ?_
 iterate 2 refine A7 rfl rfl ?_
 iterate 3 refine BK rfl ?_
 iterate 2 refine A7 rfl rfl ?_
 obtain rfl := AB h
 exact (cn rfl rfl rfl rfl)
 clear kD
 obtain rfl := AB h
 refine BS ?_
 exact ⟨nofun, rfl, rfl⟩
 refine AJ ?_
 refine AC ?_
 iterate 2 refine A7 rfl rfl ?_
 refine D8 h rfl (fun c15 h => ?_) (fun c15 h => ?_)
 obtain ⟨g16, rT, h⟩ := AL h
 refine F9 ⟨AY [(2, .bool g16)], AY []⟩ ?_ ?_
 have h := rT
 refine AC ?_
 iterate 2 refine A7 rfl rfl ?_
 rcases BO h with ⟨c17, h⟩ | ⟨c17, h⟩
 refine A7 (gy rfl c17) rfl ?_
 refine A7 (p := .agg [.int .i64 a0.ID.Time, .int .i64 a0.ID.Seq, .int .i64 a0.ID.Rep]) (gy rfl c17) rfl ?_
 obtain ⟨x81, Gc, h⟩ := AL h
 refine CS (gy rfl c17) (CG (JV N _ _ Gc) rfl (.cons A9 .nil) rfl rfl rfl) ?_
 refine A7 (gy rfl c17) rfl ?_
 refine A7 rfl (BA c17 rfl rfl) ?_
 refine A7 rfl rfl ?_
 rcases BO h with ⟨c18, h⟩ | ⟨c18, h⟩
 refine A7 (gy rfl c18) rfl ?_
 refine A7 rfl (BA c18 rfl rfl) ?_
 refine A7 rfl rfl ?_
 rcases BO h with ⟨c19, h⟩ | ⟨c19, h⟩
 iterate 3 refine A7 (gy rfl c19) rfl ?_
 refine A7 rfl (BA c19 rfl rfl) ?_
 refine A7 rfl rfl ?_
 rcases BO h with ⟨c20, h⟩ | ⟨c20, h⟩
 iterate 2 refine A7 (gy rfl c20) rfl ?_
 refine A7 (gy rfl c20) (BV rfl) ?_
 refine A7 (gy rfl c20) rfl ?_
 refine A7 rfl (BA c20 rfl rfl) ?_
 refine A7 rfl rfl ?_
 cases AB h
 exact (cn rfl rfl rfl rfl)
 iterate 4 refine BK (gn rfl c20) ?_
 refine A7 rfl (AZ c20 rfl rfl) ?_
 refine A7 rfl rfl ?_
 obtain rfl := AB h
 exact (cn rfl rfl rfl rfl)
 iterate 3 refine BK (gn rfl c19) ?_
 refine A7 rfl (AZ c19 rfl rfl) ?_
 refine A7 rfl rfl ?_
 iterate 4 refine BK rfl ?_
 iterate 2 refine A7 rfl rfl ?_
 obtain rfl := AB h
 exact (cn rfl rfl rfl rfl)
 refine BK (gn rfl c18) ?_
 refine A7 rfl (AZ c18 rfl rfl) ?_
 refine A7 rfl rfl ?_
 iterate 3 refine BK rfl ?_
 iterate 2 refine A7 rfl rfl ?_
 iterate 4 refine BK rfl ?_
 iterate 2 refine A7 rfl rfl ?_
 obtain rfl := AB h
 exact (cn rfl rfl rfl rfl)
 iterate 4 refine BK (gn rfl c17) ?_
 refine A7 rfl (AZ c17 rfl rfl) ?_
 refine A7 rfl rfl ?_
 refine BK rfl ?_
 iterate 2 refine A7 rfl rfl ?_
 iterate 3 refine BK rfl ?_
 iterate 2 refine A7 rfl rfl ?_
 iterate 4 refine BK rfl ?_
 iterate 2 refine A7 rfl rfl ?_
 obtain rfl := AB h
 exact (cn rfl rfl rfl rfl)
 clear rT
 obtain rfl := AB h
 refine BS ?_
 exact ⟨nofun, rfl, rfl⟩
 refine AJ ?_
 refine AC ?_
 iterate 2 refine A7 rfl rfl ?_
 refine D8 h rfl (fun c21 h => ?_) (fun c21 h => ?_)
 obtain ⟨g22, hg22, h⟩ := AL h
 refine F9 ⟨AY [(2, .bool g22)], AY []⟩ ?_ ?_
 have h := hg22
 refine AC ?_
 iterate 2 refine A7 rfl rfl ?_
 rcases BO h with ⟨c23, h⟩ | ⟨c23, h⟩
 refine A7 (gy rfl c23) rfl ?_
 refine A7 rfl (BA c23 rfl rfl) ?_
 refine A7 rfl rfl ?_
 rcases BO h with ⟨c24, h⟩ | ⟨c24, h⟩
 iterate 3 refine A7 (gy rfl c24) rfl ?_
 refine A7 rfl (BA c24 rfl rfl) ?_
 refine A7 rfl rfl ?_
 rcases BO h with ⟨Nz, h⟩ | ⟨Nz, h⟩
 iterate 2 refine A7 (gy rfl Nz) rfl ?_
 refine A7 (gy rfl Nz) (BV rfl) ?_
 refine A7 (gy rfl Nz) rfl ?_
 refine A7 rfl (BA Nz rfl rfl) ?_
 refine A7 rfl rfl ?_
 rcases BO h with ⟨c26, h⟩ | ⟨c26, h⟩
 iterate 2 refine A7 (gy rfl c26) rfl ?_
 obtain ⟨x118, hx118, h⟩ := AL h
 refine CS (gy rfl c26) (CG (QT N _ _ _ hx118) rfl (.cons A9 (.cons A9 .nil)) rfl rfl rfl) ?_
 refine A7 rfl (BA c26 rfl rfl) ?_
 refine A7 rfl rfl ?_
 obtain rfl := AB h
 exact (cn rfl rfl rfl rfl)
 iterate 3 refine BK (gn rfl c26) ?_
 refine A7 rfl (AZ c26 rfl rfl) ?_
 refine A7 rfl rfl ?_
 obtain rfl := AB h
 exact (cn rfl rfl rfl rfl)
 iterate 4 refine BK (gn rfl Nz) ?_
 refine A7 rfl (AZ Nz rfl rfl) ?_
 refine A7 rfl rfl ?_
 iterate 3 refine BK rfl ?_
 iterate 2 refine A7 rfl rfl ?_
 obtain rfl := AB h
 exact (cn rfl rfl rfl rfl)
 iterate 3 refine BK (gn rfl c24) ?_
 refine A7 rfl (AZ c24 rfl rfl) ?_
 refine A7 rfl rfl ?_
 iterate 4 refine BK rfl ?_
 iterate 2 refine A7 rfl rfl ?_
 iterate 3 refine BK rfl ?_
 iterate 2 refine A7 rfl rfl ?_
 obtain rfl := AB h
 exact (cn rfl rfl rfl rfl)
 refine BK (gn rfl c23) ?_
 refine A7 rfl (AZ c23 rfl rfl) ?_
 refine A7 rfl rfl ?_
 iterate 3 refine BK rfl ?_
 iterate 2 refine A7 rfl rfl ?_
 iterate 4 refine BK rfl ?_
 iterate 2 refine A7 rfl rfl ?_
 iterate 3 refine BK rfl ?_
 iterate 2 refine A7 rfl rfl ?_
 obtain rfl := AB h
 exact (cn rfl rfl rfl rfl)
 clear hg22
 obtain rfl := AB h
 refine BS ?_
 exact ⟨nofun, rfl, rfl⟩
 refine AJ ?_
 refine AC ?_
 iterate 2 refine A7 rfl rfl ?_
 refine D8 h rfl (fun Ny h => ?_) (fun Ny h => ?_)
 obtain ⟨g28, hg28, h⟩ := AL h
 refine F9 ⟨AY [(2, .bool g28)], AY []⟩ ?_ ?_
 have h := hg28
 refine AC ?_
 iterate 2 refine A7 rfl rfl ?_
 rcases BO h with ⟨tF, h⟩ | ⟨tF, h⟩
 refine A7 (gy rfl tF) rfl ?_
 refine A7 (p := .agg [.int .i64 a0.ID.Time, .int .i64 a0.ID.Seq, .int .i64 a0.ID.Rep]) (gy rfl tF) rfl ?_
 obtain ⟨bM, Gn, h⟩ := AL h
 refine CS (gy rfl tF) (CG (JV N _ _ Gn) rfl (.cons A9 .nil) rfl rfl rfl) ?_
 refine A7 (gy rfl tF) rfl ?_
 refine A7 rfl (BA tF rfl rfl) ?_
 refine A7 rfl rfl ?_
 rcases BO h with ⟨yR, h⟩ | ⟨yR, h⟩
 refine A7 (gy rfl yR) rfl ?_
 refine A7 rfl (BA yR rfl rfl) ?_
 refine A7 rfl rfl ?_
 rcases BO h with ⟨c31, h⟩ | ⟨c31, h⟩
 iterate 2 refine A7 (gy rfl c31) rfl ?_
 refine A7 (gy rfl c31) (BV rfl) ?_
 refine A7 (gy rfl c31) rfl ?_
 refine A7 rfl (BA c31 rfl rfl) ?_
 refine A7 rfl rfl ?_
 cases AB h
 exact (cn rfl rfl rfl rfl)
 iterate 4 refine BK (gn rfl c31) ?_
 refine A7 rfl (AZ c31 rfl rfl) ?_
 refine A7 rfl rfl ?_
 obtain rfl := AB h
 exact (cn rfl rfl rfl rfl)
 refine BK (gn rfl yR) ?_
 refine A7 rfl (AZ yR rfl rfl) ?_
 refine A7 rfl rfl ?_
 iterate 4 refine BK rfl ?_
 iterate 2 refine A7 rfl rfl ?_
 obtain rfl := AB h
 exact (cn rfl rfl rfl rfl)
 iterate 4 refine BK (gn rfl tF) ?_
 refine A7 rfl (AZ tF rfl rfl) ?_
 refine A7 rfl rfl ?_
 refine BK rfl ?_
 iterate 2 refine A7 rfl rfl ?_
 iterate 4 refine BK rfl ?_
 iterate 2 refine A7 rfl rfl ?_
 obtain rfl := AB h
 exact (cn rfl rfl rfl rfl)
 clear hg28
 obtain rfl := AB h
 refine BS ?_
 exact ⟨nofun, rfl, rfl⟩
 refine BF ?_
 refine AJ ?_
 refine AC ?_
 refine A7 rfl rfl ?_
 obtain rfl := AB h
 refine BS ?_
 exact ⟨nofun, rfl, rfl⟩
end Go.Gp
end
section
set_option linter.unusedVariables false
set_option linter.unusedSimpArgs false
set_option maxRecDepth 4000
namespace Go.Gp
open Go.Vd Go.RowKit Go.Proofs
def k3 : IC := (.seq (.reg [jn 2 (.box 28 (.t 0)), jn 3 (.box 28 (.t 1)), jc 4 (.bool false)]) (.seq (.seq (.reg [jn 7 (.call 7 []), jn 8 (.un .not (.t 7))]) (.cond (.t 8) (.seq (.reg [jc 4 (.bool false)]) .ret) .skip)) (.seq (.seq (.reg [jg 9 13 2, jn 10 (.call 8 [(.t 9)]), jn 11 (.un .not (.t 10)), jm 12 11, jf 12 13 (.load 13 true (.t 3)), jf 12 14 (.call 8 [(.t 13)]), jf 12 15 (.un .not (.t 14)), jo 16 12 15]) (.cond (.t 16) (.seq (.reg [jc 4 (.bool true)]) .ret) .skip)) (.seq (.reg [jg 18 13 2, jn 19 (.call 9 [(.t 18)]), jm 17 19, je 20 0 17, je 21 1 17, jm 5 20, jm 6 21]) (.seq (.regd 23 [jg 22 13 2, jn 23 (.call 10 [(.t 22)]), jg 24 13 2, jn 25 (.call 11 [(.t 24)]), jn 26 (.beq false (.t 23) (.t 25)), jm 27 26, jt 27 28 (.load 13 true (.t 2)), jt 27 29 (.load 13 true (.t 3)), jt 27 30 (.call 12 [(.t 28), (.t 29)]), jt 27 31 (.load 13 true (.t 2)), jt 27 32 (.load 13 true (.t 3)), jt 27 33 (.call 13 [(.t 31), (.t 32)]), jt 27 34 (.beq false (.t 30) (.t 33)), jp 35 27 34, jm 36 35, jt 36 37 (.mov (.t 6)), jt 36 38 (.bin .eql (.t 37) (ji 14)), jt 36 39 (.load 13 true (.t 2)), jt 36 40 (.call 11 [(.t 39)]), jt 36 41 (.un .not (.t 40)), jt 36 42 (.beq false (.t 38) (.t 41)), jp 43 36 42, jm 4 43]) .ret)))))
theorem k3_cf : BX Tryz.prog Tryz.f3 = some ⟨44, k3, [(.tmp 4)]⟩ := by kernel_rfl
theorem RZ (N : Nat) (a0 : AX) (a1 : AX) (r : Bool) (h : KS N a0 a1 = some r) : Sat Tryz.prog 3 AO [AQ a0, AQ a1] (.bool r) AO := by
 refine DT mixed Tryz.func3 k3_cf (rs := [.bool r]) rfl rfl ?_
 refine AJ ?_
 refine AC ?_
 refine CS rfl (FZ 4802 rfl rfl rfl rfl rfl) ?_
 refine CS rfl (FZ 4803 rfl rfl rfl rfl rfl) ?_
 refine A7 rfl rfl ?_
 iterate 2 refine AJ ?_
 refine AC ?_
 obtain ⟨x7, hx7, h⟩ := AL h
 refine CS rfl (CG (X6 N _ hx7) rfl .nil rfl rfl rfl) ?_
 refine A7 rfl rfl ?_
 refine D8 h rfl (fun c1 h => ?_) (fun c1 h => ?_)
 refine AJ ?_
 refine AC ?_
 refine A7 rfl rfl ?_
 obtain rfl := AB h
 refine BS ?_
 exact ⟨nofun, rfl, rfl⟩
 refine BF ?_
 refine AJ ?_
 obtain ⟨g2, hg2, h⟩ := AL h
 refine F9 ⟨AY [(2, .ptr 4802 0 0), (3, .ptr 4803 0 0), (16, .bool g2)], AY [(4802, ⟨13, false, [AQ a0]⟩), (4803, ⟨13, false, [AQ a1]⟩)]⟩ ?_ ?_
 have h := hg2
 refine AC ?_
 refine A7 (p := AQ a0) rfl rfl ?_
 obtain ⟨R9, VK, h⟩ := AL h
 refine CS rfl (CG (RS N _ _ VK) rfl (.cons A9 .nil) rfl rfl rfl) ?_
 iterate 2 refine A7 rfl rfl ?_
 rcases BO h with ⟨c3, h⟩ | ⟨c3, h⟩
 iterate 3 refine BK (gn rfl c3) ?_
 refine A7 rfl (BA c3 rfl rfl) ?_
 obtain rfl := AB h
 exact (cn rfl rfl rfl rfl)
 refine A7 (p := AQ a1) (gy rfl c3) rfl ?_
 obtain ⟨OB, SF, h⟩ := AL h
 refine CS (gy rfl c3) (CG (RS N _ _ SF) rfl (.cons A9 .nil) rfl rfl rfl) ?_
 refine A7 (gy rfl c3) rfl ?_
 refine A7 rfl (AZ c3 rfl rfl) ?_
 cases AB h
 exact (cn rfl rfl rfl rfl)
 clear hg2
 refine D8 h rfl (fun c4 h => ?_) (fun c4 h => ?_)
 refine AJ ?_
 refine AC ?_
 refine A7 rfl rfl ?_
 obtain rfl := AB h
 refine BS ?_
 exact ⟨nofun, rfl, rfl⟩
 refine BF ?_
 refine AJ ?_
 refine AC ?_
 refine A7 (p := AQ a0) rfl rfl ?_
 obtain ⟨PR, YH, h⟩ := AL h
 refine CS rfl (CG (NW N _ _ YH) rfl (.cons A9 .nil) rfl rfl rfl) ?_
 iterate 5 refine A7 rfl rfl ?_
 obtain ⟨g5, hg5, h⟩ := AL h
 refine F9 ⟨AY [(4, .bool g5)], AY []⟩ ?_ ?_
 have h := hg5
 refine OD ?_
 refine DL (p := AQ a0) rfl rfl ?_
 obtain ⟨XV, fE, h⟩ := AL h
 refine TF rfl (MP (RA N _ _ fE) rfl (.cons A9 .nil) rfl rfl rfl) CP ?_
 refine DL (p := AQ a0) rfl rfl ?_
 obtain ⟨x25, hx25, h⟩ := AL h
 refine TF rfl (MP (O6 N _ _ hx25) rfl (.cons A9 .nil) rfl rfl rfl) CP ?_
 iterate 2 refine DL rfl rfl ?_
 rcases BO h with ⟨c6, h⟩ | ⟨c6, h⟩
 refine DL (p := AQ a0) (gy rfl c6) rfl ?_
 refine DL (p := AQ a1) (gy rfl c6) rfl ?_
 obtain ⟨x30, oO, h⟩ := AL h
 refine TF (gy rfl c6) (MP (XM N _ _ _ oO) rfl (.cons A9 (.cons A9 .nil)) rfl rfl rfl) CP ?_
 refine DL (p := AQ a0) (gy rfl c6) rfl ?_
 refine DL (p := AQ a1) (gy rfl c6) rfl ?_
 obtain ⟨Kj, Gi, h⟩ := AL h
 refine TF (gy rfl c6) (MP (MU N _ _ _ Gi) rfl (.cons A9 (.cons A9 .nil)) rfl rfl rfl) CP ?_
 refine DL (gy rfl c6) rfl ?_
 refine DL rfl (BA c6 rfl rfl) ?_
 refine DL rfl rfl ?_
 rcases BO h with ⟨c7, h⟩ | ⟨c7, h⟩
 iterate 2 refine DL (gy rfl c7) rfl ?_
 refine DL (p := AQ a0) (gy rfl c7) rfl ?_
 obtain ⟨x40, hx40, h⟩ := AL h
 refine TF (gy rfl c7) (MP (O6 N _ _ hx40) rfl (.cons A9 .nil) rfl rfl rfl) CP ?_
 iterate 2 refine DL (gy rfl c7) rfl ?_
 refine DL rfl (BA c7 rfl rfl) ?_
 refine DL rfl rfl ?_
 cases AB h
 exact (cn rfl rfl rfl rfl)
 iterate 6 refine ZT (gn rfl c7) ?_
 refine DL rfl (AZ c7 rfl rfl) ?_
 refine DL rfl rfl ?_
 obtain rfl := AB h
 exact (cn rfl rfl rfl rfl)
 iterate 7 refine ZT (gn rfl c6) ?_
 refine DL rfl (AZ c6 rfl rfl) ?_
 refine DL rfl rfl ?_
 iterate 6 refine ZT rfl ?_
 iterate 2 refine DL rfl rfl ?_
 obtain rfl := AB h
 exact (cn rfl rfl rfl rfl)
 clear hg5
 obtain rfl := AB h
 refine BS ?_
 exact ⟨nofun, rfl, rfl⟩
end Go.Gp
end
