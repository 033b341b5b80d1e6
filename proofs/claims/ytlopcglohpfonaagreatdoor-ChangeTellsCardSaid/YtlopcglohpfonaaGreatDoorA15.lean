/- A part of the proof: functions of the program and what they compute. -/
import Derived.Test.YtlopcglohpfonaaGreatDoorA5
import Derived.Test.YtlopcglohpfonaaGreatDoorA6
import Derived.Test.YtlopcglohpfonaaGreatDoorA14
import Derived.Test.YtlopcglohpfonaaGreatDoorA9
import Derived.Test.YtlopcglohpfonaaGreatDoorA12
section
set_option linter.unusedVariables false
set_option linter.unusedSimpArgs false
set_option maxRecDepth 4000
namespace Go.Gp
open Go.Vd Go.RowKit Go.Proofs
def k36 : IC := (.seq (.reg [jn 2 (.box 44 (.t 0)), jn 3 (.box 44 (.t 1)), jc 4 (.bool false)]) (.seq (.reg [ja 5 0 2, jl 6 1 5, ja 7 0 3, jl 8 1 7, jb .eql 9 6 8, jm 10 9, jt 10 11 (.fda 1 (.t 2)), jt 10 12 (.load 1 false (.t 11)), jt 10 13 (.fda 1 (.t 3)), jt 10 14 (.load 1 false (.t 13)), jt 10 15 (.bin .eql (.t 12) (.t 14)), jp 16 10 15, jm 17 16, jt 17 18 (.fda 2 (.t 2)), jt 17 19 (.load 1 false (.t 18)), jt 17 20 (.fda 2 (.t 3)), jt 17 21 (.load 1 false (.t 20)), jt 17 22 (.call 37 [(.t 19), (.t 21)]), jp 23 17 22, jm 4 23]) .ret))
theorem Tu : BX Tryz.prog Tryz.f36 = some ⟨24, k36, [(.tmp 4)]⟩ := by kernel_rfl
theorem dA (N : Nat) (a0 : BC) (a1 : BC) (r : Bool) (h : RI N a0 a1 = some r) : Sat Tryz.prog 36 AO [AU a0, AU a1] (.bool r) AO := by
 refine DT mixed Tryz.func36 Tu (rs := [.bool r]) rfl rfl ?_
 refine AJ ?_
 refine AC ?_
 refine CS rfl (FZ 57602 rfl rfl rfl rfl rfl) ?_
 refine CS rfl (FZ 57603 rfl rfl rfl rfl rfl) ?_
 refine A7 rfl rfl ?_
 obtain ⟨g1, hg1, h⟩ := AL h
 refine F9 ⟨AY [(4, .bool g1)], AY []⟩ ?_ ?_
 have h := hg1
 refine AC ?_
 iterate 6 refine A7 rfl rfl ?_
 rcases BO h with ⟨c2, h⟩ | ⟨c2, h⟩
 iterate 5 refine A7 (gy rfl c2) rfl ?_
 refine A7 rfl (BA c2 rfl rfl) ?_
 refine A7 rfl rfl ?_
 rcases BO h with ⟨c3, h⟩ | ⟨c3, h⟩
 iterate 4 refine A7 (gy rfl c3) rfl ?_
 obtain ⟨WO, YF, h⟩ := AL h
 refine CS (gy rfl c3) (CG (QW N _ _ _ YF) rfl (.cons A9 (.cons A9 .nil)) rfl rfl rfl) ?_
 refine A7 rfl (BA c3 rfl rfl) ?_
 refine A7 rfl rfl ?_
 obtain rfl := AB h
 exact (cn rfl rfl rfl rfl)
 iterate 5 refine BK (gn rfl c3) ?_
 refine A7 rfl (AZ c3 rfl rfl) ?_
 refine A7 rfl rfl ?_
 obtain rfl := AB h
 exact (cn rfl rfl rfl rfl)
 iterate 5 refine BK (gn rfl c2) ?_
 refine A7 rfl (AZ c2 rfl rfl) ?_
 refine A7 rfl rfl ?_
 iterate 5 refine BK rfl ?_
 iterate 2 refine A7 rfl rfl ?_
 obtain rfl := AB h
 exact (cn rfl rfl rfl rfl)
 clear hg1
 obtain rfl := AB h
 refine BS ?_
 exact ⟨nofun, rfl, rfl⟩
def jT : IC := (.seq (.reg [jb .lss 18 17 16]) (.seq (.cond (.t 18) .skip (.exit 0)) (.seq (.block 1 (.seq (.reg [jm 19 17, jx 20 3 15 17, jg 21 3 20, jn 8 (.box 44 (.c (.agg [(j6 0), (.str []), .nl]))), jm 7 19, js 3 8 21]) (.seq (.reg [jm 22 1, jm 23 7, jx 24 3 22 23, jg 25 3 24, jn 9 (.box 44 (.c (.agg [(j6 0), (.str []), .nl]))), js 3 9 25]) (.seq (.reg [jm 26 2, jg 27 3 8, jg 28 3 9, jn 29 (.calv (.t 26) [(.t 27), (.t 28)]), jn 30 (.un .not (.t 29))]) (.cond (.t 30) (.seq (.reg [jc 6 (.bool false)]) .ret) .skip))))) (.reg [ju .add 31 17 1, jm 17 31]))))
def Tv : IC := (.seq (.reg [jc 6 (.bool false)]) (.seq (.seq (.reg [jm 10 0, jL 11 10, jm 12 1, jL 13 12, jb .neq 14 11 13]) (.cond (.t 14) (.seq (.reg [jc 6 (.bool false)]) .ret) .skip)) (.seq (.seq (.reg [jm 15 0, jL 16 15, jc 17 (j6 0)]) (.block 0 (.loop jT))) (.seq (.reg [jc 6 (.bool true)]) .ret))))
theorem Af : BX Tryz.prog Tryz.f35 = some ⟨32, Tv, [(.tmp 6)]⟩ := by kernel_rfl
theorem G7 (N : Nat) (a0 : List BC) (a1 : List BC) : ∀ (n : Nat) (x : Int) (y : Unit ⊕ Bool), BG N a0 a1 n x = some y → WX Tryz.prog (fun _ => false) (.loop jT) ((fun (x : Int) => ⟨AY [(1, .sl 3 (List.map AU a1)), (2, .clo 36 []), (15, .sl 3 (List.map AU a0)), (16, .int .i64 (a0.length : Int)), (17, .int .i64 x)], AY []⟩) x) ((Sum.elim (fun y e s => e = .exit 0 ∧ s = ⟨AY [], AY []⟩) (fun y e s => e = .ret ∧ s = ⟨AY [(6, .bool y)], AY []⟩) : (Unit ⊕ Bool) → Xt → St → Prop) y) := by
 refine EQ _ _ (BG N a0 a1) (BU N a0 a1) (fun _ => rfl) (fun _ _ => rfl) ?_
 rintro rec v17l14 y h
 refine AJ ?_
 refine AC ?_
 refine A7 rfl rfl ?_
 refine AJ ?_
 refine D8 h rfl (fun c2 h => ?_) (fun c2 h => ?_)
 refine BF ?_
 refine AJ ?_
 refine C9 ?_
 refine AJ ?_
 refine AC ?_
 refine A7 rfl rfl ?_
 obtain ⟨x20, aU, h⟩ := AL h
 refine A7 rfl (DK (cs := [.int .i64 x20.Kind, .str x20.Attr, .sl 1 (List.map PV.str x20.Values)]) aU rfl rfl rfl) ?_
 refine A7 (p := AU x20) rfl rfl ?_
 refine CS rfl (FZ 56008 rfl rfl rfl rfl rfl) ?_
 refine A7 rfl rfl ?_
 refine F3 (e' := AU x20) rfl rfl rfl rfl rfl rfl rfl rfl nofun rfl ?_
 refine AJ ?_
 refine AC ?_
 iterate 2 refine A7 rfl rfl ?_
 obtain ⟨x24, hx24, h⟩ := AL h
 refine A7 rfl (DK (cs := [.int .i64 x24.Kind, .str x24.Attr, .sl 1 (List.map PV.str x24.Values)]) hx24 rfl rfl rfl) ?_
 refine A7 (p := AU x24) rfl rfl ?_
 refine CS rfl (FZ 56009 rfl rfl rfl rfl rfl) ?_
 refine F3 (e' := AU x24) rfl rfl rfl rfl rfl rfl rfl rfl nofun rfl ?_
 refine AJ ?_
 refine AC ?_
 refine A7 rfl rfl ?_
 refine A7 (p := AU x20) rfl rfl ?_
 refine A7 (p := AU x24) rfl rfl ?_
 obtain ⟨x29, hx29, h⟩ := AL h
 refine CS rfl (ZY (dA N _ _ _ hx29) rfl rfl rfl (.cons A9 (.cons A9 .nil)) rfl rfl rfl) ?_
 refine A7 rfl rfl ?_
 refine D8 h rfl (fun c3 h => ?_) (fun c3 h => ?_)
 refine AJ ?_
 refine AC ?_
 refine A7 rfl rfl ?_
 obtain rfl := AB h
 exact DU (st1 := ⟨AY [(6, .bool false)], AY []⟩) (cn rfl rfl rfl rfl) ⟨rfl, rfl⟩
 refine BF ?_
 refine AC ?_
 refine A7 (p := .int .i64 (BQ (v17l14 + (1 : Int)))) rfl rfl ?_
 refine A7 rfl rfl ?_
 exact ⟨(BQ (v17l14 + (1 : Int))), (cn rfl rfl rfl rfl), h⟩
 cases AB h
 exact CW (st1 := ⟨AY [], AY []⟩) (cn rfl rfl rfl rfl) ⟨rfl, rfl⟩
theorem GI (N : Nat) (a0 : List BC) (a1 : List BC) (r : Bool) (h : BZ N a0 a1 = some r) : Sat Tryz.prog 35 AO [.sl 3 (List.map AU a0), .sl 3 (List.map AU a1), .clo 36 []] (.bool r) AO := by
 refine DT mixed Tryz.func35 Af (rs := [.bool r]) rfl rfl ?_
 refine AJ ?_
 refine AC ?_
 refine A7 rfl rfl ?_
 iterate 2 refine AJ ?_
 refine AC ?_
 refine A7 rfl rfl ?_
 refine A7 rfl (BV rfl) ?_
 refine A7 rfl rfl ?_
 refine A7 rfl (BV rfl) ?_
 refine A7 rfl rfl ?_
 refine D8 h rfl (fun c1 h => ?_) (fun c1 h => ?_)
 refine AJ ?_
 refine AC ?_
 refine A7 rfl rfl ?_
 obtain rfl := AB h
 refine BS ?_
 exact ⟨nofun, rfl, rfl⟩
 refine BF ?_
 iterate 2 refine AJ ?_
 refine AC ?_
 refine A7 rfl rfl ?_
 refine A7 rfl (BV rfl) ?_
 refine A7 rfl rfl ?_
 refine C9 ?_
 obtain ⟨y4, hy4, h⟩ := AL h
 refine PT (G7 N a0 a1 N _ _ hy4) (cn rfl rfl rfl rfl) ?_
 clear hy4
 rcases y4 with y4 | y4
 rintro e s ⟨rfl, rfl⟩
 refine AJ ?_
 refine AC ?_
 refine A7 rfl rfl ?_
 obtain rfl := AB h
 refine BS ?_
 exact ⟨nofun, rfl, rfl⟩
 rintro e s ⟨rfl, rfl⟩
 obtain rfl := AB h
 exact ⟨nofun, rfl, rfl⟩
def xS : IC := (.seq (.reg [jb .lss 14 13 12]) (.seq (.cond (.t 14) .skip (.exit 0)) (.seq (.block 1 (.seq (.reg [jm 15 13, jm 5 15]) (.seq (.regd 9 [jm 16 0, jm 17 5, jx 18 2 16 17, jg 19 2 18, jm 20 1, jm 21 5, jx 22 2 20 21, jg 23 2 22, jn 24 (.eqs true [.s, .s] (.t 19) (.t 23))]) (.cond (.t 24) (.seq (.reg [jc 4 (.bool false)]) .ret) .skip)))) (.reg [ju .add 25 13 1, jm 13 25]))))
def k38 : IC := (.seq (.reg [jc 4 (.bool false)]) (.seq (.seq (.reg [jm 6 0, jL 7 6, jm 8 1, jL 9 8, jb .neq 10 7 9]) (.cond (.t 10) (.seq (.reg [jc 4 (.bool false)]) .ret) .skip)) (.seq (.seq (.reg [jm 11 0, jL 12 11, jc 13 (j6 0)]) (.block 0 (.loop xS))) (.seq (.reg [jc 4 (.bool true)]) .ret))))
theorem Tq : BX Tryz.prog Tryz.f38 = some ⟨26, k38, [(.tmp 4)]⟩ := by kernel_rfl
theorem OW (N : Nat) (a0 : List AP) (a1 : List AP) : ∀ (n : Nat) (x : Int) (y : Unit ⊕ Bool), CY N a0 a1 n x = some y → WX Tryz.prog (fun _ => false) (.loop xS) ((fun (x : Int) => ⟨AY [(0, .sl 2 (List.map AV a0)), (1, .sl 2 (List.map AV a1)), (12, .int .i64 (a0.length : Int)), (13, .int .i64 x)], AY []⟩) x) ((Sum.elim (fun y e s => e = .exit 0 ∧ s = ⟨AY [], AY []⟩) (fun y e s => e = .ret ∧ s = ⟨AY [(4, .bool y)], AY []⟩) : (Unit ⊕ Bool) → Xt → St → Prop) y) := by
 refine EQ _ _ (CY N a0 a1) (FD N a0 a1) (fun _ => rfl) (fun _ _ => rfl) ?_
 rintro rec v13l14 y h
 refine AJ ?_
 refine AC ?_
 refine A7 rfl rfl ?_
 refine AJ ?_
 refine D8 h rfl (fun c2 h => ?_) (fun c2 h => ?_)
 refine BF ?_
 refine AJ ?_
 refine C9 ?_
 refine AJ ?_
 refine AC ?_
 iterate 2 refine A7 rfl rfl ?_
 refine AJ ?_
 refine OD ?_
 iterate 2 refine DL rfl rfl ?_
 obtain ⟨OV, fF, h⟩ := AL h
 refine DL rfl (DK (cs := [.str OV.Attr, .str OV.Value]) fF rfl rfl rfl) ?_
 refine DL (p := AV OV) rfl rfl ?_
 iterate 2 refine DL rfl rfl ?_
 obtain ⟨WO, YF, h⟩ := AL h
 refine DL rfl (DK (cs := [.str WO.Attr, .str WO.Value]) YF rfl rfl rfl) ?_
 refine DL (p := AV WO) rfl rfl ?_
 refine DL (p := .bool (!(OV.Attr == WO.Attr && (OV.Value == WO.Value && true)))) rfl rfl ?_
 refine D8 h rfl (fun c3 h => ?_) (fun c3 h => ?_)
 refine AJ ?_
 refine AC ?_
 refine A7 rfl rfl ?_
 obtain rfl := AB h
 exact DU (st1 := ⟨AY [(4, .bool false)], AY []⟩) (cn rfl rfl rfl rfl) ⟨rfl, rfl⟩
 refine BF ?_
 refine AC ?_
 refine A7 (p := .int .i64 (BQ (v13l14 + (1 : Int)))) rfl rfl ?_
 refine A7 rfl rfl ?_
 exact ⟨(BQ (v13l14 + (1 : Int))), (cn rfl rfl rfl rfl), h⟩
 cases AB h
 exact CW (st1 := ⟨AY [], AY []⟩) (cn rfl rfl rfl rfl) ⟨rfl, rfl⟩
theorem Q5 (N : Nat) (a0 : List AP) (a1 : List AP) (r : Bool) (h : GJ N a0 a1 = some r) : Sat Tryz.prog 38 AO [.sl 2 (List.map AV a0), .sl 2 (List.map AV a1)] (.bool r) AO := by
 refine DT mixed Tryz.func38 Tq (rs := [.bool r]) rfl rfl ?_
 refine AJ ?_
 refine AC ?_
 refine A7 rfl rfl ?_
 iterate 2 refine AJ ?_
 refine AC ?_
 refine A7 rfl rfl ?_
 refine A7 rfl (BV rfl) ?_
 refine A7 rfl rfl ?_
 refine A7 rfl (BV rfl) ?_
 refine A7 rfl rfl ?_
 refine D8 h rfl (fun c1 h => ?_) (fun c1 h => ?_)
 refine AJ ?_
 refine AC ?_
 refine A7 rfl rfl ?_
 obtain rfl := AB h
 refine BS ?_
 exact ⟨nofun, rfl, rfl⟩
 refine BF ?_
 iterate 2 refine AJ ?_
 refine AC ?_
 refine A7 rfl rfl ?_
 refine A7 rfl (BV rfl) ?_
 refine A7 rfl rfl ?_
 refine C9 ?_
 obtain ⟨y4, hy4, h⟩ := AL h
 refine PT (OW N a0 a1 N _ _ hy4) (cn rfl rfl rfl rfl) ?_
 clear hy4
 rcases y4 with y4 | y4
 rintro e s ⟨rfl, rfl⟩
 refine AJ ?_
 refine AC ?_
 refine A7 rfl rfl ?_
 obtain rfl := AB h
 refine BS ?_
 exact ⟨nofun, rfl, rfl⟩
 rintro e s ⟨rfl, rfl⟩
 obtain rfl := AB h
 exact ⟨nofun, rfl, rfl⟩
def k12 : IC := (.seq (.reg [jn 2 (.box 28 (.t 0)), jn 3 (.box 28 (.t 1)), jc 4 (.bool false)]) (.seq (.reg [ja 6 12 2, jl 7 1 6, ja 8 12 3, jl 9 1 8, jn 10 (.call 35 [(.t 7), (.t 9), (.c (.clo 36 []))]), jm 5 10]) (.seq (.reg [ja 11 0 2, jg 12 3 11, ja 13 0 3, jg 14 3 13, jn 15 (.eqs false [(.i .i64), (.i .i64), (.i .i64)] (.t 12) (.t 14)), jm 16 15, jt 16 17 (.fda 3 (.t 2)), jt 16 18 (.load 1 false (.t 17)), jt 16 19 (.fda 3 (.t 3)), jt 16 20 (.load 1 false (.t 19)), jt 16 21 (.bin .eql (.t 18) (.t 20)), jp 22 16 21, jm 23 22, jt 23 24 (.fda 4 (.t 2)), jt 23 25 (.load 3 true (.t 24)), jt 23 26 (.fda 4 (.t 3)), jt 23 27 (.load 3 true (.t 26)), jt 23 28 (.eqs false [(.i .i64), (.i .i64), (.i .i64)] (.t 25) (.t 27)), jp 29 23 28, jm 30 29, jt 30 31 (.fda 7 (.t 2)), jt 30 32 (.load 3 true (.t 31)), jt 30 33 (.fda 7 (.t 3)), jt 30 34 (.load 3 true (.t 33)), jt 30 35 (.eqs false [(.i .i64), (.i .i64), (.i .i64)] (.t 32) (.t 34)), jp 36 30 35, jm 37 36, jt 37 38 (.fda 10 (.t 2)), jt 37 39 (.load 1 false (.t 38)), jt 37 40 (.fda 10 (.t 3)), jt 37 41 (.load 1 false (.t 40)), jt 37 42 (.call 38 [(.t 39), (.t 41)]), jp 43 37 42, jm 44 43, jt 44 45 (.fda 11 (.t 2)), jt 44 46 (.load 1 false (.t 45)), jt 44 47 (.fda 11 (.t 3)), jt 44 48 (.load 1 false (.t 47)), jt 44 49 (.beq false (.t 46) (.t 48)), jp 50 44 49, jm 51 50, jt 51 52 (.mov (.t 5)), jp 53 51 52, jm 4 53]) .ret)))
theorem Us : BX Tryz.prog Tryz.f12 = some ⟨54, k12, [(.tmp 4)]⟩ := by kernel_rfl
theorem XM (N : Nat) (a0 : AX) (a1 : AX) (r : Bool) (h : RV N a0 a1 = some r) : Sat Tryz.prog 12 AO [AQ a0, AQ a1] (.bool r) AO := by
 refine DT mixed Tryz.func12 Us (rs := [.bool r]) rfl rfl ?_
 refine AJ ?_
 refine AC ?_
 refine CS rfl (FZ 19202 rfl rfl rfl rfl rfl) ?_
 refine CS rfl (FZ 19203 rfl rfl rfl rfl rfl) ?_
 refine A7 rfl rfl ?_
 refine AJ ?_
 refine AC ?_
 iterate 4 refine A7 rfl rfl ?_
 obtain ⟨R9, VK, h⟩ := AL h
 refine CS rfl (CG (GI N _ _ _ VK) rfl (.cons A9 (.cons A9 (.cons A9 .nil))) rfl rfl rfl) ?_
 refine A7 rfl rfl ?_
 obtain ⟨g1, hg1, h⟩ := AL h
 refine F9 ⟨AY [(4, .bool g1)], AY []⟩ ?_ ?_
 have h := hg1
 refine AC ?_
 refine A7 rfl rfl ?_
 refine A7 (p := .agg [.int .i64 a0.CSN.Time, .int .i64 a0.CSN.Seq, .int .i64 a0.CSN.Rep]) rfl rfl ?_
 refine A7 rfl rfl ?_
 refine A7 (p := .agg [.int .i64 a1.CSN.Time, .int .i64 a1.CSN.Seq, .int .i64 a1.CSN.Rep]) rfl rfl ?_
 refine A7 (p := .bool (a0.CSN.Time == a1.CSN.Time && (a0.CSN.Seq == a1.CSN.Seq && (a0.CSN.Rep == a1.CSN.Rep && true)))) rfl rfl ?_
 refine A7 rfl rfl ?_
 rcases BO h with ⟨c2, h⟩ | ⟨c2, h⟩
 iterate 5 refine A7 (gy rfl c2) rfl ?_
 refine A7 rfl (BA c2 rfl rfl) ?_
 refine A7 rfl rfl ?_
 rcases BO h with ⟨c3, h⟩ | ⟨c3, h⟩
 refine A7 (gy rfl c3) rfl ?_
 refine A7 (p := .agg [.int .i64 a0.ID.Time, .int .i64 a0.ID.Seq, .int .i64 a0.ID.Rep]) (gy rfl c3) rfl ?_
 refine A7 (gy rfl c3) rfl ?_
 refine A7 (p := .agg [.int .i64 a1.ID.Time, .int .i64 a1.ID.Seq, .int .i64 a1.ID.Rep]) (gy rfl c3) rfl ?_
 refine A7 (p := .bool (a0.ID.Time == a1.ID.Time && (a0.ID.Seq == a1.ID.Seq && (a0.ID.Rep == a1.ID.Rep && true)))) (gy rfl c3) rfl ?_
 refine A7 rfl (BA c3 rfl rfl) ?_
 refine A7 rfl rfl ?_
 rcases BO h with ⟨c4, h⟩ | ⟨c4, h⟩
 refine A7 (gy rfl c4) rfl ?_
 refine A7 (p := .agg [.int .i64 a0.Parent.Time, .int .i64 a0.Parent.Seq, .int .i64 a0.Parent.Rep]) (gy rfl c4) rfl ?_
 refine A7 (gy rfl c4) rfl ?_
 refine A7 (p := .agg [.int .i64 a1.Parent.Time, .int .i64 a1.Parent.Seq, .int .i64 a1.Parent.Rep]) (gy rfl c4) rfl ?_
 refine A7 (p := .bool (a0.Parent.Time == a1.Parent.Time && (a0.Parent.Seq == a1.Parent.Seq && (a0.Parent.Rep == a1.Parent.Rep && true)))) (gy rfl c4) rfl ?_
 refine A7 rfl (BA c4 rfl rfl) ?_
 refine A7 rfl rfl ?_
 rcases BO h with ⟨c5, h⟩ | ⟨c5, h⟩
 iterate 4 refine A7 (gy rfl c5) rfl ?_
 obtain ⟨Jz, Ap, h⟩ := AL h
 refine CS (gy rfl c5) (CG (Q5 N _ _ _ Ap) rfl (.cons A9 (.cons A9 .nil)) rfl rfl rfl) ?_
 refine A7 rfl (BA c5 rfl rfl) ?_
 refine A7 rfl rfl ?_
 rcases BO h with ⟨c6, h⟩ | ⟨c6, h⟩
 iterate 5 refine A7 (gy rfl c6) rfl ?_
 refine A7 rfl (BA c6 rfl rfl) ?_
 refine A7 rfl rfl ?_
 rcases BO h with ⟨c7, h⟩ | ⟨c7, h⟩
 refine A7 (gy rfl c7) rfl ?_
 refine A7 rfl (BA c7 rfl rfl) ?_
 refine A7 rfl rfl ?_
 obtain rfl := AB h
 exact (cn rfl rfl rfl rfl)
 refine BK (gn rfl c7) ?_
 refine A7 rfl (AZ c7 rfl rfl) ?_
 refine A7 rfl rfl ?_
 obtain rfl := AB h
 exact (cn rfl rfl rfl rfl)
 iterate 5 refine BK (gn rfl c6) ?_
 refine A7 rfl (AZ c6 rfl rfl) ?_
 refine A7 rfl rfl ?_
 refine BK rfl ?_
 iterate 2 refine A7 rfl rfl ?_
 obtain rfl := AB h
 exact (cn rfl rfl rfl rfl)
 iterate 5 refine BK (gn rfl c5) ?_
 refine A7 rfl (AZ c5 rfl rfl) ?_
 refine A7 rfl rfl ?_
 iterate 5 refine BK rfl ?_
 iterate 2 refine A7 rfl rfl ?_
 refine BK rfl ?_
 iterate 2 refine A7 rfl rfl ?_
 obtain rfl := AB h
 exact (cn rfl rfl rfl rfl)
 iterate 5 refine BK (gn rfl c4) ?_
 refine A7 rfl (AZ c4 rfl rfl) ?_
 refine A7 rfl rfl ?_
 iterate 5 refine BK rfl ?_
 iterate 2 refine A7 rfl rfl ?_
 iterate 5 refine BK rfl ?_
 iterate 2 refine A7 rfl rfl ?_
 refine BK rfl ?_
 iterate 2 refine A7 rfl rfl ?_
 obtain rfl := AB h
 exact (cn rfl rfl rfl rfl)
 iterate 5 refine BK (gn rfl c3) ?_
 refine A7 rfl (AZ c3 rfl rfl) ?_
 refine A7 rfl rfl ?_
 iterate 5 refine BK rfl ?_
 iterate 2 refine A7 rfl rfl ?_
 iterate 5 refine BK rfl ?_
 iterate 2 refine A7 rfl rfl ?_
 iterate 5 refine BK rfl ?_
 iterate 2 refine A7 rfl rfl ?_
 refine BK rfl ?_
 iterate 2 refine A7 rfl rfl ?_
 obtain rfl := AB h
 exact (cn rfl rfl rfl rfl)
 iterate 5 refine BK (gn rfl c2) ?_
 refine A7 rfl (AZ c2 rfl rfl) ?_
 refine A7 rfl rfl ?_
 iterate 5 refine BK rfl ?_
 iterate 2 refine A7 rfl rfl ?_
 iterate 5 refine BK rfl ?_
 iterate 2 refine A7 rfl rfl ?_
 iterate 5 refine BK rfl ?_
 iterate 2 refine A7 rfl rfl ?_
 iterate 5 refine BK rfl ?_
 iterate 2 refine A7 rfl rfl ?_
 refine BK rfl ?_
 iterate 2 refine A7 rfl rfl ?_
 obtain rfl := AB h
 exact (cn rfl rfl rfl rfl)
 clear hg1
 obtain rfl := AB h
 refine BS ?_
 exact ⟨nofun, rfl, rfl⟩
end Go.Gp
end
section
set_option linter.unusedVariables false
set_option linter.unusedSimpArgs false
set_option maxRecDepth 4000
set_option maxHeartbeats 4000000
namespace Go.Gp
open Go.Vd Go.RowKit Go.Proofs
def k7 : IC := (.seq (.reg [jc 0 (.bool false)]) (.seq (.reg [jn 10 (.build [(j6 0), (j6 0), (j6 0)] [(0, (1, (ji 2)))]), jn 11 (.build [(j6 0), (j6 0), (j6 0)] [(0, (1, (ji 1)))]), jn 12 (.build [(j6 0), (j6 0), (j6 0), (j6 0), (j6 0), (j6 0), (j6 0), (j6 0), (j6 0), (j6 0), .nl, (.bool false), .nl] [(0, (3, (.t 10))), (3, (1, (ji 2))), (4, (3, (.t 11)))]), jn 1 (.box 28 (.c (.agg [(j6 0), (j6 0), (j6 0), (j6 0), (j6 0), (j6 0), (j6 0), (j6 0), (j6 0), (j6 0), .nl, (.bool false), .nl]))), js 13 1 12]) (.seq (.reg [jg 14 13 1, jn 15 (.call 9 [(.t 14)]), jm 13 15, je 16 0 13, je 17 1 13, jm 2 16, jm 3 17]) (.seq (.reg [jm 19 2, jn 20 (.call 16 [(.t 19)]), jm 18 20, je 21 0 18, je 22 1 18, jn 4 (.box 28 (.c (.agg [(j6 0), (j6 0), (j6 0), (j6 0), (j6 0), (j6 0), (j6 0), (j6 0), (j6 0), (j6 0), .nl, (.bool false), .nl]))), js 13 4 21, jm 5 22]) (.seq (.reg [jn 24 (.build [(j6 0), (j6 0), (j6 0), (j6 0), (j6 0), (j6 0), (j6 0), (j6 0), (j6 0), (j6 0), .nl, (.bool false), .nl] []), jn 25 (.call 9 [(.t 24)]), jm 23 25, je 26 0 23, je 27 1 23, jm 6 26, jm 7 27]) (.seq (.reg [jn 29 (.call 16 [(.c (.str []))]), jm 28 29, je 30 0 28, je 31 1 28, jn 8 (.box 28 (.c (.agg [(j6 0), (j6 0), (j6 0), (j6 0), (j6 0), (j6 0), (j6 0), (j6 0), (j6 0), (j6 0), .nl, (.bool false), .nl]))), js 13 8 30, jm 9 31]) (.seq (.regd 35 [jm 32 3, ju .eql 33 32 0, jm 34 33, jt 34 35 (.mov (.t 5)), jt 34 36 (.bin .eql (.t 35) (ji 0)), jp 37 34 36, jm 38 37, jt 38 39 (.load 13 true (.t 1)), jt 38 40 (.load 13 true (.t 4)), jt 38 41 (.call 13 [(.t 39), (.t 40)]), jp 42 38 41, jm 43 42, jt 43 44 (.mov (.t 7)), jt 43 45 (.bin .eql (.t 44) (ji 14)), jp 46 43 45, jm 47 46, jt 47 48 (.mov (.t 9)), jt 47 49 (.bin .eql (.t 48) (ji 14)), jp 50 47 49, jm 51 50, jt 51 52 (.load 13 true (.t 1)), jt 51 53 (.call 10 [(.t 52)]), jp 54 51 53, jm 55 54, jt 55 56 (.build [(j6 0), (j6 0), (j6 0), (j6 0), (j6 0), (j6 0), (j6 0), (j6 0), (j6 0), (j6 0), .nl, (.bool false), .nl] []), jt 55 57 (.call 10 [(.t 56)]), jt 55 58 (.un .not (.t 57)), jp 59 55 58, jm 60 59, jt 60 61 (.load 13 true (.t 1)), jt 60 62 (.load 13 true (.t 1)), jt 60 63 (.call 15 [(.t 62)]), jt 60 64 (.call 12 [(.t 61), (.t 63)]), jp 65 60 64, jm 0 65]) .ret)))))))
theorem k7_cf : BX Tryz.prog Tryz.f7 = some ⟨66, k7, [(.tmp 0)]⟩ := by kernel_rfl
theorem X6 (N : Nat)  (r : Bool) (h : OY N  = some r) : Sat Tryz.prog 7 AO [] (.bool r) AO := by
 refine DT mixed Tryz.func7 k7_cf (rs := [.bool r]) rfl rfl ?_
 refine AJ ?_
 refine AC ?_
 refine A7 rfl rfl ?_
 refine AJ ?_
 refine AC ?_
 refine A7 (p := .agg [.int .i64 2, .int .i64 0, .int .i64 0]) rfl rfl ?_
 refine A7 (p := .agg [.int .i64 1, .int .i64 0, .int .i64 0]) rfl rfl ?_
 refine A7 (p := .agg [.int .i64 2, .int .i64 0, .int .i64 0, .int .i64 2, .int .i64 1, .int .i64 0, .int .i64 0, .int .i64 0, .int .i64 0, .int .i64 0, .nl, .bool false, .nl]) rfl rfl ?_
 refine Br (KN 12 (LM (.cons A9 (.cons A9 (.cons A9 (.cons A9 (.cons A9 (.cons A9 (.cons A9 (.cons A9 (.cons A9 (.cons A9 (.cons (FV 2) (.cons A9 (.cons (FV 3) .nil))))))))))))) rfl) rfl) ?_
 refine CS rfl (FZ 11201 rfl rfl rfl rfl rfl) ?_
 refine F3 (e' := .agg [.int .i64 2, .int .i64 0, .int .i64 0, .int .i64 2, .int .i64 1, .int .i64 0, .int .i64 0, .int .i64 0, .int .i64 0, .int .i64 0, .sl 2 (List.map AV []), .bool false, .sl 3 (List.map AU [])]) rfl rfl rfl rfl rfl rfl rfl rfl nofun rfl ?_
 refine AJ ?_
 refine AC ?_
 refine A7 (p := .agg [.int .i64 2, .int .i64 0, .int .i64 0, .int .i64 2, .int .i64 1, .int .i64 0, .int .i64 0, .int .i64 0, .int .i64 0, .int .i64 0, .sl 2 (List.map AV []), .bool false, .sl 3 (List.map AU [])]) rfl rfl ?_
 obtain ⟨N7, SE, h⟩ := AL h
 refine CS rfl (CG (NW N _ _ SE) rfl (.cons A9 .nil) rfl rfl rfl) ?_
 iterate 5 refine A7 rfl rfl ?_
 refine AJ ?_
 refine AC ?_
 refine A7 rfl rfl ?_
 obtain ⟨x20, aU, h⟩ := AL h
 refine CS rfl (CG (XN N _ _ aU) rfl (.cons A9 .nil) rfl rfl rfl) ?_
 iterate 3 refine A7 rfl rfl ?_
 refine CS rfl (FZ 11204 rfl rfl rfl rfl rfl) ?_
 refine F3 (e' := AQ x20.1) rfl rfl rfl rfl rfl rfl rfl rfl nofun rfl ?_
 refine A7 rfl rfl ?_
 refine AJ ?_
 refine AC ?_
 refine A7 (p := .agg [.int .i64 0, .int .i64 0, .int .i64 0, .int .i64 0, .int .i64 0, .int .i64 0, .int .i64 0, .int .i64 0, .int .i64 0, .int .i64 0, .nl, .bool false, .nl]) rfl rfl ?_
 refine Br (KN 24 (LM (.cons A9 (.cons A9 (.cons A9 (.cons A9 (.cons A9 (.cons A9 (.cons A9 (.cons A9 (.cons A9 (.cons A9 (.cons (FV 2) (.cons A9 (.cons (FV 3) .nil))))))))))))) rfl) rfl) ?_
 obtain ⟨x25, hx25, h⟩ := AL h
 refine CS rfl (CG (NW N _ _ hx25) rfl (.cons A9 .nil) rfl rfl rfl) ?_
 iterate 5 refine A7 rfl rfl ?_
 refine AJ ?_
 refine UI (cn (st := _) (l := [(1, .ptr 11201 0 0), (3, .int .i64 N7.2), (4, .ptr 11204 0 0), (5, .int .i64 x20.2), (7, .int .i64 x25.2)]) (m := [(11201, ⟨13, false, [.agg [.int .i64 2, .int .i64 0, .int .i64 0, .int .i64 2, .int .i64 1, .int .i64 0, .int .i64 0, .int .i64 0, .int .i64 0, .int .i64 0, .sl 2 (List.map AV []), .bool false, .sl 3 (List.map AU [])]]⟩), (11204, ⟨13, false, [AQ x20.1]⟩)]) rfl rfl rfl rfl) ?_
 refine AC ?_
 obtain ⟨x29, hx29, h⟩ := AL h
 refine CS rfl (CG (XN N _ _ hx29) rfl (.cons A9 .nil) rfl rfl rfl) ?_
 iterate 3 refine A7 rfl rfl ?_
 refine CS rfl (FZ 11208 rfl rfl rfl rfl rfl) ?_
 refine F3 (e' := AQ x29.1) rfl rfl rfl rfl rfl rfl rfl rfl nofun rfl ?_
 refine A7 rfl rfl ?_
 obtain ⟨g1, hg1, h⟩ := AL h
 refine F9 ⟨AY [(0, .bool g1)], AY []⟩ ?_ ?_
 have h := hg1
 refine OD ?_
 iterate 3 refine DL rfl rfl ?_
 rcases BO h with ⟨c2, h⟩ | ⟨c2, h⟩
 iterate 2 refine DL (gy rfl c2) rfl ?_
 refine DL rfl (BA c2 rfl rfl) ?_
 refine DL rfl rfl ?_
 rcases BO h with ⟨c3, h⟩ | ⟨c3, h⟩
 refine DL (p := .agg [.int .i64 2, .int .i64 0, .int .i64 0, .int .i64 2, .int .i64 1, .int .i64 0, .int .i64 0, .int .i64 0, .int .i64 0, .int .i64 0, .sl 2 (List.map AV []), .bool false, .sl 3 (List.map AU [])]) (gy rfl c3) rfl ?_
 refine DL (p := AQ x20.1) (gy rfl c3) rfl ?_
 obtain ⟨x41, oN, h⟩ := AL h
 refine TF (gy rfl c3) (MP (MU N _ _ _ oN) rfl (.cons A9 (.cons A9 .nil)) rfl rfl rfl) CP ?_
 refine DL rfl (BA c3 rfl rfl) ?_
 refine DL rfl rfl ?_
 rcases BO h with ⟨c4, h⟩ | ⟨c4, h⟩
 iterate 2 refine DL (gy rfl c4) rfl ?_
 refine DL rfl (BA c4 rfl rfl) ?_
 refine DL rfl rfl ?_
 rcases BO h with ⟨c5, h⟩ | ⟨c5, h⟩
 iterate 2 refine DL (gy rfl c5) rfl ?_
 refine DL rfl (BA c5 rfl rfl) ?_
 refine DL rfl rfl ?_
 rcases BO h with ⟨c6, h⟩ | ⟨c6, h⟩
 refine DL (p := .agg [.int .i64 2, .int .i64 0, .int .i64 0, .int .i64 2, .int .i64 1, .int .i64 0, .int .i64 0, .int .i64 0, .int .i64 0, .int .i64 0, .sl 2 (List.map AV []), .bool false, .sl 3 (List.map AU [])]) (gy rfl c6) rfl ?_
 obtain ⟨x53, hx53, h⟩ := AL h
 refine TF (gy rfl c6) (MP (RA N _ _ hx53) rfl (.cons A9 .nil) rfl rfl rfl) CP ?_
 refine DL rfl (BA c6 rfl rfl) ?_
 refine DL rfl rfl ?_
 rcases BO h with ⟨c7, h⟩ | ⟨c7, h⟩
 refine DL (p := .agg [.int .i64 0, .int .i64 0, .int .i64 0, .int .i64 0, .int .i64 0, .int .i64 0, .int .i64 0, .int .i64 0, .int .i64 0, .int .i64 0, .nl, .bool false, .nl]) (gy rfl c7) rfl ?_
 obtain ⟨x57, Vn, h⟩ := AL h
 refine TF (gy rfl c7) (MP (RA N _ _ Vn) rfl (.cons (LM (.cons A9 (.cons A9 (.cons A9 (.cons A9 (.cons A9 (.cons A9 (.cons A9 (.cons A9 (.cons A9 (.cons A9 (.cons (FV 2) (.cons A9 (.cons (FV 3) .nil))))))))))))) rfl) .nil) rfl rfl rfl) CP ?_
 refine DL (gy rfl c7) rfl ?_
 refine DL rfl (BA c7 rfl rfl) ?_
 refine DL rfl rfl ?_
 rcases BO h with ⟨c8, h⟩ | ⟨c8, h⟩
 iterate 2 refine DL (p := .agg [.int .i64 2, .int .i64 0, .int .i64 0, .int .i64 2, .int .i64 1, .int .i64 0, .int .i64 0, .int .i64 0, .int .i64 0, .int .i64 0, .sl 2 (List.map AV []), .bool false, .sl 3 (List.map AU [])]) (gy rfl c8) rfl ?_
 obtain ⟨x63, Vk, h⟩ := AL h
 refine TF (gy rfl c8) (MP (gN N _ _ Vk) rfl (.cons A9 .nil) rfl rfl rfl) CP ?_
 obtain ⟨x64, Vj, h⟩ := AL h
 refine TF (gy rfl c8) (MP (XM N _ _ _ Vj) rfl (.cons A9 (.cons A9 .nil)) rfl rfl rfl) CP ?_
 refine DL rfl (BA c8 rfl rfl) ?_
 refine DL rfl rfl ?_
 obtain rfl := AB h
 exact (cn rfl rfl rfl rfl)
 iterate 4 refine ZT (gn rfl c8) ?_
 refine DL rfl (AZ c8 rfl rfl) ?_
 refine DL rfl rfl ?_
 obtain rfl := AB h
 exact (cn rfl rfl rfl rfl)
 iterate 3 refine ZT (gn rfl c7) ?_
 refine DL rfl (AZ c7 rfl rfl) ?_
 refine DL rfl rfl ?_
 iterate 4 refine ZT rfl ?_
 iterate 2 refine DL rfl rfl ?_
 obtain rfl := AB h
 exact (cn rfl rfl rfl rfl)
 iterate 2 refine ZT (gn rfl c6) ?_
 refine DL rfl (AZ c6 rfl rfl) ?_
 refine DL rfl rfl ?_
 iterate 3 refine ZT rfl ?_
 iterate 2 refine DL rfl rfl ?_
 iterate 4 refine ZT rfl ?_
 iterate 2 refine DL rfl rfl ?_
 obtain rfl := AB h
 exact (cn rfl rfl rfl rfl)
 iterate 2 refine ZT (gn rfl c5) ?_
 refine DL rfl (AZ c5 rfl rfl) ?_
 refine DL rfl rfl ?_
 iterate 2 refine ZT rfl ?_
 iterate 2 refine DL rfl rfl ?_
 iterate 3 refine ZT rfl ?_
 iterate 2 refine DL rfl rfl ?_
 iterate 4 refine ZT rfl ?_
 iterate 2 refine DL rfl rfl ?_
 obtain rfl := AB h
 exact (cn rfl rfl rfl rfl)
 iterate 2 refine ZT (gn rfl c4) ?_
 refine DL rfl (AZ c4 rfl rfl) ?_
 refine DL rfl rfl ?_
 iterate 2 refine ZT rfl ?_
 iterate 2 refine DL rfl rfl ?_
 iterate 2 refine ZT rfl ?_
 iterate 2 refine DL rfl rfl ?_
 iterate 3 refine ZT rfl ?_
 iterate 2 refine DL rfl rfl ?_
 iterate 4 refine ZT rfl ?_
 iterate 2 refine DL rfl rfl ?_
 obtain rfl := AB h
 exact (cn rfl rfl rfl rfl)
 iterate 3 refine ZT (gn rfl c3) ?_
 refine DL rfl (AZ c3 rfl rfl) ?_
 refine DL rfl rfl ?_
 iterate 2 refine ZT rfl ?_
 iterate 2 refine DL rfl rfl ?_
 iterate 2 refine ZT rfl ?_
 iterate 2 refine DL rfl rfl ?_
 iterate 2 refine ZT rfl ?_
 iterate 2 refine DL rfl rfl ?_
 iterate 3 refine ZT rfl ?_
 iterate 2 refine DL rfl rfl ?_
 iterate 4 refine ZT rfl ?_
 iterate 2 refine DL rfl rfl ?_
 obtain rfl := AB h
 exact (cn rfl rfl rfl rfl)
 iterate 2 refine ZT (gn rfl c2) ?_
 refine DL rfl (AZ c2 rfl rfl) ?_
 refine DL rfl rfl ?_
 iterate 3 refine ZT rfl ?_
 iterate 2 refine DL rfl rfl ?_
 iterate 2 refine ZT rfl ?_
 iterate 2 refine DL rfl rfl ?_
 iterate 2 refine ZT rfl ?_
 iterate 2 refine DL rfl rfl ?_
 iterate 2 refine ZT rfl ?_
 iterate 2 refine DL rfl rfl ?_
 iterate 3 refine ZT rfl ?_
 iterate 2 refine DL rfl rfl ?_
 iterate 4 refine ZT rfl ?_
 iterate 2 refine DL rfl rfl ?_
 obtain rfl := AB h
 exact (cn rfl rfl rfl rfl)
 clear hg1
 obtain rfl := AB h
 refine BS ?_
 exact ⟨nofun, rfl, rfl⟩
end Go.Gp
end
section
set_option linter.unusedVariables false
set_option linter.unusedSimpArgs false
set_option maxRecDepth 4000
namespace Go.Gp
open Go.Vd Go.RowKit Go.Proofs
def xX : IC := (.seq (.seq (.reg [jm 27 4, jm 28 0, jm 29 3, jx 30 3 28 29, ja 31 2 30, jl 32 1 31, jL 33 32, jb .lss 34 27 33]) (.cond (.t 34) .skip (.exit 2))) (.seq (.block 3 (.seq (.reg [jm 37 0, jm 38 3, jx 39 3 37 38, ja 40 2 39, jl 41 1 40, jm 42 4, jx 43 1 41 42, jl 44 1 43, jS 45 44, ju .gtr 46 45 80]) (.cond (.t 46) (.seq (.reg [jc 2 (.bool false)]) .ret) .skip))) (.reg [jm 35 4, ju .add 36 35 1, jm 4 36])))
def Fh : IC := (.seq (.seq (.reg [jm 5 3, jm 6 0, jL 7 6, jb .lss 8 5 7]) (.cond (.t 8) .skip (.exit 0))) (.seq (.block 1 (.seq (.seq (.reg [jm 11 0, jm 12 3, jx 13 3 11 12, ja 14 1 13, jl 15 1 14, jS 16 15, ju .gtr 17 16 30, jm 18 17, jf 18 19 (.mov (.t 0)), jf 18 20 (.mov (.t 3)), jf 18 21 (.ixp 3 (.t 19) (.t 20)), jf 18 22 (.fda 2 (.t 21)), jf 18 23 (.load 1 false (.t 22)), jf 18 24 (.len false (.t 23)), jf 18 25 (.bin .gtr (.t 24) (ji 20)), jo 26 18 25]) (.cond (.t 26) (.seq (.reg [jc 2 (.bool false)]) .ret) .skip)) (.seq (.reg [jc 4 (j6 0)]) (.block 2 (.loop xX))))) (.reg [jm 9 3, ju .add 10 9 1, jm 3 10])))
def k17 : IC := (.seq (.reg [jc 2 (.bool false)]) (.seq (.seq (.reg [jc 3 (j6 0)]) (.block 0 (.loop Fh))) (.seq (.reg [jm 47 0, jL 48 47, ju .leq 49 48 14, jm 2 49]) .ret)))
theorem Un : BX Tryz.prog Tryz.f17 = some ⟨50, k17, [(.tmp 2)]⟩ := by kernel_rfl
theorem TL (N : Nat) (a0 : List BC) (v3l6 : Int) : ∀ (n : Nat) (x : Int) (y : Unit ⊕ Bool), ET N a0 v3l6 n x = some y → WX Tryz.prog (fun _ => false) (.loop xX) ((fun (x : Int) => ⟨AY [(0, .sl 3 (List.map AU a0)), (3, .int .i64 v3l6), (4, .int .i64 x)], AY []⟩) x) ((Sum.elim (fun y e s => e = .exit 2 ∧ s = ⟨AY [(0, .sl 3 (List.map AU a0)), (3, .int .i64 v3l6)], AY []⟩) (fun y e s => e = .ret ∧ s = ⟨AY [(2, .bool y)], AY []⟩) : (Unit ⊕ Bool) → Xt → St → Prop) y) := by
 refine EQ _ _ (ET N a0 v3l6) (H5 N a0 v3l6) (fun _ => rfl) (fun _ _ => rfl) ?_
 rintro rec v4l26 y h
 iterate 2 refine AJ ?_
 refine AC ?_
 iterate 3 refine A7 rfl rfl ?_
 obtain ⟨x30, oO, h⟩ := AL h
 refine A7 rfl (DK (cs := [.int .i64 x30.Kind, .str x30.Attr, .sl 1 (List.map PV.str x30.Values)]) oO rfl rfl rfl) ?_
 refine A7 (p := .ep [.sl 1 (List.map PV.str x30.Values)]) rfl rfl ?_
 refine A7 rfl rfl ?_
 refine A7 rfl (BV rfl) ?_
 refine A7 rfl rfl ?_
 refine D8 h rfl (fun c5 h => ?_) (fun c5 h => ?_)
 refine BF ?_
 refine AJ ?_
 refine C9 ?_
 refine AJ ?_
 refine AC ?_
 iterate 2 refine A7 rfl rfl ?_
 obtain ⟨x39, hx39, h⟩ := AL h
 refine A7 rfl (DK (cs := [.int .i64 x39.Kind, .str x39.Attr, .sl 1 (List.map PV.str x39.Values)]) hx39 rfl rfl rfl) ?_
 refine A7 (p := .ep [.sl 1 (List.map PV.str x39.Values)]) rfl rfl ?_
 iterate 2 refine A7 rfl rfl ?_
 obtain ⟨x43, Vr, h⟩ := AL h
 refine A7 rfl (DK (cs := [.str x43]) Vr rfl rfl rfl) ?_
 iterate 3 refine A7 rfl rfl ?_
 refine D8 h rfl (fun c6 h => ?_) (fun c6 h => ?_)
 refine AJ ?_
 refine AC ?_
 refine A7 rfl rfl ?_
 obtain rfl := AB h
 exact DU (st1 := ⟨AY [(2, .bool false)], AY []⟩) (cn rfl rfl rfl rfl) ⟨rfl, rfl⟩
 refine BF ?_
 refine AC ?_
 refine A7 rfl rfl ?_
 refine A7 (p := .int .i64 (BQ (v4l26 + (1 : Int)))) rfl rfl ?_
 refine A7 rfl rfl ?_
 exact ⟨(BQ (v4l26 + (1 : Int))), (cn rfl rfl rfl rfl), h⟩
 cases AB h
 exact CW (st1 := ⟨AY [(0, .sl 3 (List.map AU a0)), (3, .int .i64 v3l6)], AY []⟩) (cn rfl rfl rfl rfl) ⟨rfl, rfl⟩
theorem UF (N : Nat) (a0 : List BC) : ∀ (n : Nat) (x : Int) (y : Unit ⊕ Bool), F5 N a0 n x = some y → WX Tryz.prog (fun _ => false) (.loop Fh) ((fun (x : Int) => ⟨AY [(0, .sl 3 (List.map AU a0)), (3, .int .i64 x)], AY []⟩) x) ((Sum.elim (fun y e s => e = .exit 0 ∧ s = ⟨AY [(0, .sl 3 (List.map AU a0))], AY []⟩) (fun y e s => e = .ret ∧ s = ⟨AY [(2, .bool y)], AY []⟩) : (Unit ⊕ Bool) → Xt → St → Prop) y) := by
 refine EQ _ _ (F5 N a0) (I1 N a0) (fun _ => rfl) (fun _ _ => rfl) ?_
 rintro rec v3l6 y h
 iterate 2 refine AJ ?_
 refine AC ?_
 iterate 2 refine A7 rfl rfl ?_
 refine A7 rfl (BV rfl) ?_
 refine A7 rfl rfl ?_
 refine D8 h rfl (fun c1 h => ?_) (fun c1 h => ?_)
 refine BF ?_
 refine AJ ?_
 refine C9 ?_
 refine AJ ?_
 obtain ⟨g2, hg2, h⟩ := AL h
 refine F9 ⟨AY [(0, .sl 3 (List.map AU a0)), (3, .int .i64 v3l6), (26, .bool g2)], AY []⟩ ?_ ?_
 have h := hg2
 refine AC ?_
 iterate 2 refine A7 rfl rfl ?_
 obtain ⟨MF, aV, h⟩ := AL h
 refine A7 rfl (DK (cs := [.int .i64 MF.Kind, .str MF.Attr, .sl 1 (List.map PV.str MF.Values)]) aV rfl rfl rfl) ?_
 refine A7 (p := .ep [.str MF.Attr, .sl 1 (List.map PV.str MF.Values)]) rfl rfl ?_
 iterate 4 refine A7 rfl rfl ?_
 rcases BO h with ⟨c3, h⟩ | ⟨c3, h⟩
 iterate 7 refine BK (gn rfl c3) ?_
 refine A7 rfl (BA c3 rfl rfl) ?_
 obtain rfl := AB h
 exact (cn rfl rfl rfl rfl)
 iterate 2 refine A7 (gy rfl c3) rfl ?_
 obtain ⟨V3, YG, h⟩ := AL h
 refine A7 (gy rfl c3) (DK (cs := [.int .i64 V3.Kind, .str V3.Attr, .sl 1 (List.map PV.str V3.Values)]) YG rfl rfl rfl) ?_
 refine A7 (p := .ep [.sl 1 (List.map PV.str V3.Values)]) (gy rfl c3) rfl ?_
 refine A7 (gy rfl c3) rfl ?_
 refine A7 (gy rfl c3) (BV rfl) ?_
 refine A7 (gy rfl c3) rfl ?_
 refine A7 rfl (AZ c3 rfl rfl) ?_
 cases AB h
 exact (cn rfl rfl rfl rfl)
 clear hg2
 refine D8 h rfl (fun c4 h => ?_) (fun c4 h => ?_)
 refine AJ ?_
 refine AC ?_
 refine A7 rfl rfl ?_
 obtain rfl := AB h
 exact DU (st1 := ⟨AY [(2, .bool false)], AY []⟩) (cn rfl rfl rfl rfl) ⟨rfl, rfl⟩
 refine BF ?_
 refine AJ ?_
 refine AC ?_
 refine A7 rfl rfl ?_
 refine C9 ?_
 obtain ⟨y7, hy7, h⟩ := AL h
 refine PT (TL N a0 v3l6 N _ _ hy7) (cn rfl rfl rfl rfl) ?_
 clear hy7
 rcases y7 with y7 | y7
 rintro e s ⟨rfl, rfl⟩
 refine AC ?_
 refine A7 rfl rfl ?_
 refine A7 (p := .int .i64 (BQ (v3l6 + (1 : Int)))) rfl rfl ?_
 refine A7 rfl rfl ?_
 exact ⟨(BQ (v3l6 + (1 : Int))), (cn rfl rfl rfl rfl), h⟩
 rintro e s ⟨rfl, rfl⟩
 obtain rfl := AB h
 exact ⟨rfl, rfl⟩
 cases AB h
 exact CW (st1 := ⟨AY [(0, .sl 3 (List.map AU a0))], AY []⟩) (cn rfl rfl rfl rfl) ⟨rfl, rfl⟩
theorem VD (N : Nat) (a0 : List BC) (r : Bool) (h : NL N a0 = some r) : Sat Tryz.prog 17 AO [.sl 3 (List.map AU a0)] (.bool r) AO := by
 refine DT mixed Tryz.func17 Un (rs := [.bool r]) rfl rfl ?_
 refine AJ ?_
 refine AC ?_
 refine A7 rfl rfl ?_
 iterate 2 refine AJ ?_
 refine AC ?_
 refine A7 rfl rfl ?_
 refine C9 ?_
 obtain ⟨y8, Am, h⟩ := AL h
 refine PT (UF N a0 N _ _ Am) (cn rfl rfl rfl rfl) ?_
 clear Am
 rcases y8 with y8 | y8
 rintro e s ⟨rfl, rfl⟩
 refine AJ ?_
 refine AC ?_
 refine A7 rfl rfl ?_
 refine A7 rfl (BV rfl) ?_
 iterate 2 refine A7 rfl rfl ?_
 cases AB h
 refine BS ?_
 exact ⟨nofun, rfl, rfl⟩
 rintro e s ⟨rfl, rfl⟩
 obtain rfl := AB h
 exact ⟨nofun, rfl, rfl⟩
def Fg : IC := (.seq (.seq (.reg [jm 4 3, jm 5 0, jL 6 5, jb .lss 7 4 6]) (.cond (.t 7) .skip (.exit 0))) (.seq (.block 1 (.seq (.reg [jm 10 0, jm 11 3, jx 12 2 10 11, ja 13 0 12, jl 14 1 13, jS 15 14, ju .gtr 16 15 30, jm 17 16, jf 17 18 (.mov (.t 0)), jf 17 19 (.mov (.t 3)), jf 17 20 (.ixp 2 (.t 18) (.t 19)), jf 17 21 (.fda 1 (.t 20)), jf 17 22 (.load 1 false (.t 21)), jf 17 23 (.len true (.t 22)), jf 17 24 (.bin .gtr (.t 23) (ji 80)), jo 25 17 24]) (.cond (.t 25) (.seq (.reg [jc 2 (.bool false)]) .ret) .skip))) (.reg [jm 8 3, ju .add 9 8 1, jm 3 9])))
def k18 : IC := (.seq (.reg [jc 2 (.bool false)]) (.seq (.seq (.reg [jc 3 (j6 0)]) (.block 0 (.loop Fg))) (.seq (.reg [jm 26 0, jL 27 26, ju .leq 28 27 6, jm 2 28]) .ret)))
theorem Um : BX Tryz.prog Tryz.f18 = some ⟨29, k18, [(.tmp 2)]⟩ := by kernel_rfl
theorem V5 (N : Nat) (a0 : List AP) : ∀ (n : Nat) (x : Int) (y : Unit ⊕ Bool), FH N a0 n x = some y → WX Tryz.prog (fun _ => false) (.loop Fg) ((fun (x : Int) => ⟨AY [(0, .sl 2 (List.map AV a0)), (3, .int .i64 x)], AY []⟩) x) ((Sum.elim (fun y e s => e = .exit 0 ∧ s = ⟨AY [(0, .sl 2 (List.map AV a0))], AY []⟩) (fun y e s => e = .ret ∧ s = ⟨AY [(2, .bool y)], AY []⟩) : (Unit ⊕ Bool) → Xt → St → Prop) y) := by
 refine EQ _ _ (FH N a0) (II N a0) (fun _ => rfl) (fun _ _ => rfl) ?_
 rintro rec v3l6 y h
 iterate 2 refine AJ ?_
 refine AC ?_
 iterate 2 refine A7 rfl rfl ?_
 refine A7 rfl (BV rfl) ?_
 refine A7 rfl rfl ?_
 refine D8 h rfl (fun c1 h => ?_) (fun c1 h => ?_)
 refine BF ?_
 refine AJ ?_
 refine C9 ?_
 obtain ⟨g2, hg2, h⟩ := AL h
 refine F9 ⟨AY [(0, .sl 2 (List.map AV a0)), (3, .int .i64 v3l6), (25, .bool g2)], AY []⟩ ?_ ?_
 have h := hg2
 refine AC ?_
 iterate 2 refine A7 rfl rfl ?_
 obtain ⟨IP, YI, h⟩ := AL h
 refine A7 rfl (DK (cs := [.str IP.Attr, .str IP.Value]) YI rfl rfl rfl) ?_
 refine A7 (p := .ep [.str IP.Attr, .str IP.Value]) rfl rfl ?_
 iterate 4 refine A7 rfl rfl ?_
 rcases BO h with ⟨c3, h⟩ | ⟨c3, h⟩
 iterate 7 refine BK (gn rfl c3) ?_
 refine A7 rfl (BA c3 rfl rfl) ?_
 obtain rfl := AB h
 exact (cn rfl rfl rfl rfl)
 iterate 2 refine A7 (gy rfl c3) rfl ?_
 obtain ⟨x20, aU, h⟩ := AL h
 refine A7 (gy rfl c3) (DK (cs := [.str x20.Attr, .str x20.Value]) aU rfl rfl rfl) ?_
 refine A7 (p := .ep [.str x20.Value]) (gy rfl c3) rfl ?_
 iterate 3 refine A7 (gy rfl c3) rfl ?_
 refine A7 rfl (AZ c3 rfl rfl) ?_
 cases AB h
 exact (cn rfl rfl rfl rfl)
 clear hg2
 refine D8 h rfl (fun c4 h => ?_) (fun c4 h => ?_)
 refine AJ ?_
 refine AC ?_
 refine A7 rfl rfl ?_
 obtain rfl := AB h
 exact DU (st1 := ⟨AY [(2, .bool false)], AY []⟩) (cn rfl rfl rfl rfl) ⟨rfl, rfl⟩
 refine BF ?_
 refine AC ?_
 refine A7 rfl rfl ?_
 refine A7 (p := .int .i64 (BQ (v3l6 + (1 : Int)))) rfl rfl ?_
 refine A7 rfl rfl ?_
 exact ⟨(BQ (v3l6 + (1 : Int))), (cn rfl rfl rfl rfl), h⟩
 cases AB h
 exact CW (st1 := ⟨AY [(0, .sl 2 (List.map AV a0))], AY []⟩) (cn rfl rfl rfl rfl) ⟨rfl, rfl⟩
theorem WB (N : Nat) (a0 : List AP) (r : Bool) (h : OA N a0 = some r) : Sat Tryz.prog 18 AO [.sl 2 (List.map AV a0)] (.bool r) AO := by
 refine DT mixed Tryz.func18 Um (rs := [.bool r]) rfl rfl ?_
 refine AJ ?_
 refine AC ?_
 refine A7 rfl rfl ?_
 iterate 2 refine AJ ?_
 refine AC ?_
 refine A7 rfl rfl ?_
 refine C9 ?_
 obtain ⟨y5, Kb, h⟩ := AL h
 refine PT (V5 N a0 N _ _ Kb) (cn rfl rfl rfl rfl) ?_
 clear Kb
 rcases y5 with y5 | y5
 rintro e s ⟨rfl, rfl⟩
 refine AJ ?_
 refine AC ?_
 refine A7 rfl rfl ?_
 refine A7 rfl (BV rfl) ?_
 iterate 2 refine A7 rfl rfl ?_
 cases AB h
 refine BS ?_
 exact ⟨nofun, rfl, rfl⟩
 rintro e s ⟨rfl, rfl⟩
 obtain rfl := AB h
 exact ⟨nofun, rfl, rfl⟩
def k8 : IC := (.seq (.reg [jn 1 (.box 28 (.t 0)), jc 2 (.bool false)]) (.seq (.reg [ja 3 12 1, jl 4 1 3, jn 5 (.call 17 [(.t 4)]), jm 6 5, jt 6 7 (.fda 10 (.t 1)), jt 6 8 (.load 1 false (.t 7)), jt 6 9 (.call 18 [(.t 8)]), jp 10 6 9, jm 2 10]) .ret))
theorem k8_cf : BX Tryz.prog Tryz.f8 = some ⟨11, k8, [(.tmp 2)]⟩ := by kernel_rfl
theorem RS (N : Nat) (a0 : AX) (r : Bool) (h : JK N a0 = some r) : Sat Tryz.prog 8 AO [AQ a0] (.bool r) AO := by
 refine DT mixed Tryz.func8 k8_cf (rs := [.bool r]) rfl rfl ?_
 refine AJ ?_
 refine AC ?_
 refine CS rfl (FZ 12801 rfl rfl rfl rfl rfl) ?_
 refine A7 rfl rfl ?_
 obtain ⟨g1, hg1, h⟩ := AL h
 refine F9 ⟨AY [(2, .bool g1)], AY []⟩ ?_ ?_
 have h := hg1
 refine AC ?_
 iterate 2 refine A7 rfl rfl ?_
 obtain ⟨x5, hx5, h⟩ := AL h
 refine CS rfl (CG (VD N _ _ hx5) rfl (.cons A9 .nil) rfl rfl rfl) ?_
 refine A7 rfl rfl ?_
 rcases BO h with ⟨c2, h⟩ | ⟨c2, h⟩
 iterate 2 refine A7 (gy rfl c2) rfl ?_
 obtain ⟨x9, Na, h⟩ := AL h
 refine CS (gy rfl c2) (CG (WB N _ _ Na) rfl (.cons A9 .nil) rfl rfl rfl) ?_
 refine A7 rfl (BA c2 rfl rfl) ?_
 refine A7 rfl rfl ?_
 obtain rfl := AB h
 exact (cn rfl rfl rfl rfl)
 iterate 3 refine BK (gn rfl c2) ?_
 refine A7 rfl (AZ c2 rfl rfl) ?_
 refine A7 rfl rfl ?_
 obtain rfl := AB h
 exact (cn rfl rfl rfl rfl)
 clear hg1
 obtain rfl := AB h
 refine BS ?_
 exact ⟨nofun, rfl, rfl⟩
def k30 : IC := (.seq (.reg [jn 1 (.box 23 (.t 0)), jc 2 (.bool false)]) (.seq (.reg [ja 3 0 1, jl 4 1 3, ju .geq 5 4 0, jm 6 5, jt 6 7 (.fda 0 (.t 1)), jt 6 8 (.load 1 false (.t 7)), jt 6 9 (.bin .leq (.t 8) (ji 1099511627776)), jp 10 6 9, jm 11 10, jt 11 12 (.fda 1 (.t 1)), jt 11 13 (.load 1 false (.t 12)), jt 11 14 (.bin .geq (.t 13) (ji 0)), jp 15 11 14, jm 16 15, jt 16 17 (.fda 1 (.t 1)), jt 16 18 (.load 1 false (.t 17)), jt 16 19 (.bin .leq (.t 18) (ji 65535)), jp 20 16 19, jm 21 20, jt 21 22 (.fda 2 (.t 1)), jt 21 23 (.load 1 false (.t 22)), jt 21 24 (.bin .geq (.t 23) (ji 0)), jp 25 21 24, jm 26 25, jt 26 27 (.fda 2 (.t 1)), jt 26 28 (.load 1 false (.t 27)), jt 26 29 (.bin .lss (.t 28) (ji 6)), jp 30 26 29, jm 2 30]) .ret))
theorem Ua : BX Tryz.prog Tryz.f30 = some ⟨31, k30, [(.tmp 2)]⟩ := by kernel_rfl
theorem O9 (N : Nat) (a0 : AR) (r : Bool) (h : MH N a0 = some r) : Sat Tryz.prog 30 AO [F7 a0] (.bool r) AO := by
 refine DT mixed Tryz.func30 Ua (rs := [.bool r]) rfl rfl ?_
 refine AJ ?_
 refine AC ?_
 refine CS rfl (FZ 48001 rfl rfl rfl rfl rfl) ?_
 refine A7 rfl rfl ?_
 obtain ⟨g1, hg1, h⟩ := AL h
 refine F9 ⟨AY [(2, .bool g1)], AY []⟩ ?_ ?_
 have h := hg1
 refine AC ?_
 iterate 4 refine A7 rfl rfl ?_
 rcases BO h with ⟨c2, h⟩ | ⟨c2, h⟩
 iterate 3 refine A7 (gy rfl c2) rfl ?_
 refine A7 rfl (BA c2 rfl rfl) ?_
 refine A7 rfl rfl ?_
 rcases BO h with ⟨c3, h⟩ | ⟨c3, h⟩
 iterate 3 refine A7 (gy rfl c3) rfl ?_
 refine A7 rfl (BA c3 rfl rfl) ?_
 refine A7 rfl rfl ?_
 rcases BO h with ⟨c4, h⟩ | ⟨c4, h⟩
 iterate 3 refine A7 (gy rfl c4) rfl ?_
 refine A7 rfl (BA c4 rfl rfl) ?_
 refine A7 rfl rfl ?_
 rcases BO h with ⟨c5, h⟩ | ⟨c5, h⟩
 iterate 3 refine A7 (gy rfl c5) rfl ?_
 refine A7 rfl (BA c5 rfl rfl) ?_
 refine A7 rfl rfl ?_
 rcases BO h with ⟨c6, h⟩ | ⟨c6, h⟩
 iterate 3 refine A7 (gy rfl c6) rfl ?_
 refine A7 rfl (BA c6 rfl rfl) ?_
 refine A7 rfl rfl ?_
 cases AB h
 exact (cn rfl rfl rfl rfl)
 iterate 3 refine BK (gn rfl c6) ?_
 refine A7 rfl (AZ c6 rfl rfl) ?_
 refine A7 rfl rfl ?_
 obtain rfl := AB h
 exact (cn rfl rfl rfl rfl)
 iterate 3 refine BK (gn rfl c5) ?_
 refine A7 rfl (AZ c5 rfl rfl) ?_
 refine A7 rfl rfl ?_
 iterate 3 refine BK rfl ?_
 iterate 2 refine A7 rfl rfl ?_
 obtain rfl := AB h
 exact (cn rfl rfl rfl rfl)
 iterate 3 refine BK (gn rfl c4) ?_
 refine A7 rfl (AZ c4 rfl rfl) ?_
 refine A7 rfl rfl ?_
 iterate 3 refine BK rfl ?_
 iterate 2 refine A7 rfl rfl ?_
 iterate 3 refine BK rfl ?_
 iterate 2 refine A7 rfl rfl ?_
 obtain rfl := AB h
 exact (cn rfl rfl rfl rfl)
 iterate 3 refine BK (gn rfl c3) ?_
 refine A7 rfl (AZ c3 rfl rfl) ?_
 refine A7 rfl rfl ?_
 iterate 3 refine BK rfl ?_
 iterate 2 refine A7 rfl rfl ?_
 iterate 3 refine BK rfl ?_
 iterate 2 refine A7 rfl rfl ?_
 iterate 3 refine BK rfl ?_
 iterate 2 refine A7 rfl rfl ?_
 obtain rfl := AB h
 exact (cn rfl rfl rfl rfl)
 iterate 3 refine BK (gn rfl c2) ?_
 refine A7 rfl (AZ c2 rfl rfl) ?_
 refine A7 rfl rfl ?_
 iterate 3 refine BK rfl ?_
 iterate 2 refine A7 rfl rfl ?_
 iterate 3 refine BK rfl ?_
 iterate 2 refine A7 rfl rfl ?_
 iterate 3 refine BK rfl ?_
 iterate 2 refine A7 rfl rfl ?_
 iterate 3 refine BK rfl ?_
 iterate 2 refine A7 rfl rfl ?_
 obtain rfl := AB h
 exact (cn rfl rfl rfl rfl)
 clear hg1
 obtain rfl := AB h
 refine BS ?_
 exact ⟨nofun, rfl, rfl⟩
def k31 : IC := (.seq (.reg [jn 1 (.box 23 (.t 0)), jc 2 (.bool false)]) (.seq (.reg [jg 3 3 1, jn 4 (.build [(j6 0), (j6 0), (j6 0)] []), jn 5 (.eqs false [(.i .i64), (.i .i64), (.i .i64)] (.t 3) (.t 4)), jm 2 5]) .ret))
theorem Tz : BX Tryz.prog Tryz.f31 = some ⟨6, k31, [(.tmp 2)]⟩ := by kernel_rfl
theorem JV (N : Nat) (a0 : AR) (r : Bool) (h : GZ N a0 = some r) : Sat Tryz.prog 31 AO [F7 a0] (.bool r) AO := by
 refine DT mixed Tryz.func31 Tz (rs := [.bool r]) rfl rfl ?_
 refine AJ ?_
 refine AC ?_
 refine CS rfl (FZ 49601 rfl rfl rfl rfl rfl) ?_
 refine A7 rfl rfl ?_
 refine AJ ?_
 refine AC ?_
 refine A7 (p := F7 a0) rfl rfl ?_
 refine A7 (p := .agg [.int .i64 0, .int .i64 0, .int .i64 0]) rfl rfl ?_
 refine A7 (p := .bool (a0.Time == (0 : Int) && (a0.Seq == (0 : Int) && (a0.Rep == (0 : Int) && true)))) rfl rfl ?_
 refine A7 rfl rfl ?_
 cases AB h
 refine BS ?_
 exact ⟨nofun, rfl, rfl⟩
def k32 : IC := (.seq (.reg [jn 2 (.box 23 (.t 0)), jn 3 (.box 23 (.t 1)), jc 4 (j6 0)]) (.seq (.block 0 (.seq (.reg [ja 6 0 2, jl 7 1 6, ja 8 0 3, jl 9 1 8, jb .lss 10 7 9, jm 11 10, jf 11 12 (.fda 0 (.t 2)), jf 11 13 (.load 1 false (.t 12)), jf 11 14 (.fda 0 (.t 3)), jf 11 15 (.load 1 false (.t 14)), jf 11 16 (.bin .eql (.t 13) (.t 15)), jf 11 17 (.mov (.t 16)), jt 17 18 (.fda 1 (.t 2)), jt 17 19 (.load 1 false (.t 18)), jt 17 20 (.fda 1 (.t 3)), jt 17 21 (.load 1 false (.t 20)), jt 17 22 (.bin .lss (.t 19) (.t 21)), jt 17 23 (.mov (.t 22)), jf 23 24 (.fda 1 (.t 2)), jf 23 25 (.load 1 false (.t 24)), jf 23 26 (.fda 1 (.t 3)), jf 23 27 (.load 1 false (.t 26)), jf 23 28 (.bin .eql (.t 25) (.t 27)), jf 23 29 (.mov (.t 28)), jt 29 30 (.fda 2 (.t 2)), jt 29 31 (.load 1 false (.t 30)), jt 29 32 (.fda 2 (.t 3)), jt 29 33 (.load 1 false (.t 32)), jt 29 34 (.bin .lss (.t 31) (.t 33)), jf 23 35 (.pick (.t 29) (.t 34) jA), jt 17 36 (.pick (.t 23) jB (.t 35)), jf 11 37 (.pick (.t 17) (.t 36) jA), jo 38 11 37, jm 5 38]) (.cond (.t 5) (.seq (.reg [jc 4 (j6 (-1))]) .ret) (.seq (.reg [jg 40 3 2, jg 41 3 3, jn 42 (.eqs false [(.i .i64), (.i .i64), (.i .i64)] (.t 40) (.t 41)), jm 39 42]) (.cond (.t 39) (.seq (.reg [jc 4 (j6 0)]) .ret) .skip))))) (.seq (.reg [jc 4 (j6 1)]) .ret)))
theorem Ty : BX Tryz.prog Tryz.f32 = some ⟨43, k32, [(.tmp 4)]⟩ := by kernel_rfl
theorem RQ (N : Nat) (a0 : AR) (a1 : AR) (r : Int) (h : L9 N a0 a1 = some r) : Sat Tryz.prog 32 AO [F7 a0, F7 a1] (.int .i64 r) AO := by
 refine DT mixed Tryz.func32 Ty (rs := [.int .i64 r]) rfl rfl ?_
 refine AJ ?_
 refine AC ?_
 refine CS rfl (FZ 51202 rfl rfl rfl rfl rfl) ?_
 refine CS rfl (FZ 51203 rfl rfl rfl rfl rfl) ?_
 refine A7 rfl rfl ?_
 refine AJ ?_
 refine C9 ?_
 obtain ⟨g1, hg1, h⟩ := AL h
 refine F9 ⟨AY [(2, .ptr 51202 0 0), (3, .ptr 51203 0 0), (5, .bool g1)], AY [(51202, ⟨3, false, [F7 a0]⟩), (51203, ⟨3, false, [F7 a1]⟩)]⟩ ?_ ?_
 have h := hg1
 refine AC ?_
 iterate 6 refine A7 rfl rfl ?_
 rcases BO h with ⟨c2, h⟩ | ⟨c2, h⟩
 iterate 6 refine BK (gn rfl c2) ?_
 iterate 19 refine BK (gu rfl) ?_
 refine BK (gn rfl c2) ?_
 refine A7 rfl (BA c2 rfl rfl) ?_
 refine A7 rfl rfl ?_
 obtain rfl := AB h
 exact (cn rfl rfl rfl rfl)
 iterate 6 refine A7 (gy rfl c2) rfl ?_
 rcases BO h with ⟨c3, h⟩ | ⟨c3, h⟩
 iterate 6 refine A7 (gy rfl c3) rfl ?_
 rcases BO h with ⟨c4, h⟩ | ⟨c4, h⟩
 iterate 6 refine BK (gn rfl c4) ?_
 iterate 5 refine BK (gu rfl) ?_
 refine BK (gn rfl c4) ?_
 refine A7 (gy rfl c3) (BA c4 rfl rfl) ?_
 refine A7 (gy rfl c2) (BA c3 rfl rfl) ?_
 refine A7 rfl (AZ c2 rfl rfl) ?_
 refine A7 rfl rfl ?_
 obtain rfl := AB h
 exact (cn rfl rfl rfl rfl)
 iterate 6 refine A7 (gy rfl c4) rfl ?_
 rcases BO h with ⟨c5, h⟩ | ⟨c5, h⟩
 iterate 5 refine A7 (gy rfl c5) rfl ?_
 refine A7 (gy rfl c4) (BA c5 rfl rfl) ?_
 refine A7 (gy rfl c3) (AZ c4 rfl rfl) ?_
 refine A7 (gy rfl c2) (BA c3 rfl rfl) ?_
 refine A7 rfl (AZ c2 rfl rfl) ?_
 refine A7 rfl rfl ?_
 cases AB h
 exact (cn rfl rfl rfl rfl)
 iterate 5 refine BK (gn rfl c5) ?_
 refine A7 (gy rfl c4) (AZ c5 rfl rfl) ?_
 refine A7 (gy rfl c3) (AZ c4 rfl rfl) ?_
 refine A7 (gy rfl c2) (BA c3 rfl rfl) ?_
 refine A7 rfl (AZ c2 rfl rfl) ?_
 refine A7 rfl rfl ?_
 obtain rfl := AB h
 exact (cn rfl rfl rfl rfl)
 iterate 6 refine BK (gn rfl c3) ?_
 iterate 12 refine BK (gu rfl) ?_
 refine BK (gn rfl c3) ?_
 refine A7 (gy rfl c2) (AZ c3 rfl rfl) ?_
 refine A7 rfl (AZ c2 rfl rfl) ?_
 refine A7 rfl rfl ?_
 obtain rfl := AB h
 exact (cn rfl rfl rfl rfl)
 clear hg1
 refine D8 h rfl (fun c6 h => ?_) (fun c6 h => ?_)
 refine AJ ?_
 refine AC ?_
 refine A7 rfl rfl ?_
 cases AB h
 refine BS ?_
 exact ⟨nofun, rfl, rfl⟩
 refine AJ ?_
 refine AC ?_
 refine A7 (p := F7 a0) rfl rfl ?_
 refine A7 (p := F7 a1) rfl rfl ?_
 refine A7 (p := .bool (a0.Time == a1.Time && (a0.Seq == a1.Seq && (a0.Rep == a1.Rep && true)))) rfl rfl ?_
 refine A7 rfl rfl ?_
 refine D8 h rfl (fun c7 h => ?_) (fun c7 h => ?_)
 refine AJ ?_
 refine AC ?_
 refine A7 rfl rfl ?_
 obtain rfl := AB h
 refine BS ?_
 exact ⟨nofun, rfl, rfl⟩
 refine BF ?_
 refine AJ ?_
 refine AC ?_
 refine A7 rfl rfl ?_
 obtain rfl := AB h
 refine BS ?_
 exact ⟨nofun, rfl, rfl⟩
def xK : IC := (.seq (.seq (.reg [jm 23 3, jm 24 0, jS 25 24, jb .lss 26 23 25]) (.cond (.t 26) .skip (.exit 0))) (.seq (.block 1 (.seq (.reg [jm 29 0, jm 30 3, jn 31 (.idxs (.t 29) (.t 30)), jm 4 31]) (.seq (.reg [jm 32 4, jn 33 (.bin .lss (.t 32) (.c (.int .u8 97))), jm 34 33, jf 34 35 (.mov (.t 4)), jf 34 36 (.bin .gtr (.t 35) (.c (.int .u8 122))), jo 37 34 36, jm 38 37, jt 38 39 (.mov (.t 4)), jt 38 40 (.bin .lss (.t 39) (.c (.int .u8 48))), jt 38 41 (.mov (.t 40)), jf 41 42 (.mov (.t 4)), jf 41 43 (.bin .gtr (.t 42) (.c (.int .u8 57))), jt 38 44 (.pick (.t 41) jB (.t 43)), jp 45 38 44, jm 46 45, jt 46 47 (.mov (.t 4)), jt 46 48 (.bin .neq (.t 47) (.c (.int .u8 45))), jp 49 46 48]) (.cond (.t 49) (.seq (.reg [jc 2 (.bool false)]) .ret) .skip)))) (.reg [jm 27 3, ju .add 28 27 1, jm 3 28])))
def k81 : IC := (.seq (.reg [jc 2 (.bool false)]) (.seq (.seq (.reg [jm 5 0, jS 6 5, ju .lss 7 6 1, jm 8 7, jf 8 9 (.mov (.t 0)), jf 8 10 (.len true (.t 9)), jf 8 11 (.bin .gtr (.t 10) (ji 16)), jo 12 8 11, jm 13 12, jf 13 14 (.mov (.t 0)), jf 13 15 (.idxs (.t 14) (ji 0)), jf 13 16 (.bin .lss (.t 15) (.c (.int .u8 97))), jo 17 13 16, jm 18 17, jf 18 19 (.mov (.t 0)), jf 18 20 (.idxs (.t 19) (ji 0)), jf 18 21 (.bin .gtr (.t 20) (.c (.int .u8 122))), jo 22 18 21]) (.cond (.t 22) (.seq (.reg [jc 2 (.bool false)]) .ret) .skip)) (.seq (.seq (.reg [jc 3 (j6 0)]) (.block 0 (.loop xK))) (.seq (.reg [jc 2 (.bool true)]) .ret))))
theorem Rs : BX Tryz.prog Tryz.f81 = some ⟨50, k81, [(.tmp 2)]⟩ := by kernel_rfl
theorem V4 (N : Nat) (a0 : List UInt8) : ∀ (n : Nat) (x : Int) (y : Unit ⊕ Bool), FE N a0 n x = some y → WX Tryz.prog (fun _ => false) (.loop xK) ((fun (x : Int) => ⟨AY [(0, .str a0), (3, .int .i64 x)], AY []⟩) x) ((Sum.elim (fun y e s => e = .exit 0 ∧ s = ⟨AY [], AY []⟩) (fun y e s => e = .ret ∧ s = ⟨AY [(2, .bool y)], AY []⟩) : (Unit ⊕ Bool) → Xt → St → Prop) y) := by
 refine EQ _ _ (FE N a0) (IG N a0) (fun _ => rfl) (fun _ _ => rfl) ?_
 rintro rec v3l14 y h
 iterate 2 refine AJ ?_
 refine AC ?_
 iterate 4 refine A7 rfl rfl ?_
 refine D8 h rfl (fun c6 h => ?_) (fun c6 h => ?_)
 refine BF ?_
 refine AJ ?_
 refine C9 ?_
 refine AJ ?_
 refine AC ?_
 iterate 2 refine A7 rfl rfl ?_
 obtain ⟨x31, hx31, h⟩ := AL h
 refine A7 rfl (GN hx31 rfl rfl) ?_
 refine A7 rfl rfl ?_
 obtain ⟨g7, rR, h⟩ := AL h
 refine F9 ⟨AY [(0, .str a0), (3, .int .i64 v3l14), (49, .bool g7)], AY []⟩ ?_ ?_
 have h := rR
 refine AC ?_
 refine A7 rfl rfl ?_
 refine A7 (p := .bool (decide (((x31).toNat : Int) < (97 : Int)))) rfl rfl ?_
 refine A7 rfl rfl ?_
 rcases BO h with ⟨c8, h⟩ | ⟨c8, h⟩
 iterate 2 refine BK (gn rfl c8) ?_
 refine A7 rfl (BA c8 rfl rfl) ?_
 iterate 2 refine A7 rfl rfl ?_
 refine A7 (p := .bool (decide (((x31).toNat : Int) < (48 : Int)))) rfl rfl ?_
 refine A7 rfl rfl ?_
 rcases BO h with ⟨c9, h⟩ | ⟨c9, h⟩
 iterate 2 refine BK (gn rfl c9) ?_
 refine A7 rfl (BA c9 rfl rfl) ?_
 iterate 3 refine A7 rfl rfl ?_
 refine A7 (p := .bool (((x31).toNat : Int) != (45 : Int))) rfl rfl ?_
 refine A7 rfl rfl ?_
 cases AB h
 exact (cn rfl rfl rfl rfl)
 refine A7 (gy rfl c9) rfl ?_
 refine A7 (p := .bool (decide (((x31).toNat : Int) > (57 : Int)))) (gy rfl c9) rfl ?_
 refine A7 rfl (AZ c9 rfl rfl) ?_
 iterate 2 refine A7 rfl rfl ?_
 rcases BO h with ⟨c10, h⟩ | ⟨c10, h⟩
 refine A7 (gy rfl c10) rfl ?_
 refine A7 (p := .bool (((x31).toNat : Int) != (45 : Int))) (gy rfl c10) rfl ?_
 refine A7 rfl (BA c10 rfl rfl) ?_
 cases AB h
 exact (cn rfl rfl rfl rfl)
 iterate 2 refine BK (gn rfl c10) ?_
 refine A7 rfl (AZ c10 rfl rfl) ?_
 obtain rfl := AB h
 exact (cn rfl rfl rfl rfl)
 refine A7 (gy rfl c8) rfl ?_
 refine A7 (p := .bool (decide (((x31).toNat : Int) > (122 : Int)))) (gy rfl c8) rfl ?_
 refine A7 rfl (AZ c8 rfl rfl) ?_
 refine A7 rfl rfl ?_
 rcases BO h with ⟨c11, h⟩ | ⟨c11, h⟩
 refine A7 (gy rfl c11) rfl ?_
 refine A7 (p := .bool (decide (((x31).toNat : Int) < (48 : Int)))) (gy rfl c11) rfl ?_
 refine A7 (gy rfl c11) rfl ?_
 rcases BO h with ⟨c12, h⟩ | ⟨c12, h⟩
 iterate 2 refine BK (gn rfl c12) ?_
 refine A7 (gy rfl c11) (BA c12 rfl rfl) ?_
 refine A7 rfl (BA c11 rfl rfl) ?_
 iterate 2 refine A7 rfl rfl ?_
 refine A7 (p := .bool (((x31).toNat : Int) != (45 : Int))) rfl rfl ?_
 refine A7 rfl rfl ?_
 cases AB h
 exact (cn rfl rfl rfl rfl)
 refine A7 (gy rfl c12) rfl ?_
 refine A7 (p := .bool (decide (((x31).toNat : Int) > (57 : Int)))) (gy rfl c12) rfl ?_
 refine A7 (gy rfl c11) (AZ c12 rfl rfl) ?_
 refine A7 rfl (BA c11 rfl rfl) ?_
 refine A7 rfl rfl ?_
 rcases BO h with ⟨c13, h⟩ | ⟨c13, h⟩
 refine A7 (gy rfl c13) rfl ?_
 refine A7 (p := .bool (((x31).toNat : Int) != (45 : Int))) (gy rfl c13) rfl ?_
 refine A7 rfl (BA c13 rfl rfl) ?_
 cases AB h
 exact (cn rfl rfl rfl rfl)
 iterate 2 refine BK (gn rfl c13) ?_
 refine A7 rfl (AZ c13 rfl rfl) ?_
 obtain rfl := AB h
 exact (cn rfl rfl rfl rfl)
 iterate 3 refine BK (gn rfl c11) ?_
 iterate 2 refine BK (gu rfl) ?_
 refine BK (gn rfl c11) ?_
 refine A7 rfl (AZ c11 rfl rfl) ?_
 refine A7 rfl rfl ?_
 iterate 2 refine BK rfl ?_
 refine A7 rfl rfl ?_
 obtain rfl := AB h
 exact (cn rfl rfl rfl rfl)
 clear rR
 refine D8 h rfl (fun c14 h => ?_) (fun c14 h => ?_)
 refine AJ ?_
 refine AC ?_
 refine A7 rfl rfl ?_
 obtain rfl := AB h
 exact DU (st1 := ⟨AY [(2, .bool false)], AY []⟩) (cn rfl rfl rfl rfl) ⟨rfl, rfl⟩
 refine BF ?_
 refine AC ?_
 refine A7 rfl rfl ?_
 refine A7 (p := .int .i64 (BQ (v3l14 + (1 : Int)))) rfl rfl ?_
 refine A7 rfl rfl ?_
 exact ⟨(BQ (v3l14 + (1 : Int))), (cn rfl rfl rfl rfl), h⟩
 cases AB h
 exact CW (st1 := ⟨AY [], AY []⟩) (cn rfl rfl rfl rfl) ⟨rfl, rfl⟩
theorem X5 (N : Nat) (a0 : List UInt8) (r : Bool) (h : LY N a0 = some r) : Sat Tryz.prog 81 AO [.str a0] (.bool r) AO := by
 refine DT mixed Tryz.func81 Rs (rs := [.bool r]) rfl rfl ?_
 refine AJ ?_
 refine AC ?_
 refine A7 rfl rfl ?_
 refine AJ ?_
 obtain ⟨g1, hg1, h⟩ := AL h
 refine F9 ⟨AY [(0, .str a0), (22, .bool g1)], AY []⟩ ?_ ?_
 have h := hg1
 refine AC ?_
 iterate 4 refine A7 rfl rfl ?_
 rcases BO h with ⟨c2, h⟩ | ⟨c2, h⟩
 iterate 3 refine BK (gn rfl c2) ?_
 refine A7 rfl (BA c2 rfl rfl) ?_
 refine A7 rfl rfl ?_
 iterate 3 refine BK rfl ?_
 iterate 2 refine A7 rfl rfl ?_
 iterate 3 refine BK rfl ?_
 refine A7 rfl rfl ?_
 obtain rfl := AB h
 exact (cn rfl rfl rfl rfl)
 iterate 3 refine A7 (gy rfl c2) rfl ?_
 refine A7 rfl (AZ c2 rfl rfl) ?_
 refine A7 rfl rfl ?_
 rcases BO h with ⟨c3, h⟩ | ⟨c3, h⟩
 iterate 3 refine BK (gn rfl c3) ?_
 refine A7 rfl (BA c3 rfl rfl) ?_
 refine A7 rfl rfl ?_
 iterate 3 refine BK rfl ?_
 refine A7 rfl rfl ?_
 obtain rfl := AB h
 exact (cn rfl rfl rfl rfl)
 refine A7 (gy rfl c3) rfl ?_
 obtain ⟨N7, SE, h⟩ := AL h
 refine A7 (gy rfl c3) (GN SE rfl rfl) ?_
 refine A7 (p := .bool (decide (((N7).toNat : Int) < (97 : Int)))) (gy rfl c3) rfl ?_
 refine A7 rfl (AZ c3 rfl rfl) ?_
 refine A7 rfl rfl ?_
 rcases BO h with ⟨c4, h⟩ | ⟨c4, h⟩
 iterate 3 refine BK (gn rfl c4) ?_
 refine A7 rfl (BA c4 rfl rfl) ?_
 obtain rfl := AB h
 exact (cn rfl rfl rfl rfl)
 refine A7 (gy rfl c4) rfl ?_
 obtain ⟨x20, aU, h⟩ := AL h
 refine A7 (gy rfl c4) (GN aU rfl rfl) ?_
 refine A7 (p := .bool (decide (((x20).toNat : Int) > (122 : Int)))) (gy rfl c4) rfl ?_
 refine A7 rfl (AZ c4 rfl rfl) ?_
 cases AB h
 exact (cn rfl rfl rfl rfl)
 clear hg1
 refine D8 h rfl (fun c5 h => ?_) (fun c5 h => ?_)
 refine AJ ?_
 refine AC ?_
 refine A7 rfl rfl ?_
 obtain rfl := AB h
 refine BS ?_
 exact ⟨nofun, rfl, rfl⟩
 refine BF ?_
 iterate 2 refine AJ ?_
 refine AC ?_
 refine A7 rfl rfl ?_
 refine C9 ?_
 obtain ⟨C8, Ga, h⟩ := AL h
 refine PT (V4 N a0 N _ _ Ga) (cn rfl rfl rfl rfl) ?_
 clear Ga
 rcases C8 with C8 | C8
 rintro e s ⟨rfl, rfl⟩
 refine AJ ?_
 refine AC ?_
 refine A7 rfl rfl ?_
 obtain rfl := AB h
 refine BS ?_
 exact ⟨nofun, rfl, rfl⟩
 rintro e s ⟨rfl, rfl⟩
 obtain rfl := AB h
 exact ⟨nofun, rfl, rfl⟩
def xN : IC := (.seq (.seq (.reg [jm 44 4, jm 45 3, jb .lss 46 44 45]) (.cond (.t 46) .skip (.exit 2))) (.seq (.block 3 (.seq (.regd 11 [jm 49 0, jm 50 4, jx 51 2 49 50, ja 52 0 51, jl 53 1 52, jm 54 0, jm 55 3, jx 56 2 54 55, ja 57 0 56, jl 58 1 57, jb .eql 59 53 58]) (.cond (.t 59) (.seq (.reg [jc 2 (.bool false)]) .ret) .skip))) (.reg [jm 47 4, ju .add 48 47 1, jm 4 48])))
def xO : IC := (.seq (.seq (.reg [jm 13 3, jm 14 0, jL 15 14, jb .lss 16 13 15]) (.cond (.t 16) .skip (.exit 0))) (.seq (.block 1 (.seq (.seq (.reg [jm 19 0, jm 20 3, jx 21 2 19 20, ja 22 0 21, jl 23 1 22, jn 24 (.call 81 [(.t 23)]), jn 25 (.un .not (.t 24)), jm 26 25, jf 26 27 (.mov (.t 0)), jf 26 28 (.mov (.t 3)), jf 26 29 (.ixp 2 (.t 27) (.t 28)), jf 26 30 (.fda 1 (.t 29)), jf 26 31 (.load 1 false (.t 30)), jf 26 32 (.len true (.t 31)), jf 26 33 (.bin .lss (.t 32) (ji 1)), jo 34 26 33, jm 35 34, jf 35 36 (.mov (.t 0)), jf 35 37 (.mov (.t 3)), jf 35 38 (.ixp 2 (.t 36) (.t 37)), jf 35 39 (.fda 1 (.t 38)), jf 35 40 (.load 1 false (.t 39)), jf 35 41 (.len true (.t 40)), jf 35 42 (.bin .gtr (.t 41) (ji 60)), jo 43 35 42]) (.cond (.t 43) (.seq (.reg [jc 2 (.bool false)]) .ret) .skip)) (.seq (.reg [jc 4 (j6 0)]) (.block 2 (.loop xN))))) (.reg [jm 17 3, ju .add 18 17 1, jm 3 18])))
def k61 : IC := (.seq (.reg [jc 2 (.bool false)]) (.seq (.seq (.reg [jm 5 0, jL 6 5, ju .lss 7 6 1, jm 8 7, jf 8 9 (.mov (.t 0)), jf 8 10 (.len false (.t 9)), jf 8 11 (.bin .gtr (.t 10) (ji 4)), jo 12 8 11]) (.cond (.t 12) (.seq (.reg [jc 2 (.bool false)]) .ret) .skip)) (.seq (.seq (.reg [jc 3 (j6 0)]) (.block 0 (.loop xO))) (.seq (.reg [jc 2 (.bool true)]) .ret))))
theorem Sm : BX Tryz.prog Tryz.f61 = some ⟨60, k61, [(.tmp 2)]⟩ := by kernel_rfl
theorem VP (N : Nat) (a0 : List AP) (v3l14 : Int) : ∀ (n : Nat) (x : Int) (y : Unit ⊕ Bool), FM N a0 v3l14 n x = some y → WX Tryz.prog (fun _ => false) (.loop xN) ((fun (x : Int) => ⟨AY [(0, .sl 2 (List.map AV a0)), (3, .int .i64 v3l14), (4, .int .i64 x)], AY []⟩) x) ((Sum.elim (fun y e s => e = .exit 2 ∧ s = ⟨AY [(0, .sl 2 (List.map AV a0)), (3, .int .i64 v3l14)], AY []⟩) (fun y e s => e = .ret ∧ s = ⟨AY [(2, .bool y)], AY []⟩) : (Unit ⊕ Bool) → Xt → St → Prop) y) := by
 refine EQ _ _ (FM N a0 v3l14) (IW N a0 v3l14) (fun _ => rfl) (fun _ _ => rfl) ?_
 rintro rec v4l34 y h
 iterate 2 refine AJ ?_
 refine AC ?_
 iterate 3 refine A7 rfl rfl ?_
 refine D8 h rfl (fun c9 h => ?_) (fun c9 h => ?_)
 refine BF ?_
 refine AJ ?_
 refine C9 ?_
 refine AJ ?_
 refine OD ?_
 iterate 2 refine DL rfl rfl ?_
 obtain ⟨Ki, Vq, h⟩ := AL h
 refine DL rfl (DK (cs := [.str Ki.Attr, .str Ki.Value]) Vq rfl rfl rfl) ?_
 refine DL (p := .ep [.str Ki.Attr, .str Ki.Value]) rfl rfl ?_
 iterate 3 refine DL rfl rfl ?_
 obtain ⟨Kh, Vo, h⟩ := AL h
 refine DL rfl (DK (cs := [.str Kh.Attr, .str Kh.Value]) Vo rfl rfl rfl) ?_
 refine DL (p := .ep [.str Kh.Attr, .str Kh.Value]) rfl rfl ?_
 iterate 2 refine DL rfl rfl ?_
 refine D8 h rfl (fun c10 h => ?_) (fun c10 h => ?_)
 refine AJ ?_
 refine AC ?_
 refine A7 rfl rfl ?_
 obtain rfl := AB h
 exact DU (st1 := ⟨AY [(2, .bool false)], AY []⟩) (cn rfl rfl rfl rfl) ⟨rfl, rfl⟩
 refine BF ?_
 refine AC ?_
 refine A7 rfl rfl ?_
 refine A7 (p := .int .i64 (BQ (v4l34 + (1 : Int)))) rfl rfl ?_
 refine A7 rfl rfl ?_
 exact ⟨(BQ (v4l34 + (1 : Int))), (cn rfl rfl rfl rfl), h⟩
 cases AB h
 exact CW (st1 := ⟨AY [(0, .sl 2 (List.map AV a0)), (3, .int .i64 v3l14)], AY []⟩) (cn rfl rfl rfl rfl) ⟨rfl, rfl⟩
theorem VQ (N : Nat) (a0 : List AP) : ∀ (n : Nat) (x : Int) (y : Unit ⊕ Bool), FN N a0 n x = some y → WX Tryz.prog (fun _ => false) (.loop xO) ((fun (x : Int) => ⟨AY [(0, .sl 2 (List.map AV a0)), (3, .int .i64 x)], AY []⟩) x) ((Sum.elim (fun y e s => e = .exit 0 ∧ s = ⟨AY [], AY []⟩) (fun y e s => e = .ret ∧ s = ⟨AY [(2, .bool y)], AY []⟩) : (Unit ⊕ Bool) → Xt → St → Prop) y) := by
 refine EQ _ _ (FN N a0) (IX N a0) (fun _ => rfl) (fun _ _ => rfl) ?_
 rintro rec v3l14 y h
 iterate 2 refine AJ ?_
 refine AC ?_
 iterate 2 refine A7 rfl rfl ?_
 refine A7 rfl (BV rfl) ?_
 refine A7 rfl rfl ?_
 refine D8 h rfl (fun c4 h => ?_) (fun c4 h => ?_)
 refine BF ?_
 refine AJ ?_
 refine C9 ?_
 refine AJ ?_
 obtain ⟨g5, hg5, h⟩ := AL h
 refine F9 ⟨AY [(0, .sl 2 (List.map AV a0)), (3, .int .i64 v3l14), (43, .bool g5)], AY []⟩ ?_ ?_
 have h := hg5
 refine AC ?_
 iterate 2 refine A7 rfl rfl ?_
 obtain ⟨V3, YG, h⟩ := AL h
 refine A7 rfl (DK (cs := [.str V3.Attr, .str V3.Value]) YG rfl rfl rfl) ?_
 refine A7 (p := .ep [.str V3.Attr, .str V3.Value]) rfl rfl ?_
 refine A7 rfl rfl ?_
 obtain ⟨x24, hx24, h⟩ := AL h
 refine CS rfl (CG (X5 N _ _ hx24) rfl (.cons A9 .nil) rfl rfl rfl) ?_
 iterate 2 refine A7 rfl rfl ?_
 rcases BO h with ⟨c6, h⟩ | ⟨c6, h⟩
 iterate 7 refine BK (gn rfl c6) ?_
 refine A7 rfl (BA c6 rfl rfl) ?_
 refine A7 rfl rfl ?_
 iterate 7 refine BK rfl ?_
 refine A7 rfl rfl ?_
 obtain rfl := AB h
 exact (cn rfl rfl rfl rfl)
 iterate 2 refine A7 (gy rfl c6) rfl ?_
 obtain ⟨x29, hx29, h⟩ := AL h
 refine A7 (gy rfl c6) (DK (cs := [.str x29.Attr, .str x29.Value]) hx29 rfl rfl rfl) ?_
 refine A7 (p := .ep [.str x29.Value]) (gy rfl c6) rfl ?_
 iterate 3 refine A7 (gy rfl c6) rfl ?_
 refine A7 rfl (AZ c6 rfl rfl) ?_
 refine A7 rfl rfl ?_
 rcases BO h with ⟨c7, h⟩ | ⟨c7, h⟩
 iterate 7 refine BK (gn rfl c7) ?_
 refine A7 rfl (BA c7 rfl rfl) ?_
 obtain rfl := AB h
 exact (cn rfl rfl rfl rfl)
 iterate 2 refine A7 (gy rfl c7) rfl ?_
 obtain ⟨x38, hx38, h⟩ := AL h
 refine A7 (gy rfl c7) (DK (cs := [.str x38.Attr, .str x38.Value]) hx38 rfl rfl rfl) ?_
 refine A7 (p := .ep [.str x38.Value]) (gy rfl c7) rfl ?_
 iterate 3 refine A7 (gy rfl c7) rfl ?_
 refine A7 rfl (AZ c7 rfl rfl) ?_
 cases AB h
 exact (cn rfl rfl rfl rfl)
 clear hg5
 refine D8 h rfl (fun c8 h => ?_) (fun c8 h => ?_)
 refine AJ ?_
 refine AC ?_
 refine A7 rfl rfl ?_
 obtain rfl := AB h
 exact DU (st1 := ⟨AY [(2, .bool false)], AY []⟩) (cn rfl rfl rfl rfl) ⟨rfl, rfl⟩
 refine BF ?_
 refine AJ ?_
 refine AC ?_
 refine A7 rfl rfl ?_
 refine C9 ?_
 obtain ⟨Bq, Mx, h⟩ := AL h
 refine PT (VP N a0 v3l14 N _ _ Mx) (cn rfl rfl rfl rfl) ?_
 clear Mx
 rcases Bq with Bq | Bq
 rintro e s ⟨rfl, rfl⟩
 refine AC ?_
 refine A7 rfl rfl ?_
 refine A7 (p := .int .i64 (BQ (v3l14 + (1 : Int)))) rfl rfl ?_
 refine A7 rfl rfl ?_
 exact ⟨(BQ (v3l14 + (1 : Int))), (cn rfl rfl rfl rfl), h⟩
 rintro e s ⟨rfl, rfl⟩
 obtain rfl := AB h
 exact ⟨rfl, rfl⟩
 cases AB h
 exact CW (st1 := ⟨AY [], AY []⟩) (cn rfl rfl rfl rfl) ⟨rfl, rfl⟩
theorem MN (N : Nat) (a0 : List AP) (r : Bool) (h : IY N a0 = some r) : Sat Tryz.prog 61 AO [.sl 2 (List.map AV a0)] (.bool r) AO := by
 refine DT mixed Tryz.func61 Sm (rs := [.bool r]) rfl rfl ?_
 refine AJ ?_
 refine AC ?_
 refine A7 rfl rfl ?_
 refine AJ ?_
 obtain ⟨g1, hg1, h⟩ := AL h
 refine F9 ⟨AY [(0, .sl 2 (List.map AV a0)), (12, .bool g1)], AY []⟩ ?_ ?_
 have h := hg1
 refine AC ?_
 refine A7 rfl rfl ?_
 refine A7 rfl (BV rfl) ?_
 iterate 2 refine A7 rfl rfl ?_
 rcases BO h with ⟨c2, h⟩ | ⟨c2, h⟩
 iterate 3 refine BK (gn rfl c2) ?_
 refine A7 rfl (BA c2 rfl rfl) ?_
 obtain rfl := AB h
 exact (cn rfl rfl rfl rfl)
 refine A7 (gy rfl c2) rfl ?_
 refine A7 (gy rfl c2) (BV rfl) ?_
 refine A7 (gy rfl c2) rfl ?_
 refine A7 rfl (AZ c2 rfl rfl) ?_
 cases AB h
 exact (cn rfl rfl rfl rfl)
 clear hg1
 refine D8 h rfl (fun c3 h => ?_) (fun c3 h => ?_)
 refine AJ ?_
 refine AC ?_
 refine A7 rfl rfl ?_
 obtain rfl := AB h
 refine BS ?_
 exact ⟨nofun, rfl, rfl⟩
 refine BF ?_
 iterate 2 refine AJ ?_
 refine AC ?_
 refine A7 rfl rfl ?_
 refine C9 ?_
 obtain ⟨pO, Gb, h⟩ := AL h
 refine PT (VQ N a0 N _ _ Gb) (cn rfl rfl rfl rfl) ?_
 clear Gb
 rcases pO with pO | pO
 rintro e s ⟨rfl, rfl⟩
 refine AJ ?_
 refine AC ?_
 refine A7 rfl rfl ?_
 obtain rfl := AB h
 refine BS ?_
 exact ⟨nofun, rfl, rfl⟩
 rintro e s ⟨rfl, rfl⟩
 obtain rfl := AB h
 exact ⟨nofun, rfl, rfl⟩
def k84 : IC := (.seq (.reg [jc 0 .nl]) (.seq (.reg [jn 1 (.build [(.str []), (j6 0), (.bool false)] [(0, (1, (.c (.str [97, 99, 105])))), (1, (1, (ji 2)))]), jn 2 (.build [(.str []), (j6 0), (.bool false)] [(0, (1, (.c (.str [99])))), (1, (1, (ji 1))), (2, (1, jB))]), jn 3 (.build [(.str []), (j6 0), (.bool false)] [(0, (1, (.c (.str [99, 110])))), (1, (1, (ji 1)))]), jn 4 (.build [(.str []), (j6 0), (.bool false)] [(0, (1, (.c (.str [100, 99])))), (1, (1, (ji 1)))]), jn 5 (.build [(.str []), (j6 0), (.bool false)] [(0, (1, (.c (.str [100, 101, 115, 99, 114, 105, 112, 116, 105, 111, 110])))), (1, (1, (ji 1)))]), jn 6 (.build [(.str []), (j6 0), (.bool false)] [(0, (1, (.c (.str [101, 110, 116, 114, 121, 105, 100])))), (1, (1, (ji 2))), (2, (1, jB))]), jn 7 (.build [(.str []), (j6 0), (.bool false)] [(0, (1, (.c (.str [109, 97, 105, 108])))), (1, (1, (ji 2)))]), jn 8 (.build [(.str []), (j6 0), (.bool false)] [(0, (1, (.c (.str [109, 101, 109, 98, 101, 114])))), (1, (1, (ji 5)))]), jn 9 (.build [(.str []), (j6 0), (.bool false)] [(0, (1, (.c (.str [111])))), (1, (1, (ji 1)))]), jn 10 (.build [(.str []), (j6 0), (.bool false)] [(0, (1, (.c (.str [111, 117])))), (1, (1, (ji 1)))]), jn 11 (.build [(.str []), (j6 0), (.bool false)] [(0, (1, (.c (.str [115, 110])))), (1, (1, (ji 1)))]), jn 12 (.build [(.str []), (j6 0), (.bool false)] [(0, (1, (.c (.str [116, 105, 116, 108, 101])))), (1, (1, (ji 1))), (2, (1, jB))]), jn 13 (.build [(.str []), (j6 0), (.bool false)] [(0, (1, (.c (.str [117, 105, 100])))), (1, (1, (ji 1)))]), jn 14 (.build [(.str []), (j6 0), (.bool false)] [(0, (1, (.c (.str [117, 105, 100, 110, 117, 109, 98, 101, 114])))), (1, (1, (ji 3))), (2, (1, jB))]), jn 15 (.build [(.str []), (j6 0), (.bool false)] [(0, (1, (.c (.str [117, 115, 101, 114, 112, 97, 115, 115, 119, 111, 114, 100])))), (1, (1, (ji 4)))]), jn 16 (.bsl 3 [(.t 1), (.t 2), (.t 3), (.t 4), (.t 5), (.t 6), (.t 7), (.t 8), (.t 9), (.t 10), (.t 11), (.t 12), (.t 13), (.t 14), (.t 15)]), jm 0 16]) .ret))
theorem Rn : BX Tryz.prog Tryz.f84 = some ⟨17, k84, [(.tmp 0)]⟩ := by kernel_rfl
theorem ZO (N : Nat)  (r : List BB) (h : SA N  = some r) : Sat Tryz.prog 84 AO [] (.sl 3 (List.map CJ r)) AO := by
 refine DT mixed Tryz.func84 Rn (rs := [.sl 3 (List.map CJ r)]) rfl rfl ?_
 refine AJ ?_
 refine AC ?_
 refine A7 rfl rfl ?_
 refine AJ ?_
 refine AC ?_
 refine A7 (p := .agg [.str ([97, 99, 105] : List UInt8), .int .i64 2, .bool false]) rfl rfl ?_
 refine A7 (p := .agg [.str ([99] : List UInt8), .int .i64 1, .bool true]) rfl rfl ?_
 refine A7 (p := .agg [.str ([99, 110] : List UInt8), .int .i64 1, .bool false]) rfl rfl ?_
 refine A7 (p := .agg [.str ([100, 99] : List UInt8), .int .i64 1, .bool false]) rfl rfl ?_
 refine A7 (p := .agg [.str ([100, 101, 115, 99, 114, 105, 112, 116, 105, 111, 110] : List UInt8), .int .i64 1, .bool false]) rfl rfl ?_
 refine A7 (p := .agg [.str ([101, 110, 116, 114, 121, 105, 100] : List UInt8), .int .i64 2, .bool true]) rfl rfl ?_
 refine A7 (p := .agg [.str ([109, 97, 105, 108] : List UInt8), .int .i64 2, .bool false]) rfl rfl ?_
 refine A7 (p := .agg [.str ([109, 101, 109, 98, 101, 114] : List UInt8), .int .i64 5, .bool false]) rfl rfl ?_
 refine A7 (p := .agg [.str ([111] : List UInt8), .int .i64 1, .bool false]) rfl rfl ?_
 refine A7 (p := .agg [.str ([111, 117] : List UInt8), .int .i64 1, .bool false]) rfl rfl ?_
 refine A7 (p := .agg [.str ([115, 110] : List UInt8), .int .i64 1, .bool false]) rfl rfl ?_
 refine A7 (p := .agg [.str ([116, 105, 116, 108, 101] : List UInt8), .int .i64 1, .bool true]) rfl rfl ?_
 refine A7 (p := .agg [.str ([117, 105, 100] : List UInt8), .int .i64 1, .bool false]) rfl rfl ?_
 refine A7 (p := .agg [.str ([117, 105, 100, 110, 117, 109, 98, 101, 114] : List UInt8), .int .i64 3, .bool true]) rfl rfl ?_
 refine A7 (p := .agg [.str ([117, 115, 101, 114, 112, 97, 115, 115, 119, 111, 114, 100] : List UInt8), .int .i64 4, .bool false]) rfl rfl ?_
 refine CS rfl (SB 134416 rfl rfl rfl) ?_
 refine A7 rfl rfl ?_
 cases AB h
 refine DU (st1 := ⟨AY [(0, .sl 3 (List.map CJ [(⟨([97, 99, 105] : List UInt8), 2, false⟩ : BB), (⟨([99] : List UInt8), 1, true⟩ : BB), (⟨([99, 110] : List UInt8), 1, false⟩ : BB), (⟨([100, 99] : List UInt8), 1, false⟩ : BB), (⟨([100, 101, 115, 99, 114, 105, 112, 116, 105, 111, 110] : List UInt8), 1, false⟩ : BB), (⟨([101, 110, 116, 114, 121, 105, 100] : List UInt8), 2, true⟩ : BB), (⟨([109, 97, 105, 108] : List UInt8), 2, false⟩ : BB), (⟨([109, 101, 109, 98, 101, 114] : List UInt8), 5, false⟩ : BB), (⟨([111] : List UInt8), 1, false⟩ : BB), (⟨([111, 117] : List UInt8), 1, false⟩ : BB), (⟨([115, 110] : List UInt8), 1, false⟩ : BB), (⟨([116, 105, 116, 108, 101] : List UInt8), 1, true⟩ : BB), (⟨([117, 105, 100] : List UInt8), 1, false⟩ : BB), (⟨([117, 105, 100, 110, 117, 109, 98, 101, 114] : List UInt8), 3, true⟩ : BB), (⟨([117, 115, 101, 114, 112, 97, 115, 115, 119, 111, 114, 100] : List UInt8), 4, false⟩ : BB)]))], AY []⟩) (CB.trans (Vd.freeze 134416 _ rfl rfl rfl) (CB.trans (KN 0 (GQ (congrArg (PV.sl 3) (BR (f := CJ) (l := [(⟨([97, 99, 105] : List UInt8), 2, false⟩ : BB), (⟨([99] : List UInt8), 1, true⟩ : BB), (⟨([99, 110] : List UInt8), 1, false⟩ : BB), (⟨([100, 99] : List UInt8), 1, false⟩ : BB), (⟨([100, 101, 115, 99, 114, 105, 112, 116, 105, 111, 110] : List UInt8), 1, false⟩ : BB), (⟨([101, 110, 116, 114, 121, 105, 100] : List UInt8), 2, true⟩ : BB), (⟨([109, 97, 105, 108] : List UInt8), 2, false⟩ : BB), (⟨([109, 101, 109, 98, 101, 114] : List UInt8), 5, false⟩ : BB), (⟨([111] : List UInt8), 1, false⟩ : BB), (⟨([111, 117] : List UInt8), 1, false⟩ : BB), (⟨([115, 110] : List UInt8), 1, false⟩ : BB), (⟨([116, 105, 116, 108, 101] : List UInt8), 1, true⟩ : BB), (⟨([117, 105, 100] : List UInt8), 1, false⟩ : BB), (⟨([117, 105, 100, 110, 117, 109, 98, 101, 114] : List UInt8), 3, true⟩ : BB), (⟨([117, 115, 101, 114, 112, 97, 115, 115, 119, 111, 114, 100] : List UInt8), 4, false⟩ : BB)])))) rfl) (cn rfl rfl rfl rfl))) ?_
 exact ⟨nofun, rfl, rfl⟩
def Er : IC := (.seq (.seq (.reg [jm 7 4, jm 8 3, jL 9 8, jb .lss 10 7 9]) (.cond (.t 10) .skip (.exit 0))) (.seq (.block 1 (.seq (.reg [jm 13 3, jm 14 4, jx 15 1 13 14, jl 16 1 15, jn 17 (.bin .geq (.t 16) (.c (.int .u8 65))), jm 18 17, jt 18 19 (.mov (.t 3)), jt 18 20 (.mov (.t 4)), jt 18 21 (.ixp 1 (.t 19) (.t 20)), jt 18 22 (.load 1 false (.t 21)), jt 18 23 (.bin .leq (.t 22) (.c (.int .u8 90))), jp 24 18 23]) (.cond (.t 24) (.reg [jm 25 3, jm 26 4, jm 27 3, jm 28 4, jx 29 1 27 28, jl 30 1 29, jn 31 (.bin .add (.t 30) (.c (.int .u8 32))), jx 32 1 25 26, js 1 32 31]) .skip))) (.reg [jm 11 4, ju .add 12 11 1, jm 4 12])))
def k85 : IC := (.seq (.reg [jc 2 (.str [])]) (.seq (.reg [jm 5 0, jn 6 (.cvs (.t 5)), jm 3 6]) (.seq (.seq (.reg [jc 4 (j6 0)]) (.block 0 (.loop Er))) (.seq (.reg [jm 33 3, jn 34 (.cvb (.t 33)), jm 2 34]) .ret))))
theorem Rm : BX Tryz.prog Tryz.f85 = some ⟨35, k85, [(.tmp 2)]⟩ := by kernel_rfl
theorem WT (N : Nat) : ∀ (n : Nat) (x : Int × List UInt8) (y : List UInt8), FC N n x = some y → WX Tryz.prog (fun _ => false) (.loop Er) ((fun (x : Int × List UInt8) => ⟨AY [(3, .slr 136006 0 x.2.length), (4, .int .i64 x.1)], AY [(136006, ⟨1, true, List.map eb x.2⟩)]⟩) x) ((fun y e s => e = .exit 0 ∧ s = ⟨AY [(3, .slr 136006 0 y.length)], AY [(136006, ⟨1, true, List.map eb y⟩)]⟩ : (List UInt8) → Xt → St → Prop) y) := by
 refine EQ _ _ (FC N) (JE N) (fun _ => rfl) (fun _ _ => rfl) ?_
 rintro rec ⟨aJ, FK⟩ y h
 iterate 2 refine AJ ?_
 refine AC ?_
 iterate 4 refine A7 rfl rfl ?_
 refine D8 h rfl (fun c1 h => ?_) (fun c1 h => ?_)
 refine BF ?_
 refine QO (fun (x : List UInt8) => ⟨AY [(3, .slr 136006 0 x.length), (4, .int .i64 aJ)], AY [(136006, ⟨1, true, List.map eb x⟩)]⟩) (fun x => JX aJ rec x = some y) ?_ ?_
 rintro aS h
 refine AC ?_
 refine A7 rfl rfl ?_
 refine A7 (p := .int .i64 (BQ (aJ + (1 : Int)))) rfl rfl ?_
 refine A7 rfl rfl ?_
 exact ⟨((BQ (aJ + (1 : Int))), aS), (cn rfl rfl rfl rfl), h⟩
 refine C9 ?_
 obtain ⟨g2, hg2, h⟩ := AL h
 refine F9 ⟨AY [(3, .slr 136006 0 FK.length), (4, .int .i64 aJ), (24, .bool g2)], AY [(136006, ⟨1, true, List.map eb FK⟩)]⟩ ?_ ?_
 have h := hg2
 refine AC ?_
 iterate 2 refine A7 rfl rfl ?_
 obtain ⟨N7, SE, h⟩ := AL h
 refine A7 rfl (QA SE rfl rfl rfl rfl) ?_
 obtain ⟨Y4, hx16, h⟩ := AL h
 refine A7 rfl (UM (f := eb) (v := eb Y4) hx16 rfl rfl rfl) ?_
 refine A7 (p := .bool (decide (((Y4).toNat : Int) ≥ (65 : Int)))) rfl rfl ?_
 refine A7 rfl rfl ?_
 rcases BO h with ⟨c3, h⟩ | ⟨c3, h⟩
 iterate 2 refine A7 (gy rfl c3) rfl ?_
 obtain ⟨V3, YG, h⟩ := AL h
 refine A7 (gy rfl c3) (QA YG rfl rfl rfl rfl) ?_
 obtain ⟨WO, YF, h⟩ := AL h
 refine A7 (gy rfl c3) (UM (f := eb) (v := eb WO) YF rfl rfl rfl) ?_
 refine A7 (p := .bool (decide (((WO).toNat : Int) ≤ (90 : Int)))) (gy rfl c3) rfl ?_
 refine A7 rfl (BA c3 rfl rfl) ?_
 cases AB h
 exact (cn rfl rfl rfl rfl)
 iterate 5 refine BK (gn rfl c3) ?_
 refine A7 rfl (AZ c3 rfl rfl) ?_
 obtain rfl := AB h
 exact (cn rfl rfl rfl rfl)
 clear hg2
 refine D8 h rfl (fun c4 h => ?_) (fun c4 h => ?_)
 refine AC ?_
 iterate 4 refine A7 rfl rfl ?_
 obtain ⟨x29, hx29, h⟩ := AL h
 refine A7 rfl (QA hx29 rfl rfl rfl rfl) ?_
 obtain ⟨x30, oO, h⟩ := AL h
 refine A7 rfl (UM (f := eb) (v := eb x30) oO rfl rfl rfl) ?_
 refine A7 rfl (wR (a := x30) (b := (32 : UInt8)) rfl rfl) ?_
 obtain ⟨x32, hx32, h⟩ := AL h
 refine A7 rfl (QA hx32 rfl rfl rfl rfl) ?_
 obtain ⟨pQ, jZ, h⟩ := AL h
 refine Cb (f := eb) (e' := (x30 + (32 : UInt8))) jZ rfl rfl rfl rfl rfl rfl rfl rfl (fun _ => rfl) rfl ?_
 exact ⟨(FK.set x32 (x30 + (32 : UInt8))), (CB.trans (KN 3 (GQ (congrArg (PV.slr 136006 0) (by simp only [List.length_set, List.length_replicate] : FK.length = (FK.set x32 (x30 + (32 : UInt8))).length))) rfl) (cn rfl rfl rfl rfl)), h⟩
 refine BF ?_
 exact ⟨FK, (cn rfl rfl rfl rfl), h⟩
 obtain rfl := AB h
 exact CW (st1 := ⟨AY [(3, .slr 136006 0 FK.length)], AY [(136006, ⟨1, true, List.map eb FK⟩)]⟩) (cn rfl rfl rfl rfl) ⟨rfl, rfl⟩
theorem QR (N : Nat) (a0 : List UInt8) (r : List UInt8) (h : KI N a0 = some r) : Sat Tryz.prog 85 AO [.str a0] (.str r) AO := by
 refine DT mixed Tryz.func85 Rm (rs := [.str r]) rfl rfl ?_
 refine AJ ?_
 refine AC ?_
 refine A7 rfl rfl ?_
 refine AJ ?_
 refine AC ?_
 refine A7 rfl rfl ?_
 refine CS rfl (qU 136006 rfl rfl) ?_
 refine A7 rfl rfl ?_
 iterate 2 refine AJ ?_
 refine AC ?_
 refine A7 rfl rfl ?_
 refine C9 ?_
 obtain ⟨y6, tC, h⟩ := AL h
 refine PT (WT N N _ _ tC) (cn rfl rfl rfl rfl) ?_
 rintro e s ⟨rfl, rfl⟩
 refine AJ ?_
 refine AC ?_
 refine A7 rfl rfl ?_
 refine A7 rfl (VH (l := y6) rfl rfl (BR (f := eb) (l := y6))) ?_
 refine A7 rfl rfl ?_
 obtain rfl := AB h
 refine BS ?_
 exact ⟨nofun, rfl, rfl⟩
def Eu : IC := (.seq (.seq (.reg [jm 7 5, jm 8 4, jL 9 8, jb .lss 10 7 9]) (.cond (.t 10) .skip (.exit 0))) (.seq (.block 1 (.seq (.regd 8 [jm 13 4, jm 14 5, jx 15 3 13 14, ja 16 0 15, jl 17 1 16, jm 18 0, jn 19 (.call 85 [(.t 18)]), jb .eql 20 17 19]) (.cond (.t 20) (.seq (.reg [jm 21 4, jm 22 5, jx 23 3 21 22, jg 24 3 23, js 3 2 24, jc 3 (.bool true)]) .ret) .skip))) (.reg [jm 11 5, ju .add 12 11 1, jm 5 12])))
def k63 : IC := (.seq (.reg [jn 2 (.box 90 (.c (.agg [(.str []), (j6 0), (.bool false)]))), jc 3 (.bool false)]) (.seq (.reg [jn 6 (.call 84 []), jm 4 6]) (.seq (.seq (.reg [jc 5 (j6 0)]) (.block 0 (.loop Eu))) (.seq (.reg [jn 25 (.build [(.str []), (j6 0), (.bool false)] []), js 3 2 25, jc 3 (.bool false)]) .ret))))
theorem Sk : BX Tryz.prog Tryz.f63 = some ⟨26, k63, [(.cell 3 true 2), (.tmp 3)]⟩ := by kernel_rfl
theorem XX (N : Nat) (a0 : List UInt8) (x6 : List BB) : ∀ (n : Nat) (x : Int) (y : Unit ⊕ (BB × Bool)), G9 N a0 x6 n x = some y → WX Tryz.prog (fun _ => false) (.loop Eu) ((fun (x : Int) => ⟨AY [(0, .str a0), (2, .ptr 100802 0 0), (4, .sl 3 (List.map CJ x6)), (5, .int .i64 x)], AY [(100802, ⟨3, false, [.agg [.str ([] : List UInt8), .int .i64 0, .bool false]]⟩)]⟩) x) ((Sum.elim (fun y e s => e = .exit 0 ∧ s = ⟨AY [(2, .ptr 100802 0 0)], AY [(100802, ⟨3, false, [.agg [.str ([] : List UInt8), .int .i64 0, .bool false]]⟩)]⟩) (fun y e s => e = .ret ∧ s = ⟨AY [(2, .ptr 100802 0 0), (3, .bool y.2)], AY [(100802, ⟨3, false, [CJ y.1]⟩)]⟩) : (Unit ⊕ (BB × Bool)) → Xt → St → Prop) y) := by
 refine EQ _ _ (G9 N a0 x6) (JY N a0 x6) (fun _ => rfl) (fun _ _ => rfl) ?_
 rintro rec v5l8 y h
 iterate 2 refine AJ ?_
 refine AC ?_
 iterate 2 refine A7 rfl rfl ?_
 refine A7 rfl (BV rfl) ?_
 refine A7 rfl rfl ?_
 refine D8 h rfl (fun c1 h => ?_) (fun c1 h => ?_)
 refine BF ?_
 refine AJ ?_
 refine C9 ?_
 refine AJ ?_
 refine OD ?_
 iterate 2 refine DL rfl rfl ?_
 obtain ⟨N7, SE, h⟩ := AL h
 refine DL rfl (DK (cs := [.str N7.Name, .int .i64 N7.Syntax, .bool N7.Single]) SE rfl rfl rfl) ?_
 refine DL (p := .ep [.str N7.Name, .int .i64 N7.Syntax, .bool N7.Single]) rfl rfl ?_
 iterate 2 refine DL rfl rfl ?_
 obtain ⟨PR, YH, h⟩ := AL h
 refine TF rfl (MP (QR N _ _ YH) rfl (.cons A9 .nil) rfl rfl rfl) CP ?_
 refine DL rfl rfl ?_
 refine D8 h rfl (fun c2 h => ?_) (fun c2 h => ?_)
 refine AJ ?_
 refine AC ?_
 iterate 2 refine A7 rfl rfl ?_
 obtain ⟨XV, fE, h⟩ := AL h
 refine A7 rfl (DK (cs := [.str XV.Name, .int .i64 XV.Syntax, .bool XV.Single]) fE rfl rfl rfl) ?_
 refine A7 (p := CJ XV) rfl rfl ?_
 refine F3 (e' := CJ XV) rfl rfl rfl rfl rfl rfl rfl rfl nofun rfl ?_
 refine A7 rfl rfl ?_
 cases AB h
 exact DU (st1 := ⟨AY [(2, .ptr 100802 0 0), (3, .bool true)], AY [(100802, ⟨3, false, [CJ XV]⟩)]⟩) (cn rfl rfl rfl rfl) ⟨rfl, rfl⟩
 refine BF ?_
 refine AC ?_
 refine A7 rfl rfl ?_
 refine A7 (p := .int .i64 (BQ (v5l8 + (1 : Int)))) rfl rfl ?_
 refine A7 rfl rfl ?_
 exact ⟨(BQ (v5l8 + (1 : Int))), (cn rfl rfl rfl rfl), h⟩
 cases AB h
 exact CW (st1 := ⟨AY [(2, .ptr 100802 0 0)], AY [(100802, ⟨3, false, [.agg [.str ([] : List UInt8), .int .i64 0, .bool false]]⟩)]⟩) (cn rfl rfl rfl rfl) ⟨rfl, rfl⟩
theorem RP (N : Nat) (a0 : List UInt8) (r : BB × Bool) (h : L8 N a0 = some r) : Sat Tryz.prog 63 AO [.str a0] (.tup [CJ r.1, .bool r.2]) AO := by
 refine DT mixed Tryz.func63 Sk (rs := [CJ r.1, .bool r.2]) rfl rfl ?_
 refine AJ ?_
 refine AC ?_
 refine CS rfl (FZ 100802 rfl rfl rfl rfl rfl) ?_
 refine A7 rfl rfl ?_
 refine AJ ?_
 refine AC ?_
 obtain ⟨x6, hx6, h⟩ := AL h
 refine CS rfl (CG (ZO N _ hx6) rfl .nil rfl rfl rfl) ?_
 refine A7 rfl rfl ?_
 iterate 2 refine AJ ?_
 refine AC ?_
 refine A7 rfl rfl ?_
 refine C9 ?_
 obtain ⟨y3, hy3, h⟩ := AL h
 refine PT (XX N a0 x6 N _ _ hy3) (cn rfl rfl rfl rfl) ?_
 clear hy3
 rcases y3 with y3 | y3
 rintro e s ⟨rfl, rfl⟩
 refine AJ ?_
 refine AC ?_
 refine A7 (p := .agg [.str ([] : List UInt8), .int .i64 0, .bool false]) rfl rfl ?_
 refine F3 (e' := .agg [.str ([] : List UInt8), .int .i64 0, .bool false]) rfl rfl rfl rfl rfl rfl rfl rfl nofun rfl ?_
 refine A7 rfl rfl ?_
 cases AB h
 refine BS ?_
 exact ⟨nofun, rfl, rfl⟩
 rintro e s ⟨rfl, rfl⟩
 cases AB h
 exact ⟨nofun, rfl, rfl⟩
def xJ : IC := (.seq (.seq (.reg [jm 36 4, jm 37 3, jS 38 37, jb .lss 39 36 38]) (.cond (.t 39) .skip (.exit 0))) (.seq (.block 1 (.seq (.reg [jm 42 3, jm 43 4, jn 44 (.idxs (.t 42) (.t 43)), jn 45 (.bin .lss (.t 44) (.c (.int .u8 48))), jm 46 45, jf 46 47 (.mov (.t 3)), jf 46 48 (.mov (.t 4)), jf 46 49 (.idxs (.t 47) (.t 48)), jf 46 50 (.bin .gtr (.t 49) (.c (.int .u8 57))), jo 51 46 50]) (.cond (.t 51) (.seq (.reg [jc 2 (.bool false)]) .ret) .skip))) (.reg [jm 40 4, ju .add 41 40 1, jm 4 41])))
def k82 : IC := (.seq (.reg [jc 2 (.bool false)]) (.seq (.reg [jm 5 0, jm 3 5]) (.seq (.seq (.reg [jm 6 3, jS 7 6, ju .gtr 8 7 0, jm 9 8, jt 9 10 (.mov (.t 3)), jt 9 11 (.idxs (.t 10) (ji 0)), jt 9 12 (.bin .eql (.t 11) (.c (.int .u8 45))), jp 13 9 12]) (.cond (.t 13) (.seq (.reg [jm 14 3, jn 15 (.slcs (.t 14) (some (ji 1)) none), jm 3 15]) (.seq (.reg [jm 16 3, jn 17 (.bin .eql (.t 16) (.c (.str [48])))]) (.cond (.t 17) (.seq (.reg [jc 2 (.bool false)]) .ret) .skip))) .skip)) (.seq (.seq (.reg [jm 18 3, jS 19 18, ju .lss 20 19 1, jm 21 20, jf 21 22 (.mov (.t 3)), jf 21 23 (.len true (.t 22)), jf 21 24 (.bin .gtr (.t 23) (ji 15)), jo 25 21 24, jm 26 25, jf 26 27 (.mov (.t 3)), jf 26 28 (.len true (.t 27)), jf 26 29 (.bin .gtr (.t 28) (ji 1)), jf 26 30 (.mov (.t 29)), jt 30 31 (.mov (.t 3)), jt 30 32 (.idxs (.t 31) (ji 0)), jt 30 33 (.bin .eql (.t 32) (.c (.int .u8 48))), jf 26 34 (.pick (.t 30) (.t 33) jA), jo 35 26 34]) (.cond (.t 35) (.seq (.reg [jc 2 (.bool false)]) .ret) .skip)) (.seq (.seq (.reg [jc 4 (j6 0)]) (.block 0 (.loop xJ))) (.seq (.reg [jc 2 (.bool true)]) .ret))))))
theorem Rq : BX Tryz.prog Tryz.f82 = some ⟨52, k82, [(.tmp 2)]⟩ := by kernel_rfl
theorem VR (N : Nat) (V9 : List UInt8) : ∀ (n : Nat) (x : Int) (y : Unit ⊕ Bool), FO N V9 n x = some y → WX Tryz.prog (fun _ => false) (.loop xJ) ((fun (x : Int) => ⟨AY [(3, .str V9), (4, .int .i64 x)], AY []⟩) x) ((Sum.elim (fun y e s => e = .exit 0 ∧ s = ⟨AY [], AY []⟩) (fun y e s => e = .ret ∧ s = ⟨AY [(2, .bool y)], AY []⟩) : (Unit ⊕ Bool) → Xt → St → Prop) y) := by
 refine EQ _ _ (FO N V9) (IZ N V9) (fun _ => rfl) (fun _ _ => rfl) ?_
 rintro rec v4l30 y h
 iterate 2 refine AJ ?_
 refine AC ?_
 iterate 4 refine A7 rfl rfl ?_
 refine D8 h rfl (fun c6 h => ?_) (fun c6 h => ?_)
 refine BF ?_
 refine AJ ?_
 refine C9 ?_
 obtain ⟨g7, rR, h⟩ := AL h
 refine F9 ⟨AY [(3, .str V9), (4, .int .i64 v4l30), (51, .bool g7)], AY []⟩ ?_ ?_
 have h := rR
 refine AC ?_
 iterate 2 refine A7 rfl rfl ?_
 obtain ⟨x44, hx44, h⟩ := AL h
 refine A7 rfl (GN hx44 rfl rfl) ?_
 refine A7 (p := .bool (decide (((x44).toNat : Int) < (48 : Int)))) rfl rfl ?_
 refine A7 rfl rfl ?_
 rcases BO h with ⟨c8, h⟩ | ⟨c8, h⟩
 iterate 4 refine BK (gn rfl c8) ?_
 refine A7 rfl (BA c8 rfl rfl) ?_
 obtain rfl := AB h
 exact (cn rfl rfl rfl rfl)
 iterate 2 refine A7 (gy rfl c8) rfl ?_
 obtain ⟨bL, uX, h⟩ := AL h
 refine A7 (gy rfl c8) (GN uX rfl rfl) ?_
 refine A7 (p := .bool (decide (((bL).toNat : Int) > (57 : Int)))) (gy rfl c8) rfl ?_
 refine A7 rfl (AZ c8 rfl rfl) ?_
 cases AB h
 exact (cn rfl rfl rfl rfl)
 clear rR
 refine D8 h rfl (fun c9 h => ?_) (fun c9 h => ?_)
 refine AJ ?_
 refine AC ?_
 refine A7 rfl rfl ?_
 obtain rfl := AB h
 exact DU (st1 := ⟨AY [(2, .bool false)], AY []⟩) (cn rfl rfl rfl rfl) ⟨rfl, rfl⟩
 refine BF ?_
 refine AC ?_
 refine A7 rfl rfl ?_
 refine A7 (p := .int .i64 (BQ (v4l30 + (1 : Int)))) rfl rfl ?_
 refine A7 rfl rfl ?_
 exact ⟨(BQ (v4l30 + (1 : Int))), (cn rfl rfl rfl rfl), h⟩
 cases AB h
 exact CW (st1 := ⟨AY [], AY []⟩) (cn rfl rfl rfl rfl) ⟨rfl, rfl⟩
theorem Y2 (N : Nat) (a0 : List UInt8) (r : Bool) (h : MX N a0 = some r) : Sat Tryz.prog 82 AO [.str a0] (.bool r) AO := by
 refine DT mixed Tryz.func82 Rq (rs := [.bool r]) rfl rfl ?_
 refine AJ ?_
 refine AC ?_
 refine A7 rfl rfl ?_
 refine AJ ?_
 refine AC ?_
 iterate 2 refine A7 rfl rfl ?_
 refine QO (fun (x : List UInt8) => ⟨AY [(3, .str x)], AY []⟩) (fun x => IK N x = some r) ?_ ?_
 rintro V9 h
 refine AJ ?_
 obtain ⟨g1, hg1, h⟩ := AL h
 refine F9 ⟨AY [(3, .str V9), (35, .bool g1)], AY []⟩ ?_ ?_
 have h := hg1
 refine AC ?_
 iterate 4 refine A7 rfl rfl ?_
 rcases BO h with ⟨c2, h⟩ | ⟨c2, h⟩
 iterate 3 refine BK (gn rfl c2) ?_
 refine A7 rfl (BA c2 rfl rfl) ?_
 refine A7 rfl rfl ?_
 iterate 4 refine BK rfl ?_
 iterate 3 refine BK (gu rfl) ?_
 refine BK rfl ?_
 refine A7 rfl rfl ?_
 obtain rfl := AB h
 exact (cn rfl rfl rfl rfl)
 iterate 3 refine A7 (gy rfl c2) rfl ?_
 refine A7 rfl (AZ c2 rfl rfl) ?_
 refine A7 rfl rfl ?_
 rcases BO h with ⟨c3, h⟩ | ⟨c3, h⟩
 iterate 4 refine BK (gn rfl c3) ?_
 iterate 3 refine BK (gu rfl) ?_
 refine BK (gn rfl c3) ?_
 refine A7 rfl (BA c3 rfl rfl) ?_
 obtain rfl := AB h
 exact (cn rfl rfl rfl rfl)
 iterate 4 refine A7 (gy rfl c3) rfl ?_
 rcases BO h with ⟨c4, h⟩ | ⟨c4, h⟩
 refine A7 (gy rfl c4) rfl ?_
 obtain ⟨x32, hx32, h⟩ := AL h
 refine A7 (gy rfl c4) (GN hx32 rfl rfl) ?_
 refine A7 (p := .bool (((x32).toNat : Int) == (48 : Int))) (gy rfl c4) rfl ?_
 refine A7 (gy rfl c3) (BA c4 rfl rfl) ?_
 refine A7 rfl (AZ c3 rfl rfl) ?_
 cases AB h
 exact (cn rfl rfl rfl rfl)
 iterate 3 refine BK (gn rfl c4) ?_
 refine A7 (gy rfl c3) (AZ c4 rfl rfl) ?_
 refine A7 rfl (AZ c3 rfl rfl) ?_
 obtain rfl := AB h
 exact (cn rfl rfl rfl rfl)
 clear hg1
 refine D8 h rfl (fun c5 h => ?_) (fun c5 h => ?_)
 refine AJ ?_
 refine AC ?_
 refine A7 rfl rfl ?_
 obtain rfl := AB h
 refine BS ?_
 exact ⟨nofun, rfl, rfl⟩
 refine BF ?_
 iterate 2 refine AJ ?_
 refine AC ?_
 refine A7 rfl rfl ?_
 refine C9 ?_
 obtain ⟨LC, gV, h⟩ := AL h
 refine PT (VR N V9 N _ _ gV) (cn rfl rfl rfl rfl) ?_
 clear gV
 rcases LC with LC | LC
 rintro e s ⟨rfl, rfl⟩
 refine AJ ?_
 refine AC ?_
 refine A7 rfl rfl ?_
 obtain rfl := AB h
 refine BS ?_
 exact ⟨nofun, rfl, rfl⟩
 rintro e s ⟨rfl, rfl⟩
 obtain rfl := AB h
 exact ⟨nofun, rfl, rfl⟩
 obtain ⟨g11, kD, h⟩ := AL h
 refine F9 ⟨AY [(3, .str a0), (13, .bool g11)], AY []⟩ ?_ ?_
 have h := kD
 refine AC ?_
 iterate 4 refine A7 rfl rfl ?_
 rcases BO h with ⟨c12, h⟩ | ⟨c12, h⟩
 refine A7 (gy rfl c12) rfl ?_
 obtain ⟨KW, aW, h⟩ := AL h
 refine A7 (gy rfl c12) (GN aW rfl rfl) ?_
 refine A7 (p := .bool (((KW).toNat : Int) == (45 : Int))) (gy rfl c12) rfl ?_
 refine A7 rfl (BA c12 rfl rfl) ?_
 cases AB h
 exact (cn rfl rfl rfl rfl)
 iterate 3 refine BK (gn rfl c12) ?_
 refine A7 rfl (AZ c12 rfl rfl) ?_
 obtain rfl := AB h
 exact (cn rfl rfl rfl rfl)
 clear kD
 refine D8 h rfl (fun c13 h => ?_) (fun c13 h => ?_)
 refine AJ ?_
 refine AC ?_
 refine A7 rfl rfl ?_
 obtain ⟨N7, SE, h⟩ := AL h
 refine A7 rfl (YC SE rfl rfl) ?_
 refine A7 rfl rfl ?_
 refine AJ ?_
 refine AC ?_
 iterate 2 refine A7 rfl rfl ?_
 refine D8 h rfl (fun c14 h => ?_) (fun c14 h => ?_)
 refine AJ ?_
 refine AC ?_
 refine A7 rfl rfl ?_
 obtain rfl := AB h
 refine BS ?_
 exact ⟨nofun, rfl, rfl⟩
 refine BF ?_
 exact ⟨N7, (cn rfl rfl rfl rfl), h⟩
 refine BF ?_
 exact ⟨a0, (cn rfl rfl rfl rfl), h⟩
def xC : IC := (.seq (.seq (.reg [jm 8 7, jm 9 0, jS 10 9, jb .lss 11 8 10]) (.cond (.t 11) .skip (.exit 0))) (.seq (.block 1 (.seq (.reg [jm 14 0, jm 15 7, jn 16 (.idxs (.t 14) (.t 15)), jn 17 (.bin .eql (.t 16) (.c (.int .u8 92)))]) (.cond (.t 17) (.reg [jm 18 7, ju .add 19 18 1, jm 7 19]) (.seq (.reg [jm 20 0, jm 21 7, jn 22 (.idxs (.t 20) (.t 21)), jm 23 1, jb .eql 24 22 23]) (.cond (.t 24) (.seq (.reg [jm 25 5, jm 26 0, jm 27 6, jm 28 7, jn 29 (.slcs (.t 26) (some (.t 27)) (some (.t 28))), jn 30 (.bsl 1 [(.t 29)]), jn 31 (.app 9 1 16 (.t 25) (.t 30)), jm 5 31]) (.reg [jm 32 7, ju .add 33 32 1, jm 6 33])) .skip))))) (.reg [jm 12 7, ju .add 13 12 1, jm 7 13])))
def k97 : IC := (.seq (.reg [jc 4 .nl]) (.seq (.reg [jc 5 .nl]) (.seq (.reg [jc 6 (j6 0)]) (.seq (.seq (.reg [jc 7 (j6 0)]) (.block 0 (.loop xC))) (.seq (.reg [jm 34 5, jm 35 0, jm 36 6, jn 37 (.slcs (.t 35) (some (.t 36)) none), jn 38 (.bsl 1 [(.t 37)]), jn 39 (.app 9 1 16 (.t 34) (.t 38)), jm 4 39]) .ret)))))
theorem Rb : BX Tryz.prog Tryz.f97 = some ⟨40, k97, [(.tmp 4)]⟩ := by kernel_rfl
theorem XW (N : Nat) (a0 : List UInt8) (a1 : UInt8) : ∀ (n : Nat) (x : Int × Int × List (List UInt8)) (y : Int × List (List UInt8)), G8 N a0 a1 n x = some y → WX Tryz.prog (fun _ => false) (.loop xC) ((fun (x : Int × Int × List (List UInt8)) => ⟨AY [(0, .str a0), (1, eb a1), (5, .slr 156005 0 x.2.2.length), (6, .int .i64 x.1), (7, .int .i64 x.2.1)], AY [(156005, ⟨1, true, List.map PV.str x.2.2⟩)]⟩) x) ((fun y e s => e = .exit 0 ∧ s = ⟨AY [(0, .str a0), (5, .slr 156005 0 y.2.length), (6, .int .i64 y.1)], AY [(156005, ⟨1, true, List.map PV.str y.2⟩)]⟩ : (Int × List (List UInt8)) → Xt → St → Prop) y) := by
 refine EQ _ _ (G8 N a0 a1) (MO N a0 a1) (fun _ => rfl) (fun _ _ => rfl) ?_
 rintro rec ⟨G6, K6, LV⟩ y h
 iterate 2 refine AJ ?_
 refine AC ?_
 iterate 4 refine A7 rfl rfl ?_
 refine D8 h rfl (fun c1 h => ?_) (fun c1 h => ?_)
 refine BF ?_
 refine QO (fun (x : Int × Int × List (List UInt8)) => ⟨AY [(0, .str a0), (1, eb a1), (5, .slr 156005 0 x.2.2.length), (6, .int .i64 x.1), (7, .int .i64 x.2.1)], AY [(156005, ⟨1, true, List.map PV.str x.2.2⟩)]⟩) (fun x => JA rec x.1 x.2.1 x.2.2 = some y) ?_ ?_
 rintro ⟨iK, bU, aR⟩ h
 refine AC ?_
 refine A7 rfl rfl ?_
 refine A7 (p := .int .i64 (BQ (bU + (1 : Int)))) rfl rfl ?_
 refine A7 rfl rfl ?_
 exact ⟨(iK, (BQ (bU + (1 : Int))), aR), (cn rfl rfl rfl rfl), h⟩
 refine C9 ?_
 refine AJ ?_
 refine AC ?_
 iterate 2 refine A7 rfl rfl ?_
 obtain ⟨Y4, hx16, h⟩ := AL h
 refine A7 rfl (GN hx16 rfl rfl) ?_
 refine A7 (p := .bool (((Y4).toNat : Int) == (92 : Int))) rfl rfl ?_
 refine D8 h rfl (fun c2 h => ?_) (fun c2 h => ?_)
 refine AC ?_
 refine A7 rfl rfl ?_
 refine A7 (p := .int .i64 (BQ (K6 + (1 : Int)))) rfl rfl ?_
 refine A7 rfl rfl ?_
 exact ⟨(G6, (BQ (K6 + (1 : Int))), LV), (cn rfl rfl rfl rfl), h⟩
 refine AJ ?_
 refine AC ?_
 iterate 2 refine A7 rfl rfl ?_
 obtain ⟨WO, YF, h⟩ := AL h
 refine A7 rfl (GN YF rfl rfl) ?_
 refine A7 rfl rfl ?_
 refine A7 (p := .bool (((WO).toNat : Int) == ((a1).toNat : Int))) rfl rfl ?_
 refine D8 h rfl (fun c3 h => ?_) (fun c3 h => ?_)
 refine AJ ?_
 refine AC ?_
 iterate 4 refine A7 rfl rfl ?_
 obtain ⟨x29, hx29, h⟩ := AL h
 refine A7 rfl (mM hx29 rfl rfl rfl) ?_
 refine CS rfl (SB 155230 rfl rfl rfl) ?_
 obtain ⟨x31, hx31, h⟩ := AL h
 refine UC (f := PV.str) 155231 hx31 rfl rfl rfl rfl rfl (KA rfl (BR (f := PV.str) (l := [x29]))) rfl rfl rfl rfl ?_
 refine A7 rfl rfl ?_
 refine AC ?_
 refine A7 rfl rfl ?_
 refine A7 (p := .int .i64 (BQ (K6 + (1 : Int)))) rfl rfl ?_
 refine A7 rfl rfl ?_
 exact ⟨((BQ (K6 + (1 : Int))), K6, x31), (CB.trans (rename 155231 156005 rfl rfl) (cn rfl rfl rfl rfl)), h⟩
 refine BF ?_
 exact ⟨(G6, K6, LV), (cn rfl rfl rfl rfl), h⟩
 cases AB h
 exact CW (st1 := ⟨AY [(0, .str a0), (5, .slr 156005 0 LV.length), (6, .int .i64 G6)], AY [(156005, ⟨1, true, List.map PV.str LV⟩)]⟩) (cn rfl rfl rfl rfl) ⟨rfl, rfl⟩
theorem O8 (N : Nat) (a0 : List UInt8) (a1 : UInt8) (r : List (List UInt8)) (h : KC N a0 a1 = some r) : Sat Tryz.prog 97 AO [.str a0, eb a1] (.sl 1 (List.map PV.str r)) AO := by
 refine DT mixed Tryz.func97 Rb (rs := [.sl 1 (List.map PV.str r)]) rfl rfl ?_
 refine AJ ?_
 refine AC ?_
 refine A7 rfl rfl ?_
 refine AJ ?_
 refine AC ?_
 refine A7 rfl rfl ?_
 refine AJ ?_
 refine AC ?_
 refine A7 rfl rfl ?_
 iterate 2 refine AJ ?_
 refine AC ?_
 refine A7 rfl rfl ?_
 refine C9 ?_
 obtain ⟨y4, hy4, h⟩ := AL h
 refine PT (XW N a0 a1 N _ _ hy4) (CB.trans (ZZ 5 156005 1 true rfl rfl rfl) (cn rfl rfl rfl rfl)) ?_
 rintro e s ⟨rfl, rfl⟩
 refine AJ ?_
 refine AC ?_
 iterate 3 refine A7 rfl rfl ?_
 obtain ⟨x37, Vs, h⟩ := AL h
 refine A7 rfl (YC Vs rfl rfl) ?_
 refine CS rfl (SB 155238 rfl rfl rfl) ?_
 obtain ⟨x39, hx39, h⟩ := AL h
 refine UC (f := PV.str) 155239 hx39 rfl rfl rfl rfl rfl (KA rfl (BR (f := PV.str) (l := [x37]))) rfl rfl rfl rfl ?_
 refine A7 rfl rfl ?_
 obtain rfl := AB h
 refine DU (st1 := ⟨AY [(4, .sl 1 (List.map PV.str x39))], AY []⟩) (CB.trans (Vd.freeze 155239 _ rfl rfl rfl) (CB.trans (KN 4 (GQ (congrArg (PV.sl 1) (BR (f := PV.str) (l := x39)))) rfl) (cn rfl rfl rfl rfl))) ?_
 exact ⟨nofun, rfl, rfl⟩
def k142 : IC := (.seq (.reg [jc 2 (.bool false)]) (.seq (.reg [jm 3 0, jn 4 (.bin .eql (.t 3) (.c (.int .u8 44))), jm 5 4, jf 5 6 (.mov (.t 0)), jf 5 7 (.bin .eql (.t 6) (.c (.int .u8 43))), jo 8 5 7, jm 9 8, jf 9 10 (.mov (.t 0)), jf 9 11 (.bin .eql (.t 10) (.c (.int .u8 34))), jo 12 9 11, jm 13 12, jf 13 14 (.mov (.t 0)), jf 13 15 (.bin .eql (.t 14) (.c (.int .u8 92))), jo 16 13 15, jm 17 16, jf 17 18 (.mov (.t 0)), jf 17 19 (.bin .eql (.t 18) (.c (.int .u8 60))), jo 20 17 19, jm 21 20, jf 21 22 (.mov (.t 0)), jf 21 23 (.bin .eql (.t 22) (.c (.int .u8 62))), jo 24 21 23, jm 25 24, jf 25 26 (.mov (.t 0)), jf 25 27 (.bin .eql (.t 26) (.c (.int .u8 59))), jo 28 25 27, jm 2 28]) .ret))
theorem Mf : BX Tryz.prog Tryz.f142 = some ⟨29, k142, [(.tmp 2)]⟩ := by kernel_rfl
theorem P6 (N : Nat) (a0 : UInt8) (r : Bool) (h : H7 N a0 = some r) : Sat Tryz.prog 142 AO [eb a0] (.bool r) AO := by
 refine DT mixed Tryz.func142 Mf (rs := [.bool r]) rfl rfl ?_
 refine AJ ?_
 refine AC ?_
 refine A7 rfl rfl ?_
 obtain ⟨g1, hg1, h⟩ := AL h
 refine F9 ⟨AY [(2, .bool g1)], AY []⟩ ?_ ?_
 have h := hg1
 refine AC ?_
 refine A7 rfl rfl ?_
 refine A7 (p := .bool (((a0).toNat : Int) == (44 : Int))) rfl rfl ?_
 refine A7 rfl rfl ?_
 rcases BO h with ⟨c2, h⟩ | ⟨c2, h⟩
 iterate 2 refine BK (gn rfl c2) ?_
 refine A7 rfl (BA c2 rfl rfl) ?_
 refine A7 rfl rfl ?_
 iterate 2 refine BK rfl ?_
 iterate 2 refine A7 rfl rfl ?_
 iterate 2 refine BK rfl ?_
 iterate 2 refine A7 rfl rfl ?_
 iterate 2 refine BK rfl ?_
 iterate 2 refine A7 rfl rfl ?_
 iterate 2 refine BK rfl ?_
 iterate 2 refine A7 rfl rfl ?_
 iterate 2 refine BK rfl ?_
 iterate 2 refine A7 rfl rfl ?_
 obtain rfl := AB h
 exact (cn rfl rfl rfl rfl)
 refine A7 (gy rfl c2) rfl ?_
 refine A7 (p := .bool (((a0).toNat : Int) == (43 : Int))) (gy rfl c2) rfl ?_
 refine A7 rfl (AZ c2 rfl rfl) ?_
 refine A7 rfl rfl ?_
 rcases BO h with ⟨c3, h⟩ | ⟨c3, h⟩
 iterate 2 refine BK (gn rfl c3) ?_
 refine A7 rfl (BA c3 rfl rfl) ?_
 refine A7 rfl rfl ?_
 iterate 2 refine BK rfl ?_
 iterate 2 refine A7 rfl rfl ?_
 iterate 2 refine BK rfl ?_
 iterate 2 refine A7 rfl rfl ?_
 iterate 2 refine BK rfl ?_
 iterate 2 refine A7 rfl rfl ?_
 iterate 2 refine BK rfl ?_
 iterate 2 refine A7 rfl rfl ?_
 obtain rfl := AB h
 exact (cn rfl rfl rfl rfl)
 refine A7 (gy rfl c3) rfl ?_
 refine A7 (p := .bool (((a0).toNat : Int) == (34 : Int))) (gy rfl c3) rfl ?_
 refine A7 rfl (AZ c3 rfl rfl) ?_
 refine A7 rfl rfl ?_
 rcases BO h with ⟨c4, h⟩ | ⟨c4, h⟩
 iterate 2 refine BK (gn rfl c4) ?_
 refine A7 rfl (BA c4 rfl rfl) ?_
 refine A7 rfl rfl ?_
 iterate 2 refine BK rfl ?_
 iterate 2 refine A7 rfl rfl ?_
 iterate 2 refine BK rfl ?_
 iterate 2 refine A7 rfl rfl ?_
 iterate 2 refine BK rfl ?_
 iterate 2 refine A7 rfl rfl ?_
 obtain rfl := AB h
 exact (cn rfl rfl rfl rfl)
 refine A7 (gy rfl c4) rfl ?_
 refine A7 (p := .bool (((a0).toNat : Int) == (92 : Int))) (gy rfl c4) rfl ?_
 refine A7 rfl (AZ c4 rfl rfl) ?_
 refine A7 rfl rfl ?_
 rcases BO h with ⟨c5, h⟩ | ⟨c5, h⟩
 iterate 2 refine BK (gn rfl c5) ?_
 refine A7 rfl (BA c5 rfl rfl) ?_
 refine A7 rfl rfl ?_
 iterate 2 refine BK rfl ?_
 iterate 2 refine A7 rfl rfl ?_
 iterate 2 refine BK rfl ?_
 iterate 2 refine A7 rfl rfl ?_
 obtain rfl := AB h
 exact (cn rfl rfl rfl rfl)
 refine A7 (gy rfl c5) rfl ?_
 refine A7 (p := .bool (((a0).toNat : Int) == (60 : Int))) (gy rfl c5) rfl ?_
 refine A7 rfl (AZ c5 rfl rfl) ?_
 refine A7 rfl rfl ?_
 rcases BO h with ⟨c6, h⟩ | ⟨c6, h⟩
 iterate 2 refine BK (gn rfl c6) ?_
 refine A7 rfl (BA c6 rfl rfl) ?_
 refine A7 rfl rfl ?_
 iterate 2 refine BK rfl ?_
 iterate 2 refine A7 rfl rfl ?_
 obtain rfl := AB h
 exact (cn rfl rfl rfl rfl)
 refine A7 (gy rfl c6) rfl ?_
 refine A7 (p := .bool (((a0).toNat : Int) == (62 : Int))) (gy rfl c6) rfl ?_
 refine A7 rfl (AZ c6 rfl rfl) ?_
 refine A7 rfl rfl ?_
 rcases BO h with ⟨c7, h⟩ | ⟨c7, h⟩
 iterate 2 refine BK (gn rfl c7) ?_
 refine A7 rfl (BA c7 rfl rfl) ?_
 refine A7 rfl rfl ?_
 obtain rfl := AB h
 exact (cn rfl rfl rfl rfl)
 refine A7 (gy rfl c7) rfl ?_
 refine A7 (p := .bool (((a0).toNat : Int) == (59 : Int))) (gy rfl c7) rfl ?_
 refine A7 rfl (AZ c7 rfl rfl) ?_
 refine A7 rfl rfl ?_
 cases AB h
 exact (cn rfl rfl rfl rfl)
 clear hg1
 obtain rfl := AB h
 refine BS ?_
 exact ⟨nofun, rfl, rfl⟩
def k143 : IC := (.seq (.reg [jc 2 (j6 0)]) (.seq (.block 0 (.seq (.reg [jm 4 0, jn 5 (.bin .geq (.t 4) (.c (.int .u8 48))), jm 6 5, jt 6 7 (.mov (.t 0)), jt 6 8 (.bin .leq (.t 7) (.c (.int .u8 57))), jp 9 6 8, jm 3 9]) (.cond (.t 3) (.seq (.reg [jm 10 0, jn 11 (.bin .sub (.t 10) (.c (.int .u8 48))), jn 12 (.cvi .i64 (.t 11)), jm 2 12]) .ret) (.seq (.reg [jm 14 0, jn 15 (.bin .geq (.t 14) (.c (.int .u8 97))), jm 16 15, jt 16 17 (.mov (.t 0)), jt 16 18 (.bin .leq (.t 17) (.c (.int .u8 102))), jp 19 16 18, jm 13 19]) (.cond (.t 13) (.seq (.reg [jm 20 0, jn 21 (.bin .sub (.t 20) (.c (.int .u8 97))), jn 22 (.cvi .i64 (.t 21)), ju .add 23 22 10, jm 2 23]) .ret) (.seq (.reg [jm 25 0, jn 26 (.bin .geq (.t 25) (.c (.int .u8 65))), jm 27 26, jt 27 28 (.mov (.t 0)), jt 27 29 (.bin .leq (.t 28) (.c (.int .u8 70))), jp 30 27 29, jm 24 30]) (.cond (.t 24) (.seq (.reg [jm 31 0, jn 32 (.bin .sub (.t 31) (.c (.int .u8 65))), jn 33 (.cvi .i64 (.t 32)), ju .add 34 33 10, jm 2 34]) .ret) .skip))))))) (.seq (.reg [jc 2 (j6 (-1))]) .ret)))
theorem Me : BX Tryz.prog Tryz.f143 = some ⟨35, k143, [(.tmp 2)]⟩ := by kernel_rfl
theorem JU (N : Nat) (a0 : UInt8) (r : Int) (h : GA N a0 = some r) : Sat Tryz.prog 143 AO [eb a0] (.int .i64 r) AO := by
 refine DT mixed Tryz.func143 Me (rs := [.int .i64 r]) rfl rfl ?_
 refine AJ ?_
 refine AC ?_
 refine A7 rfl rfl ?_
 refine AJ ?_
 refine C9 ?_
 obtain ⟨g1, hg1, h⟩ := AL h
 refine F9 ⟨AY [(0, eb a0), (3, .bool g1)], AY []⟩ ?_ ?_
 have h := hg1
 refine AC ?_
 refine A7 rfl rfl ?_
 refine A7 (p := .bool (decide (((a0).toNat : Int) ≥ (48 : Int)))) rfl rfl ?_
 refine A7 rfl rfl ?_
 rcases BO h with ⟨c2, h⟩ | ⟨c2, h⟩
 refine A7 (gy rfl c2) rfl ?_
 refine A7 (p := .bool (decide (((a0).toNat : Int) ≤ (57 : Int)))) (gy rfl c2) rfl ?_
 refine A7 rfl (BA c2 rfl rfl) ?_
 refine A7 rfl rfl ?_
 cases AB h
 exact (cn rfl rfl rfl rfl)
 iterate 2 refine BK (gn rfl c2) ?_
 refine A7 rfl (AZ c2 rfl rfl) ?_
 refine A7 rfl rfl ?_
 obtain rfl := AB h
 exact (cn rfl rfl rfl rfl)
 clear hg1
 refine D8 h rfl (fun c3 h => ?_) (fun c3 h => ?_)
 refine AJ ?_
 refine AC ?_
 refine A7 rfl rfl ?_
 refine A7 rfl (o8 (a := a0) (b := (48 : UInt8)) rfl rfl) ?_
 refine A7 rfl (fA (a := (a0 - (48 : UInt8))) rfl) ?_
 refine A7 rfl rfl ?_
 cases AB h
 refine BS ?_
 exact ⟨nofun, rfl, rfl⟩
 obtain ⟨g4, hg4, h⟩ := AL h
 refine F9 ⟨AY [(0, eb a0), (13, .bool g4)], AY []⟩ ?_ ?_
 have h := hg4
 refine AC ?_
 refine A7 rfl rfl ?_
 refine A7 (p := .bool (decide (((a0).toNat : Int) ≥ (97 : Int)))) rfl rfl ?_
 refine A7 rfl rfl ?_
 rcases BO h with ⟨c5, h⟩ | ⟨c5, h⟩
 refine A7 (gy rfl c5) rfl ?_
 refine A7 (p := .bool (decide (((a0).toNat : Int) ≤ (102 : Int)))) (gy rfl c5) rfl ?_
 refine A7 rfl (BA c5 rfl rfl) ?_
 refine A7 rfl rfl ?_
 cases AB h
 exact (cn rfl rfl rfl rfl)
 iterate 2 refine BK (gn rfl c5) ?_
 refine A7 rfl (AZ c5 rfl rfl) ?_
 refine A7 rfl rfl ?_
 obtain rfl := AB h
 exact (cn rfl rfl rfl rfl)
 clear hg4
 refine D8 h rfl (fun c6 h => ?_) (fun c6 h => ?_)
 refine AJ ?_
 refine AC ?_
 refine A7 rfl rfl ?_
 refine A7 rfl (o8 (a := a0) (b := (97 : UInt8)) rfl rfl) ?_
 refine A7 rfl (fA (a := (a0 - (97 : UInt8))) rfl) ?_
 refine A7 (p := .int .i64 (BQ ((((a0 - (97 : UInt8))).toNat : Int) + (10 : Int)))) rfl rfl ?_
 refine A7 rfl rfl ?_
 cases AB h
 refine BS ?_
 exact ⟨nofun, rfl, rfl⟩
 obtain ⟨g7, rR, h⟩ := AL h
 refine F9 ⟨AY [(0, eb a0), (24, .bool g7)], AY []⟩ ?_ ?_
 have h := rR
 refine AC ?_
 refine A7 rfl rfl ?_
 refine A7 (p := .bool (decide (((a0).toNat : Int) ≥ (65 : Int)))) rfl rfl ?_
 refine A7 rfl rfl ?_
 rcases BO h with ⟨c8, h⟩ | ⟨c8, h⟩
 refine A7 (gy rfl c8) rfl ?_
 refine A7 (p := .bool (decide (((a0).toNat : Int) ≤ (70 : Int)))) (gy rfl c8) rfl ?_
 refine A7 rfl (BA c8 rfl rfl) ?_
 refine A7 rfl rfl ?_
 cases AB h
 exact (cn rfl rfl rfl rfl)
 iterate 2 refine BK (gn rfl c8) ?_
 refine A7 rfl (AZ c8 rfl rfl) ?_
 refine A7 rfl rfl ?_
 obtain rfl := AB h
 exact (cn rfl rfl rfl rfl)
 clear rR
 refine D8 h rfl (fun c9 h => ?_) (fun c9 h => ?_)
 refine AJ ?_
 refine AC ?_
 refine A7 rfl rfl ?_
 refine A7 rfl (o8 (a := a0) (b := (65 : UInt8)) rfl rfl) ?_
 refine A7 rfl (fA (a := (a0 - (65 : UInt8))) rfl) ?_
 refine A7 (p := .int .i64 (BQ ((((a0 - (65 : UInt8))).toNat : Int) + (10 : Int)))) rfl rfl ?_
 refine A7 rfl rfl ?_
 cases AB h
 refine BS ?_
 exact ⟨nofun, rfl, rfl⟩
 refine BF ?_
 refine AJ ?_
 refine AC ?_
 refine A7 rfl rfl ?_
 cases AB h
 refine BS ?_
 exact ⟨nofun, rfl, rfl⟩
end Go.Gp
end
