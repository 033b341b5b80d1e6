/- A part of the proof: functions of the program and what they compute. -/
import Derived.Test.YtlopcglohpfonaaGreatDoorA5
import Derived.Test.YtlopcglohpfonaaGreatDoorA6
import Derived.Test.YtlopcglohpfonaaGreatDoorA9
section
set_option linter.unusedVariables false
set_option linter.unusedSimpArgs false
set_option maxRecDepth 4000
namespace Go.Gp
open Go.Vd Go.RowKit Go.Proofs
def k24 : IC := (.seq (.reg [jn 1 (.box 23 (.t 0)), jc 2 (.bool false)]) (.seq (.reg [ja 3 0 1, jl 4 1 3, ju .geq 5 4 0, jm 6 5, jt 6 7 (.fda 0 (.t 1)), jt 6 8 (.load 1 false (.t 7)), jt 6 9 (.bin .leq (.t 8) (ji 1099511627776)), jp 10 6 9, jm 11 10, jt 11 12 (.fda 1 (.t 1)), jt 11 13 (.load 1 false (.t 12)), jt 11 14 (.bin .geq (.t 13) (ji 0)), jp 15 11 14, jm 16 15, jt 16 17 (.fda 1 (.t 1)), jt 16 18 (.load 1 false (.t 17)), jt 16 19 (.bin .leq (.t 18) (ji 65535)), jp 20 16 19, jm 21 20, jt 21 22 (.fda 2 (.t 1)), jt 21 23 (.load 1 false (.t 22)), jt 21 24 (.bin .geq (.t 23) (ji 0)), jp 25 21 24, jm 26 25, jt 26 27 (.fda 2 (.t 1)), jt 26 28 (.load 1 false (.t 27)), jt 26 29 (.bin .lss (.t 28) (ji 6)), jp 30 26 29, jm 2 30]) .ret))
theorem Ug : BX Tryz.prog Tryz.f24 = some ⟨31, k24, [(.tmp 2)]⟩ := by kernel_rfl
theorem X8 (N : Nat) (a0 : AR) (r : Bool) (h : bD N a0 = some r) : Sat Tryz.prog 24 AO [F7 a0] (.bool r) AO := by
 refine DT mixed Tryz.func24 Ug (rs := [.bool r]) rfl rfl ?_
 refine AJ ?_
 refine AC ?_
 refine CS rfl (FZ 38401 rfl rfl rfl rfl rfl) ?_
 refine A7 rfl rfl ?_
 obtain ⟨g1, hg1, h⟩ := AL h
 refine F9 ⟨AY [(2, .bool g1)], AY []⟩ ?_ ?_
 have h := hg1
 refine AC ?_
 iterate 4 refine A7 rfl rfl ?_
 rcases BO h with ⟨c2, h⟩ | ⟨c2, h⟩
 iterate 3 refine A7 (gy rfl c2) rfl ?_
 refine A7 rfl (BA c2 rfl rfl) ?_
 refine A7 rfl rfl ?_
 rcases BO h with ⟨c3, h⟩ | ⟨c3, h⟩
 iterate 3 refine A7 (gy rfl c3) rfl ?_
 refine A7 rfl (BA c3 rfl rfl) ?_
 refine A7 rfl rfl ?_
 rcases BO h with ⟨c4, h⟩ | ⟨c4, h⟩
 iterate 3 refine A7 (gy rfl c4) rfl ?_
 refine A7 rfl (BA c4 rfl rfl) ?_
 refine A7 rfl rfl ?_
 rcases BO h with ⟨c5, h⟩ | ⟨c5, h⟩
 iterate 3 refine A7 (gy rfl c5) rfl ?_
 refine A7 rfl (BA c5 rfl rfl) ?_
 refine A7 rfl rfl ?_
 rcases BO h with ⟨c6, h⟩ | ⟨c6, h⟩
 iterate 3 refine A7 (gy rfl c6) rfl ?_
 refine A7 rfl (BA c6 rfl rfl) ?_
 refine A7 rfl rfl ?_
 cases AB h
 exact (cn rfl rfl rfl rfl)
 iterate 3 refine BK (gn rfl c6) ?_
 refine A7 rfl (AZ c6 rfl rfl) ?_
 refine A7 rfl rfl ?_
 obtain rfl := AB h
 exact (cn rfl rfl rfl rfl)
 iterate 3 refine BK (gn rfl c5) ?_
 refine A7 rfl (AZ c5 rfl rfl) ?_
 refine A7 rfl rfl ?_
 iterate 3 refine BK rfl ?_
 iterate 2 refine A7 rfl rfl ?_
 obtain rfl := AB h
 exact (cn rfl rfl rfl rfl)
 iterate 3 refine BK (gn rfl c4) ?_
 refine A7 rfl (AZ c4 rfl rfl) ?_
 refine A7 rfl rfl ?_
 iterate 3 refine BK rfl ?_
 iterate 2 refine A7 rfl rfl ?_
 iterate 3 refine BK rfl ?_
 iterate 2 refine A7 rfl rfl ?_
 obtain rfl := AB h
 exact (cn rfl rfl rfl rfl)
 iterate 3 refine BK (gn rfl c3) ?_
 refine A7 rfl (AZ c3 rfl rfl) ?_
 refine A7 rfl rfl ?_
 iterate 3 refine BK rfl ?_
 iterate 2 refine A7 rfl rfl ?_
 iterate 3 refine BK rfl ?_
 iterate 2 refine A7 rfl rfl ?_
 iterate 3 refine BK rfl ?_
 iterate 2 refine A7 rfl rfl ?_
 obtain rfl := AB h
 exact (cn rfl rfl rfl rfl)
 iterate 3 refine BK (gn rfl c2) ?_
 refine A7 rfl (AZ c2 rfl rfl) ?_
 refine A7 rfl rfl ?_
 iterate 3 refine BK rfl ?_
 iterate 2 refine A7 rfl rfl ?_
 iterate 3 refine BK rfl ?_
 iterate 2 refine A7 rfl rfl ?_
 iterate 3 refine BK rfl ?_
 iterate 2 refine A7 rfl rfl ?_
 iterate 3 refine BK rfl ?_
 iterate 2 refine A7 rfl rfl ?_
 obtain rfl := AB h
 exact (cn rfl rfl rfl rfl)
 clear hg1
 obtain rfl := AB h
 refine BS ?_
 exact ⟨nofun, rfl, rfl⟩
def k25 : IC := (.seq (.reg [jn 1 (.box 23 (.t 0)), jc 2 (.bool false)]) (.seq (.reg [jg 3 3 1, jn 4 (.build [(j6 0), (j6 0), (j6 0)] []), jn 5 (.eqs false [(.i .i64), (.i .i64), (.i .i64)] (.t 3) (.t 4)), jm 2 5]) .ret))
theorem Uf : BX Tryz.prog Tryz.f25 = some ⟨6, k25, [(.tmp 2)]⟩ := by kernel_rfl
theorem SX (N : Nat) (a0 : AR) (r : Bool) (h : U5 N a0 = some r) : Sat Tryz.prog 25 AO [F7 a0] (.bool r) AO := by
 refine DT mixed Tryz.func25 Uf (rs := [.bool r]) rfl rfl ?_
 refine AJ ?_
 refine AC ?_
 refine CS rfl (FZ 40001 rfl rfl rfl rfl rfl) ?_
 refine A7 rfl rfl ?_
 refine AJ ?_
 refine AC ?_
 refine A7 (p := F7 a0) rfl rfl ?_
 refine A7 (p := .agg [.int .i64 0, .int .i64 0, .int .i64 0]) rfl rfl ?_
 refine A7 (p := .bool (a0.Time == (0 : Int) && (a0.Seq == (0 : Int) && (a0.Rep == (0 : Int) && true)))) rfl rfl ?_
 refine A7 rfl rfl ?_
 cases AB h
 refine BS ?_
 exact ⟨nofun, rfl, rfl⟩
def k72 : IC := (.seq (.reg [jc 2 (.bool false)]) (.seq (.reg [jm 3 0, jm 4 0, jb .neq 5 3 4, jm 2 5]) .ret))
theorem Sc : BX Tryz.prog Tryz.f72 = some ⟨6, k72, [(.tmp 2)]⟩ := by kernel_rfl
theorem SL (N : Nat) (a0 : Int) (r : Bool) (h : OL N a0 = some r) : Sat Tryz.prog 72 AO [.int .i64 a0] (.bool r) AO := by
 refine DT mixed Tryz.func72 Sc (rs := [.bool r]) rfl rfl ?_
 refine AJ ?_
 refine AC ?_
 refine A7 rfl rfl ?_
 refine AJ ?_
 refine AC ?_
 iterate 4 refine A7 rfl rfl ?_
 cases AB h
 refine BS ?_
 exact ⟨nofun, rfl, rfl⟩
def k52 : IC := (.seq (.reg [jc 4 (j6 0)]) (.seq (.reg [jm 7 0, jn 8 (.call 72 [(.t 7)]), jm 5 8]) (.seq (.reg [jm 9 1, jn 10 (.call 72 [(.t 9)]), jm 6 10]) (.seq (.seq (.reg [jm 11 5]) (.cond (.t 11) (.seq (.seq (.reg [jm 12 6]) (.cond (.t 12) (.seq (.reg [jc 4 (j6 0)]) .ret) .skip)) (.seq (.reg [jc 4 (j6 (-1))]) .ret)) .skip)) (.seq (.seq (.reg [jm 13 6]) (.cond (.t 13) (.seq (.reg [jc 4 (j6 1)]) .ret) .skip)) (.seq (.seq (.reg [jm 14 0, jm 15 1, jb .lss 16 14 15]) (.cond (.t 16) (.seq (.reg [jc 4 (j6 (-1))]) .ret) .skip)) (.seq (.seq (.reg [jm 17 0, jm 18 1, jb .gtr 19 17 18]) (.cond (.t 19) (.seq (.reg [jc 4 (j6 1)]) .ret) .skip)) (.seq (.reg [jc 4 (j6 0)]) .ret))))))))
theorem Tc : BX Tryz.prog Tryz.f52 = some ⟨20, k52, [(.tmp 4)]⟩ := by kernel_rfl
theorem Y3 (N : Nat) (a0 : Int) (a1 : Int) (r : Int) (h : MZ N a0 a1 = some r) : Sat Tryz.prog 52 AO [.int .i64 a0, .int .i64 a1] (.int .i64 r) AO := by
 refine DT mixed Tryz.func52 Tc (rs := [.int .i64 r]) rfl rfl ?_
 refine AJ ?_
 refine AC ?_
 refine A7 rfl rfl ?_
 refine AJ ?_
 refine AC ?_
 refine A7 rfl rfl ?_
 obtain ⟨x8, Nb, h⟩ := AL h
 refine CS rfl (CG (SL N _ _ Nb) rfl (.cons A9 .nil) rfl rfl rfl) ?_
 refine A7 rfl rfl ?_
 refine AJ ?_
 refine AC ?_
 refine A7 rfl rfl ?_
 obtain ⟨R9, VK, h⟩ := AL h
 refine CS rfl (CG (SL N _ _ VK) rfl (.cons A9 .nil) rfl rfl rfl) ?_
 refine A7 rfl rfl ?_
 iterate 2 refine AJ ?_
 refine AC ?_
 refine A7 rfl rfl ?_
 refine D8 h rfl (fun c1 h => ?_) (fun c1 h => ?_)
 iterate 2 refine AJ ?_
 refine AC ?_
 refine A7 rfl rfl ?_
 refine D8 h rfl (fun c2 h => ?_) (fun c2 h => ?_)
 refine AJ ?_
 refine AC ?_
 refine A7 rfl rfl ?_
 obtain rfl := AB h
 refine BS ?_
 exact ⟨nofun, rfl, rfl⟩
 refine BF ?_
 refine AJ ?_
 refine AC ?_
 refine A7 rfl rfl ?_
 cases AB h
 refine BS ?_
 exact ⟨nofun, rfl, rfl⟩
 refine BF ?_
 iterate 2 refine AJ ?_
 refine AC ?_
 refine A7 rfl rfl ?_
 refine D8 h rfl (fun c3 h => ?_) (fun c3 h => ?_)
 refine AJ ?_
 refine AC ?_
 refine A7 rfl rfl ?_
 obtain rfl := AB h
 refine BS ?_
 exact ⟨nofun, rfl, rfl⟩
 refine BF ?_
 iterate 2 refine AJ ?_
 refine AC ?_
 iterate 3 refine A7 rfl rfl ?_
 refine D8 h rfl (fun c4 h => ?_) (fun c4 h => ?_)
 refine AJ ?_
 refine AC ?_
 refine A7 rfl rfl ?_
 cases AB h
 refine BS ?_
 exact ⟨nofun, rfl, rfl⟩
 refine BF ?_
 iterate 2 refine AJ ?_
 refine AC ?_
 iterate 3 refine A7 rfl rfl ?_
 refine D8 h rfl (fun c5 h => ?_) (fun c5 h => ?_)
 refine AJ ?_
 refine AC ?_
 refine A7 rfl rfl ?_
 obtain rfl := AB h
 refine BS ?_
 exact ⟨nofun, rfl, rfl⟩
 refine BF ?_
 refine AJ ?_
 refine AC ?_
 refine A7 rfl rfl ?_
 obtain rfl := AB h
 refine BS ?_
 exact ⟨nofun, rfl, rfl⟩
def k73 : IC := (.seq (.reg [jc 2 (.bool false)]) (.seq (.reg [jm 3 0, jm 4 0, jb .neq 5 3 4, jm 2 5]) .ret))
theorem Sb : BX Tryz.prog Tryz.f73 = some ⟨6, k73, [(.tmp 2)]⟩ := by kernel_rfl
theorem UK (N : Nat) (a0 : Int) (r : Bool) (h : cmp_isNaN_int N a0 = some r) : Sat Tryz.prog 73 AO [.int .i64 a0] (.bool r) AO := by
 refine DT mixed Tryz.func73 Sb (rs := [.bool r]) rfl rfl ?_
 refine AJ ?_
 refine AC ?_
 refine A7 rfl rfl ?_
 refine AJ ?_
 refine AC ?_
 iterate 4 refine A7 rfl rfl ?_
 cases AB h
 refine BS ?_
 exact ⟨nofun, rfl, rfl⟩
def k53 : IC := (.seq (.reg [jc 4 (j6 0)]) (.seq (.reg [jm 7 0, jn 8 (.call 73 [(.t 7)]), jm 5 8]) (.seq (.reg [jm 9 1, jn 10 (.call 73 [(.t 9)]), jm 6 10]) (.seq (.seq (.reg [jm 11 5]) (.cond (.t 11) (.seq (.seq (.reg [jm 12 6]) (.cond (.t 12) (.seq (.reg [jc 4 (j6 0)]) .ret) .skip)) (.seq (.reg [jc 4 (j6 (-1))]) .ret)) .skip)) (.seq (.seq (.reg [jm 13 6]) (.cond (.t 13) (.seq (.reg [jc 4 (j6 1)]) .ret) .skip)) (.seq (.seq (.reg [jm 14 0, jm 15 1, jb .lss 16 14 15]) (.cond (.t 16) (.seq (.reg [jc 4 (j6 (-1))]) .ret) .skip)) (.seq (.seq (.reg [jm 17 0, jm 18 1, jb .gtr 19 17 18]) (.cond (.t 19) (.seq (.reg [jc 4 (j6 1)]) .ret) .skip)) (.seq (.reg [jc 4 (j6 0)]) .ret))))))))
theorem Ta : BX Tryz.prog Tryz.f53 = some ⟨20, k53, [(.tmp 4)]⟩ := by kernel_rfl
theorem SN (N : Nat) (a0 : Int) (a1 : Int) (r : Int) (h : cmp_Compare_int N a0 a1 = some r) : Sat Tryz.prog 53 AO [.int .i64 a0, .int .i64 a1] (.int .i64 r) AO := by
 refine DT mixed Tryz.func53 Ta (rs := [.int .i64 r]) rfl rfl ?_
 refine AJ ?_
 refine AC ?_
 refine A7 rfl rfl ?_
 refine AJ ?_
 refine AC ?_
 refine A7 rfl rfl ?_
 obtain ⟨x8, Nb, h⟩ := AL h
 refine CS rfl (CG (UK N _ _ Nb) rfl (.cons A9 .nil) rfl rfl rfl) ?_
 refine A7 rfl rfl ?_
 refine AJ ?_
 refine AC ?_
 refine A7 rfl rfl ?_
 obtain ⟨R9, VK, h⟩ := AL h
 refine CS rfl (CG (UK N _ _ VK) rfl (.cons A9 .nil) rfl rfl rfl) ?_
 refine A7 rfl rfl ?_
 iterate 2 refine AJ ?_
 refine AC ?_
 refine A7 rfl rfl ?_
 refine D8 h rfl (fun c1 h => ?_) (fun c1 h => ?_)
 iterate 2 refine AJ ?_
 refine AC ?_
 refine A7 rfl rfl ?_
 refine D8 h rfl (fun c2 h => ?_) (fun c2 h => ?_)
 refine AJ ?_
 refine AC ?_
 refine A7 rfl rfl ?_
 obtain rfl := AB h
 refine BS ?_
 exact ⟨nofun, rfl, rfl⟩
 refine BF ?_
 refine AJ ?_
 refine AC ?_
 refine A7 rfl rfl ?_
 cases AB h
 refine BS ?_
 exact ⟨nofun, rfl, rfl⟩
 refine BF ?_
 iterate 2 refine AJ ?_
 refine AC ?_
 refine A7 rfl rfl ?_
 refine D8 h rfl (fun c3 h => ?_) (fun c3 h => ?_)
 refine AJ ?_
 refine AC ?_
 refine A7 rfl rfl ?_
 obtain rfl := AB h
 refine BS ?_
 exact ⟨nofun, rfl, rfl⟩
 refine BF ?_
 iterate 2 refine AJ ?_
 refine AC ?_
 iterate 3 refine A7 rfl rfl ?_
 refine D8 h rfl (fun c4 h => ?_) (fun c4 h => ?_)
 refine AJ ?_
 refine AC ?_
 refine A7 rfl rfl ?_
 cases AB h
 refine BS ?_
 exact ⟨nofun, rfl, rfl⟩
 refine BF ?_
 iterate 2 refine AJ ?_
 refine AC ?_
 iterate 3 refine A7 rfl rfl ?_
 refine D8 h rfl (fun c5 h => ?_) (fun c5 h => ?_)
 refine AJ ?_
 refine AC ?_
 refine A7 rfl rfl ?_
 obtain rfl := AB h
 refine BS ?_
 exact ⟨nofun, rfl, rfl⟩
 refine BF ?_
 refine AJ ?_
 refine AC ?_
 refine A7 rfl rfl ?_
 obtain rfl := AB h
 refine BS ?_
 exact ⟨nofun, rfl, rfl⟩
def Ey : IC := (.seq (.reg [jb .lss 9 8 7]) (.seq (.cond (.t 9) .skip (.exit 0)) (.seq (.block 1 (.seq (.reg [jx 10 1 6 8, jl 11 1 10, jm 5 11]) (.seq (.reg [jm 12 5, jm 13 3, jb .neq 14 12 13]) (.cond (.t 14) (.seq (.reg [jm 15 5, jm 2 15]) .ret) .skip)))) (.reg [ju .add 16 8 1, jm 8 16]))))
def k51 : IC := (.seq (.reg [jc 2 (j6 0)]) (.seq (.reg [jc 3 (j6 0)]) (.seq (.seq (.reg [jm 6 0, jL 7 6, jc 8 (j6 0)]) (.block 0 (.loop Ey))) (.seq (.reg [jm 17 3, jm 2 17]) .ret))))
theorem Td : BX Tryz.prog Tryz.f51 = some ⟨18, k51, [(.tmp 2)]⟩ := by kernel_rfl
theorem gJ (N : Nat) (a0 : List Int) : ∀ (n : Nat) (x : Int) (y : Unit ⊕ Int), OG N a0 n x = some y → WX Tryz.prog (fun _ => false) (.loop Ey) ((fun (x : Int) => ⟨AY [(3, .int .i64 0), (6, .sl 1 (List.map ei a0)), (7, .int .i64 (a0.length : Int)), (8, .int .i64 x)], AY []⟩) x) ((Sum.elim (fun y e s => e = .exit 0 ∧ s = ⟨AY [(3, .int .i64 0)], AY []⟩) (fun y e s => e = .ret ∧ s = ⟨AY [(2, .int .i64 y)], AY []⟩) : (Unit ⊕ Int) → Xt → St → Prop) y) := by
 refine EQ _ _ (OG N a0) (SG N a0) (fun _ => rfl) (fun _ _ => rfl) ?_
 rintro rec v8l8 y h
 refine AJ ?_
 refine AC ?_
 refine A7 rfl rfl ?_
 refine AJ ?_
 refine D8 h rfl (fun c1 h => ?_) (fun c1 h => ?_)
 refine BF ?_
 refine AJ ?_
 refine C9 ?_
 refine AJ ?_
 refine AC ?_
 obtain ⟨R9, VK, h⟩ := AL h
 refine A7 rfl (DK (cs := [.int .i64 R9]) VK rfl rfl rfl) ?_
 iterate 2 refine A7 rfl rfl ?_
 refine AJ ?_
 refine AC ?_
 iterate 3 refine A7 rfl rfl ?_
 refine D8 h rfl (fun c2 h => ?_) (fun c2 h => ?_)
 refine AJ ?_
 refine AC ?_
 iterate 2 refine A7 rfl rfl ?_
 obtain rfl := AB h
 exact DU (st1 := ⟨AY [(2, .int .i64 R9)], AY []⟩) (cn rfl rfl rfl rfl) ⟨rfl, rfl⟩
 refine BF ?_
 refine AC ?_
 refine A7 (p := .int .i64 (BQ (v8l8 + (1 : Int)))) rfl rfl ?_
 refine A7 rfl rfl ?_
 exact ⟨(BQ (v8l8 + (1 : Int))), (cn rfl rfl rfl rfl), h⟩
 cases AB h
 exact CW (st1 := ⟨AY [(3, .int .i64 0)], AY []⟩) (cn rfl rfl rfl rfl) ⟨rfl, rfl⟩
theorem iW (N : Nat) (a0 : List Int) (r : Int) (h : XD N a0 = some r) : Sat Tryz.prog 51 AO [.sl 1 (List.map ei a0)] (.int .i64 r) AO := by
 refine DT mixed Tryz.func51 Td (rs := [.int .i64 r]) rfl rfl ?_
 refine AJ ?_
 refine AC ?_
 refine A7 rfl rfl ?_
 refine AJ ?_
 refine AC ?_
 refine A7 rfl rfl ?_
 iterate 2 refine AJ ?_
 refine AC ?_
 refine A7 rfl rfl ?_
 refine A7 rfl (BV rfl) ?_
 refine A7 rfl rfl ?_
 refine C9 ?_
 obtain ⟨y3, hy3, h⟩ := AL h
 refine PT (gJ N a0 N _ _ hy3) (cn rfl rfl rfl rfl) ?_
 clear hy3
 rcases y3 with y3 | y3
 rintro e s ⟨rfl, rfl⟩
 refine AJ ?_
 refine AC ?_
 iterate 2 refine A7 rfl rfl ?_
 obtain rfl := AB h
 refine BS ?_
 exact ⟨nofun, rfl, rfl⟩
 rintro e s ⟨rfl, rfl⟩
 obtain rfl := AB h
 exact ⟨nofun, rfl, rfl⟩
def k27 : IC := (.seq (.reg [jn 2 (.box 23 (.t 0)), jn 3 (.box 23 (.t 1)), jc 4 (j6 0)]) (.seq (.regd 18 [ja 5 0 2, jl 6 1 5, ja 7 0 3, jl 8 1 7, jn 9 (.call 52 [(.t 6), (.t 8)]), ja 10 1 2, jl 11 1 10, ja 12 1 3, jl 13 1 12, jn 14 (.call 53 [(.t 11), (.t 13)]), ja 15 2 2, jl 16 1 15, ja 17 2 3, jl 18 1 17, jn 19 (.call 53 [(.t 16), (.t 18)]), jn 20 (.bsl 1 [(.t 9), (.t 14), (.t 19)]), jn 21 (.call 51 [(.t 20)]), jm 4 21]) .ret))
theorem Ud : BX Tryz.prog Tryz.f27 = some ⟨22, k27, [(.tmp 4)]⟩ := by kernel_rfl
theorem qD (N : Nat) (a0 : AR) (a1 : AR) (r : Int) (h : iD N a0 a1 = some r) : Sat Tryz.prog 27 AO [F7 a0, F7 a1] (.int .i64 r) AO := by
 refine DT mixed Tryz.func27 Ud (rs := [.int .i64 r]) rfl rfl ?_
 refine AJ ?_
 refine AC ?_
 refine CS rfl (FZ 43202 rfl rfl rfl rfl rfl) ?_
 refine CS rfl (FZ 43203 rfl rfl rfl rfl rfl) ?_
 refine A7 rfl rfl ?_
 refine AJ ?_
 refine OD ?_
 iterate 4 refine DL rfl rfl ?_
 obtain ⟨x9, Na, h⟩ := AL h
 refine TF rfl (MP (Y3 N _ _ _ Na) rfl (.cons A9 (.cons A9 .nil)) rfl rfl rfl) CP ?_
 iterate 4 refine DL rfl rfl ?_
 obtain ⟨OB, SF, h⟩ := AL h
 refine TF rfl (MP (SN N _ _ _ SF) rfl (.cons A9 (.cons A9 .nil)) rfl rfl rfl) CP ?_
 iterate 4 refine DL rfl rfl ?_
 obtain ⟨PR, YH, h⟩ := AL h
 refine TF rfl (MP (SN N _ _ _ YH) rfl (.cons A9 (.cons A9 .nil)) rfl rfl rfl) CP ?_
 refine TF rfl (.bsl _ 43220 rfl (O0 rfl) rfl) (QZ rfl) ?_
 obtain ⟨V3, YG, h⟩ := AL h
 refine TF rfl (MP (iW N _ _ YG) rfl (.cons (ZG rfl (BR (f := ei) (l := [x9, OB, PR]))) .nil) rfl rfl rfl) CP ?_
 refine DL rfl rfl ?_
 obtain rfl := AB h
 refine BS ?_
 exact ⟨nofun, rfl, rfl⟩
def k26 : IC := (.seq (.reg [jn 2 (.box 23 (.t 0)), jc 3 (.bool false)]) (.seq (.reg [jg 4 3 2, ja 5 0 1, jg 6 3 5, jn 7 (.call 27 [(.t 4), (.t 6)]), ju .lss 8 7 0, jm 3 8]) .ret))
theorem Ue : BX Tryz.prog Tryz.f26 = some ⟨9, k26, [(.tmp 3)]⟩ := by kernel_rfl
theorem MG (N : Nat) (a0 : AR) (c0 : AX) (r : Bool) (h : NP N a0 c0 = some r) : Sat Tryz.prog 26 AO [F7 a0, .ep [.int .i64 c0.CSN.Time, .int .i64 c0.CSN.Seq, .int .i64 c0.CSN.Rep, .int .i64 c0.Kind, .int .i64 c0.ID.Time, .int .i64 c0.ID.Seq, .int .i64 c0.ID.Rep, .int .i64 c0.Parent.Time, .int .i64 c0.Parent.Seq, .int .i64 c0.Parent.Rep, .sl 2 (List.map AV c0.RDN), .bool c0.DelOld, .sl 3 (List.map AU c0.Mods)]] (.bool r) AO := by
 refine DT mixed Tryz.func26 Ue (rs := [.bool r]) rfl rfl ?_
 refine AJ ?_
 refine AC ?_
 refine CS rfl (FZ 41602 rfl rfl rfl rfl rfl) ?_
 refine A7 rfl rfl ?_
 refine AJ ?_
 refine AC ?_
 refine A7 (p := F7 a0) rfl rfl ?_
 refine A7 (p := .ep [.int .i64 c0.CSN.Time, .int .i64 c0.CSN.Seq, .int .i64 c0.CSN.Rep, .int .i64 c0.Kind, .int .i64 c0.ID.Time, .int .i64 c0.ID.Seq, .int .i64 c0.ID.Rep, .int .i64 c0.Parent.Time, .int .i64 c0.Parent.Seq, .int .i64 c0.Parent.Rep, .sl 2 (List.map AV c0.RDN), .bool c0.DelOld, .sl 3 (List.map AU c0.Mods)]) rfl rfl ?_
 refine A7 (p := .agg [.int .i64 c0.CSN.Time, .int .i64 c0.CSN.Seq, .int .i64 c0.CSN.Rep]) rfl rfl ?_
 obtain ⟨x7, hx7, h⟩ := AL h
 refine CS rfl (CG (qD N _ _ _ hx7) rfl (.cons A9 (.cons A9 .nil)) rfl rfl rfl) ?_
 iterate 2 refine A7 rfl rfl ?_
 cases AB h
 refine BS ?_
 exact ⟨nofun, rfl, rfl⟩
def xL : IC := (.seq (.reg [jb .lss 26 25 24]) (.seq (.cond (.t 26) .skip (.exit 0)) (.seq (.block 1 (.seq (.reg [jx 27 1 23 25, jl 28 1 27, jm 4 28]) (.block 2 (.seq (.block 5 (.seq (.block 4 (.block 3 (.seq (.seq (.seq (.reg [jm 30 4, jn 31 (.bin .geq (.t 30) (.c (.int .u8 97))), jm 32 31, jt 32 33 (.mov (.t 4)), jt 32 34 (.bin .leq (.t 33) (.c (.int .u8 122))), jp 35 32 34, jm 29 35]) (.cond (.t 29) (.exit 3) .skip)) (.seq (.seq (.reg [jm 37 4, jn 38 (.bin .geq (.t 37) (.c (.int .u8 48))), jm 39 38, jt 39 40 (.mov (.t 4)), jt 39 41 (.bin .leq (.t 40) (.c (.int .u8 57))), jp 42 39 41, jm 36 42]) (.cond (.t 36) .skip (.reg [jm 43 4, jn 44 (.bin .eql (.t 43) (.c (.int .u8 45))), jm 36 44]))) (.cond (.t 36) (.exit 4) .skip))) (.exit 5)))) (.exit 2))) (.seq (.seq (.reg [jc 2 (.bool false)]) .ret) (.exit 2)))))) (.reg [ju .add 45 25 1, jm 25 45]))))
def k74 : IC := (.seq (.reg [jc 2 (.bool false)]) (.seq (.seq (.reg [jm 5 0, jn 6 (.bin .eql (.t 5) (.c (.str []))), jm 7 6, jf 7 8 (.mov (.t 0)), jf 7 9 (.len true (.t 8)), jf 7 10 (.bin .gtr (.t 9) (ji 16)), jo 11 7 10, jm 12 11, jf 12 13 (.mov (.t 0)), jf 12 14 (.idxs (.t 13) (ji 0)), jf 12 15 (.bin .lss (.t 14) (.c (.int .u8 97))), jo 16 12 15, jm 17 16, jf 17 18 (.mov (.t 0)), jf 17 19 (.idxs (.t 18) (ji 0)), jf 17 20 (.bin .gtr (.t 19) (.c (.int .u8 122))), jo 21 17 20]) (.cond (.t 21) (.seq (.reg [jc 2 (.bool false)]) .ret) .skip)) (.seq (.seq (.reg [jm 22 0, jn 23 (.cvs (.t 22)), jL 24 23, jc 25 (j6 0)]) (.block 0 (.loop xL))) (.seq (.reg [jc 2 (.bool true)]) .ret))))
theorem Sa : BX Tryz.prog Tryz.f74 = some ⟨46, k74, [(.tmp 2)]⟩ := by kernel_rfl
theorem gH (N : Nat) (a0 : List UInt8) : ∀ (n : Nat) (x : Int) (y : Unit ⊕ Bool), KV N a0 n x = some y → WX Tryz.prog (fun _ => false) (.loop xL) ((fun (x : Int) => ⟨AY [(23, .slr 118423 0 a0.length), (24, .int .i64 (a0.length : Int)), (25, .int .i64 x)], AY [(118423, ⟨1, true, List.map eb a0⟩)]⟩) x) ((Sum.elim (fun y e s => e = .exit 0 ∧ s = ⟨AY [], AY []⟩) (fun y e s => e = .ret ∧ s = ⟨AY [(2, .bool y)], AY []⟩) : (Unit ⊕ Bool) → Xt → St → Prop) y) := by
 refine EQ _ _ (KV N a0) (OJ N a0) (fun _ => rfl) (fun _ _ => rfl) ?_
 rintro rec v25l14 y h
 refine AJ ?_
 refine AC ?_
 refine A7 rfl rfl ?_
 refine AJ ?_
 refine D8 h rfl (fun c6 h => ?_) (fun c6 h => ?_)
 refine BF ?_
 refine AJ ?_
 refine C9 ?_
 refine AJ ?_
 refine AC ?_
 obtain ⟨x27, hx27, h⟩ := AL h
 refine A7 rfl (QA hx27 rfl rfl rfl rfl) ?_
 obtain ⟨x28, hx28, h⟩ := AL h
 refine A7 rfl (UM (f := eb) (v := eb x28) hx28 rfl rfl rfl) ?_
 refine A7 rfl rfl ?_
 refine C9 ?_
 refine AJ ?_
 refine C9 ?_
 refine QO (fun (x : Unit) => ⟨AY [(23, .slr 118423 0 a0.length), (24, .int .i64 (a0.length : Int)), (25, .int .i64 v25l14)], AY [(118423, ⟨1, true, List.map eb a0⟩)]⟩) (fun x => RF v25l14 rec = some y) ?_ ?_
 rintro ⟨⟩ h
 refine PU ?_
 refine AC ?_
 refine A7 (p := .int .i64 (BQ (v25l14 + (1 : Int)))) rfl rfl ?_
 refine A7 rfl rfl ?_
 exact ⟨(BQ (v25l14 + (1 : Int))), (cn rfl rfl rfl rfl), h⟩
 iterate 2 refine C9 ?_
 iterate 2 refine AJ ?_
 obtain ⟨g7, rR, h⟩ := AL h
 refine F9 ⟨AY [(4, eb x28), (23, .slr 118423 0 a0.length), (24, .int .i64 (a0.length : Int)), (25, .int .i64 v25l14), (29, .bool g7)], AY [(118423, ⟨1, true, List.map eb a0⟩)]⟩ ?_ ?_
 have h := rR
 refine AC ?_
 refine A7 rfl rfl ?_
 refine A7 (p := .bool (decide (((x28).toNat : Int) ≥ (97 : Int)))) rfl rfl ?_
 refine A7 rfl rfl ?_
 rcases BO h with ⟨c8, h⟩ | ⟨c8, h⟩
 refine A7 (gy rfl c8) rfl ?_
 refine A7 (p := .bool (decide (((x28).toNat : Int) ≤ (122 : Int)))) (gy rfl c8) rfl ?_
 refine A7 rfl (BA c8 rfl rfl) ?_
 refine A7 rfl rfl ?_
 cases AB h
 exact (cn rfl rfl rfl rfl)
 iterate 2 refine BK (gn rfl c8) ?_
 refine A7 rfl (AZ c8 rfl rfl) ?_
 refine A7 rfl rfl ?_
 obtain rfl := AB h
 exact (cn rfl rfl rfl rfl)
 clear rR
 refine D8 h rfl (fun c9 h => ?_) (fun c9 h => ?_)
 refine PU ?_
 exact ⟨(), (cn rfl rfl rfl rfl), h⟩
 refine BF ?_
 refine QO (fun (x : Bool) => ⟨AY [(23, .slr 118423 0 a0.length), (24, .int .i64 (a0.length : Int)), (25, .int .i64 v25l14), (36, .bool x)], AY [(118423, ⟨1, true, List.map eb a0⟩)]⟩) (fun x => RD v25l14 rec x = some y) ?_ ?_
 rintro Ci h
 refine D8 h rfl (fun c10 h => ?_) (fun c10 h => ?_)
 refine PU ?_
 exact ⟨(), (cn rfl rfl rfl rfl), h⟩
 refine BF ?_
 refine PU ?_
 iterate 2 refine AJ ?_
 refine AC ?_
 refine A7 rfl rfl ?_
 obtain rfl := AB h
 exact DU (st1 := ⟨AY [(2, .bool false)], AY []⟩) (cn rfl rfl rfl rfl) ⟨rfl, rfl⟩
 obtain ⟨g11, kD, h⟩ := AL h
 refine F9 ⟨AY [(4, eb x28), (23, .slr 118423 0 a0.length), (24, .int .i64 (a0.length : Int)), (25, .int .i64 v25l14), (36, .bool g11)], AY [(118423, ⟨1, true, List.map eb a0⟩)]⟩ ?_ ?_
 have h := kD
 refine AC ?_
 refine A7 rfl rfl ?_
 refine A7 (p := .bool (decide (((x28).toNat : Int) ≥ (48 : Int)))) rfl rfl ?_
 refine A7 rfl rfl ?_
 rcases BO h with ⟨c12, h⟩ | ⟨c12, h⟩
 refine A7 (gy rfl c12) rfl ?_
 refine A7 (p := .bool (decide (((x28).toNat : Int) ≤ (57 : Int)))) (gy rfl c12) rfl ?_
 refine A7 rfl (BA c12 rfl rfl) ?_
 refine A7 rfl rfl ?_
 cases AB h
 exact (cn rfl rfl rfl rfl)
 iterate 2 refine BK (gn rfl c12) ?_
 refine A7 rfl (AZ c12 rfl rfl) ?_
 refine A7 rfl rfl ?_
 obtain rfl := AB h
 exact (cn rfl rfl rfl rfl)
 clear kD
 refine D8 h rfl (fun c13 h => ?_) (fun c13 h => ?_)
 refine BF ?_
 exact ⟨g11, (cn rfl rfl rfl rfl), h⟩
 refine AC ?_
 refine A7 rfl rfl ?_
 refine A7 (p := .bool (((x28).toNat : Int) == (45 : Int))) rfl rfl ?_
 refine A7 rfl rfl ?_
 exact ⟨(((x28).toNat : Int) == (45 : Int)), (cn rfl rfl rfl rfl), h⟩
 cases AB h
 exact CW (st1 := ⟨AY [], AY []⟩) (cn rfl rfl rfl rfl) ⟨rfl, rfl⟩
theorem lH (N : Nat) (a0 : List UInt8) (r : Bool) (h : ZB N a0 = some r) : Sat Tryz.prog 74 AO [.str a0] (.bool r) AO := by
 refine DT mixed Tryz.func74 Sa (rs := [.bool r]) rfl rfl ?_
 refine AJ ?_
 refine AC ?_
 refine A7 rfl rfl ?_
 refine AJ ?_
 obtain ⟨g1, hg1, h⟩ := AL h
 refine F9 ⟨AY [(0, .str a0), (21, .bool g1)], AY []⟩ ?_ ?_
 have h := hg1
 refine AC ?_
 iterate 3 refine A7 rfl rfl ?_
 rcases BO h with ⟨c2, h⟩ | ⟨c2, h⟩
 iterate 3 refine BK (gn rfl c2) ?_
 refine A7 rfl (BA c2 rfl rfl) ?_
 refine A7 rfl rfl ?_
 iterate 3 refine BK rfl ?_
 iterate 2 refine A7 rfl rfl ?_
 iterate 3 refine BK rfl ?_
 refine A7 rfl rfl ?_
 obtain rfl := AB h
 exact (cn rfl rfl rfl rfl)
 iterate 3 refine A7 (gy rfl c2) rfl ?_
 refine A7 rfl (AZ c2 rfl rfl) ?_
 refine A7 rfl rfl ?_
 rcases BO h with ⟨c3, h⟩ | ⟨c3, h⟩
 iterate 3 refine BK (gn rfl c3) ?_
 refine A7 rfl (BA c3 rfl rfl) ?_
 refine A7 rfl rfl ?_
 iterate 3 refine BK rfl ?_
 refine A7 rfl rfl ?_
 obtain rfl := AB h
 exact (cn rfl rfl rfl rfl)
 refine A7 (gy rfl c3) rfl ?_
 obtain ⟨OB, SF, h⟩ := AL h
 refine A7 (gy rfl c3) (GN SF rfl rfl) ?_
 refine A7 (p := .bool (decide (((OB).toNat : Int) < (97 : Int)))) (gy rfl c3) rfl ?_
 refine A7 rfl (AZ c3 rfl rfl) ?_
 refine A7 rfl rfl ?_
 rcases BO h with ⟨c4, h⟩ | ⟨c4, h⟩
 iterate 3 refine BK (gn rfl c4) ?_
 refine A7 rfl (BA c4 rfl rfl) ?_
 obtain rfl := AB h
 exact (cn rfl rfl rfl rfl)
 refine A7 (gy rfl c4) rfl ?_
 obtain ⟨PR, YH, h⟩ := AL h
 refine A7 (gy rfl c4) (GN YH rfl rfl) ?_
 refine A7 (p := .bool (decide (((PR).toNat : Int) > (122 : Int)))) (gy rfl c4) rfl ?_
 refine A7 rfl (AZ c4 rfl rfl) ?_
 cases AB h
 exact (cn rfl rfl rfl rfl)
 clear hg1
 refine D8 h rfl (fun c5 h => ?_) (fun c5 h => ?_)
 refine AJ ?_
 refine AC ?_
 refine A7 rfl rfl ?_
 obtain rfl := AB h
 refine BS ?_
 exact ⟨nofun, rfl, rfl⟩
 refine BF ?_
 iterate 2 refine AJ ?_
 refine AC ?_
 refine A7 rfl rfl ?_
 refine CS rfl (qU 118423 rfl rfl) ?_
 iterate 2 refine A7 rfl rfl ?_
 refine C9 ?_
 obtain ⟨dU, Mw, h⟩ := AL h
 refine PT (gH N a0 N _ _ Mw) (cn rfl rfl rfl rfl) ?_
 clear Mw
 rcases dU with dU | dU
 rintro e s ⟨rfl, rfl⟩
 refine AJ ?_
 refine AC ?_
 refine A7 rfl rfl ?_
 obtain rfl := AB h
 refine BS ?_
 exact ⟨nofun, rfl, rfl⟩
 rintro e s ⟨rfl, rfl⟩
 obtain rfl := AB h
 exact ⟨nofun, rfl, rfl⟩
def k75 : IC := (.seq (.reg [jn 2 (.box 41 (.t 0)), jc 3 (.bool false)]) (.seq (.reg [ja 4 0 2, jl 5 1 4, ja 6 0 1, jl 7 1 6, jb .eql 8 5 7, jm 3 8]) .ret))
theorem Rz : BX Tryz.prog Tryz.f75 = some ⟨9, k75, [(.tmp 3)]⟩ := by kernel_rfl
theorem iV (N : Nat) (a0 : AP) (c0 : AP) (r : Bool) (h : bA N a0 c0 = some r) : Sat Tryz.prog 75 AO [AV a0, .ep [.str c0.Attr, .str c0.Value]] (.bool r) AO := by
 refine DT mixed Tryz.func75 Rz (rs := [.bool r]) rfl rfl ?_
 refine AJ ?_
 refine AC ?_
 refine CS rfl (FZ 120002 rfl rfl rfl rfl rfl) ?_
 refine A7 rfl rfl ?_
 refine AJ ?_
 refine AC ?_
 iterate 2 refine A7 rfl rfl ?_
 refine A7 (p := .ep [.str c0.Attr, .str c0.Value]) rfl rfl ?_
 iterate 3 refine A7 rfl rfl ?_
 cases AB h
 refine BS ?_
 exact ⟨nofun, rfl, rfl⟩
def mX : IC := (.seq (.reg [jb .lss 9 8 7]) (.seq (.cond (.t 9) .skip (.exit 0)) (.seq (.block 1 (.seq (.reg [jm 10 8, jm 5 10]) (.seq (.reg [jm 11 1, jm 12 0, jm 13 5, jx 14 2 12 13, jg 15 2 14, jn 16 (.calv (.t 11) [(.t 15)])]) (.cond (.t 16) (.seq (.reg [jm 17 5, jm 4 17]) .ret) .skip)))) (.reg [ju .add 18 8 1, jm 8 18]))))
def Rx : IC := (.seq (.reg [jc 4 (j6 0)]) (.seq (.seq (.reg [jm 6 0, jL 7 6, jc 8 (j6 0)]) (.block 0 (.loop mX))) (.seq (.reg [jc 4 (j6 (-1))]) .ret)))
theorem zZ : BX Tryz.prog Tryz.f76 = some ⟨19, Rx, [(.tmp 4)]⟩ := by kernel_rfl
theorem JL (N : Nat) (a0 : List AP) (JB : AP) : ∀ (n : Nat) (x : Int) (y : Unit ⊕ Int), BP N a0 JB n x = some y → WX Tryz.prog (fun _ => false) (.loop mX) ((fun (x : Int) => ⟨AY [(0, .sl 2 (List.map AV a0)), (1, .clo 75 [.ep [.str JB.Attr, .str JB.Value]]), (7, .int .i64 (a0.length : Int)), (8, .int .i64 x)], AY []⟩) x) ((Sum.elim (fun y e s => e = .exit 0 ∧ s = ⟨AY [], AY []⟩) (fun y e s => e = .ret ∧ s = ⟨AY [(4, .int .i64 y)], AY []⟩) : (Unit ⊕ Int) → Xt → St → Prop) y) := by
 refine EQ _ _ (BP N a0 JB) (CX N a0 JB) (fun _ => rfl) (fun _ _ => rfl) ?_
 rintro rec v8l6 y h
 refine AJ ?_
 refine AC ?_
 refine A7 rfl rfl ?_
 refine AJ ?_
 refine D8 h rfl (fun c1 h => ?_) (fun c1 h => ?_)
 refine BF ?_
 refine AJ ?_
 refine C9 ?_
 refine AJ ?_
 refine AC ?_
 iterate 2 refine A7 rfl rfl ?_
 refine AJ ?_
 refine AC ?_
 iterate 3 refine A7 rfl rfl ?_
 obtain ⟨OB, SF, h⟩ := AL h
 refine A7 rfl (DK (cs := [.str OB.Attr, .str OB.Value]) SF rfl rfl rfl) ?_
 refine A7 (p := AV OB) rfl rfl ?_
 obtain ⟨Y4, hx16, h⟩ := AL h
 refine CS rfl (ZY (iV N _ _ _ hx16) rfl rfl rfl (.cons A9 (.cons A9 .nil)) rfl rfl rfl) ?_
 refine D8 h rfl (fun c2 h => ?_) (fun c2 h => ?_)
 refine AJ ?_
 refine AC ?_
 iterate 2 refine A7 rfl rfl ?_
 obtain rfl := AB h
 exact DU (st1 := ⟨AY [(4, .int .i64 v8l6)], AY []⟩) (cn rfl rfl rfl rfl) ⟨rfl, rfl⟩
 refine BF ?_
 refine AC ?_
 refine A7 (p := .int .i64 (BQ (v8l6 + (1 : Int)))) rfl rfl ?_
 refine A7 rfl rfl ?_
 exact ⟨(BQ (v8l6 + (1 : Int))), (cn rfl rfl rfl rfl), h⟩
 cases AB h
 exact CW (st1 := ⟨AY [], AY []⟩) (cn rfl rfl rfl rfl) ⟨rfl, rfl⟩
theorem K4 (N : Nat) (a0 : List AP) (JB : AP) (r : Int) (h : EX N a0 JB = some r) : Sat Tryz.prog 76 AO [.sl 2 (List.map AV a0), .clo 75 [.ep [.str JB.Attr, .str JB.Value]]] (.int .i64 r) AO := by
 refine DT mixed Tryz.func76 zZ (rs := [.int .i64 r]) rfl rfl ?_
 refine AJ ?_
 refine AC ?_
 refine A7 rfl rfl ?_
 iterate 2 refine AJ ?_
 refine AC ?_
 refine A7 rfl rfl ?_
 refine A7 rfl (BV rfl) ?_
 refine A7 rfl rfl ?_
 refine C9 ?_
 obtain ⟨y3, hy3, h⟩ := AL h
 refine PT (JL N a0 JB N _ _ hy3) (cn rfl rfl rfl rfl) ?_
 clear hy3
 rcases y3 with y3 | y3
 rintro e s ⟨rfl, rfl⟩
 refine AJ ?_
 refine AC ?_
 refine A7 rfl rfl ?_
 cases AB h
 refine BS ?_
 exact ⟨nofun, rfl, rfl⟩
 rintro e s ⟨rfl, rfl⟩
 obtain rfl := AB h
 exact ⟨nofun, rfl, rfl⟩
def Sw : IC := (.seq (.reg [jc 4 (.bool false)]) (.seq (.reg [jm 5 0, jm 6 1, jn 7 (.call 76 [(.t 5), (.t 6)]), ju .geq 8 7 0, jm 4 8]) .ret))
theorem Ad : BX Tryz.prog Tryz.f55 = some ⟨9, Sw, [(.tmp 4)]⟩ := by kernel_rfl
theorem JD (N : Nat) (a0 : List AP) (JB : AP) (r : Bool) (h : D5 N a0 JB = some r) : Sat Tryz.prog 55 AO [.sl 2 (List.map AV a0), .clo 75 [.ep [.str JB.Attr, .str JB.Value]]] (.bool r) AO := by
 refine DT mixed Tryz.func55 Ad (rs := [.bool r]) rfl rfl ?_
 refine AJ ?_
 refine AC ?_
 refine A7 rfl rfl ?_
 refine AJ ?_
 refine AC ?_
 iterate 2 refine A7 rfl rfl ?_
 obtain ⟨x7, hx7, h⟩ := AL h
 refine CS rfl (CG (K4 N _ _ _ hx7) rfl (.cons A9 (.cons A9 .nil)) rfl rfl rfl) ?_
 iterate 2 refine A7 rfl rfl ?_
 cases AB h
 refine BS ?_
 exact ⟨nofun, rfl, rfl⟩
def Ew : IC := (.seq (.reg [jb .lss 8 7 6]) (.seq (.cond (.t 8) .skip (.exit 0)) (.seq (.block 1 (.seq (.reg [jm 9 7, jx 10 2 5 7, jg 11 2 10, jn 4 (.box 41 (.c (.agg [(.str []), (.str [])]))), jm 3 9, js 2 4 11]) (.seq (.seq (.reg [jm 12 3, ju .geq 13 12 4, jm 14 13, jf 14 15 (.fda 0 (.t 4)), jf 14 16 (.load 1 false (.t 15)), jf 14 17 (.call 74 [(.t 16)]), jf 14 18 (.un .not (.t 17)), jo 19 14 18, jm 20 19, jf 20 21 (.fda 1 (.t 4)), jf 20 22 (.load 1 false (.t 21)), jf 20 23 (.bin .eql (.t 22) (.c (.str []))), jo 24 20 23, jm 25 24, jf 25 26 (.fda 1 (.t 4)), jf 25 27 (.load 1 false (.t 26)), jf 25 28 (.len true (.t 27)), jf 25 29 (.bin .gtr (.t 28) (ji 60)), jo 30 25 29]) (.cond (.t 30) (.seq (.reg [jc 2 (.bool false)]) .ret) .skip)) (.seq (.reg [jm 31 0, jm 32 3, jn 33 (.slcl 2 (.t 31) none (some (.t 32))), jn 34 (.mkf 75 [(.t 4)]), jn 35 (.call 55 [(.t 33), (.t 34)])]) (.cond (.t 35) (.seq (.reg [jc 2 (.bool false)]) .ret) .skip))))) (.reg [ju .add 36 7 1, jm 7 36]))))
def k54 : IC := (.seq (.reg [jc 2 (.bool false)]) (.seq (.seq (.reg [jm 5 0, jL 6 5, jc 7 (j6 0)]) (.block 0 (.loop Ew))) (.seq (.reg [jm 37 0, jL 38 37, ju .gtr 39 38 0, jm 2 39]) .ret)))
theorem Sz : BX Tryz.prog Tryz.f54 = some ⟨40, k54, [(.tmp 2)]⟩ := by kernel_rfl
theorem lF (N : Nat) (a0 : List AP) : ∀ (n : Nat) (x : Int) (y : Unit ⊕ Bool), NN N a0 n x = some y → WX Tryz.prog (fun _ => false) (.loop Ew) ((fun (x : Int) => ⟨AY [(0, .sl 2 (List.map AV a0)), (5, .sl 2 (List.map AV a0)), (6, .int .i64 (a0.length : Int)), (7, .int .i64 x)], AY []⟩) x) ((Sum.elim (fun y e s => e = .exit 0 ∧ s = ⟨AY [(0, .sl 2 (List.map AV a0))], AY []⟩) (fun y e s => e = .ret ∧ s = ⟨AY [(2, .bool y)], AY []⟩) : (Unit ⊕ Bool) → Xt → St → Prop) y) := by
 refine EQ _ _ (NN N a0) (RG N a0) (fun _ => rfl) (fun _ _ => rfl) ?_
 rintro rec v7l6 y h
 refine AJ ?_
 refine AC ?_
 refine A7 rfl rfl ?_
 refine AJ ?_
 refine D8 h rfl (fun c1 h => ?_) (fun c1 h => ?_)
 refine BF ?_
 refine AJ ?_
 refine C9 ?_
 refine AJ ?_
 refine AC ?_
 refine A7 rfl rfl ?_
 obtain ⟨R9, VK, h⟩ := AL h
 refine A7 rfl (DK (cs := [.str R9.Attr, .str R9.Value]) VK rfl rfl rfl) ?_
 refine A7 (p := AV R9) rfl rfl ?_
 refine CS rfl (FZ 86404 rfl rfl rfl rfl rfl) ?_
 refine A7 rfl rfl ?_
 refine F3 (e' := AV R9) rfl rfl rfl rfl rfl rfl rfl rfl nofun rfl ?_
 refine AJ ?_
 obtain ⟨g2, hg2, h⟩ := AL h
 refine F9 ⟨AY [(0, .sl 2 (List.map AV a0)), (3, .int .i64 v7l6), (4, .ptr 86404 0 0), (5, .sl 2 (List.map AV a0)), (6, .int .i64 (a0.length : Int)), (7, .int .i64 v7l6), (30, .bool g2)], AY [(86404, ⟨2, false, [AV R9]⟩)]⟩ ?_ ?_
 have h := hg2
 refine AC ?_
 iterate 3 refine A7 rfl rfl ?_
 rcases BO h with ⟨c3, h⟩ | ⟨c3, h⟩
 iterate 4 refine BK (gn rfl c3) ?_
 refine A7 rfl (BA c3 rfl rfl) ?_
 refine A7 rfl rfl ?_
 iterate 3 refine BK rfl ?_
 iterate 2 refine A7 rfl rfl ?_
 iterate 4 refine BK rfl ?_
 refine A7 rfl rfl ?_
 obtain rfl := AB h
 exact (cn rfl rfl rfl rfl)
 iterate 2 refine A7 (gy rfl c3) rfl ?_
 obtain ⟨EC, VJ, h⟩ := AL h
 refine CS (gy rfl c3) (CG (lH N _ _ VJ) rfl (.cons A9 .nil) rfl rfl rfl) ?_
 refine A7 (gy rfl c3) rfl ?_
 refine A7 rfl (AZ c3 rfl rfl) ?_
 refine A7 rfl rfl ?_
 rcases BO h with ⟨c4, h⟩ | ⟨c4, h⟩
 iterate 3 refine BK (gn rfl c4) ?_
 refine A7 rfl (BA c4 rfl rfl) ?_
 refine A7 rfl rfl ?_
 iterate 4 refine BK rfl ?_
 refine A7 rfl rfl ?_
 obtain rfl := AB h
 exact (cn rfl rfl rfl rfl)
 iterate 3 refine A7 (gy rfl c4) rfl ?_
 refine A7 rfl (AZ c4 rfl rfl) ?_
 refine A7 rfl rfl ?_
 rcases BO h with ⟨c5, h⟩ | ⟨c5, h⟩
 iterate 4 refine BK (gn rfl c5) ?_
 refine A7 rfl (BA c5 rfl rfl) ?_
 obtain rfl := AB h
 exact (cn rfl rfl rfl rfl)
 iterate 4 refine A7 (gy rfl c5) rfl ?_
 refine A7 rfl (AZ c5 rfl rfl) ?_
 cases AB h
 exact (cn rfl rfl rfl rfl)
 clear hg2
 refine D8 h rfl (fun c6 h => ?_) (fun c6 h => ?_)
 refine AJ ?_
 refine AC ?_
 refine A7 rfl rfl ?_
 obtain rfl := AB h
 exact DU (st1 := ⟨AY [(2, .bool false)], AY []⟩) (cn rfl rfl rfl rfl) ⟨rfl, rfl⟩
 refine BF ?_
 refine AJ ?_
 refine AC ?_
 iterate 2 refine A7 rfl rfl ?_
 obtain ⟨Kj, Gi, h⟩ := AL h
 refine A7 rfl (Li Gi rfl rfl) ?_
 refine A7 rfl rfl ?_
 refine wn (UY 86404 rfl rfl rfl) ?_
 obtain ⟨LD, uY, h⟩ := AL h
 refine CS rfl (CG (JD N _ _ _ uY) rfl (.cons A9 (.cons A9 .nil)) rfl rfl rfl) ?_
 refine D8 h rfl (fun c7 h => ?_) (fun c7 h => ?_)
 refine AJ ?_
 refine AC ?_
 refine A7 rfl rfl ?_
 obtain rfl := AB h
 exact DU (st1 := ⟨AY [(2, .bool false)], AY []⟩) (cn rfl rfl rfl rfl) ⟨rfl, rfl⟩
 refine BF ?_
 refine AC ?_
 refine A7 (p := .int .i64 (BQ (v7l6 + (1 : Int)))) rfl rfl ?_
 refine A7 rfl rfl ?_
 exact ⟨(BQ (v7l6 + (1 : Int))), (cn rfl rfl rfl rfl), h⟩
 cases AB h
 exact CW (st1 := ⟨AY [(0, .sl 2 (List.map AV a0))], AY []⟩) (cn rfl rfl rfl rfl) ⟨rfl, rfl⟩
theorem cZ (N : Nat) (a0 : List AP) (r : Bool) (h : YO N a0 = some r) : Sat Tryz.prog 54 AO [.sl 2 (List.map AV a0)] (.bool r) AO := by
 refine DT mixed Tryz.func54 Sz (rs := [.bool r]) rfl rfl ?_
 refine AJ ?_
 refine AC ?_
 refine A7 rfl rfl ?_
 iterate 2 refine AJ ?_
 refine AC ?_
 refine A7 rfl rfl ?_
 refine A7 rfl (BV rfl) ?_
 refine A7 rfl rfl ?_
 refine C9 ?_
 obtain ⟨y8, Am, h⟩ := AL h
 refine PT (lF N a0 N _ _ Am) (cn rfl rfl rfl rfl) ?_
 clear Am
 rcases y8 with y8 | y8
 rintro e s ⟨rfl, rfl⟩
 refine AJ ?_
 refine AC ?_
 refine A7 rfl rfl ?_
 refine A7 rfl (BV rfl) ?_
 iterate 2 refine A7 rfl rfl ?_
 cases AB h
 refine BS ?_
 exact ⟨nofun, rfl, rfl⟩
 rintro e s ⟨rfl, rfl⟩
 obtain rfl := AB h
 exact ⟨nofun, rfl, rfl⟩
def Es : IC := (.seq (.reg [jb .lss 11 10 9]) (.seq (.cond (.t 11) .skip (.exit 0)) (.seq (.block 1 (.seq (.reg [jm 12 10, jx 13 1 8 10, jl 14 1 13, jm 4 12, jm 5 14]) (.seq (.reg [jm 15 5, jn 16 (.bin .geq (.t 15) (.c (.int .u8 65))), jm 17 16, jt 17 18 (.mov (.t 5)), jt 17 19 (.bin .leq (.t 18) (.c (.int .u8 90))), jp 20 17 19]) (.cond (.t 20) (.reg [jm 21 3, jm 22 4, jm 23 5, jn 24 (.bin .add (.t 23) (.c (.int .u8 32))), jx 25 1 21 22, js 1 25 24]) .skip)))) (.reg [ju .add 26 10 1, jm 10 26]))))
def k78 : IC := (.seq (.reg [jc 2 (.str [])]) (.seq (.reg [jm 6 0, jn 7 (.cvs (.t 6)), jm 3 7]) (.seq (.seq (.reg [jm 8 3, jL 9 8, jc 10 (j6 0)]) (.block 0 (.loop Es))) (.seq (.reg [jm 27 3, jn 28 (.cvb (.t 27)), jm 2 28]) .ret))))
theorem Rv : BX Tryz.prog Tryz.f78 = some ⟨29, k78, [(.tmp 2)]⟩ := by kernel_rfl
theorem lD (N : Nat) (a0 : List UInt8) : ∀ (n : Nat) (x : Int × List UInt8) (y : List UInt8), LH N a0 n x = some y → WX Tryz.prog (fun _ => false) (.loop Es) ((fun (x : Int × List UInt8) => ⟨AY [(3, .slr 124807 0 x.2.length), (8, .slr 124807 0 x.2.length), (9, .int .i64 (a0.length : Int)), (10, .int .i64 x.1)], AY [(124807, ⟨1, true, List.map eb x.2⟩)]⟩) x) ((fun y e s => e = .exit 0 ∧ s = ⟨AY [(3, .slr 124807 0 y.length)], AY [(124807, ⟨1, true, List.map eb y⟩)]⟩ : (List UInt8) → Xt → St → Prop) y) := by
 refine EQ _ _ (LH N a0) (RB N a0) (fun _ => rfl) (fun _ _ => rfl) ?_
 rintro rec ⟨v10l8, G5⟩ y h
 refine AJ ?_
 refine AC ?_
 refine A7 rfl rfl ?_
 refine AJ ?_
 refine D8 h rfl (fun c1 h => ?_) (fun c1 h => ?_)
 refine BF ?_
 refine QO (fun (x : List UInt8) => ⟨AY [(3, .slr 124807 0 x.length), (8, .slr 124807 0 x.length), (9, .int .i64 (a0.length : Int)), (10, .int .i64 v10l8)], AY [(124807, ⟨1, true, List.map eb x⟩)]⟩) (fun x => TA v10l8 rec x = some y) ?_ ?_
 rintro aT h
 refine AC ?_
 refine A7 (p := .int .i64 (BQ (v10l8 + (1 : Int)))) rfl rfl ?_
 refine A7 rfl rfl ?_
 exact ⟨((BQ (v10l8 + (1 : Int))), aT), (cn rfl rfl rfl rfl), h⟩
 refine C9 ?_
 refine AJ ?_
 refine AC ?_
 refine A7 rfl rfl ?_
 obtain ⟨MF, aV, h⟩ := AL h
 refine A7 rfl (QA aV rfl rfl rfl rfl) ?_
 obtain ⟨OB, SF, h⟩ := AL h
 refine A7 rfl (UM (f := eb) (v := eb OB) SF rfl rfl rfl) ?_
 iterate 2 refine A7 rfl rfl ?_
 obtain ⟨g2, hg2, h⟩ := AL h
 refine F9 ⟨AY [(3, .slr 124807 0 G5.length), (4, .int .i64 v10l8), (5, eb OB), (8, .slr 124807 0 G5.length), (9, .int .i64 (a0.length : Int)), (10, .int .i64 v10l8), (20, .bool g2)], AY [(124807, ⟨1, true, List.map eb G5⟩)]⟩ ?_ ?_
 have h := hg2
 refine AC ?_
 refine A7 rfl rfl ?_
 refine A7 (p := .bool (decide (((OB).toNat : Int) ≥ (65 : Int)))) rfl rfl ?_
 refine A7 rfl rfl ?_
 rcases BO h with ⟨c3, h⟩ | ⟨c3, h⟩
 refine A7 (gy rfl c3) rfl ?_
 refine A7 (p := .bool (decide (((OB).toNat : Int) ≤ (90 : Int)))) (gy rfl c3) rfl ?_
 refine A7 rfl (BA c3 rfl rfl) ?_
 cases AB h
 exact (cn rfl rfl rfl rfl)
 iterate 2 refine BK (gn rfl c3) ?_
 refine A7 rfl (AZ c3 rfl rfl) ?_
 obtain rfl := AB h
 exact (cn rfl rfl rfl rfl)
 clear hg2
 refine D8 h rfl (fun c4 h => ?_) (fun c4 h => ?_)
 refine AC ?_
 iterate 3 refine A7 rfl rfl ?_
 refine A7 rfl (wR (a := OB) (b := (32 : UInt8)) rfl rfl) ?_
 obtain ⟨x25, hx25, h⟩ := AL h
 refine A7 rfl (QA hx25 rfl rfl rfl rfl) ?_
 obtain ⟨pQ, jZ, h⟩ := AL h
 refine Cb (f := eb) (e' := (OB + (32 : UInt8))) jZ rfl rfl rfl rfl rfl rfl rfl rfl (fun _ => rfl) rfl ?_
 exact ⟨(G5.set x25 (OB + (32 : UInt8))), (CB.trans (KN 3 (GQ (congrArg (PV.slr 124807 0) (by simp only [List.length_set, List.length_replicate] : G5.length = (G5.set x25 (OB + (32 : UInt8))).length))) rfl) (CB.trans (KN 8 (GQ (congrArg (PV.slr 124807 0) (by simp only [List.length_set, List.length_replicate] : G5.length = (G5.set x25 (OB + (32 : UInt8))).length))) rfl) (cn rfl rfl rfl rfl))), h⟩
 refine BF ?_
 exact ⟨G5, (cn rfl rfl rfl rfl), h⟩
 obtain rfl := AB h
 exact CW (st1 := ⟨AY [(3, .slr 124807 0 G5.length)], AY [(124807, ⟨1, true, List.map eb G5⟩)]⟩) (cn rfl rfl rfl rfl) ⟨rfl, rfl⟩
theorem X7 (N : Nat) (a0 : List UInt8) (r : List UInt8) (h : WJ N a0 = some r) : Sat Tryz.prog 78 AO [.str a0] (.str r) AO := by
 refine DT mixed Tryz.func78 Rv (rs := [.str r]) rfl rfl ?_
 refine AJ ?_
 refine AC ?_
 refine A7 rfl rfl ?_
 refine AJ ?_
 refine AC ?_
 refine A7 rfl rfl ?_
 refine CS rfl (qU 124807 rfl rfl) ?_
 refine A7 rfl rfl ?_
 iterate 2 refine AJ ?_
 refine AC ?_
 iterate 3 refine A7 rfl rfl ?_
 refine C9 ?_
 obtain ⟨y6, tC, h⟩ := AL h
 refine PT (lD N a0 N _ _ tC) (cn rfl rfl rfl rfl) ?_
 rintro e s ⟨rfl, rfl⟩
 refine AJ ?_
 refine AC ?_
 refine A7 rfl rfl ?_
 refine A7 rfl (VH (l := y6) rfl rfl (BR (f := eb) (l := y6))) ?_
 refine A7 rfl rfl ?_
 obtain rfl := AB h
 refine BS ?_
 exact ⟨nofun, rfl, rfl⟩
def k79 : IC := (.seq (.reg [jc 0 .nl]) (.seq (.reg [jn 1 (.build [(.str []), (j6 0), (.bool false)] [(0, (1, (.c (.str [97, 99, 105])))), (1, (1, (ji 2)))]), jn 2 (.build [(.str []), (j6 0), (.bool false)] [(0, (1, (.c (.str [99])))), (1, (1, (ji 1))), (2, (1, jB))]), jn 3 (.build [(.str []), (j6 0), (.bool false)] [(0, (1, (.c (.str [99, 110])))), (1, (1, (ji 1)))]), jn 4 (.build [(.str []), (j6 0), (.bool false)] [(0, (1, (.c (.str [100, 99])))), (1, (1, (ji 1)))]), jn 5 (.build [(.str []), (j6 0), (.bool false)] [(0, (1, (.c (.str [100, 101, 115, 99, 114, 105, 112, 116, 105, 111, 110])))), (1, (1, (ji 1)))]), jn 6 (.build [(.str []), (j6 0), (.bool false)] [(0, (1, (.c (.str [101, 110, 116, 114, 121, 105, 100])))), (1, (1, (ji 2))), (2, (1, jB))]), jn 7 (.build [(.str []), (j6 0), (.bool false)] [(0, (1, (.c (.str [109, 97, 105, 108])))), (1, (1, (ji 2)))]), jn 8 (.build [(.str []), (j6 0), (.bool false)] [(0, (1, (.c (.str [109, 101, 109, 98, 101, 114])))), (1, (1, (ji 5)))]), jn 9 (.build [(.str []), (j6 0), (.bool false)] [(0, (1, (.c (.str [111])))), (1, (1, (ji 1)))]), jn 10 (.build [(.str []), (j6 0), (.bool false)] [(0, (1, (.c (.str [111, 117])))), (1, (1, (ji 1)))]), jn 11 (.build [(.str []), (j6 0), (.bool false)] [(0, (1, (.c (.str [115, 110])))), (1, (1, (ji 1)))]), jn 12 (.build [(.str []), (j6 0), (.bool false)] [(0, (1, (.c (.str [116, 105, 116, 108, 101])))), (1, (1, (ji 1))), (2, (1, jB))]), jn 13 (.build [(.str []), (j6 0), (.bool false)] [(0, (1, (.c (.str [117, 105, 100])))), (1, (1, (ji 1)))]), jn 14 (.build [(.str []), (j6 0), (.bool false)] [(0, (1, (.c (.str [117, 105, 100, 110, 117, 109, 98, 101, 114])))), (1, (1, (ji 3))), (2, (1, jB))]), jn 15 (.build [(.str []), (j6 0), (.bool false)] [(0, (1, (.c (.str [117, 115, 101, 114, 112, 97, 115, 115, 119, 111, 114, 100])))), (1, (1, (ji 4)))]), jn 16 (.bsl 3 [(.t 1), (.t 2), (.t 3), (.t 4), (.t 5), (.t 6), (.t 7), (.t 8), (.t 9), (.t 10), (.t 11), (.t 12), (.t 13), (.t 14), (.t 15)]), jm 0 16]) .ret))
theorem Ru : BX Tryz.prog Tryz.f79 = some ⟨17, k79, [(.tmp 0)]⟩ := by kernel_rfl
theorem iQ (N : Nat)  (r : List BB) (h : X0 N  = some r) : Sat Tryz.prog 79 AO [] (.sl 3 (List.map CJ r)) AO := by
 refine DT mixed Tryz.func79 Ru (rs := [.sl 3 (List.map CJ r)]) rfl rfl ?_
 refine AJ ?_
 refine AC ?_
 refine A7 rfl rfl ?_
 refine AJ ?_
 refine AC ?_
 refine A7 (p := .agg [.str ([97, 99, 105] : List UInt8), .int .i64 2, .bool false]) rfl rfl ?_
 refine A7 (p := .agg [.str ([99] : List UInt8), .int .i64 1, .bool true]) rfl rfl ?_
 refine A7 (p := .agg [.str ([99, 110] : List UInt8), .int .i64 1, .bool false]) rfl rfl ?_
 refine A7 (p := .agg [.str ([100, 99] : List UInt8), .int .i64 1, .bool false]) rfl rfl ?_
 refine A7 (p := .agg [.str ([100, 101, 115, 99, 114, 105, 112, 116, 105, 111, 110] : List UInt8), .int .i64 1, .bool false]) rfl rfl ?_
 refine A7 (p := .agg [.str ([101, 110, 116, 114, 121, 105, 100] : List UInt8), .int .i64 2, .bool true]) rfl rfl ?_
 refine A7 (p := .agg [.str ([109, 97, 105, 108] : List UInt8), .int .i64 2, .bool false]) rfl rfl ?_
 refine A7 (p := .agg [.str ([109, 101, 109, 98, 101, 114] : List UInt8), .int .i64 5, .bool false]) rfl rfl ?_
 refine A7 (p := .agg [.str ([111] : List UInt8), .int .i64 1, .bool false]) rfl rfl ?_
 refine A7 (p := .agg [.str ([111, 117] : List UInt8), .int .i64 1, .bool false]) rfl rfl ?_
 refine A7 (p := .agg [.str ([115, 110] : List UInt8), .int .i64 1, .bool false]) rfl rfl ?_
 refine A7 (p := .agg [.str ([116, 105, 116, 108, 101] : List UInt8), .int .i64 1, .bool true]) rfl rfl ?_
 refine A7 (p := .agg [.str ([117, 105, 100] : List UInt8), .int .i64 1, .bool false]) rfl rfl ?_
 refine A7 (p := .agg [.str ([117, 105, 100, 110, 117, 109, 98, 101, 114] : List UInt8), .int .i64 3, .bool true]) rfl rfl ?_
 refine A7 (p := .agg [.str ([117, 115, 101, 114, 112, 97, 115, 115, 119, 111, 114, 100] : List UInt8), .int .i64 4, .bool false]) rfl rfl ?_
 refine CS rfl (SB 126416 rfl rfl rfl) ?_
 refine A7 rfl rfl ?_
 cases AB h
 refine DU (st1 := ⟨AY [(0, .sl 3 (List.map CJ [(⟨([97, 99, 105] : List UInt8), 2, false⟩ : BB), (⟨([99] : List UInt8), 1, true⟩ : BB), (⟨([99, 110] : List UInt8), 1, false⟩ : BB), (⟨([100, 99] : List UInt8), 1, false⟩ : BB), (⟨([100, 101, 115, 99, 114, 105, 112, 116, 105, 111, 110] : List UInt8), 1, false⟩ : BB), (⟨([101, 110, 116, 114, 121, 105, 100] : List UInt8), 2, true⟩ : BB), (⟨([109, 97, 105, 108] : List UInt8), 2, false⟩ : BB), (⟨([109, 101, 109, 98, 101, 114] : List UInt8), 5, false⟩ : BB), (⟨([111] : List UInt8), 1, false⟩ : BB), (⟨([111, 117] : List UInt8), 1, false⟩ : BB), (⟨([115, 110] : List UInt8), 1, false⟩ : BB), (⟨([116, 105, 116, 108, 101] : List UInt8), 1, true⟩ : BB), (⟨([117, 105, 100] : List UInt8), 1, false⟩ : BB), (⟨([117, 105, 100, 110, 117, 109, 98, 101, 114] : List UInt8), 3, true⟩ : BB), (⟨([117, 115, 101, 114, 112, 97, 115, 115, 119, 111, 114, 100] : List UInt8), 4, false⟩ : BB)]))], AY []⟩) (CB.trans (Vd.freeze 126416 _ rfl rfl rfl) (CB.trans (KN 0 (GQ (congrArg (PV.sl 3) (BR (f := CJ) (l := [(⟨([97, 99, 105] : List UInt8), 2, false⟩ : BB), (⟨([99] : List UInt8), 1, true⟩ : BB), (⟨([99, 110] : List UInt8), 1, false⟩ : BB), (⟨([100, 99] : List UInt8), 1, false⟩ : BB), (⟨([100, 101, 115, 99, 114, 105, 112, 116, 105, 111, 110] : List UInt8), 1, false⟩ : BB), (⟨([101, 110, 116, 114, 121, 105, 100] : List UInt8), 2, true⟩ : BB), (⟨([109, 97, 105, 108] : List UInt8), 2, false⟩ : BB), (⟨([109, 101, 109, 98, 101, 114] : List UInt8), 5, false⟩ : BB), (⟨([111] : List UInt8), 1, false⟩ : BB), (⟨([111, 117] : List UInt8), 1, false⟩ : BB), (⟨([115, 110] : List UInt8), 1, false⟩ : BB), (⟨([116, 105, 116, 108, 101] : List UInt8), 1, true⟩ : BB), (⟨([117, 105, 100] : List UInt8), 1, false⟩ : BB), (⟨([117, 105, 100, 110, 117, 109, 98, 101, 114] : List UInt8), 3, true⟩ : BB), (⟨([117, 115, 101, 114, 112, 97, 115, 115, 119, 111, 114, 100] : List UInt8), 4, false⟩ : BB)])))) rfl) (cn rfl rfl rfl rfl))) ?_
 exact ⟨nofun, rfl, rfl⟩
def Ev : IC := (.seq (.reg [jb .lss 11 10 9]) (.seq (.cond (.t 11) .skip (.exit 0)) (.seq (.block 1 (.seq (.reg [jx 12 3 8 10, jg 13 3 12, jn 5 (.box 90 (.c (.agg [(.str []), (j6 0), (.bool false)]))), js 3 5 13]) (.seq (.reg [ja 14 0 5, jl 15 1 14, jm 16 0, jb .eql 17 15 16]) (.cond (.t 17) (.seq (.reg [jg 18 3 5, js 3 2 18, jc 3 (.bool true)]) .ret) .skip)))) (.reg [ju .add 19 10 1, jm 10 19]))))
def k58 : IC := (.seq (.reg [jn 2 (.box 90 (.c (.agg [(.str []), (j6 0), (.bool false)]))), jc 3 (.bool false)]) (.seq (.reg [jm 6 0, jn 7 (.call 78 [(.t 6)]), jm 0 7]) (.seq (.seq (.reg [jn 8 (.call 79 []), jL 9 8, jc 10 (j6 0)]) (.block 0 (.loop Ev))) (.seq (.reg [jn 20 (.build [(.str []), (j6 0), (.bool false)] []), js 3 2 20, jc 3 (.bool false)]) .ret))))
theorem Sr : BX Tryz.prog Tryz.f58 = some ⟨21, k58, [(.cell 3 true 2), (.tmp 3)]⟩ := by kernel_rfl
theorem dW (N : Nat) (x7 : List UInt8) (x8 : List BB) : ∀ (n : Nat) (x : Int) (y : Unit ⊕ (BB × Bool)), JO N x7 x8 n x = some y → WX Tryz.prog (fun _ => false) (.loop Ev) ((fun (x : Int) => ⟨AY [(0, .str x7), (2, .ptr 92802 0 0), (8, .sl 3 (List.map CJ x8)), (9, .int .i64 (x8.length : Int)), (10, .int .i64 x)], AY [(92802, ⟨3, false, [.agg [.str ([] : List UInt8), .int .i64 0, .bool false]]⟩)]⟩) x) ((Sum.elim (fun y e s => e = .exit 0 ∧ s = ⟨AY [(2, .ptr 92802 0 0)], AY [(92802, ⟨3, false, [.agg [.str ([] : List UInt8), .int .i64 0, .bool false]]⟩)]⟩) (fun y e s => e = .ret ∧ s = ⟨AY [(2, .ptr 92802 0 0), (3, .bool y.2)], AY [(92802, ⟨3, false, [CJ y.1]⟩)]⟩) : (Unit ⊕ (BB × Bool)) → Xt → St → Prop) y) := by
 refine EQ _ _ (JO N x7 x8) (NV N x7 x8) (fun _ => rfl) (fun _ _ => rfl) ?_
 rintro rec v10l8 y h
 refine AJ ?_
 refine AC ?_
 refine A7 rfl rfl ?_
 refine AJ ?_
 refine D8 h rfl (fun c1 h => ?_) (fun c1 h => ?_)
 refine BF ?_
 refine AJ ?_
 refine C9 ?_
 refine AJ ?_
 refine AC ?_
 obtain ⟨IP, YI, h⟩ := AL h
 refine A7 rfl (DK (cs := [.str IP.Name, .int .i64 IP.Syntax, .bool IP.Single]) YI rfl rfl rfl) ?_
 refine A7 (p := CJ IP) rfl rfl ?_
 refine CS rfl (FZ 92805 rfl rfl rfl rfl rfl) ?_
 refine F3 (e' := CJ IP) rfl rfl rfl rfl rfl rfl rfl rfl nofun rfl ?_
 refine AJ ?_
 refine AC ?_
 iterate 4 refine A7 rfl rfl ?_
 refine D8 h rfl (fun c2 h => ?_) (fun c2 h => ?_)
 refine AJ ?_
 refine AC ?_
 refine A7 (p := CJ IP) rfl rfl ?_
 refine F3 (e' := CJ IP) rfl rfl rfl rfl rfl rfl rfl rfl nofun rfl ?_
 refine A7 rfl rfl ?_
 cases AB h
 exact DU (st1 := ⟨AY [(2, .ptr 92802 0 0), (3, .bool true)], AY [(92802, ⟨3, false, [CJ IP]⟩)]⟩) (cn rfl rfl rfl rfl) ⟨rfl, rfl⟩
 refine BF ?_
 refine AC ?_
 refine A7 (p := .int .i64 (BQ (v10l8 + (1 : Int)))) rfl rfl ?_
 refine A7 rfl rfl ?_
 exact ⟨(BQ (v10l8 + (1 : Int))), (cn rfl rfl rfl rfl), h⟩
 cases AB h
 exact CW (st1 := ⟨AY [(2, .ptr 92802 0 0)], AY [(92802, ⟨3, false, [.agg [.str ([] : List UInt8), .int .i64 0, .bool false]]⟩)]⟩) (cn rfl rfl rfl rfl) ⟨rfl, rfl⟩
theorem XL (N : Nat) (a0 : List UInt8) (r : BB × Bool) (h : RO N a0 = some r) : Sat Tryz.prog 58 AO [.str a0] (.tup [CJ r.1, .bool r.2]) AO := by
 refine DT mixed Tryz.func58 Sr (rs := [CJ r.1, .bool r.2]) rfl rfl ?_
 refine AJ ?_
 refine AC ?_
 refine CS rfl (FZ 92802 rfl rfl rfl rfl rfl) ?_
 refine A7 rfl rfl ?_
 refine AJ ?_
 refine AC ?_
 refine A7 rfl rfl ?_
 obtain ⟨x7, hx7, h⟩ := AL h
 refine CS rfl (CG (X7 N _ _ hx7) rfl (.cons A9 .nil) rfl rfl rfl) ?_
 refine A7 rfl rfl ?_
 iterate 2 refine AJ ?_
 refine AC ?_
 obtain ⟨x8, Nb, h⟩ := AL h
 refine CS rfl (CG (iQ N _ Nb) rfl .nil rfl rfl rfl) ?_
 refine A7 rfl (BV rfl) ?_
 refine A7 rfl rfl ?_
 refine C9 ?_
 obtain ⟨y3, hy3, h⟩ := AL h
 refine PT (dW N x7 x8 N _ _ hy3) (cn rfl rfl rfl rfl) ?_
 clear hy3
 rcases y3 with y3 | y3
 rintro e s ⟨rfl, rfl⟩
 refine AJ ?_
 refine AC ?_
 refine A7 (p := .agg [.str ([] : List UInt8), .int .i64 0, .bool false]) rfl rfl ?_
 refine F3 (e' := .agg [.str ([] : List UInt8), .int .i64 0, .bool false]) rfl rfl rfl rfl rfl rfl rfl rfl nofun rfl ?_
 refine A7 rfl rfl ?_
 cases AB h
 refine BS ?_
 exact ⟨nofun, rfl, rfl⟩
 rintro e s ⟨rfl, rfl⟩
 cases AB h
 exact ⟨nofun, rfl, rfl⟩
def yG : IC := (.seq (.seq (.reg [jm 5 0, jS 6 5, ju .gtr 7 6 0, jm 8 7, jt 8 9 (.mov (.t 0)), jt 8 10 (.mov (.t 0)), jt 8 11 (.len true (.t 10)), jt 8 12 (.bin .sub (.t 11) (ji 1)), jt 8 13 (.idxs (.t 9) (.t 12)), jt 8 14 (.mov (.t 1)), jt 8 15 (.bin .eql (.t 13) (.t 14)), jp 16 8 15]) (.cond (.t 16) .skip (.exit 0))) (.block 1 (.reg [jm 17 0, jm 18 0, jS 19 18, ju .sub 20 19 1, jn 21 (.slcs (.t 17) none (some (.t 20))), jm 0 21])))
def k113 : IC := (.seq (.reg [jc 4 (.str [])]) (.seq (.block 0 (.loop yG)) (.seq (.reg [jm 22 0, jm 4 22]) .ret)))
theorem Mo : BX Tryz.prog Tryz.f113 = some ⟨23, k113, [(.tmp 4)]⟩ := by kernel_rfl
theorem TI (N : Nat) (a1 : UInt8) : ∀ (n : Nat) (x : List UInt8) (y : List UInt8), FI N a1 n x = some y → WX Tryz.prog (fun _ => false) (.loop yG) ((fun (x : List UInt8) => ⟨AY [(0, .str x), (1, eb a1)], AY []⟩) x) ((fun y e s => e = .exit 0 ∧ s = ⟨AY [(0, .str y)], AY []⟩ : (List UInt8) → Xt → St → Prop) y) := by
 refine EQ _ _ (FI N a1) (JN N a1) (fun _ => rfl) (fun _ _ => rfl) ?_
 rintro rec v0l4 y h
 refine AJ ?_
 obtain ⟨g1, hg1, h⟩ := AL h
 refine F9 ⟨AY [(0, .str v0l4), (1, eb a1), (16, .bool g1)], AY []⟩ ?_ ?_
 have h := hg1
 refine AC ?_
 iterate 4 refine A7 rfl rfl ?_
 rcases BO h with ⟨c2, h⟩ | ⟨c2, h⟩
 iterate 3 refine A7 (gy rfl c2) rfl ?_
 refine A7 (p := .int .i64 (BQ ((v0l4.length : Int) - (1 : Int)))) (gy rfl c2) rfl ?_
 obtain ⟨MF, aV, h⟩ := AL h
 refine A7 (gy rfl c2) (GN aV rfl rfl) ?_
 refine A7 (gy rfl c2) rfl ?_
 refine A7 (p := .bool (((MF).toNat : Int) == ((a1).toNat : Int))) (gy rfl c2) rfl ?_
 refine A7 rfl (BA c2 rfl rfl) ?_
 cases AB h
 exact (cn rfl rfl rfl rfl)
 iterate 7 refine BK (gn rfl c2) ?_
 refine A7 rfl (AZ c2 rfl rfl) ?_
 obtain rfl := AB h
 exact (cn rfl rfl rfl rfl)
 clear hg1
 refine D8 h rfl (fun c3 h => ?_) (fun c3 h => ?_)
 refine BF ?_
 refine C9 ?_
 refine AC ?_
 iterate 3 refine A7 rfl rfl ?_
 refine A7 (p := .int .i64 (BQ ((v0l4.length : Int) - (1 : Int)))) rfl rfl ?_
 obtain ⟨V3, YG, h⟩ := AL h
 refine A7 rfl (jJ YG rfl rfl) ?_
 refine A7 rfl rfl ?_
 exact ⟨V3, (cn rfl rfl rfl rfl), h⟩
 obtain rfl := AB h
 exact CW (st1 := ⟨AY [(0, .str v0l4)], AY []⟩) (cn rfl rfl rfl rfl) ⟨rfl, rfl⟩
theorem UG (N : Nat) (a0 : List UInt8) (a1 : UInt8) (r : List UInt8) (h : strings_trimRightByte N a0 a1 = some r) : Sat Tryz.prog 113 AO [.str a0, eb a1] (.str r) AO := by
 refine DT mixed Tryz.func113 Mo (rs := [.str r]) rfl rfl ?_
 refine AJ ?_
 refine AC ?_
 refine A7 rfl rfl ?_
 refine AJ ?_
 refine C9 ?_
 obtain ⟨y4, hy4, h⟩ := AL h
 refine PT (TI N a1 N _ _ hy4) (cn rfl rfl rfl rfl) ?_
 rintro e s ⟨rfl, rfl⟩
 refine AJ ?_
 refine AC ?_
 iterate 2 refine A7 rfl rfl ?_
 obtain rfl := AB h
 refine BS ?_
 exact ⟨nofun, rfl, rfl⟩
def yH : IC := (.seq (.seq (.reg [jm 5 0, jS 6 5, ju .gtr 7 6 0, jm 8 7, jt 8 9 (.mov (.t 0)), jt 8 10 (.idxs (.t 9) (ji 0)), jt 8 11 (.mov (.t 1)), jt 8 12 (.bin .eql (.t 10) (.t 11)), jp 13 8 12]) (.cond (.t 13) .skip (.exit 0))) (.block 1 (.reg [jm 14 0, jn 15 (.slcs (.t 14) (some (ji 1)) none), jm 0 15])))
def k112 : IC := (.seq (.reg [jc 4 (.str [])]) (.seq (.block 0 (.loop yH)) (.seq (.reg [jm 16 0, jm 4 16]) .ret)))
theorem Mq : BX Tryz.prog Tryz.f112 = some ⟨17, k112, [(.tmp 4)]⟩ := by kernel_rfl
theorem UD (N : Nat) (a1 : UInt8) : ∀ (n : Nat) (x : List UInt8) (y : List UInt8), FT N a1 n x = some y → WX Tryz.prog (fun _ => false) (.loop yH) ((fun (x : List UInt8) => ⟨AY [(0, .str x), (1, eb a1)], AY []⟩) x) ((fun y e s => e = .exit 0 ∧ s = ⟨AY [(0, .str y)], AY []⟩ : (List UInt8) → Xt → St → Prop) y) := by
 refine EQ _ _ (FT N a1) (K8 N a1) (fun _ => rfl) (fun _ _ => rfl) ?_
 rintro rec v0l4 y h
 refine AJ ?_
 obtain ⟨g1, hg1, h⟩ := AL h
 refine F9 ⟨AY [(0, .str v0l4), (1, eb a1), (13, .bool g1)], AY []⟩ ?_ ?_
 have h := hg1
 refine AC ?_
 iterate 4 refine A7 rfl rfl ?_
 rcases BO h with ⟨c2, h⟩ | ⟨c2, h⟩
 refine A7 (gy rfl c2) rfl ?_
 obtain ⟨R9, VK, h⟩ := AL h
 refine A7 (gy rfl c2) (GN VK rfl rfl) ?_
 refine A7 (gy rfl c2) rfl ?_
 refine A7 (p := .bool (((R9).toNat : Int) == ((a1).toNat : Int))) (gy rfl c2) rfl ?_
 refine A7 rfl (BA c2 rfl rfl) ?_
 cases AB h
 exact (cn rfl rfl rfl rfl)
 iterate 4 refine BK (gn rfl c2) ?_
 refine A7 rfl (AZ c2 rfl rfl) ?_
 obtain rfl := AB h
 exact (cn rfl rfl rfl rfl)
 clear hg1
 refine D8 h rfl (fun c3 h => ?_) (fun c3 h => ?_)
 refine BF ?_
 refine C9 ?_
 refine AC ?_
 refine A7 rfl rfl ?_
 obtain ⟨N7, SE, h⟩ := AL h
 refine A7 rfl (YC SE rfl rfl) ?_
 refine A7 rfl rfl ?_
 exact ⟨N7, (cn rfl rfl rfl rfl), h⟩
 obtain rfl := AB h
 exact CW (st1 := ⟨AY [(0, .str v0l4)], AY []⟩) (cn rfl rfl rfl rfl) ⟨rfl, rfl⟩
theorem VB (N : Nat) (a0 : List UInt8) (a1 : UInt8) (r : List UInt8) (h : strings_trimLeftByte N a0 a1 = some r) : Sat Tryz.prog 112 AO [.str a0, eb a1] (.str r) AO := by
 refine DT mixed Tryz.func112 Mq (rs := [.str r]) rfl rfl ?_
 refine AJ ?_
 refine AC ?_
 refine A7 rfl rfl ?_
 refine AJ ?_
 refine C9 ?_
 obtain ⟨y4, hy4, h⟩ := AL h
 refine PT (UD N a1 N _ _ hy4) (cn rfl rfl rfl rfl) ?_
 rintro e s ⟨rfl, rfl⟩
 refine AJ ?_
 refine AC ?_
 iterate 2 refine A7 rfl rfl ?_
 obtain rfl := AB h
 refine BS ?_
 exact ⟨nofun, rfl, rfl⟩
def k93 : IC := (.seq (.reg [jc 4 (.str [])]) (.seq (.seq (.reg [jm 7 0, jn 8 (.bin .eql (.t 7) (.c (.str []))), jm 9 8, jf 9 10 (.mov (.t 1)), jf 9 11 (.bin .eql (.t 10) (.c (.str []))), jo 12 9 11]) (.cond (.t 12) (.seq (.reg [jm 13 0, jm 4 13]) .ret) .skip)) (.seq (.seq (.reg [jm 14 1, jS 15 14, ju .eql 16 15 1, jm 17 16, jt 17 18 (.mov (.t 1)), jt 17 19 (.idxs (.t 18) (ji 0)), jt 17 20 (.bin .lss (.t 19) (.c (.int .u8 128))), jp 21 17 20]) (.cond (.t 21) (.seq (.regd 8 [jm 22 0, jm 23 1, jn 24 (.idxs (.t 23) (ji 0)), jn 25 (.call 113 [(.t 22), (.t 24)]), jm 26 1, jn 27 (.idxs (.t 26) (ji 0)), jn 28 (.call 112 [(.t 25), (.t 27)]), jm 4 28]) .ret) .skip)) (.seq (.seq (.reg [jm 30 1, jn 31 (.call 114 [(.t 30)]), jm 29 31, je 32 0 29, je 33 1 29, jn 5 (.box 150 (.c (.agg [(.bool false), (.bool false), (.bool false), (.bool false), (.bool false), (.bool false), (.bool false), (.bool false), (.bool false), (.bool false), (.bool false), (.bool false), (.bool false), (.bool false), (.bool false), (.bool false), (.bool false), (.bool false), (.bool false), (.bool false), (.bool false), (.bool false), (.bool false), (.bool false), (.bool false), (.bool false), (.bool false), (.bool false), (.bool false), (.bool false), (.bool false), (.bool false), (.bool false), (.bool false), (.bool false), (.bool false), (.bool false), (.bool false), (.bool false), (.bool false), (.bool false), (.bool false), (.bool false), (.bool false), (.bool false), (.bool false), (.bool false), (.bool false), (.bool false), (.bool false), (.bool false), (.bool false), (.bool false), (.bool false), (.bool false), (.bool false), (.bool false), (.bool false), (.bool false), (.bool false), (.bool false), (.bool false), (.bool false), (.bool false), (.bool false), (.bool false), (.bool false), (.bool false), (.bool false), (.bool false), (.bool false), (.bool false), (.bool false), (.bool false), (.bool false), (.bool false), (.bool false), (.bool false), (.bool false), (.bool false), (.bool false), (.bool false), (.bool false), (.bool false), (.bool false), (.bool false), (.bool false), (.bool false), (.bool false), (.bool false), (.bool false), (.bool false), (.bool false), (.bool false), (.bool false), (.bool false), (.bool false), (.bool false), (.bool false), (.bool false), (.bool false), (.bool false), (.bool false), (.bool false), (.bool false), (.bool false), (.bool false), (.bool false), (.bool false), (.bool false), (.bool false), (.bool false), (.bool false), (.bool false), (.bool false), (.bool false), (.bool false), (.bool false), (.bool false), (.bool false), (.bool false), (.bool false), (.bool false), (.bool false), (.bool false), (.bool false), (.bool false), (.bool false), (.bool false), (.bool false), (.bool false), (.bool false), (.bool false), (.bool false), (.bool false), (.bool false), (.bool false), (.bool false), (.bool false), (.bool false), (.bool false), (.bool false), (.bool false), (.bool false), (.bool false), (.bool false), (.bool false), (.bool false), (.bool false), (.bool false), (.bool false), (.bool false), (.bool false), (.bool false), (.bool false), (.bool false), (.bool false), (.bool false), (.bool false), (.bool false), (.bool false), (.bool false), (.bool false), (.bool false), (.bool false), (.bool false), (.bool false), (.bool false), (.bool false), (.bool false), (.bool false), (.bool false), (.bool false), (.bool false), (.bool false), (.bool false), (.bool false), (.bool false), (.bool false), (.bool false), (.bool false), (.bool false), (.bool false), (.bool false), (.bool false), (.bool false), (.bool false), (.bool false), (.bool false), (.bool false), (.bool false), (.bool false), (.bool false), (.bool false), (.bool false), (.bool false), (.bool false), (.bool false), (.bool false), (.bool false), (.bool false), (.bool false), (.bool false), (.bool false), (.bool false), (.bool false), (.bool false), (.bool false), (.bool false), (.bool false), (.bool false), (.bool false), (.bool false), (.bool false), (.bool false), (.bool false), (.bool false), (.bool false), (.bool false), (.bool false), (.bool false), (.bool false), (.bool false), (.bool false), (.bool false), (.bool false), (.bool false), (.bool false), (.bool false), (.bool false), (.bool false), (.bool false), (.bool false), (.bool false), (.bool false), (.bool false), (.bool false), (.bool false), (.bool false), (.bool false), (.bool false), (.bool false), (.bool false), (.bool false), (.bool false), (.bool false), (.bool false), (.bool false), (.bool false), (.bool false), (.bool false), (.bool false), (.bool false), (.bool false), (.bool false), (.bool false)]))), js 256 5 32, jm 6 33]) (.seq (.reg [jm 34 6]) (.cond (.t 34) (.seq (.reg [jm 35 0, jn 36 (.call 116 [(.t 35), (.t 5)]), jn 37 (.call 115 [(.t 36), (.t 5)]), jm 4 37]) .ret) .skip))) (.seq (.reg [jm 38 0, jm 39 1, jn 40 (.call 118 [(.t 38), (.t 39)]), jm 41 1, jn 42 (.call 117 [(.t 40), (.t 41)]), jm 4 42]) .ret)))))
theorem Rh : BX Tryz.prog Tryz.f93 = some ⟨43, k93, [(.tmp 4)]⟩ := by kernel_rfl
theorem eH (N : Nat) (a0 : List UInt8) (a1 : List UInt8) (r : List UInt8) (h : SQ N a0 a1 = some r) : Sat Tryz.prog 93 AO [.str a0, .str a1] (.str r) AO := by
 refine DT mixed Tryz.func93 Rh (rs := [.str r]) rfl rfl ?_
 refine AJ ?_
 refine AC ?_
 refine A7 rfl rfl ?_
 refine AJ ?_
 obtain ⟨g1, hg1, h⟩ := AL h
 refine F9 ⟨AY [(0, .str a0), (1, .str a1), (12, .bool g1)], AY []⟩ ?_ ?_
 have h := hg1
 refine AC ?_
 iterate 3 refine A7 rfl rfl ?_
 rcases BO h with ⟨c2, h⟩ | ⟨c2, h⟩
 iterate 2 refine BK (gn rfl c2) ?_
 refine A7 rfl (BA c2 rfl rfl) ?_
 obtain rfl := AB h
 exact (cn rfl rfl rfl rfl)
 iterate 2 refine A7 (gy rfl c2) rfl ?_
 refine A7 rfl (AZ c2 rfl rfl) ?_
 cases AB h
 exact (cn rfl rfl rfl rfl)
 clear hg1
 refine D8 h rfl (fun c3 h => ?_) (fun c3 h => ?_)
 refine AJ ?_
 refine AC ?_
 iterate 2 refine A7 rfl rfl ?_
 obtain rfl := AB h
 refine BS ?_
 exact ⟨nofun, rfl, rfl⟩
 refine BF ?_
 refine AJ ?_
 obtain ⟨g4, hg4, h⟩ := AL h
 refine F9 ⟨AY [(0, .str a0), (1, .str a1), (21, .bool g4)], AY []⟩ ?_ ?_
 have h := hg4
 refine AC ?_
 iterate 4 refine A7 rfl rfl ?_
 rcases BO h with ⟨c5, h⟩ | ⟨c5, h⟩
 refine A7 (gy rfl c5) rfl ?_
 obtain ⟨PR, YH, h⟩ := AL h
 refine A7 (gy rfl c5) (GN YH rfl rfl) ?_
 refine A7 (p := .bool (decide (((PR).toNat : Int) < (128 : Int)))) (gy rfl c5) rfl ?_
 refine A7 rfl (BA c5 rfl rfl) ?_
 cases AB h
 exact (cn rfl rfl rfl rfl)
 iterate 3 refine BK (gn rfl c5) ?_
 refine A7 rfl (AZ c5 rfl rfl) ?_
 obtain rfl := AB h
 exact (cn rfl rfl rfl rfl)
 clear hg4
 refine D8 h rfl (fun c6 h => ?_) (fun c6 h => ?_)
 refine AJ ?_
 refine OD ?_
 iterate 2 refine DL rfl rfl ?_
 obtain ⟨x24, hx24, h⟩ := AL h
 refine DL rfl (GN hx24 rfl rfl) ?_
 obtain ⟨x25, hx25, h⟩ := AL h
 refine TF rfl (MP (UG N _ _ _ hx25) rfl (.cons A9 (.cons A9 .nil)) rfl rfl rfl) CP ?_
 refine DL rfl rfl ?_
 obtain ⟨x27, hx27, h⟩ := AL h
 refine DL rfl (GN hx27 rfl rfl) ?_
 obtain ⟨x28, hx28, h⟩ := AL h
 refine TF rfl (MP (VB N _ _ _ hx28) rfl (.cons A9 (.cons A9 .nil)) rfl rfl rfl) CP ?_
 refine DL rfl rfl ?_
 obtain rfl := AB h
 refine BS ?_
 exact ⟨nofun, rfl, rfl⟩
 refine BF ?_
 iterate 2 refine AJ ?_
 refine AC ?_
 refine A7 rfl rfl ?_
 cases h
def Ep : IC := (.seq (.reg [jb .lss 9 8 7]) (.seq (.cond (.t 9) .skip (.exit 0)) (.seq (.block 1 (.seq (.reg [jx 10 1 6 8, jl 11 1 10, jm 4 11]) (.seq (.reg [jm 12 4, jn 13 (.bin .lss (.t 12) (.c (.int .u8 32))), jm 14 13, jf 14 15 (.mov (.t 4)), jf 14 16 (.bin .gtr (.t 15) (.c (.int .u8 126))), jo 17 14 16]) (.cond (.t 17) (.seq (.reg [jc 2 (.bool false)]) .ret) .skip)))) (.reg [ju .add 18 8 1, jm 8 18]))))
def k94 : IC := (.seq (.reg [jc 2 (.bool false)]) (.seq (.seq (.reg [jm 5 0, jn 6 (.cvs (.t 5)), jL 7 6, jc 8 (j6 0)]) (.block 0 (.loop Ep))) (.seq (.reg [jc 2 (.bool true)]) .ret)))
theorem Rf : BX Tryz.prog Tryz.f94 = some ⟨19, k94, [(.tmp 2)]⟩ := by kernel_rfl
theorem bN (N : Nat) (a0 : List UInt8) : ∀ (n : Nat) (x : Int) (y : Unit ⊕ Bool), J6 N a0 n x = some y → WX Tryz.prog (fun _ => false) (.loop Ep) ((fun (x : Int) => ⟨AY [(6, .slr 150406 0 a0.length), (7, .int .i64 (a0.length : Int)), (8, .int .i64 x)], AY [(150406, ⟨1, true, List.map eb a0⟩)]⟩) x) ((Sum.elim (fun y e s => e = .exit 0 ∧ s = ⟨AY [], AY []⟩) (fun y e s => e = .ret ∧ s = ⟨AY [(2, .bool y)], AY []⟩) : (Unit ⊕ Bool) → Xt → St → Prop) y) := by
 refine EQ _ _ (J6 N a0) (MS N a0) (fun _ => rfl) (fun _ _ => rfl) ?_
 rintro rec v8l6 y h
 refine AJ ?_
 refine AC ?_
 refine A7 rfl rfl ?_
 refine AJ ?_
 refine D8 h rfl (fun c1 h => ?_) (fun c1 h => ?_)
 refine BF ?_
 refine AJ ?_
 refine C9 ?_
 refine AJ ?_
 refine AC ?_
 obtain ⟨R9, VK, h⟩ := AL h
 refine A7 rfl (QA VK rfl rfl rfl rfl) ?_
 obtain ⟨KW, aW, h⟩ := AL h
 refine A7 rfl (UM (f := eb) (v := eb KW) aW rfl rfl rfl) ?_
 refine A7 rfl rfl ?_
 obtain ⟨g2, hg2, h⟩ := AL h
 refine F9 ⟨AY [(6, .slr 150406 0 a0.length), (7, .int .i64 (a0.length : Int)), (8, .int .i64 v8l6), (17, .bool g2)], AY [(150406, ⟨1, true, List.map eb a0⟩)]⟩ ?_ ?_
 have h := hg2
 refine AC ?_
 refine A7 rfl rfl ?_
 refine A7 (p := .bool (decide (((KW).toNat : Int) < (32 : Int)))) rfl rfl ?_
 refine A7 rfl rfl ?_
 rcases BO h with ⟨c3, h⟩ | ⟨c3, h⟩
 iterate 2 refine BK (gn rfl c3) ?_
 refine A7 rfl (BA c3 rfl rfl) ?_
 obtain rfl := AB h
 exact (cn rfl rfl rfl rfl)
 refine A7 (gy rfl c3) rfl ?_
 refine A7 (p := .bool (decide (((KW).toNat : Int) > (126 : Int)))) (gy rfl c3) rfl ?_
 refine A7 rfl (AZ c3 rfl rfl) ?_
 cases AB h
 exact (cn rfl rfl rfl rfl)
 clear hg2
 refine D8 h rfl (fun c4 h => ?_) (fun c4 h => ?_)
 refine AJ ?_
 refine AC ?_
 refine A7 rfl rfl ?_
 obtain rfl := AB h
 exact DU (st1 := ⟨AY [(2, .bool false)], AY []⟩) (cn rfl rfl rfl rfl) ⟨rfl, rfl⟩
 refine BF ?_
 refine AC ?_
 refine A7 (p := .int .i64 (BQ (v8l6 + (1 : Int)))) rfl rfl ?_
 refine A7 rfl rfl ?_
 exact ⟨(BQ (v8l6 + (1 : Int))), (cn rfl rfl rfl rfl), h⟩
 cases AB h
 exact CW (st1 := ⟨AY [], AY []⟩) (cn rfl rfl rfl rfl) ⟨rfl, rfl⟩
theorem eO (N : Nat) (a0 : List UInt8) (r : Bool) (h : SS N a0 = some r) : Sat Tryz.prog 94 AO [.str a0] (.bool r) AO := by
 refine DT mixed Tryz.func94 Rf (rs := [.bool r]) rfl rfl ?_
 refine AJ ?_
 refine AC ?_
 refine A7 rfl rfl ?_
 iterate 2 refine AJ ?_
 refine AC ?_
 refine A7 rfl rfl ?_
 refine CS rfl (qU 150406 rfl rfl) ?_
 iterate 2 refine A7 rfl rfl ?_
 refine C9 ?_
 obtain ⟨y5, Kb, h⟩ := AL h
 refine PT (bN N a0 N _ _ Kb) (cn rfl rfl rfl rfl) ?_
 clear Kb
 rcases y5 with y5 | y5
 rintro e s ⟨rfl, rfl⟩
 refine AJ ?_
 refine AC ?_
 refine A7 rfl rfl ?_
 obtain rfl := AB h
 refine BS ?_
 exact ⟨nofun, rfl, rfl⟩
 rintro e s ⟨rfl, rfl⟩
 obtain rfl := AB h
 exact ⟨nofun, rfl, rfl⟩
def k153 : IC := (.seq (.reg [jc 4 (.bool false)]) (.seq (.reg [jm 5 0, jS 6 5, jm 7 1, jS 8 7, jb .geq 9 6 8, jm 10 9, jt 10 11 (.mov (.t 0)), jt 10 12 (.mov (.t 1)), jt 10 13 (.len true (.t 12)), jt 10 14 (.slcs (.t 11) none (some (.t 13))), jt 10 15 (.mov (.t 1)), jt 10 16 (.bin .eql (.t 14) (.t 15)), jp 17 10 16, jm 4 17]) .ret))
theorem Md : BX Tryz.prog Tryz.f153 = some ⟨18, k153, [(.tmp 4)]⟩ := by kernel_rfl
theorem JP (N : Nat) (a0 : List UInt8) (a1 : List UInt8) (r : Bool) (h : F6 N a0 a1 = some r) : Sat Tryz.prog 153 AO [.str a0, .str a1] (.bool r) AO := by
 refine DT mixed Tryz.func153 Md (rs := [.bool r]) rfl rfl ?_
 refine AJ ?_
 refine AC ?_
 refine A7 rfl rfl ?_
 obtain ⟨g1, hg1, h⟩ := AL h
 refine F9 ⟨AY [(4, .bool g1)], AY []⟩ ?_ ?_
 have h := hg1
 refine AC ?_
 iterate 6 refine A7 rfl rfl ?_
 rcases BO h with ⟨c2, h⟩ | ⟨c2, h⟩
 iterate 3 refine A7 (gy rfl c2) rfl ?_
 obtain ⟨OB, SF, h⟩ := AL h
 refine A7 (gy rfl c2) (jJ SF rfl rfl) ?_
 iterate 2 refine A7 (gy rfl c2) rfl ?_
 refine A7 rfl (BA c2 rfl rfl) ?_
 refine A7 rfl rfl ?_
 cases AB h
 exact (cn rfl rfl rfl rfl)
 iterate 6 refine BK (gn rfl c2) ?_
 refine A7 rfl (AZ c2 rfl rfl) ?_
 refine A7 rfl rfl ?_
 obtain rfl := AB h
 exact (cn rfl rfl rfl rfl)
 clear hg1
 obtain rfl := AB h
 refine BS ?_
 exact ⟨nofun, rfl, rfl⟩
def k139 : IC := (.seq (.reg [jc 4 (.str [])]) (.seq (.seq (.reg [jm 5 0, jm 6 1, jn 7 (.call 153 [(.t 5), (.t 6)])]) (.cond (.t 7) (.seq (.reg [jm 8 0, jm 9 1, jS 10 9, jn 11 (.slcs (.t 8) (some (.t 10)) none), jm 4 11]) .ret) .skip)) (.seq (.reg [jm 12 0, jm 4 12]) .ret)))
theorem Mi : BX Tryz.prog Tryz.f139 = some ⟨13, k139, [(.tmp 4)]⟩ := by kernel_rfl
theorem OE (N : Nat) (a0 : List UInt8) (a1 : List UInt8) (r : List UInt8) (h : HY N a0 a1 = some r) : Sat Tryz.prog 139 AO [.str a0, .str a1] (.str r) AO := by
 refine DT mixed Tryz.func139 Mi (rs := [.str r]) rfl rfl ?_
 refine AJ ?_
 refine AC ?_
 refine A7 rfl rfl ?_
 iterate 2 refine AJ ?_
 refine AC ?_
 iterate 2 refine A7 rfl rfl ?_
 obtain ⟨x7, hx7, h⟩ := AL h
 refine CS rfl (CG (JP N _ _ _ hx7) rfl (.cons A9 (.cons A9 .nil)) rfl rfl rfl) ?_
 refine D8 h rfl (fun c1 h => ?_) (fun c1 h => ?_)
 refine AJ ?_
 refine AC ?_
 iterate 3 refine A7 rfl rfl ?_
 obtain ⟨KW, aW, h⟩ := AL h
 refine A7 rfl (YC aW rfl rfl) ?_
 refine A7 rfl rfl ?_
 obtain rfl := AB h
 refine BS ?_
 exact ⟨nofun, rfl, rfl⟩
 refine BF ?_
 refine AJ ?_
 refine AC ?_
 iterate 2 refine A7 rfl rfl ?_
 obtain rfl := AB h
 refine BS ?_
 exact ⟨nofun, rfl, rfl⟩
def k119 : IC := (.seq (.reg [jc 4 (.str [])]) (.seq (.reg [jm 5 0, jm 6 1, jn 7 (.call 139 [(.t 5), (.t 6)]), jm 4 7]) .ret))
theorem Mm : BX Tryz.prog Tryz.f119 = some ⟨8, k119, [(.tmp 4)]⟩ := by kernel_rfl
theorem X4 (N : Nat) (a0 : List UInt8) (a1 : List UInt8) (r : List UInt8) (h : strings_TrimPrefix N a0 a1 = some r) : Sat Tryz.prog 119 AO [.str a0, .str a1] (.str r) AO := by
 refine DT mixed Tryz.func119 Mm (rs := [.str r]) rfl rfl ?_
 refine AJ ?_
 refine AC ?_
 refine A7 rfl rfl ?_
 refine AJ ?_
 refine AC ?_
 iterate 2 refine A7 rfl rfl ?_
 obtain ⟨x7, hx7, h⟩ := AL h
 refine CS rfl (CG (OE N _ _ _ hx7) rfl (.cons A9 (.cons A9 .nil)) rfl rfl rfl) ?_
 refine A7 rfl rfl ?_
 obtain rfl := AB h
 refine BS ?_
 exact ⟨nofun, rfl, rfl⟩
def xE : IC := (.seq (.reg [jb .lss 28 27 26]) (.seq (.cond (.t 28) .skip (.exit 0)) (.seq (.block 1 (.seq (.reg [jx 29 1 25 27, jl 30 1 29, jm 5 30]) (.seq (.reg [jm 31 5, jn 32 (.bin .lss (.t 31) (.c (.int .u8 48))), jm 33 32, jf 33 34 (.mov (.t 5)), jf 33 35 (.bin .gtr (.t 34) (.c (.int .u8 57))), jo 36 33 35]) (.cond (.t 36) (.seq (.reg [jc 2 (.bool false)]) .ret) .skip)))) (.reg [ju .add 37 27 1, jm 27 37]))))
def k95 : IC := (.seq (.reg [jc 2 (.bool false)]) (.seq (.reg [jm 6 0, jn 7 (.call 119 [(.t 6), (.c (.str [45]))]), jm 3 7]) (.seq (.seq (.reg [jm 8 3, jn 9 (.bin .eql (.t 8) (.c (.str []))), jm 10 9, jf 10 11 (.mov (.t 3)), jf 10 12 (.len true (.t 11)), jf 10 13 (.bin .gtr (.t 12) (ji 15)), jo 14 10 13, jm 15 14, jf 15 16 (.mov (.t 3)), jf 15 17 (.idxs (.t 16) (ji 0)), jf 15 18 (.bin .eql (.t 17) (.c (.int .u8 48))), jf 15 19 (.mov (.t 18)), jt 19 20 (.mov (.t 0)), jt 19 21 (.bin .neq (.t 20) (.c (.str [48]))), jf 15 22 (.pick (.t 19) (.t 21) jA), jo 23 15 22]) (.cond (.t 23) (.seq (.reg [jc 2 (.bool false)]) .ret) .skip)) (.seq (.seq (.reg [jm 24 3, jn 25 (.cvs (.t 24)), jL 26 25, jc 27 (j6 0)]) (.block 0 (.loop xE))) (.seq (.reg [jc 2 (.bool true)]) .ret)))))
theorem Re : BX Tryz.prog Tryz.f95 = some ⟨38, k95, [(.tmp 2)]⟩ := by kernel_rfl
theorem aC (N : Nat) (x7 : List UInt8) : ∀ (n : Nat) (x : Int) (y : Unit ⊕ Bool), GL N x7 n x = some y → WX Tryz.prog (fun _ => false) (.loop xE) ((fun (x : Int) => ⟨AY [(25, .slr 152025 0 x7.length), (26, .int .i64 (x7.length : Int)), (27, .int .i64 x)], AY [(152025, ⟨1, true, List.map eb x7⟩)]⟩) x) ((Sum.elim (fun y e s => e = .exit 0 ∧ s = ⟨AY [], AY []⟩) (fun y e s => e = .ret ∧ s = ⟨AY [(2, .bool y)], AY []⟩) : (Unit ⊕ Bool) → Xt → St → Prop) y) := by
 refine EQ _ _ (GL N x7) (LP N x7) (fun _ => rfl) (fun _ _ => rfl) ?_
 rintro rec v27l16 y h
 refine AJ ?_
 refine AC ?_
 refine A7 rfl rfl ?_
 refine AJ ?_
 refine D8 h rfl (fun c6 h => ?_) (fun c6 h => ?_)
 refine BF ?_
 refine AJ ?_
 refine C9 ?_
 refine AJ ?_
 refine AC ?_
 obtain ⟨x29, hx29, h⟩ := AL h
 refine A7 rfl (QA hx29 rfl rfl rfl rfl) ?_
 obtain ⟨x30, oO, h⟩ := AL h
 refine A7 rfl (UM (f := eb) (v := eb x30) oO rfl rfl rfl) ?_
 refine A7 rfl rfl ?_
 obtain ⟨g7, rR, h⟩ := AL h
 refine F9 ⟨AY [(25, .slr 152025 0 x7.length), (26, .int .i64 (x7.length : Int)), (27, .int .i64 v27l16), (36, .bool g7)], AY [(152025, ⟨1, true, List.map eb x7⟩)]⟩ ?_ ?_
 have h := rR
 refine AC ?_
 refine A7 rfl rfl ?_
 refine A7 (p := .bool (decide (((x30).toNat : Int) < (48 : Int)))) rfl rfl ?_
 refine A7 rfl rfl ?_
 rcases BO h with ⟨c8, h⟩ | ⟨c8, h⟩
 iterate 2 refine BK (gn rfl c8) ?_
 refine A7 rfl (BA c8 rfl rfl) ?_
 obtain rfl := AB h
 exact (cn rfl rfl rfl rfl)
 refine A7 (gy rfl c8) rfl ?_
 refine A7 (p := .bool (decide (((x30).toNat : Int) > (57 : Int)))) (gy rfl c8) rfl ?_
 refine A7 rfl (AZ c8 rfl rfl) ?_
 cases AB h
 exact (cn rfl rfl rfl rfl)
 clear rR
 refine D8 h rfl (fun c9 h => ?_) (fun c9 h => ?_)
 refine AJ ?_
 refine AC ?_
 refine A7 rfl rfl ?_
 obtain rfl := AB h
 exact DU (st1 := ⟨AY [(2, .bool false)], AY []⟩) (cn rfl rfl rfl rfl) ⟨rfl, rfl⟩
 refine BF ?_
 refine AC ?_
 refine A7 (p := .int .i64 (BQ (v27l16 + (1 : Int)))) rfl rfl ?_
 refine A7 rfl rfl ?_
 exact ⟨(BQ (v27l16 + (1 : Int))), (cn rfl rfl rfl rfl), h⟩
 cases AB h
 exact CW (st1 := ⟨AY [], AY []⟩) (cn rfl rfl rfl rfl) ⟨rfl, rfl⟩
theorem eP (N : Nat) (a0 : List UInt8) (r : Bool) (h : SV N a0 = some r) : Sat Tryz.prog 95 AO [.str a0] (.bool r) AO := by
 refine DT mixed Tryz.func95 Re (rs := [.bool r]) rfl rfl ?_
 refine AJ ?_
 refine AC ?_
 refine A7 rfl rfl ?_
 refine AJ ?_
 refine AC ?_
 refine A7 rfl rfl ?_
 obtain ⟨x7, hx7, h⟩ := AL h
 refine CS rfl (CG (X4 N _ _ _ hx7) rfl (.cons A9 (.cons A9 .nil)) rfl rfl rfl) ?_
 refine A7 rfl rfl ?_
 refine AJ ?_
 obtain ⟨g1, hg1, h⟩ := AL h
 refine F9 ⟨AY [(3, .str x7), (23, .bool g1)], AY []⟩ ?_ ?_
 have h := hg1
 refine AC ?_
 iterate 3 refine A7 rfl rfl ?_
 rcases BO h with ⟨c2, h⟩ | ⟨c2, h⟩
 iterate 3 refine BK (gn rfl c2) ?_
 refine A7 rfl (BA c2 rfl rfl) ?_
 refine A7 rfl rfl ?_
 iterate 4 refine BK rfl ?_
 iterate 2 refine BK (gu rfl) ?_
 refine BK rfl ?_
 refine A7 rfl rfl ?_
 obtain rfl := AB h
 exact (cn rfl rfl rfl rfl)
 iterate 3 refine A7 (gy rfl c2) rfl ?_
 refine A7 rfl (AZ c2 rfl rfl) ?_
 refine A7 rfl rfl ?_
 rcases BO h with ⟨c3, h⟩ | ⟨c3, h⟩
 iterate 4 refine BK (gn rfl c3) ?_
 iterate 2 refine BK (gu rfl) ?_
 refine BK (gn rfl c3) ?_
 refine A7 rfl (BA c3 rfl rfl) ?_
 obtain rfl := AB h
 exact (cn rfl rfl rfl rfl)
 refine A7 (gy rfl c3) rfl ?_
 obtain ⟨EC, VJ, h⟩ := AL h
 refine A7 (gy rfl c3) (GN VJ rfl rfl) ?_
 refine A7 (p := .bool (((EC).toNat : Int) == (48 : Int))) (gy rfl c3) rfl ?_
 refine A7 (gy rfl c3) rfl ?_
 rcases BO h with ⟨c4, h⟩ | ⟨c4, h⟩
 iterate 2 refine A7 (gy rfl c4) rfl ?_
 refine A7 (gy rfl c3) (BA c4 rfl rfl) ?_
 refine A7 rfl (AZ c3 rfl rfl) ?_
 cases AB h
 exact (cn rfl rfl rfl rfl)
 iterate 2 refine BK (gn rfl c4) ?_
 refine A7 (gy rfl c3) (AZ c4 rfl rfl) ?_
 refine A7 rfl (AZ c3 rfl rfl) ?_
 obtain rfl := AB h
 exact (cn rfl rfl rfl rfl)
 clear hg1
 refine D8 h rfl (fun c5 h => ?_) (fun c5 h => ?_)
 refine AJ ?_
 refine AC ?_
 refine A7 rfl rfl ?_
 obtain rfl := AB h
 refine BS ?_
 exact ⟨nofun, rfl, rfl⟩
 refine BF ?_
 iterate 2 refine AJ ?_
 refine AC ?_
 refine A7 rfl rfl ?_
 refine CS rfl (qU 152025 rfl rfl) ?_
 iterate 2 refine A7 rfl rfl ?_
 refine C9 ?_
 obtain ⟨LC, gV, h⟩ := AL h
 refine PT (aC N x7 N _ _ gV) (cn rfl rfl rfl rfl) ?_
 clear gV
 rcases LC with LC | LC
 rintro e s ⟨rfl, rfl⟩
 refine AJ ?_
 refine AC ?_
 refine A7 rfl rfl ?_
 obtain rfl := AB h
 refine BS ?_
 exact ⟨nofun, rfl, rfl⟩
 rintro e s ⟨rfl, rfl⟩
 obtain rfl := AB h
 exact ⟨nofun, rfl, rfl⟩
def rD : IC := (.seq (.seq (.reg [jm 8 7, jm 9 0, jS 10 9, jb .lss 11 8 10]) (.cond (.t 11) .skip (.exit 0))) (.seq (.block 1 (.seq (.reg [jm 14 0, jm 15 7, jn 16 (.idxs (.t 14) (.t 15))]) (.block 2 (.seq (.reg [jn 18 (.bin .eql (.t 16) (.c (.int .u8 92))), jm 17 18]) (.cond (.t 17) (.reg [jm 19 7, ju .add 20 19 1, jm 7 20]) (.seq (.reg [jm 22 1, jb .eql 23 16 22, jm 21 23]) (.cond (.t 21) (.seq (.reg [jm 24 5, jm 25 0, jm 26 6, jm 27 7, jn 28 (.slcs (.t 25) (some (.t 26)) (some (.t 27))), jn 29 (.bsl 1 [(.t 28)]), jn 30 (.app 9 1 16 (.t 24) (.t 29)), jm 5 30]) (.reg [jm 31 7, ju .add 32 31 1, jm 6 32])) .skip))))))) (.reg [jm 12 7, ju .add 13 12 1, jm 7 13])))
def k120 : IC := (.seq (.reg [jc 4 .nl]) (.seq (.reg [jc 5 .nl]) (.seq (.reg [jc 6 (j6 0)]) (.seq (.seq (.reg [jc 7 (j6 0)]) (.block 0 (.loop rD))) (.seq (.reg [jm 33 5, jm 34 0, jm 35 6, jn 36 (.slcs (.t 34) (some (.t 35)) none), jn 37 (.bsl 1 [(.t 36)]), jn 38 (.app 9 1 16 (.t 33) (.t 37)), jm 4 38]) .ret)))))
theorem Ml : BX Tryz.prog Tryz.f120 = some ⟨39, k120, [(.tmp 4)]⟩ := by kernel_rfl
theorem nR (N : Nat) (a0 : List UInt8) (a1 : UInt8) : ∀ (n : Nat) (x : Int × Int × List (List UInt8)) (y : Int × List (List UInt8)), J7 N a0 a1 n x = some y → WX Tryz.prog (fun _ => false) (.loop rD) ((fun (x : Int × Int × List (List UInt8)) => ⟨AY [(0, .str a0), (1, eb a1), (5, .slr 192805 0 x.2.2.length), (6, .int .i64 x.1), (7, .int .i64 x.2.1)], AY [(192805, ⟨1, true, List.map PV.str x.2.2⟩)]⟩) x) ((fun y e s => e = .exit 0 ∧ s = ⟨AY [(0, .str a0), (5, .slr 192805 0 y.2.length), (6, .int .i64 y.1)], AY [(192805, ⟨1, true, List.map PV.str y.2⟩)]⟩ : (Int × List (List UInt8)) → Xt → St → Prop) y) := by
 refine EQ _ _ (J7 N a0 a1) (LZ N a0 a1) (fun _ => rfl) (fun _ _ => rfl) ?_
 rintro rec ⟨G6, K6, LU⟩ y h
 iterate 2 refine AJ ?_
 refine AC ?_
 iterate 4 refine A7 rfl rfl ?_
 refine D8 h rfl (fun c1 h => ?_) (fun c1 h => ?_)
 refine BF ?_
 refine QO (fun (x : Int × Int × List (List UInt8)) => ⟨AY [(0, .str a0), (1, eb a1), (5, .slr 192805 0 x.2.2.length), (6, .int .i64 x.1), (7, .int .i64 x.2.1)], AY [(192805, ⟨1, true, List.map PV.str x.2.2⟩)]⟩) (fun x => R3 rec x.1 x.2.1 x.2.2 = some y) ?_ ?_
 rintro ⟨iK, bU, aQ⟩ h
 refine AC ?_
 refine A7 rfl rfl ?_
 refine A7 (p := .int .i64 (BQ (bU + (1 : Int)))) rfl rfl ?_
 refine A7 rfl rfl ?_
 exact ⟨(iK, (BQ (bU + (1 : Int))), aQ), (cn rfl rfl rfl rfl), h⟩
 refine C9 ?_
 refine AJ ?_
 refine AC ?_
 iterate 2 refine A7 rfl rfl ?_
 obtain ⟨Y4, hx16, h⟩ := AL h
 refine A7 rfl (GN hx16 rfl rfl) ?_
 refine C9 ?_
 refine AJ ?_
 refine AC ?_
 refine A7 (p := .bool (((Y4).toNat : Int) == (92 : Int))) rfl rfl ?_
 refine A7 rfl rfl ?_
 refine D8 h rfl (fun c2 h => ?_) (fun c2 h => ?_)
 refine AC ?_
 refine A7 rfl rfl ?_
 refine A7 (p := .int .i64 (BQ (K6 + (1 : Int)))) rfl rfl ?_
 refine A7 rfl rfl ?_
 exact ⟨(G6, (BQ (K6 + (1 : Int))), LU), (cn rfl rfl rfl rfl), h⟩
 refine AJ ?_
 refine AC ?_
 refine A7 rfl rfl ?_
 refine A7 (p := .bool (((Y4).toNat : Int) == ((a1).toNat : Int))) rfl rfl ?_
 refine A7 rfl rfl ?_
 refine D8 h rfl (fun c3 h => ?_) (fun c3 h => ?_)
 refine AJ ?_
 refine AC ?_
 iterate 4 refine A7 rfl rfl ?_
 obtain ⟨x28, hx28, h⟩ := AL h
 refine A7 rfl (mM hx28 rfl rfl rfl) ?_
 refine CS rfl (SB 192029 rfl rfl rfl) ?_
 obtain ⟨x30, oO, h⟩ := AL h
 refine UC (f := PV.str) 192030 oO rfl rfl rfl rfl rfl (KA rfl (BR (f := PV.str) (l := [x28]))) rfl rfl rfl rfl ?_
 refine A7 rfl rfl ?_
 refine AC ?_
 refine A7 rfl rfl ?_
 refine A7 (p := .int .i64 (BQ (K6 + (1 : Int)))) rfl rfl ?_
 refine A7 rfl rfl ?_
 exact ⟨((BQ (K6 + (1 : Int))), K6, x30), (CB.trans (rename 192030 192805 rfl rfl) (cn rfl rfl rfl rfl)), h⟩
 refine BF ?_
 exact ⟨(G6, K6, LU), (cn rfl rfl rfl rfl), h⟩
 cases AB h
 exact CW (st1 := ⟨AY [(0, .str a0), (5, .slr 192805 0 LU.length), (6, .int .i64 G6)], AY [(192805, ⟨1, true, List.map PV.str LU⟩)]⟩) (cn rfl rfl rfl rfl) ⟨rfl, rfl⟩
theorem iU (N : Nat) (a0 : List UInt8) (a1 : UInt8) (r : List (List UInt8)) (h : fG N a0 a1 = some r) : Sat Tryz.prog 120 AO [.str a0, eb a1] (.sl 1 (List.map PV.str r)) AO := by
 refine DT mixed Tryz.func120 Ml (rs := [.sl 1 (List.map PV.str r)]) rfl rfl ?_
 refine AJ ?_
 refine AC ?_
 refine A7 rfl rfl ?_
 refine AJ ?_
 refine AC ?_
 refine A7 rfl rfl ?_
 refine AJ ?_
 refine AC ?_
 refine A7 rfl rfl ?_
 iterate 2 refine AJ ?_
 refine AC ?_
 refine A7 rfl rfl ?_
 refine C9 ?_
 obtain ⟨y4, hy4, h⟩ := AL h
 refine PT (nR N a0 a1 N _ _ hy4) (CB.trans (ZZ 5 192805 1 true rfl rfl rfl) (cn rfl rfl rfl rfl)) ?_
 rintro e s ⟨rfl, rfl⟩
 refine AJ ?_
 refine AC ?_
 iterate 3 refine A7 rfl rfl ?_
 obtain ⟨Qc, Vt, h⟩ := AL h
 refine A7 rfl (YC Vt rfl rfl) ?_
 refine CS rfl (SB 192037 rfl rfl rfl) ?_
 obtain ⟨x38, hx38, h⟩ := AL h
 refine UC (f := PV.str) 192038 hx38 rfl rfl rfl rfl rfl (KA rfl (BR (f := PV.str) (l := [Qc]))) rfl rfl rfl rfl ?_
 refine A7 rfl rfl ?_
 obtain rfl := AB h
 refine DU (st1 := ⟨AY [(4, .sl 1 (List.map PV.str x38))], AY []⟩) (CB.trans (Vd.freeze 192038 _ rfl rfl rfl) (CB.trans (KN 4 (GQ (congrArg (PV.sl 1) (BR (f := PV.str) (l := x38)))) rfl) (cn rfl rfl rfl rfl))) ?_
 exact ⟨nofun, rfl, rfl⟩
end Go.Gp
end
