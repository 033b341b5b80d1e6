/- A part of the proof: functions of the program and what they compute. -/
import Derived.Test.YtlopcglohpfonaaGreatDoorA5
import Derived.Test.YtlopcglohpfonaaGreatDoorA6
import Derived.Test.YtlopcglohpfonaaGreatDoorA9
section
set_option linter.unusedVariables false
set_option linter.unusedSimpArgs false
set_option maxRecDepth 4000
set_option maxHeartbeats 4000000
namespace Go.Gp
open Go.Vd Go.RowKit Go.Proofs
def k24 : IC := (.seq (.reg [jn 1 (.box 23 (.t 0)), jc 2 (.bool false)]) (.seq (.reg [ja 3 0 1, jl 4 1 3, ju .geq 5 4 0, jm 6 5, jt 6 7 (.fda 0 (.t 1)), jt 6 8 (.load 1 false (.t 7)), jt 6 9 (.bin .leq (.t 8) (ji 1099511627776)), jp 10 6 9, jm 11 10, jt 11 12 (.fda 1 (.t 1)), jt 11 13 (.load 1 false (.t 12)), jt 11 14 (.bin .geq (.t 13) (ji 0)), jp 15 11 14, jm 16 15, jt 16 17 (.fda 1 (.t 1)), jt 16 18 (.load 1 false (.t 17)), jt 16 19 (.bin .leq (.t 18) (ji 65535)), jp 20 16 19, jm 21 20, jt 21 22 (.fda 2 (.t 1)), jt 21 23 (.load 1 false (.t 22)), jt 21 24 (.bin .geq (.t 23) (ji 0)), jp 25 21 24, jm 26 25, jt 26 27 (.fda 2 (.t 1)), jt 26 28 (.load 1 false (.t 27)), jt 26 29 (.bin .lss (.t 28) (ji 6)), jp 30 26 29, jm 2 30]) .ret))
theorem Vw : BV Tryz.prog Tryz.f24 = some ⟨31, k24, [(.tmp 2)]⟩ := by kernel_rfl
theorem XI (N : Nat) (a0 : AP) (r : Bool) (h : bP N a0 = some r) : Sat Tryz.prog 24 AO [F7 a0] (.bool r) AO := by
 refine DK mixed Tryz.func24 Vw (rs := [.bool r]) rfl rfl ?_
 refine AC (AB ?_)
 refine CO rfl (G5 38401 rfl rfl rfl rfl rfl) ?_
 refine wq rfl ?_
 obtain ⟨g1, hg1, h⟩ := AJ h
 refine F3 ⟨AY [(2, .bool g1)], AY []⟩ ?_ ?_
 have h := hg1
 refine AB ?_
 iterate 4 refine wq rfl ?_
 rcases BO h with ⟨c2, h⟩ | ⟨c2, h⟩
 iterate 3 refine AQ (gy rfl c2) rfl ?_
 refine AQ rfl (BA c2 rfl rfl) ?_
 refine wq rfl ?_
 rcases BO h with ⟨c3, h⟩ | ⟨c3, h⟩
 iterate 3 refine AQ (gy rfl c3) rfl ?_
 refine AQ rfl (BA c3 rfl rfl) ?_
 refine wq rfl ?_
 rcases BO h with ⟨c4, h⟩ | ⟨c4, h⟩
 iterate 3 refine AQ (gy rfl c4) rfl ?_
 refine AQ rfl (BA c4 rfl rfl) ?_
 refine wq rfl ?_
 rcases BO h with ⟨c5, h⟩ | ⟨c5, h⟩
 iterate 3 refine AQ (gy rfl c5) rfl ?_
 refine AQ rfl (BA c5 rfl rfl) ?_
 refine wq rfl ?_
 rcases BO h with ⟨c6, h⟩ | ⟨c6, h⟩
 iterate 3 refine AQ (gy rfl c6) rfl ?_
 refine AQ rfl (BA c6 rfl rfl) ?_
 refine wq rfl ?_
 cases AA h
 exact cq rfl
 iterate 3 refine BJ (gn rfl c6) ?_
 refine AQ rfl (AZ c6 rfl rfl) ?_
 refine wq rfl ?_
 obtain rfl := AA h
 exact cq rfl
 iterate 3 refine BJ (gn rfl c5) ?_
 refine AQ rfl (AZ c5 rfl rfl) ?_
 refine wq rfl ?_
 iterate 3 refine BJ rfl ?_
 iterate 2 refine wq rfl ?_
 obtain rfl := AA h
 exact cq rfl
 iterate 3 refine BJ (gn rfl c4) ?_
 refine AQ rfl (AZ c4 rfl rfl) ?_
 refine wq rfl ?_
 iterate 3 refine BJ rfl ?_
 iterate 2 refine wq rfl ?_
 iterate 3 refine BJ rfl ?_
 iterate 2 refine wq rfl ?_
 obtain rfl := AA h
 exact cq rfl
 iterate 3 refine BJ (gn rfl c3) ?_
 refine AQ rfl (AZ c3 rfl rfl) ?_
 refine wq rfl ?_
 iterate 3 refine BJ rfl ?_
 iterate 2 refine wq rfl ?_
 iterate 3 refine BJ rfl ?_
 iterate 2 refine wq rfl ?_
 iterate 3 refine BJ rfl ?_
 iterate 2 refine wq rfl ?_
 obtain rfl := AA h
 exact cq rfl
 iterate 3 refine BJ (gn rfl c2) ?_
 refine AQ rfl (AZ c2 rfl rfl) ?_
 refine wq rfl ?_
 iterate 3 refine BJ rfl ?_
 iterate 2 refine wq rfl ?_
 iterate 3 refine BJ rfl ?_
 iterate 2 refine wq rfl ?_
 iterate 3 refine BJ rfl ?_
 iterate 2 refine wq rfl ?_
 iterate 3 refine BJ rfl ?_
 iterate 2 refine wq rfl ?_
 obtain rfl := AA h
 exact cq rfl
 clear hg1
 obtain rfl := AA h
 refine BR ?_
 exact ⟨nofun, rfl, rfl⟩
def k25 : IC := (.seq (.reg [jn 1 (.box 23 (.t 0)), jc 2 (.bool false)]) (.seq (.reg [jg 3 3 1, jn 4 (.build [(j6 0), (j6 0), (j6 0)] []), jn 5 (.eqs false [(.i .i64), (.i .i64), (.i .i64)] (.t 3) (.t 4)), jm 2 5]) .ret))
theorem Vv : BV Tryz.prog Tryz.f25 = some ⟨6, k25, [(.tmp 2)]⟩ := by kernel_rfl
theorem TN (N : Nat) (a0 : AP) (r : Bool) (h : UL N a0 = some r) : Sat Tryz.prog 25 AO [F7 a0] (.bool r) AO := by
 refine DK mixed Tryz.func25 Vv (rs := [.bool r]) rfl rfl ?_
 refine AC (AB ?_)
 refine CO rfl (G5 40001 rfl rfl rfl rfl rfl) ?_
 refine wq rfl ?_
 refine AC (AB ?_)
 refine AQ (p := F7 a0) rfl rfl ?_
 refine AQ (p := .agg [j6 0, j6 0, j6 0]) rfl rfl ?_
 refine AQ (p := .bool (a0.Time == (0 : Int) && (a0.Seq == (0 : Int) && (a0.Rep == (0 : Int) && true)))) rfl rfl ?_
 refine wq rfl ?_
 cases AA h
 refine BR ?_
 exact ⟨nofun, rfl, rfl⟩
def k72 : IC := (.seq (.reg [jc 2 (.bool false)]) (.seq (.reg [jm 3 0, jm 4 0, jb .neq 5 3 4, jm 2 5]) .ret))
theorem Ud : BV Tryz.prog Tryz.f72 = some ⟨6, k72, [(.tmp 2)]⟩ := by kernel_rfl
theorem TI (N : Nat) (a0 : Int) (r : Bool) (h : PL N a0 = some r) : Sat Tryz.prog 72 AO [j6 a0] (.bool r) AO := by
 refine DK mixed Tryz.func72 Ud (rs := [.bool r]) rfl rfl ?_
 refine AC (AB ?_)
 refine wq rfl ?_
 refine AC (AB ?_)
 iterate 4 refine wq rfl ?_
 cases AA h
 refine BR ?_
 exact ⟨nofun, rfl, rfl⟩
def k52 : IC := (.seq (.reg [jc 4 (j6 0)]) (.seq (.reg [jm 7 0, jn 8 (.call 72 [(.t 7)]), jm 5 8]) (.seq (.reg [jm 9 1, jn 10 (.call 72 [(.t 9)]), jm 6 10]) (.seq (.seq (.reg [jm 11 5]) (.cond (.t 11) (.seq (.seq (.reg [jm 12 6]) (.cond (.t 12) (.seq (.reg [jc 4 (j6 0)]) .ret) .skip)) (.seq (.reg [jc 4 (j6 (-1))]) .ret)) .skip)) (.seq (.seq (.reg [jm 13 6]) (.cond (.t 13) (.seq (.reg [jc 4 (j6 1)]) .ret) .skip)) (.seq (.seq (.reg [jm 14 0, jm 15 1, jb .lss 16 14 15]) (.cond (.t 16) (.seq (.reg [jc 4 (j6 (-1))]) .ret) .skip)) (.seq (.seq (.reg [jm 17 0, jm 18 1, jb .gtr 19 17 18]) (.cond (.t 19) (.seq (.reg [jc 4 (j6 1)]) .ret) .skip)) (.seq (.reg [jc 4 (j6 0)]) .ret))))))))
theorem Uv : BV Tryz.prog Tryz.f52 = some ⟨20, k52, [(.tmp 4)]⟩ := by kernel_rfl
theorem YF (N : Nat) (a0 : Int) (a1 : Int) (r : Int) (h : NR N a0 a1 = some r) : Sat Tryz.prog 52 AO [j6 a0, j6 a1] (j6 r) AO := by
 refine DK mixed Tryz.func52 Uv (rs := [j6 r]) rfl rfl ?_
 refine AC (AB ?_)
 refine wq rfl ?_
 refine AC (AB ?_)
 refine wq rfl ?_
 obtain ⟨x8, Ov, h⟩ := AJ h
 refine CO rfl (CB (TI N _ _ Ov) rfl (.cons A8 .nil) rfl rfl rfl) ?_
 refine wq rfl ?_
 refine AC (AB ?_)
 refine wq rfl ?_
 obtain ⟨SX, XO, h⟩ := AJ h
 refine CO rfl (CB (TI N _ _ XO) rfl (.cons A8 .nil) rfl rfl rfl) ?_
 refine wq rfl ?_
 iterate 2 refine AC ?_
 refine AB ?_
 refine wq rfl ?_
 refine D5 h rfl (fun c1 h => ?_) (fun c1 h => ?_)
 iterate 2 refine AC ?_
 refine AB ?_
 refine wq rfl ?_
 refine D5 h rfl (fun c2 h => ?_) (fun c2 h => ?_)
 refine AC (AB ?_)
 refine wq rfl ?_
 obtain rfl := AA h
 refine BR ?_
 exact ⟨nofun, rfl, rfl⟩
 refine BF (AC (AB ?_))
 refine wq rfl ?_
 cases AA h
 refine BR ?_
 exact ⟨nofun, rfl, rfl⟩
 refine BF ?_
 iterate 2 refine AC ?_
 refine AB ?_
 refine wq rfl ?_
 refine D5 h rfl (fun c3 h => ?_) (fun c3 h => ?_)
 refine AC (AB ?_)
 refine wq rfl ?_
 obtain rfl := AA h
 refine BR ?_
 exact ⟨nofun, rfl, rfl⟩
 refine BF ?_
 iterate 2 refine AC ?_
 refine AB ?_
 iterate 3 refine wq rfl ?_
 refine D5 h rfl (fun c4 h => ?_) (fun c4 h => ?_)
 refine AC (AB ?_)
 refine wq rfl ?_
 cases AA h
 refine BR ?_
 exact ⟨nofun, rfl, rfl⟩
 refine BF ?_
 iterate 2 refine AC ?_
 refine AB ?_
 iterate 3 refine wq rfl ?_
 refine D5 h rfl (fun c5 h => ?_) (fun c5 h => ?_)
 refine AC (AB ?_)
 refine wq rfl ?_
 obtain rfl := AA h
 refine BR ?_
 exact ⟨nofun, rfl, rfl⟩
 refine BF (AC (AB ?_))
 refine wq rfl ?_
 obtain rfl := AA h
 refine BR ?_
 exact ⟨nofun, rfl, rfl⟩
def k73 : IC := (.seq (.reg [jc 2 (.bool false)]) (.seq (.reg [jm 3 0, jm 4 0, jb .neq 5 3 4, jm 2 5]) .ret))
theorem Uc : BV Tryz.prog Tryz.f73 = some ⟨6, k73, [(.tmp 2)]⟩ := by kernel_rfl
theorem V6 (N : Nat) (a0 : Int) (r : Bool) (h : cmp_isNaN_int N a0 = some r) : Sat Tryz.prog 73 AO [j6 a0] (.bool r) AO := by
 refine DK mixed Tryz.func73 Uc (rs := [.bool r]) rfl rfl ?_
 refine AC (AB ?_)
 refine wq rfl ?_
 refine AC (AB ?_)
 iterate 4 refine wq rfl ?_
 cases AA h
 refine BR ?_
 exact ⟨nofun, rfl, rfl⟩
def k53 : IC := (.seq (.reg [jc 4 (j6 0)]) (.seq (.reg [jm 7 0, jn 8 (.call 73 [(.t 7)]), jm 5 8]) (.seq (.reg [jm 9 1, jn 10 (.call 73 [(.t 9)]), jm 6 10]) (.seq (.seq (.reg [jm 11 5]) (.cond (.t 11) (.seq (.seq (.reg [jm 12 6]) (.cond (.t 12) (.seq (.reg [jc 4 (j6 0)]) .ret) .skip)) (.seq (.reg [jc 4 (j6 (-1))]) .ret)) .skip)) (.seq (.seq (.reg [jm 13 6]) (.cond (.t 13) (.seq (.reg [jc 4 (j6 1)]) .ret) .skip)) (.seq (.seq (.reg [jm 14 0, jm 15 1, jb .lss 16 14 15]) (.cond (.t 16) (.seq (.reg [jc 4 (j6 (-1))]) .ret) .skip)) (.seq (.seq (.reg [jm 17 0, jm 18 1, jb .gtr 19 17 18]) (.cond (.t 19) (.seq (.reg [jc 4 (j6 1)]) .ret) .skip)) (.seq (.reg [jc 4 (j6 0)]) .ret))))))))
theorem Uu : BV Tryz.prog Tryz.f53 = some ⟨20, k53, [(.tmp 4)]⟩ := by kernel_rfl
theorem TJ (N : Nat) (a0 : Int) (a1 : Int) (r : Int) (h : cmp_Compare_int N a0 a1 = some r) : Sat Tryz.prog 53 AO [j6 a0, j6 a1] (j6 r) AO := by
 refine DK mixed Tryz.func53 Uu (rs := [j6 r]) rfl rfl ?_
 refine AC (AB ?_)
 refine wq rfl ?_
 refine AC (AB ?_)
 refine wq rfl ?_
 obtain ⟨x8, Ov, h⟩ := AJ h
 refine CO rfl (CB (V6 N _ _ Ov) rfl (.cons A8 .nil) rfl rfl rfl) ?_
 refine wq rfl ?_
 refine AC (AB ?_)
 refine wq rfl ?_
 obtain ⟨SX, XO, h⟩ := AJ h
 refine CO rfl (CB (V6 N _ _ XO) rfl (.cons A8 .nil) rfl rfl rfl) ?_
 refine wq rfl ?_
 iterate 2 refine AC ?_
 refine AB ?_
 refine wq rfl ?_
 refine D5 h rfl (fun c1 h => ?_) (fun c1 h => ?_)
 iterate 2 refine AC ?_
 refine AB ?_
 refine wq rfl ?_
 refine D5 h rfl (fun c2 h => ?_) (fun c2 h => ?_)
 refine AC (AB ?_)
 refine wq rfl ?_
 obtain rfl := AA h
 refine BR ?_
 exact ⟨nofun, rfl, rfl⟩
 refine BF (AC (AB ?_))
 refine wq rfl ?_
 cases AA h
 refine BR ?_
 exact ⟨nofun, rfl, rfl⟩
 refine BF ?_
 iterate 2 refine AC ?_
 refine AB ?_
 refine wq rfl ?_
 refine D5 h rfl (fun c3 h => ?_) (fun c3 h => ?_)
 refine AC (AB ?_)
 refine wq rfl ?_
 obtain rfl := AA h
 refine BR ?_
 exact ⟨nofun, rfl, rfl⟩
 refine BF ?_
 iterate 2 refine AC ?_
 refine AB ?_
 iterate 3 refine wq rfl ?_
 refine D5 h rfl (fun c4 h => ?_) (fun c4 h => ?_)
 refine AC (AB ?_)
 refine wq rfl ?_
 cases AA h
 refine BR ?_
 exact ⟨nofun, rfl, rfl⟩
 refine BF ?_
 iterate 2 refine AC ?_
 refine AB ?_
 iterate 3 refine wq rfl ?_
 refine D5 h rfl (fun c5 h => ?_) (fun c5 h => ?_)
 refine AC (AB ?_)
 refine wq rfl ?_
 obtain rfl := AA h
 refine BR ?_
 exact ⟨nofun, rfl, rfl⟩
 refine BF (AC (AB ?_))
 refine wq rfl ?_
 obtain rfl := AA h
 refine BR ?_
 exact ⟨nofun, rfl, rfl⟩
def Gw : IC := (.seq (.reg [jb .lss 9 8 7]) (.seq (.cond (.t 9) .skip (.exit 0)) (.seq (.block 1 (.seq (.reg [jx 10 1 6 8, jl 11 1 10, jm 5 11]) (.seq (.reg [jm 12 5, jm 13 3, jb .neq 14 12 13]) (.cond (.t 14) (.seq (.reg [jm 15 5, jm 2 15]) .ret) .skip)))) (.reg [ju .add 16 8 1, jm 8 16]))))
def k51 : IC := (.seq (.reg [jc 2 (j6 0)]) (.seq (.reg [jc 3 (j6 0)]) (.seq (.seq (.reg [jm 6 0, jL 7 6, jc 8 (j6 0)]) (.block 0 (.loop Gw))) (.seq (.reg [jm 17 3, jm 2 17]) .ret))))
theorem Uw : BV Tryz.prog Tryz.f51 = some ⟨18, k51, [(.tmp 2)]⟩ := by kernel_rfl
theorem iH (N : Nat) (a0 : List Int) : ∀ (n : Nat) (x : Int) (y : Unit ⊕ Int), PG N a0 n x = some y → WX Tryz.prog (fun _ => false) (.loop Gw) ((fun (x : Int) => ⟨AY [(3, j6 0), (6, .sl 1 (List.map ei a0)), (7, j6 (a0.length : Int)), (8, j6 x)], AY []⟩) x) ((Sum.elim (fun y e s => e = .exit 0 ∧ s = ⟨AY [(3, j6 0)], AY []⟩) (fun y e s => e = .ret ∧ s = ⟨AY [(2, j6 y)], AY []⟩) : (Unit ⊕ Int) → Xt → St → Prop) y) := by
 refine EP _ _ (PG N a0) (TF N a0) (fun _ => rfl) (fun _ _ => rfl) ?_
 rintro rec v8l8 y h
 refine AC (AB ?_)
 refine wq rfl ?_
 refine AC ?_
 refine D5 h rfl (fun c1 h => ?_) (fun c1 h => ?_)
 refine BF (AC (BZ (AC (AB ?_))))
 obtain ⟨SX, XO, h⟩ := AJ h
 refine AQ rfl (DF (cs := [j6 SX]) XO rfl rfl rfl) ?_
 iterate 2 refine wq rfl ?_
 refine AC (AB ?_)
 iterate 3 refine wq rfl ?_
 refine D5 h rfl (fun c2 h => ?_) (fun c2 h => ?_)
 refine AC (AB ?_)
 iterate 2 refine wq rfl ?_
 obtain rfl := AA h
 exact DL (st1 := ⟨AY [(2, j6 SX)], AY []⟩) (cq rfl) ⟨rfl, rfl⟩
 refine BF (AB ?_)
 refine AQ (p := j6 (BM (v8l8 + (1 : Int)))) rfl rfl ?_
 refine wq rfl ?_
 exact ⟨(BM (v8l8 + (1 : Int))), (cq rfl), h⟩
 cases AA h
 exact CU (st1 := ⟨AY [(3, j6 0)], AY []⟩) (cq rfl) ⟨rfl, rfl⟩
theorem jY (N : Nat) (a0 : List Int) (r : Int) (h : XP N a0 = some r) : Sat Tryz.prog 51 AO [.sl 1 (List.map ei a0)] (j6 r) AO := by
 refine DK mixed Tryz.func51 Uw (rs := [j6 r]) rfl rfl ?_
 refine AC (AB ?_)
 refine wq rfl ?_
 refine AC (AB ?_)
 refine wq rfl ?_
 iterate 2 refine AC ?_
 refine AB ?_
 refine wq rfl ?_
 refine AQ rfl (BU rfl) ?_
 refine wq rfl ?_
 refine BZ ?_
 obtain ⟨y3, hy3, h⟩ := AJ h
 refine QI (iH N a0 N _ _ hy3) (cq rfl) ?_
 clear hy3
 rcases y3 with y3 | y3
 rintro e s ⟨rfl, rfl⟩
 refine AC (AB ?_)
 iterate 2 refine wq rfl ?_
 obtain rfl := AA h
 refine BR ?_
 exact ⟨nofun, rfl, rfl⟩
 rintro e s ⟨rfl, rfl⟩
 obtain rfl := AA h
 exact ⟨nofun, rfl, rfl⟩
def k27 : IC := (.seq (.reg [jn 2 (.box 23 (.t 0)), jn 3 (.box 23 (.t 1)), jc 4 (j6 0)]) (.seq (.regd 18 [ja 5 0 2, jl 6 1 5, ja 7 0 3, jl 8 1 7, jn 9 (.call 52 [(.t 6), (.t 8)]), ja 10 1 2, jl 11 1 10, ja 12 1 3, jl 13 1 12, jn 14 (.call 53 [(.t 11), (.t 13)]), ja 15 2 2, jl 16 1 15, ja 17 2 3, jl 18 1 17, jn 19 (.call 53 [(.t 16), (.t 18)]), jn 20 (.bsl 1 [(.t 9), (.t 14), (.t 19)]), jn 21 (.call 51 [(.t 20)]), jm 4 21]) .ret))
theorem Vt : BV Tryz.prog Tryz.f27 = some ⟨22, k27, [(.tmp 4)]⟩ := by kernel_rfl
theorem rP (N : Nat) (a0 : AP) (a1 : AP) (r : Int) (h : j5 N a0 a1 = some r) : Sat Tryz.prog 27 AO [F7 a0, F7 a1] (j6 r) AO := by
 refine DK mixed Tryz.func27 Vt (rs := [j6 r]) rfl rfl ?_
 refine AC (AB ?_)
 refine CO rfl (G5 43202 rfl rfl rfl rfl rfl) ?_
 refine CO rfl (G5 43203 rfl rfl rfl rfl rfl) ?_
 refine wq rfl ?_
 refine AC (P6 ?_)
 iterate 4 refine dq rfl ?_
 obtain ⟨x9, Ib, h⟩ := AJ h
 refine VG rfl (PD (YF N _ _ _ Ib) rfl (.cons A8 (.cons A8 .nil)) rfl rfl rfl) CZ ?_
 iterate 4 refine dq rfl ?_
 obtain ⟨PO, UG, h⟩ := AJ h
 refine VG rfl (PD (TJ N _ _ _ UG) rfl (.cons A8 (.cons A8 .nil)) rfl rfl rfl) CZ ?_
 iterate 4 refine dq rfl ?_
 obtain ⟨QG, YV, h⟩ := AJ h
 refine VG rfl (PD (TJ N _ _ _ YV) rfl (.cons A8 (.cons A8 .nil)) rfl rfl rfl) CZ ?_
 refine VG rfl (.bsl _ 43220 rfl (OP rfl) rfl) (RY rfl) ?_
 obtain ⟨VF, YU, h⟩ := AJ h
 refine VG rfl (PD (jY N _ _ YU) rfl (.cons (ZQ rfl (BQ (f := ei) (l := [x9, PO, QG]))) .nil) rfl rfl rfl) CZ ?_
 refine dq rfl ?_
 obtain rfl := AA h
 refine BR ?_
 exact ⟨nofun, rfl, rfl⟩
def k26 : IC := (.seq (.reg [jn 2 (.box 23 (.t 0)), jc 3 (.bool false)]) (.seq (.reg [jg 4 3 2, ja 5 0 1, jg 6 3 5, jn 7 (.call 27 [(.t 4), (.t 6)]), ju .lss 8 7 0, jm 3 8]) .ret))
theorem Vu : BV Tryz.prog Tryz.f26 = some ⟨9, k26, [(.tmp 3)]⟩ := by kernel_rfl
theorem MZ (N : Nat) (a0 : AP) (c0 : AX) (r : Bool) (h : OD N a0 c0 = some r) : Sat Tryz.prog 26 AO [F7 a0, .ep [j6 c0.CSN.Time, j6 c0.CSN.Seq, j6 c0.CSN.Rep, j6 c0.Kind, j6 c0.ID.Time, j6 c0.ID.Seq, j6 c0.ID.Rep, j6 c0.Parent.Time, j6 c0.Parent.Seq, j6 c0.Parent.Rep, .sl 2 (List.map AV c0.RDN), .bool c0.DelOld, .sl 3 (List.map AU c0.Mods)]] (.bool r) AO := by
 refine DK mixed Tryz.func26 Vu (rs := [.bool r]) rfl rfl ?_
 refine AC (AB ?_)
 refine CO rfl (G5 41602 rfl rfl rfl rfl rfl) ?_
 refine wq rfl ?_
 refine AC (AB ?_)
 refine AQ (p := F7 a0) rfl rfl ?_
 refine AQ (p := .ep [j6 c0.CSN.Time, j6 c0.CSN.Seq, j6 c0.CSN.Rep, j6 c0.Kind, j6 c0.ID.Time, j6 c0.ID.Seq, j6 c0.ID.Rep, j6 c0.Parent.Time, j6 c0.Parent.Seq, j6 c0.Parent.Rep, .sl 2 (List.map AV c0.RDN), .bool c0.DelOld, .sl 3 (List.map AU c0.Mods)]) rfl rfl ?_
 refine AQ (p := .agg [j6 c0.CSN.Time, j6 c0.CSN.Seq, j6 c0.CSN.Rep]) rfl rfl ?_
 obtain ⟨x7, hx7, h⟩ := AJ h
 refine CO rfl (CB (rP N _ _ _ hx7) rfl (.cons A8 (.cons A8 .nil)) rfl rfl rfl) ?_
 iterate 2 refine wq rfl ?_
 cases AA h
 refine BR ?_
 exact ⟨nofun, rfl, rfl⟩
def yT : IC := (.seq (.reg [jb .lss 26 25 24]) (.seq (.cond (.t 26) .skip (.exit 0)) (.seq (.block 1 (.seq (.reg [jx 27 1 23 25, jl 28 1 27, jm 4 28]) (.block 2 (.seq (.block 5 (.seq (.block 4 (.block 3 (.seq (.seq (.seq (.reg [jm 30 4, jn 31 (.bin .geq (.t 30) (.c (.int .u8 97))), jm 32 31, jt 32 33 (.mov (.t 4)), jt 32 34 (.bin .leq (.t 33) (.c (.int .u8 122))), jp 35 32 34, jm 29 35]) (.cond (.t 29) (.exit 3) .skip)) (.seq (.seq (.reg [jm 37 4, jn 38 (.bin .geq (.t 37) (.c (.int .u8 48))), jm 39 38, jt 39 40 (.mov (.t 4)), jt 39 41 (.bin .leq (.t 40) (.c (.int .u8 57))), jp 42 39 41, jm 36 42]) (.cond (.t 36) .skip (.reg [jm 43 4, jn 44 (.bin .eql (.t 43) (.c (.int .u8 45))), jm 36 44]))) (.cond (.t 36) (.exit 4) .skip))) (.exit 5)))) (.exit 2))) (.seq (.seq (.reg [jc 2 (.bool false)]) .ret) (.exit 2)))))) (.reg [ju .add 45 25 1, jm 25 45]))))
def k74 : IC := (.seq (.reg [jc 2 (.bool false)]) (.seq (.seq (.reg [jm 5 0, jn 6 (.bin .eql (.t 5) (.c (.str []))), jm 7 6, jf 7 8 (.mov (.t 0)), jf 7 9 (.len true (.t 8)), jf 7 10 (.bin .gtr (.t 9) (ji 16)), jo 11 7 10, jm 12 11, jf 12 13 (.mov (.t 0)), jf 12 14 (.idxs (.t 13) (ji 0)), jf 12 15 (.bin .lss (.t 14) (.c (.int .u8 97))), jo 16 12 15, jm 17 16, jf 17 18 (.mov (.t 0)), jf 17 19 (.idxs (.t 18) (ji 0)), jf 17 20 (.bin .gtr (.t 19) (.c (.int .u8 122))), jo 21 17 20]) (.cond (.t 21) (.seq (.reg [jc 2 (.bool false)]) .ret) .skip)) (.seq (.seq (.reg [jm 22 0, jn 23 (.cvs (.t 22)), jL 24 23, jc 25 (j6 0)]) (.block 0 (.loop yT))) (.seq (.reg [jc 2 (.bool true)]) .ret))))
theorem Ub : BV Tryz.prog Tryz.f74 = some ⟨46, k74, [(.tmp 2)]⟩ := by kernel_rfl
theorem iF (N : Nat) (a0 : List UInt8) : ∀ (n : Nat) (x : Int) (y : Unit ⊕ Bool), LJ N a0 n x = some y → WX Tryz.prog (fun _ => false) (.loop yT) ((fun (x : Int) => ⟨AY [(23, .slr 118423 0 a0.length), (24, j6 (a0.length : Int)), (25, j6 x)], AY [(118423, ⟨1, true, List.map eb a0⟩)]⟩) x) ((Sum.elim (fun y e s => e = .exit 0 ∧ s = ⟨AY [], AY []⟩) (fun y e s => e = .ret ∧ s = ⟨AY [(2, .bool y)], AY []⟩) : (Unit ⊕ Bool) → Xt → St → Prop) y) := by
 refine EP _ _ (LJ N a0) (PK N a0) (fun _ => rfl) (fun _ _ => rfl) ?_
 rintro rec v25l14 y h
 refine AC (AB ?_)
 refine wq rfl ?_
 refine AC ?_
 refine D5 h rfl (fun c6 h => ?_) (fun c6 h => ?_)
 refine BF (AC (BZ (AC (AB ?_))))
 obtain ⟨x27, hx27, h⟩ := AJ h
 refine AQ rfl (PE hx27 rfl rfl rfl rfl) ?_
 obtain ⟨x28, hx28, h⟩ := AJ h
 refine AQ rfl (UE (f := eb) (v := eb x28) hx28 rfl rfl rfl) ?_
 refine wq rfl ?_
 refine BZ (AC (BZ ?_))
 refine QJ (fun (x : Unit) => ⟨AY [(23, .slr 118423 0 a0.length), (24, j6 (a0.length : Int)), (25, j6 v25l14)], AY [(118423, ⟨1, true, List.map eb a0⟩)]⟩) (fun x => SF v25l14 rec = some y) ?_ ?_
 rintro ⟨⟩ h
 refine QK ?_
 refine AB ?_
 refine AQ (p := j6 (BM (v25l14 + (1 : Int)))) rfl rfl ?_
 refine wq rfl ?_
 exact ⟨(BM (v25l14 + (1 : Int))), (cq rfl), h⟩
 iterate 2 refine BZ ?_
 iterate 2 refine AC ?_
 obtain ⟨g7, tQ, h⟩ := AJ h
 refine F3 ⟨AY [(4, eb x28), (23, .slr 118423 0 a0.length), (24, j6 (a0.length : Int)), (25, j6 v25l14), (29, .bool g7)], AY [(118423, ⟨1, true, List.map eb a0⟩)]⟩ ?_ ?_
 have h := tQ
 refine AB ?_
 refine wq rfl ?_
 refine AQ (p := .bool (decide (((x28).toNat : Int) ≥ (97 : Int)))) rfl rfl ?_
 refine wq rfl ?_
 rcases BO h with ⟨c8, h⟩ | ⟨c8, h⟩
 refine AQ (gy rfl c8) rfl ?_
 refine AQ (p := .bool (decide (((x28).toNat : Int) ≤ (122 : Int)))) (gy rfl c8) rfl ?_
 refine AQ rfl (BA c8 rfl rfl) ?_
 refine wq rfl ?_
 cases AA h
 exact cq rfl
 iterate 2 refine BJ (gn rfl c8) ?_
 refine AQ rfl (AZ c8 rfl rfl) ?_
 refine wq rfl ?_
 obtain rfl := AA h
 exact cq rfl
 clear tQ
 refine D5 h rfl (fun c9 h => ?_) (fun c9 h => ?_)
 refine QK ?_
 exact ⟨(), (cq rfl), h⟩
 refine BF ?_
 refine QJ (fun (x : Bool) => ⟨AY [(23, .slr 118423 0 a0.length), (24, j6 (a0.length : Int)), (25, j6 v25l14), (36, .bool x)], AY [(118423, ⟨1, true, List.map eb a0⟩)]⟩) (fun x => SE v25l14 rec x = some y) ?_ ?_
 rintro Dx h
 refine D5 h rfl (fun c10 h => ?_) (fun c10 h => ?_)
 refine QK ?_
 exact ⟨(), (cq rfl), h⟩
 refine BF ?_
 refine QK ?_
 iterate 2 refine AC ?_
 refine AB ?_
 refine wq rfl ?_
 obtain rfl := AA h
 exact DL (st1 := ⟨AY [(2, .bool false)], AY []⟩) (cq rfl) ⟨rfl, rfl⟩
 obtain ⟨g11, lF, h⟩ := AJ h
 refine F3 ⟨AY [(4, eb x28), (23, .slr 118423 0 a0.length), (24, j6 (a0.length : Int)), (25, j6 v25l14), (36, .bool g11)], AY [(118423, ⟨1, true, List.map eb a0⟩)]⟩ ?_ ?_
 have h := lF
 refine AB ?_
 refine wq rfl ?_
 refine AQ (p := .bool (decide (((x28).toNat : Int) ≥ (48 : Int)))) rfl rfl ?_
 refine wq rfl ?_
 rcases BO h with ⟨c12, h⟩ | ⟨c12, h⟩
 refine AQ (gy rfl c12) rfl ?_
 refine AQ (p := .bool (decide (((x28).toNat : Int) ≤ (57 : Int)))) (gy rfl c12) rfl ?_
 refine AQ rfl (BA c12 rfl rfl) ?_
 refine wq rfl ?_
 cases AA h
 exact cq rfl
 iterate 2 refine BJ (gn rfl c12) ?_
 refine AQ rfl (AZ c12 rfl rfl) ?_
 refine wq rfl ?_
 obtain rfl := AA h
 exact cq rfl
 clear lF
 refine D5 h rfl (fun c13 h => ?_) (fun c13 h => ?_)
 refine BF ?_
 exact ⟨g11, (cq rfl), h⟩
 refine AB ?_
 refine wq rfl ?_
 refine AQ (p := .bool (((x28).toNat : Int) == (45 : Int))) rfl rfl ?_
 refine wq rfl ?_
 exact ⟨(((x28).toNat : Int) == (45 : Int)), (cq rfl), h⟩
 cases AA h
 exact CU (st1 := ⟨AY [], AY []⟩) (cq rfl) ⟨rfl, rfl⟩
theorem mR (N : Nat) (a0 : List UInt8) (r : Bool) (h : ZN N a0 = some r) : Sat Tryz.prog 74 AO [.str a0] (.bool r) AO := by
 refine DK mixed Tryz.func74 Ub (rs := [.bool r]) rfl rfl ?_
 refine AC (AB ?_)
 refine wq rfl ?_
 refine AC ?_
 obtain ⟨g1, hg1, h⟩ := AJ h
 refine F3 ⟨AY [(0, .str a0), (21, .bool g1)], AY []⟩ ?_ ?_
 have h := hg1
 refine AB ?_
 iterate 3 refine wq rfl ?_
 rcases BO h with ⟨c2, h⟩ | ⟨c2, h⟩
 iterate 3 refine BJ (gn rfl c2) ?_
 refine AQ rfl (BA c2 rfl rfl) ?_
 refine wq rfl ?_
 iterate 3 refine BJ rfl ?_
 iterate 2 refine wq rfl ?_
 iterate 3 refine BJ rfl ?_
 refine wq rfl ?_
 obtain rfl := AA h
 exact cq rfl
 iterate 3 refine AQ (gy rfl c2) rfl ?_
 refine AQ rfl (AZ c2 rfl rfl) ?_
 refine wq rfl ?_
 rcases BO h with ⟨c3, h⟩ | ⟨c3, h⟩
 iterate 3 refine BJ (gn rfl c3) ?_
 refine AQ rfl (BA c3 rfl rfl) ?_
 refine wq rfl ?_
 iterate 3 refine BJ rfl ?_
 refine wq rfl ?_
 obtain rfl := AA h
 exact cq rfl
 refine AQ (gy rfl c3) rfl ?_
 obtain ⟨PO, UG, h⟩ := AJ h
 refine AQ (gy rfl c3) (GY UG rfl rfl) ?_
 refine AQ (p := .bool (decide (((PO).toNat : Int) < (97 : Int)))) (gy rfl c3) rfl ?_
 refine AQ rfl (AZ c3 rfl rfl) ?_
 refine wq rfl ?_
 rcases BO h with ⟨c4, h⟩ | ⟨c4, h⟩
 iterate 3 refine BJ (gn rfl c4) ?_
 refine AQ rfl (BA c4 rfl rfl) ?_
 obtain rfl := AA h
 exact cq rfl
 refine AQ (gy rfl c4) rfl ?_
 obtain ⟨QG, YV, h⟩ := AJ h
 refine AQ (gy rfl c4) (GY YV rfl rfl) ?_
 refine AQ (p := .bool (decide (((QG).toNat : Int) > (122 : Int)))) (gy rfl c4) rfl ?_
 refine AQ rfl (AZ c4 rfl rfl) ?_
 cases AA h
 exact cq rfl
 clear hg1
 refine D5 h rfl (fun c5 h => ?_) (fun c5 h => ?_)
 refine AC (AB ?_)
 refine wq rfl ?_
 obtain rfl := AA h
 refine BR ?_
 exact ⟨nofun, rfl, rfl⟩
 refine BF ?_
 iterate 2 refine AC ?_
 refine AB ?_
 refine wq rfl ?_
 refine CO rfl (pU 118423 rfl rfl) ?_
 iterate 2 refine wq rfl ?_
 refine BZ ?_
 obtain ⟨eT, Ot, h⟩ := AJ h
 refine QI (iF N a0 N _ _ Ot) (cq rfl) ?_
 clear Ot
 rcases eT with eT | eT
 rintro e s ⟨rfl, rfl⟩
 refine AC (AB ?_)
 refine wq rfl ?_
 obtain rfl := AA h
 refine BR ?_
 exact ⟨nofun, rfl, rfl⟩
 rintro e s ⟨rfl, rfl⟩
 obtain rfl := AA h
 exact ⟨nofun, rfl, rfl⟩
def k75 : IC := (.seq (.reg [jn 2 (.box 41 (.t 0)), jc 3 (.bool false)]) (.seq (.reg [ja 4 0 2, jl 5 1 4, ja 6 0 1, jl 7 1 6, jb .eql 8 5 7, jm 3 8]) .ret))
theorem Ua : BV Tryz.prog Tryz.f75 = some ⟨9, k75, [(.tmp 3)]⟩ := by kernel_rfl
theorem jX (N : Nat) (a0 : AL) (c0 : AL) (r : Bool) (h : bM N a0 c0 = some r) : Sat Tryz.prog 75 AO [AV a0, .ep [.str c0.Attr, .str c0.Value]] (.bool r) AO := by
 refine DK mixed Tryz.func75 Ua (rs := [.bool r]) rfl rfl ?_
 refine AC (AB ?_)
 refine CO rfl (G5 120002 rfl rfl rfl rfl rfl) ?_
 refine wq rfl ?_
 refine AC (AB ?_)
 iterate 2 refine wq rfl ?_
 refine AQ (p := .ep [.str c0.Attr, .str c0.Value]) rfl rfl ?_
 iterate 3 refine wq rfl ?_
 cases AA h
 refine BR ?_
 exact ⟨nofun, rfl, rfl⟩
def o6 : IC := (.seq (.reg [jb .lss 9 8 7]) (.seq (.cond (.t 9) .skip (.exit 0)) (.seq (.block 1 (.seq (.reg [jm 10 8, jm 5 10]) (.seq (.reg [jm 11 1, jm 12 0, jm 13 5, jx 14 2 12 13, jg 15 2 14, jn 16 (.calv (.t 11) [(.t 15)])]) (.cond (.t 16) (.seq (.reg [jm 17 5, jm 4 17]) .ret) .skip)))) (.reg [ju .add 18 8 1, jm 8 18]))))
def Ty : IC := (.seq (.reg [jc 4 (j6 0)]) (.seq (.seq (.reg [jm 6 0, jL 7 6, jc 8 (j6 0)]) (.block 0 (.loop o6))) (.seq (.reg [jc 4 (j6 (-1))]) .ret)))
theorem Bq : BV Tryz.prog Tryz.f76 = some ⟨19, Ty, [(.tmp 4)]⟩ := by kernel_rfl
theorem JZ (N : Nat) (a0 : List AL) (JM : AL) : ∀ (n : Nat) (x : Int) (y : Unit ⊕ Int), BP N a0 JM n x = some y → WX Tryz.prog (fun _ => false) (.loop o6) ((fun (x : Int) => ⟨AY [(0, .sl 2 (List.map AV a0)), (1, .clo 75 [.ep [.str JM.Attr, .str JM.Value]]), (7, j6 (a0.length : Int)), (8, j6 x)], AY []⟩) x) ((Sum.elim (fun y e s => e = .exit 0 ∧ s = ⟨AY [], AY []⟩) (fun y e s => e = .ret ∧ s = ⟨AY [(4, j6 y)], AY []⟩) : (Unit ⊕ Int) → Xt → St → Prop) y) := by
 refine EP _ _ (BP N a0 JM) (CV N a0 JM) (fun _ => rfl) (fun _ _ => rfl) ?_
 rintro rec v8l6 y h
 refine AC (AB ?_)
 refine wq rfl ?_
 refine AC ?_
 refine D5 h rfl (fun c1 h => ?_) (fun c1 h => ?_)
 refine BF (AC (BZ (AC (AB ?_))))
 iterate 2 refine wq rfl ?_
 refine AC (AB ?_)
 iterate 3 refine wq rfl ?_
 obtain ⟨PO, UG, h⟩ := AJ h
 refine AQ rfl (DF (cs := [.str PO.Attr, .str PO.Value]) UG rfl rfl rfl) ?_
 refine AQ (p := AV PO) rfl rfl ?_
 obtain ⟨YH, hx16, h⟩ := AJ h
 refine CO rfl (aI (jX N _ _ _ hx16) rfl rfl rfl (.cons A8 (.cons A8 .nil)) rfl rfl rfl) ?_
 refine D5 h rfl (fun c2 h => ?_) (fun c2 h => ?_)
 refine AC (AB ?_)
 iterate 2 refine wq rfl ?_
 obtain rfl := AA h
 exact DL (st1 := ⟨AY [(4, j6 v8l6)], AY []⟩) (cq rfl) ⟨rfl, rfl⟩
 refine BF (AB ?_)
 refine AQ (p := j6 (BM (v8l6 + (1 : Int)))) rfl rfl ?_
 refine wq rfl ?_
 exact ⟨(BM (v8l6 + (1 : Int))), (cq rfl), h⟩
 cases AA h
 exact CU (st1 := ⟨AY [], AY []⟩) (cq rfl) ⟨rfl, rfl⟩
theorem KJ (N : Nat) (a0 : List AL) (JM : AL) (r : Int) (h : EX N a0 JM = some r) : Sat Tryz.prog 76 AO [.sl 2 (List.map AV a0), .clo 75 [.ep [.str JM.Attr, .str JM.Value]]] (j6 r) AO := by
 refine DK mixed Tryz.func76 Bq (rs := [j6 r]) rfl rfl ?_
 refine AC (AB ?_)
 refine wq rfl ?_
 iterate 2 refine AC ?_
 refine AB ?_
 refine wq rfl ?_
 refine AQ rfl (BU rfl) ?_
 refine wq rfl ?_
 refine BZ ?_
 obtain ⟨y3, hy3, h⟩ := AJ h
 refine QI (JZ N a0 JM N _ _ hy3) (cq rfl) ?_
 clear hy3
 rcases y3 with y3 | y3
 rintro e s ⟨rfl, rfl⟩
 refine AC (AB ?_)
 refine wq rfl ?_
 cases AA h
 refine BR ?_
 exact ⟨nofun, rfl, rfl⟩
 rintro e s ⟨rfl, rfl⟩
 obtain rfl := AA h
 exact ⟨nofun, rfl, rfl⟩
def Ur : IC := (.seq (.reg [jc 4 (.bool false)]) (.seq (.reg [jm 5 0, jm 6 1, jn 7 (.call 76 [(.t 5), (.t 6)]), ju .geq 8 7 0, jm 4 8]) .ret))
theorem Bv : BV Tryz.prog Tryz.f55 = some ⟨9, Ur, [(.tmp 4)]⟩ := by kernel_rfl
theorem JQ (N : Nat) (a0 : List AL) (JM : AL) (r : Bool) (h : CX N a0 JM = some r) : Sat Tryz.prog 55 AO [.sl 2 (List.map AV a0), .clo 75 [.ep [.str JM.Attr, .str JM.Value]]] (.bool r) AO := by
 refine DK mixed Tryz.func55 Bv (rs := [.bool r]) rfl rfl ?_
 refine AC (AB ?_)
 refine wq rfl ?_
 refine AC (AB ?_)
 iterate 2 refine wq rfl ?_
 obtain ⟨x7, hx7, h⟩ := AJ h
 refine CO rfl (CB (KJ N _ _ _ hx7) rfl (.cons A8 (.cons A8 .nil)) rfl rfl rfl) ?_
 iterate 2 refine wq rfl ?_
 cases AA h
 refine BR ?_
 exact ⟨nofun, rfl, rfl⟩
def Gv : IC := (.seq (.reg [jb .lss 8 7 6]) (.seq (.cond (.t 8) .skip (.exit 0)) (.seq (.block 1 (.seq (.reg [jm 9 7, jx 10 2 5 7, jg 11 2 10, jn 4 (.box 41 (.c (.agg [(.str []), (.str [])]))), jm 3 9, js 2 4 11]) (.seq (.seq (.reg [jm 12 3, ju .geq 13 12 4, jm 14 13, jf 14 15 (.fda 0 (.t 4)), jf 14 16 (.load 1 false (.t 15)), jf 14 17 (.call 74 [(.t 16)]), jf 14 18 (.un .not (.t 17)), jo 19 14 18, jm 20 19, jf 20 21 (.fda 1 (.t 4)), jf 20 22 (.load 1 false (.t 21)), jf 20 23 (.bin .eql (.t 22) (.c (.str []))), jo 24 20 23, jm 25 24, jf 25 26 (.fda 1 (.t 4)), jf 25 27 (.load 1 false (.t 26)), jf 25 28 (.len true (.t 27)), jf 25 29 (.bin .gtr (.t 28) (ji 60)), jo 30 25 29]) (.cond (.t 30) (.seq (.reg [jc 2 (.bool false)]) .ret) .skip)) (.seq (.reg [jm 31 0, jm 32 3, jn 33 (.slcl 2 (.t 31) none (some (.t 32))), jn 34 (.mkf 75 [(.t 4)]), jn 35 (.call 55 [(.t 33), (.t 34)])]) (.cond (.t 35) (.seq (.reg [jc 2 (.bool false)]) .ret) .skip))))) (.reg [ju .add 36 7 1, jm 7 36]))))
def k54 : IC := (.seq (.reg [jc 2 (.bool false)]) (.seq (.seq (.reg [jm 5 0, jL 6 5, jc 7 (j6 0)]) (.block 0 (.loop Gv))) (.seq (.reg [jm 37 0, jL 38 37, ju .gtr 39 38 0, jm 2 39]) .ret)))
theorem Ut : BV Tryz.prog Tryz.f54 = some ⟨40, k54, [(.tmp 2)]⟩ := by kernel_rfl
theorem mP (N : Nat) (a0 : List AL) : ∀ (n : Nat) (x : Int) (y : Unit ⊕ Bool), OB N a0 n x = some y → WX Tryz.prog (fun _ => false) (.loop Gv) ((fun (x : Int) => ⟨AY [(0, .sl 2 (List.map AV a0)), (5, .sl 2 (List.map AV a0)), (6, j6 (a0.length : Int)), (7, j6 x)], AY []⟩) x) ((Sum.elim (fun y e s => e = .exit 0 ∧ s = ⟨AY [(0, .sl 2 (List.map AV a0))], AY []⟩) (fun y e s => e = .ret ∧ s = ⟨AY [(2, .bool y)], AY []⟩) : (Unit ⊕ Bool) → Xt → St → Prop) y) := by
 refine EP _ _ (OB N a0) (SG N a0) (fun _ => rfl) (fun _ _ => rfl) ?_
 rintro rec v7l6 y h
 refine AC (AB ?_)
 refine wq rfl ?_
 refine AC ?_
 refine D5 h rfl (fun c1 h => ?_) (fun c1 h => ?_)
 refine BF (AC (BZ (AC (AB ?_))))
 refine wq rfl ?_
 obtain ⟨SX, XO, h⟩ := AJ h
 refine AQ rfl (DF (cs := [.str SX.Attr, .str SX.Value]) XO rfl rfl rfl) ?_
 refine AQ (p := AV SX) rfl rfl ?_
 refine CO rfl (G5 86404 rfl rfl rfl rfl rfl) ?_
 refine wq rfl ?_
 refine EW (e' := AV SX) rfl rfl rfl rfl rfl rfl rfl rfl nofun rfl ?_
 refine AC ?_
 obtain ⟨g2, hg2, h⟩ := AJ h
 refine F3 ⟨AY [(0, .sl 2 (List.map AV a0)), (3, j6 v7l6), (4, .ptr 86404 0 0), (5, .sl 2 (List.map AV a0)), (6, j6 (a0.length : Int)), (7, j6 v7l6), (30, .bool g2)], AY [(86404, ⟨2, false, [AV SX]⟩)]⟩ ?_ ?_
 have h := hg2
 refine AB ?_
 iterate 3 refine wq rfl ?_
 rcases BO h with ⟨c3, h⟩ | ⟨c3, h⟩
 iterate 4 refine BJ (gn rfl c3) ?_
 refine AQ rfl (BA c3 rfl rfl) ?_
 refine wq rfl ?_
 iterate 3 refine BJ rfl ?_
 iterate 2 refine wq rfl ?_
 iterate 4 refine BJ rfl ?_
 refine wq rfl ?_
 obtain rfl := AA h
 exact cq rfl
 iterate 2 refine AQ (gy rfl c3) rfl ?_
 obtain ⟨E9, VU, h⟩ := AJ h
 refine CO (gy rfl c3) (CB (mR N _ _ VU) rfl (.cons A8 .nil) rfl rfl rfl) ?_
 refine AQ (gy rfl c3) rfl ?_
 refine AQ rfl (AZ c3 rfl rfl) ?_
 refine wq rfl ?_
 rcases BO h with ⟨c4, h⟩ | ⟨c4, h⟩
 iterate 3 refine BJ (gn rfl c4) ?_
 refine AQ rfl (BA c4 rfl rfl) ?_
 refine wq rfl ?_
 iterate 4 refine BJ rfl ?_
 refine wq rfl ?_
 obtain rfl := AA h
 exact cq rfl
 iterate 3 refine AQ (gy rfl c4) rfl ?_
 refine AQ rfl (AZ c4 rfl rfl) ?_
 refine wq rfl ?_
 rcases BO h with ⟨c5, h⟩ | ⟨c5, h⟩
 iterate 4 refine BJ (gn rfl c5) ?_
 refine AQ rfl (BA c5 rfl rfl) ?_
 obtain rfl := AA h
 exact cq rfl
 iterate 4 refine AQ (gy rfl c5) rfl ?_
 refine AQ rfl (AZ c5 rfl rfl) ?_
 cases AA h
 exact cq rfl
 clear hg2
 refine D5 h rfl (fun c6 h => ?_) (fun c6 h => ?_)
 refine AC (AB ?_)
 refine wq rfl ?_
 obtain rfl := AA h
 exact DL (st1 := ⟨AY [(2, .bool false)], AY []⟩) (cq rfl) ⟨rfl, rfl⟩
 refine BF (AC (AB ?_))
 iterate 2 refine wq rfl ?_
 obtain ⟨x33, Xq, h⟩ := AJ h
 refine AQ rfl (Nb Xq rfl rfl) ?_
 refine wq rfl ?_
 refine wn (VD 86404 rfl rfl rfl) ?_
 obtain ⟨LM, qF, h⟩ := AJ h
 refine CO rfl (CB (JQ N _ _ _ qF) rfl (.cons A8 (.cons A8 .nil)) rfl rfl rfl) ?_
 refine D5 h rfl (fun c7 h => ?_) (fun c7 h => ?_)
 refine AC (AB ?_)
 refine wq rfl ?_
 obtain rfl := AA h
 exact DL (st1 := ⟨AY [(2, .bool false)], AY []⟩) (cq rfl) ⟨rfl, rfl⟩
 refine BF (AB ?_)
 refine AQ (p := j6 (BM (v7l6 + (1 : Int)))) rfl rfl ?_
 refine wq rfl ?_
 exact ⟨(BM (v7l6 + (1 : Int))), (cq rfl), h⟩
 cases AA h
 exact CU (st1 := ⟨AY [(0, .sl 2 (List.map AV a0))], AY []⟩) (cq rfl) ⟨rfl, rfl⟩
theorem dL (N : Nat) (a0 : List AL) (r : Bool) (h : Z0 N a0 = some r) : Sat Tryz.prog 54 AO [.sl 2 (List.map AV a0)] (.bool r) AO := by
 refine DK mixed Tryz.func54 Ut (rs := [.bool r]) rfl rfl ?_
 refine AC (AB ?_)
 refine wq rfl ?_
 iterate 2 refine AC ?_
 refine AB ?_
 refine wq rfl ?_
 refine AQ rfl (BU rfl) ?_
 refine wq rfl ?_
 refine BZ ?_
 obtain ⟨y8, Cg, h⟩ := AJ h
 refine QI (mP N a0 N _ _ Cg) (cq rfl) ?_
 clear Cg
 rcases y8 with y8 | y8
 rintro e s ⟨rfl, rfl⟩
 refine AC (AB ?_)
 refine wq rfl ?_
 refine AQ rfl (BU rfl) ?_
 iterate 2 refine wq rfl ?_
 cases AA h
 refine BR ?_
 exact ⟨nofun, rfl, rfl⟩
 rintro e s ⟨rfl, rfl⟩
 obtain rfl := AA h
 exact ⟨nofun, rfl, rfl⟩
def Gr : IC := (.seq (.reg [jb .lss 11 10 9]) (.seq (.cond (.t 11) .skip (.exit 0)) (.seq (.block 1 (.seq (.reg [jm 12 10, jx 13 1 8 10, jl 14 1 13, jm 4 12, jm 5 14]) (.seq (.reg [jm 15 5, jn 16 (.bin .geq (.t 15) (.c (.int .u8 65))), jm 17 16, jt 17 18 (.mov (.t 5)), jt 17 19 (.bin .leq (.t 18) (.c (.int .u8 90))), jp 20 17 19]) (.cond (.t 20) (.reg [jm 21 3, jm 22 4, jm 23 5, jn 24 (.bin .add (.t 23) (.c (.int .u8 32))), jx 25 1 21 22, js 1 25 24]) .skip)))) (.reg [ju .add 26 10 1, jm 10 26]))))
def k78 : IC := (.seq (.reg [jc 2 (.str [])]) (.seq (.reg [jm 6 0, jn 7 (.cvs (.t 6)), jm 3 7]) (.seq (.seq (.reg [jm 8 3, jL 9 8, jc 10 (j6 0)]) (.block 0 (.loop Gr))) (.seq (.reg [jm 27 3, jn 28 (.cvb (.t 27)), jm 2 28]) .ret))))
theorem Tw : BV Tryz.prog Tryz.f78 = some ⟨29, k78, [(.tmp 2)]⟩ := by kernel_rfl
theorem mO (N : Nat) (a0 : List UInt8) : ∀ (n : Nat) (x : Int × List UInt8) (y : List UInt8), MB N a0 n x = some y → WX Tryz.prog (fun _ => false) (.loop Gr) ((fun (x : Int × List UInt8) => ⟨AY [(3, .slr 124807 0 x.2.length), (8, .slr 124807 0 x.2.length), (9, j6 (a0.length : Int)), (10, j6 x.1)], AY [(124807, ⟨1, true, List.map eb x.2⟩)]⟩) x) ((fun y e s => e = .exit 0 ∧ s = ⟨AY [(3, .slr 124807 0 y.length)], AY [(124807, ⟨1, true, List.map eb y⟩)]⟩ : (List UInt8) → Xt → St → Prop) y) := by
 refine EP _ _ (MB N a0) (SC N a0) (fun _ => rfl) (fun _ _ => rfl) ?_
 rintro rec ⟨v10l8, G7⟩ y h
 refine AC (AB ?_)
 refine wq rfl ?_
 refine AC ?_
 refine D5 h rfl (fun c1 h => ?_) (fun c1 h => ?_)
 refine BF ?_
 refine QJ (fun (x : List UInt8) => ⟨AY [(3, .slr 124807 0 x.length), (8, .slr 124807 0 x.length), (9, j6 (a0.length : Int)), (10, j6 v10l8)], AY [(124807, ⟨1, true, List.map eb x⟩)]⟩) (fun x => TR v10l8 rec x = some y) ?_ ?_
 rintro bD h
 refine AB ?_
 refine AQ (p := j6 (BM (v10l8 + (1 : Int)))) rfl rfl ?_
 refine wq rfl ?_
 exact ⟨((BM (v10l8 + (1 : Int))), bD), (cq rfl), h⟩
 refine BZ (AC (AB ?_))
 refine wq rfl ?_
 obtain ⟨MX, bH, h⟩ := AJ h
 refine AQ rfl (PE bH rfl rfl rfl rfl) ?_
 obtain ⟨PO, UG, h⟩ := AJ h
 refine AQ rfl (UE (f := eb) (v := eb PO) UG rfl rfl rfl) ?_
 iterate 2 refine wq rfl ?_
 obtain ⟨g2, hg2, h⟩ := AJ h
 refine F3 ⟨AY [(3, .slr 124807 0 G7.length), (4, j6 v10l8), (5, eb PO), (8, .slr 124807 0 G7.length), (9, j6 (a0.length : Int)), (10, j6 v10l8), (20, .bool g2)], AY [(124807, ⟨1, true, List.map eb G7⟩)]⟩ ?_ ?_
 have h := hg2
 refine AB ?_
 refine wq rfl ?_
 refine AQ (p := .bool (decide (((PO).toNat : Int) ≥ (65 : Int)))) rfl rfl ?_
 refine wq rfl ?_
 rcases BO h with ⟨c3, h⟩ | ⟨c3, h⟩
 refine AQ (gy rfl c3) rfl ?_
 refine AQ (p := .bool (decide (((PO).toNat : Int) ≤ (90 : Int)))) (gy rfl c3) rfl ?_
 refine AQ rfl (BA c3 rfl rfl) ?_
 cases AA h
 exact cq rfl
 iterate 2 refine BJ (gn rfl c3) ?_
 refine AQ rfl (AZ c3 rfl rfl) ?_
 obtain rfl := AA h
 exact cq rfl
 clear hg2
 refine D5 h rfl (fun c4 h => ?_) (fun c4 h => ?_)
 refine AB ?_
 iterate 3 refine wq rfl ?_
 refine AQ rfl (yC (a := PO) (b := (32 : UInt8)) rfl rfl) ?_
 obtain ⟨x25, hx25, h⟩ := AJ h
 refine AQ rfl (PE hx25 rfl rfl rfl rfl) ?_
 obtain ⟨qZ, l9, h⟩ := AJ h
 refine Af (f := eb) (e' := (PO + (32 : UInt8))) l9 rfl rfl rfl rfl rfl rfl rfl rfl (fun _ => rfl) rfl ?_
 exact ⟨(G7.set x25 (PO + (32 : UInt8))), (C8.trans (KP 3 (H5 (congrArg (PV.slr 124807 0) (by simp only [List.length_set, List.length_replicate] : G7.length = (G7.set x25 (PO + (32 : UInt8))).length))) rfl) (C8.trans (KP 8 (H5 (congrArg (PV.slr 124807 0) (by simp only [List.length_set, List.length_replicate] : G7.length = (G7.set x25 (PO + (32 : UInt8))).length))) rfl) (cq rfl))), h⟩
 refine BF ?_
 exact ⟨G7, (cq rfl), h⟩
 obtain rfl := AA h
 exact CU (st1 := ⟨AY [(3, .slr 124807 0 G7.length)], AY [(124807, ⟨1, true, List.map eb G7⟩)]⟩) (cq rfl) ⟨rfl, rfl⟩
theorem XH (N : Nat) (a0 : List UInt8) (r : List UInt8) (h : WS N a0 = some r) : Sat Tryz.prog 78 AO [.str a0] (.str r) AO := by
 refine DK mixed Tryz.func78 Tw (rs := [.str r]) rfl rfl ?_
 refine AC (AB ?_)
 refine wq rfl ?_
 refine AC (AB ?_)
 refine wq rfl ?_
 refine CO rfl (pU 124807 rfl rfl) ?_
 refine wq rfl ?_
 iterate 2 refine AC ?_
 refine AB ?_
 iterate 3 refine wq rfl ?_
 refine BZ ?_
 obtain ⟨y6, uO, h⟩ := AJ h
 refine QI (mO N a0 N _ _ uO) (cq rfl) ?_
 rintro e s ⟨rfl, rfl⟩
 refine AC (AB ?_)
 refine wq rfl ?_
 refine AQ rfl (UF (l := y6) rfl rfl (BQ (f := eb) (l := y6))) ?_
 refine wq rfl ?_
 obtain rfl := AA h
 refine BR ?_
 exact ⟨nofun, rfl, rfl⟩
def k79 : IC := (.seq (.reg [jc 0 .nl]) (.seq (.reg [jn 1 (.build [(.str []), (j6 0), (.bool false)] [(0, (1, (.c (.str [97, 99, 105])))), (1, (1, (ji 2)))]), jn 2 (.build [(.str []), (j6 0), (.bool false)] [(0, (1, (.c (.str [99])))), (1, (1, (ji 1))), (2, (1, jB))]), jn 3 (.build [(.str []), (j6 0), (.bool false)] [(0, (1, (.c (.str [99, 110])))), (1, (1, (ji 1)))]), jn 4 (.build [(.str []), (j6 0), (.bool false)] [(0, (1, (.c (.str [100, 99])))), (1, (1, (ji 1)))]), jn 5 (.build [(.str []), (j6 0), (.bool false)] [(0, (1, (.c (.str [100, 101, 115, 99, 114, 105, 112, 116, 105, 111, 110])))), (1, (1, (ji 1)))]), jn 6 (.build [(.str []), (j6 0), (.bool false)] [(0, (1, (.c (.str [101, 110, 116, 114, 121, 105, 100])))), (1, (1, (ji 2))), (2, (1, jB))]), jn 7 (.build [(.str []), (j6 0), (.bool false)] [(0, (1, (.c (.str [109, 97, 105, 108])))), (1, (1, (ji 2)))]), jn 8 (.build [(.str []), (j6 0), (.bool false)] [(0, (1, (.c (.str [109, 101, 109, 98, 101, 114])))), (1, (1, (ji 5)))]), jn 9 (.build [(.str []), (j6 0), (.bool false)] [(0, (1, (.c (.str [111])))), (1, (1, (ji 1)))]), jn 10 (.build [(.str []), (j6 0), (.bool false)] [(0, (1, (.c (.str [111, 117])))), (1, (1, (ji 1)))]), jn 11 (.build [(.str []), (j6 0), (.bool false)] [(0, (1, (.c (.str [115, 110])))), (1, (1, (ji 1)))]), jn 12 (.build [(.str []), (j6 0), (.bool false)] [(0, (1, (.c (.str [116, 105, 116, 108, 101])))), (1, (1, (ji 1))), (2, (1, jB))]), jn 13 (.build [(.str []), (j6 0), (.bool false)] [(0, (1, (.c (.str [117, 105, 100])))), (1, (1, (ji 1)))]), jn 14 (.build [(.str []), (j6 0), (.bool false)] [(0, (1, (.c (.str [117, 105, 100, 110, 117, 109, 98, 101, 114])))), (1, (1, (ji 3))), (2, (1, jB))]), jn 15 (.build [(.str []), (j6 0), (.bool false)] [(0, (1, (.c (.str [117, 115, 101, 114, 112, 97, 115, 115, 119, 111, 114, 100])))), (1, (1, (ji 4)))]), jn 16 (.bsl 3 [(.t 1), (.t 2), (.t 3), (.t 4), (.t 5), (.t 6), (.t 7), (.t 8), (.t 9), (.t 10), (.t 11), (.t 12), (.t 13), (.t 14), (.t 15)]), jm 0 16]) .ret))
theorem Tv : BV Tryz.prog Tryz.f79 = some ⟨17, k79, [(.tmp 0)]⟩ := by kernel_rfl
theorem jT (N : Nat)  (r : List BB) (h : XC N  = some r) : Sat Tryz.prog 79 AO [] (.sl 3 (List.map CG r)) AO := by
 refine DK mixed Tryz.func79 Tv (rs := [.sl 3 (List.map CG r)]) rfl rfl ?_
 refine AC (AB ?_)
 refine wq rfl ?_
 refine AC (AB ?_)
 refine AQ (p := .agg [.str ([97, 99, 105] : List UInt8), j6 2, .bool false]) rfl rfl ?_
 refine AQ (p := .agg [.str ([99] : List UInt8), j6 1, .bool true]) rfl rfl ?_
 refine AQ (p := .agg [.str ([99, 110] : List UInt8), j6 1, .bool false]) rfl rfl ?_
 refine AQ (p := .agg [.str ([100, 99] : List UInt8), j6 1, .bool false]) rfl rfl ?_
 refine AQ (p := .agg [.str ([100, 101, 115, 99, 114, 105, 112, 116, 105, 111, 110] : List UInt8), j6 1, .bool false]) rfl rfl ?_
 refine AQ (p := .agg [.str ([101, 110, 116, 114, 121, 105, 100] : List UInt8), j6 2, .bool true]) rfl rfl ?_
 refine AQ (p := .agg [.str ([109, 97, 105, 108] : List UInt8), j6 2, .bool false]) rfl rfl ?_
 refine AQ (p := .agg [.str ([109, 101, 109, 98, 101, 114] : List UInt8), j6 5, .bool false]) rfl rfl ?_
 refine AQ (p := .agg [.str ([111] : List UInt8), j6 1, .bool false]) rfl rfl ?_
 refine AQ (p := .agg [.str ([111, 117] : List UInt8), j6 1, .bool false]) rfl rfl ?_
 refine AQ (p := .agg [.str ([115, 110] : List UInt8), j6 1, .bool false]) rfl rfl ?_
 refine AQ (p := .agg [.str ([116, 105, 116, 108, 101] : List UInt8), j6 1, .bool true]) rfl rfl ?_
 refine AQ (p := .agg [.str ([117, 105, 100] : List UInt8), j6 1, .bool false]) rfl rfl ?_
 refine AQ (p := .agg [.str ([117, 105, 100, 110, 117, 109, 98, 101, 114] : List UInt8), j6 3, .bool true]) rfl rfl ?_
 refine AQ (p := .agg [.str ([117, 115, 101, 114, 112, 97, 115, 115, 119, 111, 114, 100] : List UInt8), j6 4, .bool false]) rfl rfl ?_
 refine CO rfl (TC 126416 rfl rfl rfl) ?_
 refine wq rfl ?_
 cases AA h
 refine DL (st1 := ⟨AY [(0, .sl 3 (List.map CG [(⟨([97, 99, 105] : List UInt8), 2, false⟩ : BB), (⟨([99] : List UInt8), 1, true⟩ : BB), (⟨([99, 110] : List UInt8), 1, false⟩ : BB), (⟨([100, 99] : List UInt8), 1, false⟩ : BB), (⟨([100, 101, 115, 99, 114, 105, 112, 116, 105, 111, 110] : List UInt8), 1, false⟩ : BB), (⟨([101, 110, 116, 114, 121, 105, 100] : List UInt8), 2, true⟩ : BB), (⟨([109, 97, 105, 108] : List UInt8), 2, false⟩ : BB), (⟨([109, 101, 109, 98, 101, 114] : List UInt8), 5, false⟩ : BB), (⟨([111] : List UInt8), 1, false⟩ : BB), (⟨([111, 117] : List UInt8), 1, false⟩ : BB), (⟨([115, 110] : List UInt8), 1, false⟩ : BB), (⟨([116, 105, 116, 108, 101] : List UInt8), 1, true⟩ : BB), (⟨([117, 105, 100] : List UInt8), 1, false⟩ : BB), (⟨([117, 105, 100, 110, 117, 109, 98, 101, 114] : List UInt8), 3, true⟩ : BB), (⟨([117, 115, 101, 114, 112, 97, 115, 115, 119, 111, 114, 100] : List UInt8), 4, false⟩ : BB)]))], AY []⟩) (C8.trans (Vd.freeze 126416 _ rfl rfl rfl) (C8.trans (KP 0 (H5 (congrArg (PV.sl 3) (BQ (f := CG) (l := [(⟨([97, 99, 105] : List UInt8), 2, false⟩ : BB), (⟨([99] : List UInt8), 1, true⟩ : BB), (⟨([99, 110] : List UInt8), 1, false⟩ : BB), (⟨([100, 99] : List UInt8), 1, false⟩ : BB), (⟨([100, 101, 115, 99, 114, 105, 112, 116, 105, 111, 110] : List UInt8), 1, false⟩ : BB), (⟨([101, 110, 116, 114, 121, 105, 100] : List UInt8), 2, true⟩ : BB), (⟨([109, 97, 105, 108] : List UInt8), 2, false⟩ : BB), (⟨([109, 101, 109, 98, 101, 114] : List UInt8), 5, false⟩ : BB), (⟨([111] : List UInt8), 1, false⟩ : BB), (⟨([111, 117] : List UInt8), 1, false⟩ : BB), (⟨([115, 110] : List UInt8), 1, false⟩ : BB), (⟨([116, 105, 116, 108, 101] : List UInt8), 1, true⟩ : BB), (⟨([117, 105, 100] : List UInt8), 1, false⟩ : BB), (⟨([117, 105, 100, 110, 117, 109, 98, 101, 114] : List UInt8), 3, true⟩ : BB), (⟨([117, 115, 101, 114, 112, 97, 115, 115, 119, 111, 114, 100] : List UInt8), 4, false⟩ : BB)])))) rfl) (cq rfl))) ?_
 exact ⟨nofun, rfl, rfl⟩
def Gu : IC := (.seq (.reg [jb .lss 11 10 9]) (.seq (.cond (.t 11) .skip (.exit 0)) (.seq (.block 1 (.seq (.reg [jx 12 3 8 10, jg 13 3 12, jn 5 (.box 90 (.c (.agg [(.str []), (j6 0), (.bool false)]))), js 3 5 13]) (.seq (.reg [ja 14 0 5, jl 15 1 14, jm 16 0, jb .eql 17 15 16]) (.cond (.t 17) (.seq (.reg [jg 18 3 5, js 3 2 18, jc 3 (.bool true)]) .ret) .skip)))) (.reg [ju .add 19 10 1, jm 10 19]))))
def k58 : IC := (.seq (.reg [jn 2 (.box 90 (.c (.agg [(.str []), (j6 0), (.bool false)]))), jc 3 (.bool false)]) (.seq (.reg [jm 6 0, jn 7 (.call 78 [(.t 6)]), jm 0 7]) (.seq (.seq (.reg [jn 8 (.call 79 []), jL 9 8, jc 10 (j6 0)]) (.block 0 (.loop Gu))) (.seq (.reg [jn 20 (.build [(.str []), (j6 0), (.bool false)] []), js 3 2 20, jc 3 (.bool false)]) .ret))))
theorem Un : BV Tryz.prog Tryz.f58 = some ⟨21, k58, [(.cell 3 true 2), (.tmp 3)]⟩ := by kernel_rfl
theorem eU (N : Nat) (x7 : List UInt8) (x8 : List BB) : ∀ (n : Nat) (x : Int) (y : Unit ⊕ (BB × Bool)), K4 N x7 x8 n x = some y → WX Tryz.prog (fun _ => false) (.loop Gu) ((fun (x : Int) => ⟨AY [(0, .str x7), (2, .ptr 92802 0 0), (8, .sl 3 (List.map CG x8)), (9, j6 (x8.length : Int)), (10, j6 x)], AY [(92802, ⟨3, false, [.agg [.str ([] : List UInt8), j6 0, .bool false]]⟩)]⟩) x) ((Sum.elim (fun y e s => e = .exit 0 ∧ s = ⟨AY [(2, .ptr 92802 0 0)], AY [(92802, ⟨3, false, [.agg [.str ([] : List UInt8), j6 0, .bool false]]⟩)]⟩) (fun y e s => e = .ret ∧ s = ⟨AY [(2, .ptr 92802 0 0), (3, .bool y.2)], AY [(92802, ⟨3, false, [CG y.1]⟩)]⟩) : (Unit ⊕ (BB × Bool)) → Xt → St → Prop) y) := by
 refine EP _ _ (K4 N x7 x8) (OL N x7 x8) (fun _ => rfl) (fun _ _ => rfl) ?_
 rintro rec v10l8 y h
 refine AC (AB ?_)
 refine wq rfl ?_
 refine AC ?_
 refine D5 h rfl (fun c1 h => ?_) (fun c1 h => ?_)
 refine BF (AC (BZ (AC (AB ?_))))
 obtain ⟨IP, XN, h⟩ := AJ h
 refine AQ rfl (DF (cs := [.str IP.Name, j6 IP.Syntax, .bool IP.Single]) XN rfl rfl rfl) ?_
 refine AQ (p := CG IP) rfl rfl ?_
 refine CO rfl (G5 92805 rfl rfl rfl rfl rfl) ?_
 refine EW (e' := CG IP) rfl rfl rfl rfl rfl rfl rfl rfl nofun rfl ?_
 refine AC (AB ?_)
 iterate 4 refine wq rfl ?_
 refine D5 h rfl (fun c2 h => ?_) (fun c2 h => ?_)
 refine AC (AB ?_)
 refine AQ (p := CG IP) rfl rfl ?_
 refine EW (e' := CG IP) rfl rfl rfl rfl rfl rfl rfl rfl nofun rfl ?_
 refine wq rfl ?_
 cases AA h
 exact DL (st1 := ⟨AY [(2, .ptr 92802 0 0), (3, .bool true)], AY [(92802, ⟨3, false, [CG IP]⟩)]⟩) (cq rfl) ⟨rfl, rfl⟩
 refine BF (AB ?_)
 refine AQ (p := j6 (BM (v10l8 + (1 : Int)))) rfl rfl ?_
 refine wq rfl ?_
 exact ⟨(BM (v10l8 + (1 : Int))), (cq rfl), h⟩
 cases AA h
 exact CU (st1 := ⟨AY [(2, .ptr 92802 0 0)], AY [(92802, ⟨3, false, [.agg [.str ([] : List UInt8), j6 0, .bool false]]⟩)]⟩) (cq rfl) ⟨rfl, rfl⟩
theorem Y2 (N : Nat) (a0 : List UInt8) (r : BB × Bool) (h : SL N a0 = some r) : Sat Tryz.prog 58 AO [.str a0] (.tup [CG r.1, .bool r.2]) AO := by
 refine DK mixed Tryz.func58 Un (rs := [CG r.1, .bool r.2]) rfl rfl ?_
 refine AC (AB ?_)
 refine CO rfl (G5 92802 rfl rfl rfl rfl rfl) ?_
 refine wq rfl ?_
 refine AC (AB ?_)
 refine wq rfl ?_
 obtain ⟨x7, hx7, h⟩ := AJ h
 refine CO rfl (CB (XH N _ _ hx7) rfl (.cons A8 .nil) rfl rfl rfl) ?_
 refine wq rfl ?_
 iterate 2 refine AC ?_
 refine AB ?_
 obtain ⟨x8, Ov, h⟩ := AJ h
 refine CO rfl (CB (jT N _ Ov) rfl .nil rfl rfl rfl) ?_
 refine AQ rfl (BU rfl) ?_
 refine wq rfl ?_
 refine BZ ?_
 obtain ⟨y3, hy3, h⟩ := AJ h
 refine QI (eU N x7 x8 N _ _ hy3) (cq rfl) ?_
 clear hy3
 rcases y3 with y3 | y3
 rintro e s ⟨rfl, rfl⟩
 refine AC (AB ?_)
 refine AQ (p := .agg [.str ([] : List UInt8), j6 0, .bool false]) rfl rfl ?_
 refine EW (e' := .agg [.str ([] : List UInt8), j6 0, .bool false]) rfl rfl rfl rfl rfl rfl rfl rfl nofun rfl ?_
 refine wq rfl ?_
 cases AA h
 refine BR ?_
 exact ⟨nofun, rfl, rfl⟩
 rintro e s ⟨rfl, rfl⟩
 cases AA h
 exact ⟨nofun, rfl, rfl⟩
def zP : IC := (.seq (.seq (.reg [jm 5 0, jS 6 5, ju .gtr 7 6 0, jm 8 7, jt 8 9 (.mov (.t 0)), jt 8 10 (.mov (.t 0)), jt 8 11 (.len true (.t 10)), jt 8 12 (.bin .sub (.t 11) (ji 1)), jt 8 13 (.idxs (.t 9) (.t 12)), jt 8 14 (.mov (.t 1)), jt 8 15 (.bin .eql (.t 13) (.t 14)), jp 16 8 15]) (.cond (.t 16) .skip (.exit 0))) (.block 1 (.reg [jm 17 0, jm 18 0, jS 19 18, ju .sub 20 19 1, jn 21 (.slcs (.t 17) none (some (.t 20))), jm 0 21])))
def k113 : IC := (.seq (.reg [jc 4 (.str [])]) (.seq (.block 0 (.loop zP)) (.seq (.reg [jm 22 0, jm 4 22]) .ret)))
theorem Oi : BV Tryz.prog Tryz.f113 = some ⟨23, k113, [(.tmp 4)]⟩ := by kernel_rfl
theorem TY (N : Nat) (a1 : UInt8) : ∀ (n : Nat) (x : List UInt8) (y : List UInt8), FJ N a1 n x = some y → WX Tryz.prog (fun _ => false) (.loop zP) ((fun (x : List UInt8) => ⟨AY [(0, .str x), (1, eb a1)], AY []⟩) x) ((fun y e s => e = .exit 0 ∧ s = ⟨AY [(0, .str y)], AY []⟩ : (List UInt8) → Xt → St → Prop) y) := by
 refine EP _ _ (FJ N a1) (K3 N a1) (fun _ => rfl) (fun _ _ => rfl) ?_
 rintro rec v0l4 y h
 refine AC ?_
 obtain ⟨g1, hg1, h⟩ := AJ h
 refine F3 ⟨AY [(0, .str v0l4), (1, eb a1), (16, .bool g1)], AY []⟩ ?_ ?_
 have h := hg1
 refine AB ?_
 iterate 4 refine wq rfl ?_
 rcases BO h with ⟨c2, h⟩ | ⟨c2, h⟩
 iterate 3 refine AQ (gy rfl c2) rfl ?_
 refine AQ (p := j6 (BM ((v0l4.length : Int) - (1 : Int)))) (gy rfl c2) rfl ?_
 obtain ⟨MX, bH, h⟩ := AJ h
 refine AQ (gy rfl c2) (GY bH rfl rfl) ?_
 refine AQ (gy rfl c2) rfl ?_
 refine AQ (p := .bool (((MX).toNat : Int) == ((a1).toNat : Int))) (gy rfl c2) rfl ?_
 refine AQ rfl (BA c2 rfl rfl) ?_
 cases AA h
 exact cq rfl
 iterate 7 refine BJ (gn rfl c2) ?_
 refine AQ rfl (AZ c2 rfl rfl) ?_
 obtain rfl := AA h
 exact cq rfl
 clear hg1
 refine D5 h rfl (fun c3 h => ?_) (fun c3 h => ?_)
 refine BF (BZ (AB ?_))
 iterate 3 refine wq rfl ?_
 refine AQ (p := j6 (BM ((v0l4.length : Int) - (1 : Int)))) rfl rfl ?_
 obtain ⟨VF, YU, h⟩ := AJ h
 refine AQ rfl (kP YU rfl rfl) ?_
 refine wq rfl ?_
 exact ⟨VF, (cq rfl), h⟩
 obtain rfl := AA h
 exact CU (st1 := ⟨AY [(0, .str v0l4)], AY []⟩) (cq rfl) ⟨rfl, rfl⟩
theorem UY (N : Nat) (a0 : List UInt8) (a1 : UInt8) (r : List UInt8) (h : strings_trimRightByte N a0 a1 = some r) : Sat Tryz.prog 113 AO [.str a0, eb a1] (.str r) AO := by
 refine DK mixed Tryz.func113 Oi (rs := [.str r]) rfl rfl ?_
 refine AC (AB ?_)
 refine wq rfl ?_
 refine AC (BZ ?_)
 obtain ⟨y4, hy4, h⟩ := AJ h
 refine QI (TY N a1 N _ _ hy4) (cq rfl) ?_
 rintro e s ⟨rfl, rfl⟩
 refine AC (AB ?_)
 iterate 2 refine wq rfl ?_
 obtain rfl := AA h
 refine BR ?_
 exact ⟨nofun, rfl, rfl⟩
def zQ : IC := (.seq (.seq (.reg [jm 5 0, jS 6 5, ju .gtr 7 6 0, jm 8 7, jt 8 9 (.mov (.t 0)), jt 8 10 (.idxs (.t 9) (ji 0)), jt 8 11 (.mov (.t 1)), jt 8 12 (.bin .eql (.t 10) (.t 11)), jp 13 8 12]) (.cond (.t 13) .skip (.exit 0))) (.block 1 (.reg [jm 14 0, jn 15 (.slcs (.t 14) (some (ji 1)) none), jm 0 15])))
def k112 : IC := (.seq (.reg [jc 4 (.str [])]) (.seq (.block 0 (.loop zQ)) (.seq (.reg [jm 16 0, jm 4 16]) .ret)))
theorem Oj : BV Tryz.prog Tryz.f112 = some ⟨17, k112, [(.tmp 4)]⟩ := by kernel_rfl
theorem UV (N : Nat) (a1 : UInt8) : ∀ (n : Nat) (x : List UInt8) (y : List UInt8), FU N a1 n x = some y → WX Tryz.prog (fun _ => false) (.loop zQ) ((fun (x : List UInt8) => ⟨AY [(0, .str x), (1, eb a1)], AY []⟩) x) ((fun y e s => e = .exit 0 ∧ s = ⟨AY [(0, .str y)], AY []⟩ : (List UInt8) → Xt → St → Prop) y) := by
 refine EP _ _ (FU N a1) (KO N a1) (fun _ => rfl) (fun _ _ => rfl) ?_
 rintro rec v0l4 y h
 refine AC ?_
 obtain ⟨g1, hg1, h⟩ := AJ h
 refine F3 ⟨AY [(0, .str v0l4), (1, eb a1), (13, .bool g1)], AY []⟩ ?_ ?_
 have h := hg1
 refine AB ?_
 iterate 4 refine wq rfl ?_
 rcases BO h with ⟨c2, h⟩ | ⟨c2, h⟩
 refine AQ (gy rfl c2) rfl ?_
 obtain ⟨SX, XO, h⟩ := AJ h
 refine AQ (gy rfl c2) (GY XO rfl rfl) ?_
 refine AQ (gy rfl c2) rfl ?_
 refine AQ (p := .bool (((SX).toNat : Int) == ((a1).toNat : Int))) (gy rfl c2) rfl ?_
 refine AQ rfl (BA c2 rfl rfl) ?_
 cases AA h
 exact cq rfl
 iterate 4 refine BJ (gn rfl c2) ?_
 refine AQ rfl (AZ c2 rfl rfl) ?_
 obtain rfl := AA h
 exact cq rfl
 clear hg1
 refine D5 h rfl (fun c3 h => ?_) (fun c3 h => ?_)
 refine BF (BZ (AB ?_))
 refine wq rfl ?_
 obtain ⟨NK, RX, h⟩ := AJ h
 refine AQ rfl (YP RX rfl rfl) ?_
 refine wq rfl ?_
 exact ⟨NK, (cq rfl), h⟩
 obtain rfl := AA h
 exact CU (st1 := ⟨AY [(0, .str v0l4)], AY []⟩) (cq rfl) ⟨rfl, rfl⟩
theorem VM (N : Nat) (a0 : List UInt8) (a1 : UInt8) (r : List UInt8) (h : strings_trimLeftByte N a0 a1 = some r) : Sat Tryz.prog 112 AO [.str a0, eb a1] (.str r) AO := by
 refine DK mixed Tryz.func112 Oj (rs := [.str r]) rfl rfl ?_
 refine AC (AB ?_)
 refine wq rfl ?_
 refine AC (BZ ?_)
 obtain ⟨y4, hy4, h⟩ := AJ h
 refine QI (UV N a1 N _ _ hy4) (cq rfl) ?_
 rintro e s ⟨rfl, rfl⟩
 refine AC (AB ?_)
 iterate 2 refine wq rfl ?_
 obtain rfl := AA h
 refine BR ?_
 exact ⟨nofun, rfl, rfl⟩
def k93 : IC := (.seq (.reg [jc 4 (.str [])]) (.seq (.seq (.reg [jm 7 0, jn 8 (.bin .eql (.t 7) (.c (.str []))), jm 9 8, jf 9 10 (.mov (.t 1)), jf 9 11 (.bin .eql (.t 10) (.c (.str []))), jo 12 9 11]) (.cond (.t 12) (.seq (.reg [jm 13 0, jm 4 13]) .ret) .skip)) (.seq (.seq (.reg [jm 14 1, jS 15 14, ju .eql 16 15 1, jm 17 16, jt 17 18 (.mov (.t 1)), jt 17 19 (.idxs (.t 18) (ji 0)), jt 17 20 (.bin .lss (.t 19) (.c (.int .u8 128))), jp 21 17 20]) (.cond (.t 21) (.seq (.regd 8 [jm 22 0, jm 23 1, jn 24 (.idxs (.t 23) (ji 0)), jn 25 (.call 113 [(.t 22), (.t 24)]), jm 26 1, jn 27 (.idxs (.t 26) (ji 0)), jn 28 (.call 112 [(.t 25), (.t 27)]), jm 4 28]) .ret) .skip)) (.seq (.seq (.reg [jm 30 1, jn 31 (.call 114 [(.t 30)]), jm 29 31, je 32 0 29, je 33 1 29, jn 5 (.box 150 (.c (.agg [(.bool false), (.bool false), (.bool false), (.bool false), (.bool false), (.bool false), (.bool false), (.bool false), (.bool false), (.bool false), (.bool false), (.bool false), (.bool false), (.bool false), (.bool false), (.bool false), (.bool false), (.bool false), (.bool false), (.bool false), (.bool false), (.bool false), (.bool false), (.bool false), (.bool false), (.bool false), (.bool false), (.bool false), (.bool false), (.bool false), (.bool false), (.bool false), (.bool false), (.bool false), (.bool false), (.bool false), (.bool false), (.bool false), (.bool false), (.bool false), (.bool false), (.bool false), (.bool false), (.bool false), (.bool false), (.bool false), (.bool false), (.bool false), (.bool false), (.bool false), (.bool false), (.bool false), (.bool false), (.bool false), (.bool false), (.bool false), (.bool false), (.bool false), (.bool false), (.bool false), (.bool false), (.bool false), (.bool false), (.bool false), (.bool false), (.bool false), (.bool false), (.bool false), (.bool false), (.bool false), (.bool false), (.bool false), (.bool false), (.bool false), (.bool false), (.bool false), (.bool false), (.bool false), (.bool false), (.bool false), (.bool false), (.bool false), (.bool false), (.bool false), (.bool false), (.bool false), (.bool false), (.bool false), (.bool false), (.bool false), (.bool false), (.bool false), (.bool false), (.bool false), (.bool false), (.bool false), (.bool false), (.bool false), (.bool false), (.bool false), (.bool false), (.bool false), (.bool false), (.bool false), (.bool false), (.bool false), (.bool false), (.bool false), (.bool false), (.bool false), (.bool false), (.bool false), (.bool false), (.bool false), (.bool false), (.bool false), (.bool false), (.bool false), (.bool false), (.bool false), (.bool false), (.bool false), (.bool false), (.bool false), (.bool false), (.bool false), (.bool false), (.bool false), (.bool false), (.bool false), (.bool false), (.bool false), (.bool false), (.bool false), (.bool false), (.bool false), (.bool false), (.bool false), (.bool false), (.bool false), (.bool false), (.bool false), (.bool false), (.bool false), (.bool false), (.bool false), (.bool false), (.bool false), (.bool false), (.bool false), (.bool false), (.bool false), (.bool false), (.bool false), (.bool false), (.bool false), (.bool false), (.bool false), (.bool false), (.bool false), (.bool false), (.bool false), (.bool false), (.bool false), (.bool false), (.bool false), (.bool false), (.bool false), (.bool false), (.bool false), (.bool false), (.bool false), (.bool false), (.bool false), (.bool false), (.bool false), (.bool false), (.bool false), (.bool false), (.bool false), (.bool false), (.bool false), (.bool false), (.bool false), (.bool false), (.bool false), (.bool false), (.bool false), (.bool false), (.bool false), (.bool false), (.bool false), (.bool false), (.bool false), (.bool false), (.bool false), (.bool false), (.bool false), (.bool false), (.bool false), (.bool false), (.bool false), (.bool false), (.bool false), (.bool false), (.bool false), (.bool false), (.bool false), (.bool false), (.bool false), (.bool false), (.bool false), (.bool false), (.bool false), (.bool false), (.bool false), (.bool false), (.bool false), (.bool false), (.bool false), (.bool false), (.bool false), (.bool false), (.bool false), (.bool false), (.bool false), (.bool false), (.bool false), (.bool false), (.bool false), (.bool false), (.bool false), (.bool false), (.bool false), (.bool false), (.bool false), (.bool false), (.bool false), (.bool false), (.bool false), (.bool false), (.bool false), (.bool false), (.bool false), (.bool false), (.bool false), (.bool false), (.bool false), (.bool false), (.bool false), (.bool false), (.bool false), (.bool false), (.bool false), (.bool false), (.bool false)]))), js 256 5 32, jm 6 33]) (.seq (.reg [jm 34 6]) (.cond (.t 34) (.seq (.reg [jm 35 0, jn 36 (.call 116 [(.t 35), (.t 5)]), jn 37 (.call 115 [(.t 36), (.t 5)]), jm 4 37]) .ret) .skip))) (.seq (.reg [jm 38 0, jm 39 1, jn 40 (.call 118 [(.t 38), (.t 39)]), jm 41 1, jn 42 (.call 117 [(.t 40), (.t 41)]), jm 4 42]) .ret)))))
theorem Tg : BV Tryz.prog Tryz.f93 = some ⟨43, k93, [(.tmp 4)]⟩ := by kernel_rfl
theorem fE (N : Nat) (a0 : List UInt8) (a1 : List UInt8) (r : List UInt8) (h : TK N a0 a1 = some r) : Sat Tryz.prog 93 AO [.str a0, .str a1] (.str r) AO := by
 refine DK mixed Tryz.func93 Tg (rs := [.str r]) rfl rfl ?_
 refine AC (AB ?_)
 refine wq rfl ?_
 refine AC ?_
 obtain ⟨g1, hg1, h⟩ := AJ h
 refine F3 ⟨AY [(0, .str a0), (1, .str a1), (12, .bool g1)], AY []⟩ ?_ ?_
 have h := hg1
 refine AB ?_
 iterate 3 refine wq rfl ?_
 rcases BO h with ⟨c2, h⟩ | ⟨c2, h⟩
 iterate 2 refine BJ (gn rfl c2) ?_
 refine AQ rfl (BA c2 rfl rfl) ?_
 obtain rfl := AA h
 exact cq rfl
 iterate 2 refine AQ (gy rfl c2) rfl ?_
 refine AQ rfl (AZ c2 rfl rfl) ?_
 cases AA h
 exact cq rfl
 clear hg1
 refine D5 h rfl (fun c3 h => ?_) (fun c3 h => ?_)
 refine AC (AB ?_)
 iterate 2 refine wq rfl ?_
 obtain rfl := AA h
 refine BR ?_
 exact ⟨nofun, rfl, rfl⟩
 refine BF (AC ?_)
 obtain ⟨g4, hg4, h⟩ := AJ h
 refine F3 ⟨AY [(0, .str a0), (1, .str a1), (21, .bool g4)], AY []⟩ ?_ ?_
 have h := hg4
 refine AB ?_
 iterate 4 refine wq rfl ?_
 rcases BO h with ⟨c5, h⟩ | ⟨c5, h⟩
 refine AQ (gy rfl c5) rfl ?_
 obtain ⟨QG, YV, h⟩ := AJ h
 refine AQ (gy rfl c5) (GY YV rfl rfl) ?_
 refine AQ (p := .bool (decide (((QG).toNat : Int) < (128 : Int)))) (gy rfl c5) rfl ?_
 refine AQ rfl (BA c5 rfl rfl) ?_
 cases AA h
 exact cq rfl
 iterate 3 refine BJ (gn rfl c5) ?_
 refine AQ rfl (AZ c5 rfl rfl) ?_
 obtain rfl := AA h
 exact cq rfl
 clear hg4
 refine D5 h rfl (fun c6 h => ?_) (fun c6 h => ?_)
 refine AC (P6 ?_)
 iterate 2 refine dq rfl ?_
 obtain ⟨x24, hx24, h⟩ := AJ h
 refine JN rfl (GY hx24 rfl rfl) ?_
 obtain ⟨x25, hx25, h⟩ := AJ h
 refine VG rfl (PD (UY N _ _ _ hx25) rfl (.cons A8 (.cons A8 .nil)) rfl rfl rfl) CZ ?_
 refine dq rfl ?_
 obtain ⟨x27, hx27, h⟩ := AJ h
 refine JN rfl (GY hx27 rfl rfl) ?_
 obtain ⟨x28, hx28, h⟩ := AJ h
 refine VG rfl (PD (VM N _ _ _ hx28) rfl (.cons A8 (.cons A8 .nil)) rfl rfl rfl) CZ ?_
 refine dq rfl ?_
 obtain rfl := AA h
 refine BR ?_
 exact ⟨nofun, rfl, rfl⟩
 refine BF ?_
 iterate 2 refine AC ?_
 refine AB ?_
 refine wq rfl ?_
 cases h
def Gn : IC := (.seq (.reg [jb .lss 9 8 7]) (.seq (.cond (.t 9) .skip (.exit 0)) (.seq (.block 1 (.seq (.reg [jx 10 1 6 8, jl 11 1 10, jm 4 11]) (.seq (.reg [jm 12 4, jn 13 (.bin .lss (.t 12) (.c (.int .u8 32))), jm 14 13, jf 14 15 (.mov (.t 4)), jf 14 16 (.bin .gtr (.t 15) (.c (.int .u8 126))), jo 17 14 16]) (.cond (.t 17) (.seq (.reg [jc 2 (.bool false)]) .ret) .skip)))) (.reg [ju .add 18 8 1, jm 8 18]))))
def k94 : IC := (.seq (.reg [jc 2 (.bool false)]) (.seq (.seq (.reg [jm 5 0, jn 6 (.cvs (.t 5)), jL 7 6, jc 8 (j6 0)]) (.block 0 (.loop Gn))) (.seq (.reg [jc 2 (.bool true)]) .ret)))
theorem Tf : BV Tryz.prog Tryz.f94 = some ⟨19, k94, [(.tmp 2)]⟩ := by kernel_rfl
theorem cK (N : Nat) (a0 : List UInt8) : ∀ (n : Nat) (x : Int) (y : Unit ⊕ Bool), JF N a0 n x = some y → WX Tryz.prog (fun _ => false) (.loop Gn) ((fun (x : Int) => ⟨AY [(6, .slr 150406 0 a0.length), (7, j6 (a0.length : Int)), (8, j6 x)], AY [(150406, ⟨1, true, List.map eb a0⟩)]⟩) x) ((Sum.elim (fun y e s => e = .exit 0 ∧ s = ⟨AY [], AY []⟩) (fun y e s => e = .ret ∧ s = ⟨AY [(2, .bool y)], AY []⟩) : (Unit ⊕ Bool) → Xt → St → Prop) y) := by
 refine EP _ _ (JF N a0) (NL N a0) (fun _ => rfl) (fun _ _ => rfl) ?_
 rintro rec v8l6 y h
 refine AC (AB ?_)
 refine wq rfl ?_
 refine AC ?_
 refine D5 h rfl (fun c1 h => ?_) (fun c1 h => ?_)
 refine BF (AC (BZ (AC (AB ?_))))
 obtain ⟨SX, XO, h⟩ := AJ h
 refine AQ rfl (PE XO rfl rfl rfl rfl) ?_
 obtain ⟨LK, bI, h⟩ := AJ h
 refine AQ rfl (UE (f := eb) (v := eb LK) bI rfl rfl rfl) ?_
 refine wq rfl ?_
 obtain ⟨g2, hg2, h⟩ := AJ h
 refine F3 ⟨AY [(6, .slr 150406 0 a0.length), (7, j6 (a0.length : Int)), (8, j6 v8l6), (17, .bool g2)], AY [(150406, ⟨1, true, List.map eb a0⟩)]⟩ ?_ ?_
 have h := hg2
 refine AB ?_
 refine wq rfl ?_
 refine AQ (p := .bool (decide (((LK).toNat : Int) < (32 : Int)))) rfl rfl ?_
 refine wq rfl ?_
 rcases BO h with ⟨c3, h⟩ | ⟨c3, h⟩
 iterate 2 refine BJ (gn rfl c3) ?_
 refine AQ rfl (BA c3 rfl rfl) ?_
 obtain rfl := AA h
 exact cq rfl
 refine AQ (gy rfl c3) rfl ?_
 refine AQ (p := .bool (decide (((LK).toNat : Int) > (126 : Int)))) (gy rfl c3) rfl ?_
 refine AQ rfl (AZ c3 rfl rfl) ?_
 cases AA h
 exact cq rfl
 clear hg2
 refine D5 h rfl (fun c4 h => ?_) (fun c4 h => ?_)
 refine AC (AB ?_)
 refine wq rfl ?_
 obtain rfl := AA h
 exact DL (st1 := ⟨AY [(2, .bool false)], AY []⟩) (cq rfl) ⟨rfl, rfl⟩
 refine BF (AB ?_)
 refine AQ (p := j6 (BM (v8l6 + (1 : Int)))) rfl rfl ?_
 refine wq rfl ?_
 exact ⟨(BM (v8l6 + (1 : Int))), (cq rfl), h⟩
 cases AA h
 exact CU (st1 := ⟨AY [], AY []⟩) (cq rfl) ⟨rfl, rfl⟩
theorem fF (N : Nat) (a0 : List UInt8) (r : Bool) (h : TL N a0 = some r) : Sat Tryz.prog 94 AO [.str a0] (.bool r) AO := by
 refine DK mixed Tryz.func94 Tf (rs := [.bool r]) rfl rfl ?_
 refine AC (AB ?_)
 refine wq rfl ?_
 iterate 2 refine AC ?_
 refine AB ?_
 refine wq rfl ?_
 refine CO rfl (pU 150406 rfl rfl) ?_
 iterate 2 refine wq rfl ?_
 refine BZ ?_
 obtain ⟨y5, Lm, h⟩ := AJ h
 refine QI (cK N a0 N _ _ Lm) (cq rfl) ?_
 clear Lm
 rcases y5 with y5 | y5
 rintro e s ⟨rfl, rfl⟩
 refine AC (AB ?_)
 refine wq rfl ?_
 obtain rfl := AA h
 refine BR ?_
 exact ⟨nofun, rfl, rfl⟩
 rintro e s ⟨rfl, rfl⟩
 obtain rfl := AA h
 exact ⟨nofun, rfl, rfl⟩
def k153 : IC := (.seq (.reg [jc 4 (.bool false)]) (.seq (.reg [jm 5 0, jS 6 5, jm 7 1, jS 8 7, jb .geq 9 6 8, jm 10 9, jt 10 11 (.mov (.t 0)), jt 10 12 (.mov (.t 1)), jt 10 13 (.len true (.t 12)), jt 10 14 (.slcs (.t 11) none (some (.t 13))), jt 10 15 (.mov (.t 1)), jt 10 16 (.bin .eql (.t 14) (.t 15)), jp 17 10 16, jm 4 17]) .ret))
theorem Nu : BV Tryz.prog Tryz.f153 = some ⟨18, k153, [(.tmp 4)]⟩ := by kernel_rfl
theorem K5 (N : Nat) (a0 : List UInt8) (a1 : List UInt8) (r : Bool) (h : F6 N a0 a1 = some r) : Sat Tryz.prog 153 AO [.str a0, .str a1] (.bool r) AO := by
 refine DK mixed Tryz.func153 Nu (rs := [.bool r]) rfl rfl ?_
 refine AC (AB ?_)
 refine wq rfl ?_
 obtain ⟨g1, hg1, h⟩ := AJ h
 refine F3 ⟨AY [(4, .bool g1)], AY []⟩ ?_ ?_
 have h := hg1
 refine AB ?_
 iterate 6 refine wq rfl ?_
 rcases BO h with ⟨c2, h⟩ | ⟨c2, h⟩
 iterate 3 refine AQ (gy rfl c2) rfl ?_
 obtain ⟨PO, UG, h⟩ := AJ h
 refine AQ (gy rfl c2) (kP UG rfl rfl) ?_
 iterate 2 refine AQ (gy rfl c2) rfl ?_
 refine AQ rfl (BA c2 rfl rfl) ?_
 refine wq rfl ?_
 cases AA h
 exact cq rfl
 iterate 6 refine BJ (gn rfl c2) ?_
 refine AQ rfl (AZ c2 rfl rfl) ?_
 refine wq rfl ?_
 obtain rfl := AA h
 exact cq rfl
 clear hg1
 obtain rfl := AA h
 refine BR ?_
 exact ⟨nofun, rfl, rfl⟩
def k139 : IC := (.seq (.reg [jc 4 (.str [])]) (.seq (.seq (.reg [jm 5 0, jm 6 1, jn 7 (.call 153 [(.t 5), (.t 6)])]) (.cond (.t 7) (.seq (.reg [jm 8 0, jm 9 1, jS 10 9, jn 11 (.slcs (.t 8) (some (.t 10)) none), jm 4 11]) .ret) .skip)) (.seq (.reg [jm 12 0, jm 4 12]) .ret)))
theorem Oa : BV Tryz.prog Tryz.f139 = some ⟨13, k139, [(.tmp 4)]⟩ := by kernel_rfl
theorem P9 (N : Nat) (a0 : List UInt8) (a1 : List UInt8) (r : List UInt8) (h : I8 N a0 a1 = some r) : Sat Tryz.prog 139 AO [.str a0, .str a1] (.str r) AO := by
 refine DK mixed Tryz.func139 Oa (rs := [.str r]) rfl rfl ?_
 refine AC (AB ?_)
 refine wq rfl ?_
 iterate 2 refine AC ?_
 refine AB ?_
 iterate 2 refine wq rfl ?_
 obtain ⟨x7, hx7, h⟩ := AJ h
 refine CO rfl (CB (K5 N _ _ _ hx7) rfl (.cons A8 (.cons A8 .nil)) rfl rfl rfl) ?_
 refine D5 h rfl (fun c1 h => ?_) (fun c1 h => ?_)
 refine AC (AB ?_)
 iterate 3 refine wq rfl ?_
 obtain ⟨LK, bI, h⟩ := AJ h
 refine AQ rfl (YP bI rfl rfl) ?_
 refine wq rfl ?_
 obtain rfl := AA h
 refine BR ?_
 exact ⟨nofun, rfl, rfl⟩
 refine BF (AC (AB ?_))
 iterate 2 refine wq rfl ?_
 obtain rfl := AA h
 refine BR ?_
 exact ⟨nofun, rfl, rfl⟩
def k119 : IC := (.seq (.reg [jc 4 (.str [])]) (.seq (.reg [jm 5 0, jm 6 1, jn 7 (.call 139 [(.t 5), (.t 6)]), jm 4 7]) .ret))
theorem Oh : BV Tryz.prog Tryz.f119 = some ⟨8, k119, [(.tmp 4)]⟩ := by kernel_rfl
theorem XE (N : Nat) (a0 : List UInt8) (a1 : List UInt8) (r : List UInt8) (h : strings_TrimPrefix N a0 a1 = some r) : Sat Tryz.prog 119 AO [.str a0, .str a1] (.str r) AO := by
 refine DK mixed Tryz.func119 Oh (rs := [.str r]) rfl rfl ?_
 refine AC (AB ?_)
 refine wq rfl ?_
 refine AC (AB ?_)
 iterate 2 refine wq rfl ?_
 obtain ⟨x7, hx7, h⟩ := AJ h
 refine CO rfl (CB (P9 N _ _ _ hx7) rfl (.cons A8 (.cons A8 .nil)) rfl rfl rfl) ?_
 refine wq rfl ?_
 obtain rfl := AA h
 refine BR ?_
 exact ⟨nofun, rfl, rfl⟩
def yN : IC := (.seq (.reg [jb .lss 28 27 26]) (.seq (.cond (.t 28) .skip (.exit 0)) (.seq (.block 1 (.seq (.reg [jx 29 1 25 27, jl 30 1 29, jm 5 30]) (.seq (.reg [jm 31 5, jn 32 (.bin .lss (.t 31) (.c (.int .u8 48))), jm 33 32, jf 33 34 (.mov (.t 5)), jf 33 35 (.bin .gtr (.t 34) (.c (.int .u8 57))), jo 36 33 35]) (.cond (.t 36) (.seq (.reg [jc 2 (.bool false)]) .ret) .skip)))) (.reg [ju .add 37 27 1, jm 27 37]))))
def k95 : IC := (.seq (.reg [jc 2 (.bool false)]) (.seq (.reg [jm 6 0, jn 7 (.call 119 [(.t 6), (.c (.str [45]))]), jm 3 7]) (.seq (.seq (.reg [jm 8 3, jn 9 (.bin .eql (.t 8) (.c (.str []))), jm 10 9, jf 10 11 (.mov (.t 3)), jf 10 12 (.len true (.t 11)), jf 10 13 (.bin .gtr (.t 12) (ji 15)), jo 14 10 13, jm 15 14, jf 15 16 (.mov (.t 3)), jf 15 17 (.idxs (.t 16) (ji 0)), jf 15 18 (.bin .eql (.t 17) (.c (.int .u8 48))), jf 15 19 (.mov (.t 18)), jt 19 20 (.mov (.t 0)), jt 19 21 (.bin .neq (.t 20) (.c (.str [48]))), jf 15 22 (.pick (.t 19) (.t 21) jA), jo 23 15 22]) (.cond (.t 23) (.seq (.reg [jc 2 (.bool false)]) .ret) .skip)) (.seq (.seq (.reg [jm 24 3, jn 25 (.cvs (.t 24)), jL 26 25, jc 27 (j6 0)]) (.block 0 (.loop yN))) (.seq (.reg [jc 2 (.bool true)]) .ret)))))
theorem Te : BV Tryz.prog Tryz.f95 = some ⟨38, k95, [(.tmp 2)]⟩ := by kernel_rfl
theorem aN (N : Nat) (x7 : List UInt8) : ∀ (n : Nat) (x : Int) (y : Unit ⊕ Bool), GV N x7 n x = some y → WX Tryz.prog (fun _ => false) (.loop yN) ((fun (x : Int) => ⟨AY [(25, .slr 152025 0 x7.length), (26, j6 (x7.length : Int)), (27, j6 x)], AY [(152025, ⟨1, true, List.map eb x7⟩)]⟩) x) ((Sum.elim (fun y e s => e = .exit 0 ∧ s = ⟨AY [], AY []⟩) (fun y e s => e = .ret ∧ s = ⟨AY [(2, .bool y)], AY []⟩) : (Unit ⊕ Bool) → Xt → St → Prop) y) := by
 refine EP _ _ (GV N x7) (MF N x7) (fun _ => rfl) (fun _ _ => rfl) ?_
 rintro rec v27l16 y h
 refine AC (AB ?_)
 refine wq rfl ?_
 refine AC ?_
 refine D5 h rfl (fun c6 h => ?_) (fun c6 h => ?_)
 refine BF (AC (BZ (AC (AB ?_))))
 obtain ⟨x29, hx29, h⟩ := AJ h
 refine AQ rfl (PE hx29 rfl rfl rfl rfl) ?_
 obtain ⟨x30, wF, h⟩ := AJ h
 refine AQ rfl (UE (f := eb) (v := eb x30) wF rfl rfl rfl) ?_
 refine wq rfl ?_
 obtain ⟨g7, tQ, h⟩ := AJ h
 refine F3 ⟨AY [(25, .slr 152025 0 x7.length), (26, j6 (x7.length : Int)), (27, j6 v27l16), (36, .bool g7)], AY [(152025, ⟨1, true, List.map eb x7⟩)]⟩ ?_ ?_
 have h := tQ
 refine AB ?_
 refine wq rfl ?_
 refine AQ (p := .bool (decide (((x30).toNat : Int) < (48 : Int)))) rfl rfl ?_
 refine wq rfl ?_
 rcases BO h with ⟨c8, h⟩ | ⟨c8, h⟩
 iterate 2 refine BJ (gn rfl c8) ?_
 refine AQ rfl (BA c8 rfl rfl) ?_
 obtain rfl := AA h
 exact cq rfl
 refine AQ (gy rfl c8) rfl ?_
 refine AQ (p := .bool (decide (((x30).toNat : Int) > (57 : Int)))) (gy rfl c8) rfl ?_
 refine AQ rfl (AZ c8 rfl rfl) ?_
 cases AA h
 exact cq rfl
 clear tQ
 refine D5 h rfl (fun c9 h => ?_) (fun c9 h => ?_)
 refine AC (AB ?_)
 refine wq rfl ?_
 obtain rfl := AA h
 exact DL (st1 := ⟨AY [(2, .bool false)], AY []⟩) (cq rfl) ⟨rfl, rfl⟩
 refine BF (AB ?_)
 refine AQ (p := j6 (BM (v27l16 + (1 : Int)))) rfl rfl ?_
 refine wq rfl ?_
 exact ⟨(BM (v27l16 + (1 : Int))), (cq rfl), h⟩
 cases AA h
 exact CU (st1 := ⟨AY [], AY []⟩) (cq rfl) ⟨rfl, rfl⟩
theorem fG (N : Nat) (a0 : List UInt8) (r : Bool) (h : TM N a0 = some r) : Sat Tryz.prog 95 AO [.str a0] (.bool r) AO := by
 refine DK mixed Tryz.func95 Te (rs := [.bool r]) rfl rfl ?_
 refine AC (AB ?_)
 refine wq rfl ?_
 refine AC (AB ?_)
 refine wq rfl ?_
 obtain ⟨x7, hx7, h⟩ := AJ h
 refine CO rfl (CB (XE N _ _ _ hx7) rfl (.cons A8 (.cons A8 .nil)) rfl rfl rfl) ?_
 refine wq rfl ?_
 refine AC ?_
 obtain ⟨g1, hg1, h⟩ := AJ h
 refine F3 ⟨AY [(3, .str x7), (23, .bool g1)], AY []⟩ ?_ ?_
 have h := hg1
 refine AB ?_
 iterate 3 refine wq rfl ?_
 rcases BO h with ⟨c2, h⟩ | ⟨c2, h⟩
 iterate 3 refine BJ (gn rfl c2) ?_
 refine AQ rfl (BA c2 rfl rfl) ?_
 refine wq rfl ?_
 iterate 4 refine BJ rfl ?_
 iterate 2 refine BJ (gu rfl) ?_
 refine BJ rfl ?_
 refine wq rfl ?_
 obtain rfl := AA h
 exact cq rfl
 iterate 3 refine AQ (gy rfl c2) rfl ?_
 refine AQ rfl (AZ c2 rfl rfl) ?_
 refine wq rfl ?_
 rcases BO h with ⟨c3, h⟩ | ⟨c3, h⟩
 iterate 4 refine BJ (gn rfl c3) ?_
 iterate 2 refine BJ (gu rfl) ?_
 refine BJ (gn rfl c3) ?_
 refine AQ rfl (BA c3 rfl rfl) ?_
 obtain rfl := AA h
 exact cq rfl
 refine AQ (gy rfl c3) rfl ?_
 obtain ⟨E9, VU, h⟩ := AJ h
 refine AQ (gy rfl c3) (GY VU rfl rfl) ?_
 refine AQ (p := .bool (((E9).toNat : Int) == (48 : Int))) (gy rfl c3) rfl ?_
 refine AQ (gy rfl c3) rfl ?_
 rcases BO h with ⟨c4, h⟩ | ⟨c4, h⟩
 iterate 2 refine AQ (gy rfl c4) rfl ?_
 refine AQ (gy rfl c3) (BA c4 rfl rfl) ?_
 refine AQ rfl (AZ c3 rfl rfl) ?_
 cases AA h
 exact cq rfl
 iterate 2 refine BJ (gn rfl c4) ?_
 refine AQ (gy rfl c3) (AZ c4 rfl rfl) ?_
 refine AQ rfl (AZ c3 rfl rfl) ?_
 obtain rfl := AA h
 exact cq rfl
 clear hg1
 refine D5 h rfl (fun c5 h => ?_) (fun c5 h => ?_)
 refine AC (AB ?_)
 refine wq rfl ?_
 obtain rfl := AA h
 refine BR ?_
 exact ⟨nofun, rfl, rfl⟩
 refine BF ?_
 iterate 2 refine AC ?_
 refine AB ?_
 refine wq rfl ?_
 refine CO rfl (pU 152025 rfl rfl) ?_
 iterate 2 refine wq rfl ?_
 refine BZ ?_
 obtain ⟨M7, iR, h⟩ := AJ h
 refine QI (aN N x7 N _ _ iR) (cq rfl) ?_
 clear iR
 rcases M7 with M7 | M7
 rintro e s ⟨rfl, rfl⟩
 refine AC (AB ?_)
 refine wq rfl ?_
 obtain rfl := AA h
 refine BR ?_
 exact ⟨nofun, rfl, rfl⟩
 rintro e s ⟨rfl, rfl⟩
 obtain rfl := AA h
 exact ⟨nofun, rfl, rfl⟩
def sW : IC := (.seq (.seq (.reg [jm 8 7, jm 9 0, jS 10 9, jb .lss 11 8 10]) (.cond (.t 11) .skip (.exit 0))) (.seq (.block 1 (.seq (.reg [jm 14 0, jm 15 7, jn 16 (.idxs (.t 14) (.t 15))]) (.block 2 (.seq (.reg [jn 18 (.bin .eql (.t 16) (.c (.int .u8 92))), jm 17 18]) (.cond (.t 17) (.reg [jm 19 7, ju .add 20 19 1, jm 7 20]) (.seq (.reg [jm 22 1, jb .eql 23 16 22, jm 21 23]) (.cond (.t 21) (.seq (.reg [jm 24 5, jm 25 0, jm 26 6, jm 27 7, jn 28 (.slcs (.t 25) (some (.t 26)) (some (.t 27))), jn 29 (.bsl 1 [(.t 28)]), jn 30 (.app 9 1 16 (.t 24) (.t 29)), jm 5 30]) (.reg [jm 31 7, ju .add 32 31 1, jm 6 32])) .skip))))))) (.reg [jm 12 7, ju .add 13 12 1, jm 7 13])))
def k120 : IC := (.seq (.reg [jc 4 .nl]) (.seq (.reg [jc 5 .nl]) (.seq (.reg [jc 6 (j6 0)]) (.seq (.seq (.reg [jc 7 (j6 0)]) (.block 0 (.loop sW))) (.seq (.reg [jm 33 5, jm 34 0, jm 35 6, jn 36 (.slcs (.t 34) (some (.t 35)) none), jn 37 (.bsl 1 [(.t 36)]), jn 38 (.app 9 1 16 (.t 33) (.t 37)), jm 4 38]) .ret)))))
theorem Oe : BV Tryz.prog Tryz.f120 = some ⟨39, k120, [(.tmp 4)]⟩ := by kernel_rfl
theorem oW (N : Nat) (a0 : List UInt8) (a1 : UInt8) : ∀ (n : Nat) (x : Int × Int × List (List UInt8)) (y : Int × List (List UInt8)), JG N a0 a1 n x = some y → WX Tryz.prog (fun _ => false) (.loop sW) ((fun (x : Int × Int × List (List UInt8)) => ⟨AY [(0, .str a0), (1, eb a1), (5, .slr 192805 0 x.2.2.length), (6, j6 x.1), (7, j6 x.2.1)], AY [(192805, ⟨1, true, List.map PV.str x.2.2⟩)]⟩) x) ((fun y e s => e = .exit 0 ∧ s = ⟨AY [(0, .str a0), (5, .slr 192805 0 y.2.length), (6, j6 y.1)], AY [(192805, ⟨1, true, List.map PV.str y.2⟩)]⟩ : (Int × List (List UInt8)) → Xt → St → Prop) y) := by
 refine EP _ _ (JG N a0 a1) (MM N a0 a1) (fun _ => rfl) (fun _ _ => rfl) ?_
 rintro rec ⟨GD, KM, MH⟩ y h
 iterate 2 refine AC ?_
 refine AB ?_
 iterate 4 refine wq rfl ?_
 refine D5 h rfl (fun c1 h => ?_) (fun c1 h => ?_)
 refine BF ?_
 refine QJ (fun (x : Int × Int × List (List UInt8)) => ⟨AY [(0, .str a0), (1, eb a1), (5, .slr 192805 0 x.2.2.length), (6, j6 x.1), (7, j6 x.2.1)], AY [(192805, ⟨1, true, List.map PV.str x.2.2⟩)]⟩) (fun x => RZ rec x.1 x.2.1 x.2.2 = some y) ?_ ?_
 rintro ⟨jH, dD, bA⟩ h
 refine AB ?_
 refine wq rfl ?_
 refine AQ (p := j6 (BM (dD + (1 : Int)))) rfl rfl ?_
 refine wq rfl ?_
 exact ⟨(jH, (BM (dD + (1 : Int))), bA), (cq rfl), h⟩
 refine BZ (AC (AB ?_))
 iterate 2 refine wq rfl ?_
 obtain ⟨YH, hx16, h⟩ := AJ h
 refine AQ rfl (GY hx16 rfl rfl) ?_
 refine BZ (AC (AB ?_))
 refine AQ (p := .bool (((YH).toNat : Int) == (92 : Int))) rfl rfl ?_
 refine wq rfl ?_
 refine D5 h rfl (fun c2 h => ?_) (fun c2 h => ?_)
 refine AB ?_
 refine wq rfl ?_
 refine AQ (p := j6 (BM (KM + (1 : Int)))) rfl rfl ?_
 refine wq rfl ?_
 exact ⟨(GD, (BM (KM + (1 : Int))), MH), (cq rfl), h⟩
 refine AC (AB ?_)
 refine wq rfl ?_
 refine AQ (p := .bool (((YH).toNat : Int) == ((a1).toNat : Int))) rfl rfl ?_
 refine wq rfl ?_
 refine D5 h rfl (fun c3 h => ?_) (fun c3 h => ?_)
 refine AC (AB ?_)
 iterate 4 refine wq rfl ?_
 obtain ⟨x28, hx28, h⟩ := AJ h
 refine AQ rfl (nT hx28 rfl rfl rfl) ?_
 refine CO rfl (TC 192029 rfl rfl rfl) ?_
 obtain ⟨x30, wF, h⟩ := AJ h
 refine UU (f := PV.str) 192030 wF rfl rfl rfl rfl rfl (KR rfl (BQ (f := PV.str) (l := [x28]))) rfl rfl rfl rfl ?_
 refine wq rfl ?_
 refine AB ?_
 refine wq rfl ?_
 refine AQ (p := j6 (BM (KM + (1 : Int)))) rfl rfl ?_
 refine wq rfl ?_
 exact ⟨((BM (KM + (1 : Int))), KM, x30), (C8.trans (rename 192030 192805 rfl rfl) (cq rfl)), h⟩
 refine BF ?_
 exact ⟨(GD, KM, MH), (cq rfl), h⟩
 cases AA h
 exact CU (st1 := ⟨AY [(0, .str a0), (5, .slr 192805 0 MH.length), (6, j6 GD)], AY [(192805, ⟨1, true, List.map PV.str MH⟩)]⟩) (cq rfl) ⟨rfl, rfl⟩
theorem jW (N : Nat) (a0 : List UInt8) (a1 : UInt8) (r : List (List UInt8)) (h : gF N a0 a1 = some r) : Sat Tryz.prog 120 AO [.str a0, eb a1] (.sl 1 (List.map PV.str r)) AO := by
 refine DK mixed Tryz.func120 Oe (rs := [.sl 1 (List.map PV.str r)]) rfl rfl ?_
 refine AC (AB ?_)
 refine wq rfl ?_
 refine AC (AB ?_)
 refine wq rfl ?_
 refine AC (AB ?_)
 refine wq rfl ?_
 iterate 2 refine AC ?_
 refine AB ?_
 refine wq rfl ?_
 refine BZ ?_
 obtain ⟨y4, hy4, h⟩ := AJ h
 refine QI (oW N a0 a1 N _ _ hy4) (C8.trans (aJ 5 192805 1 true rfl rfl rfl) (cq rfl)) ?_
 rintro e s ⟨rfl, rfl⟩
 refine AC (AB ?_)
 iterate 3 refine wq rfl ?_
 obtain ⟨Rs, Xp, h⟩ := AJ h
 refine AQ rfl (YP Xp rfl rfl) ?_
 refine CO rfl (TC 192037 rfl rfl rfl) ?_
 obtain ⟨x38, hx38, h⟩ := AJ h
 refine UU (f := PV.str) 192038 hx38 rfl rfl rfl rfl rfl (KR rfl (BQ (f := PV.str) (l := [Rs]))) rfl rfl rfl rfl ?_
 refine wq rfl ?_
 obtain rfl := AA h
 refine DL (st1 := ⟨AY [(4, .sl 1 (List.map PV.str x38))], AY []⟩) (C8.trans (Vd.freeze 192038 _ rfl rfl rfl) (C8.trans (KP 4 (H5 (congrArg (PV.sl 1) (BQ (f := PV.str) (l := x38)))) rfl) (cq rfl))) ?_
 exact ⟨nofun, rfl, rfl⟩
end Go.Gp
end
