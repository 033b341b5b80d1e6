/- A part of the proof: functions of the program and what they compute. -/
import Derived.Test.YtlopcglohpfonaaGreatDoorA5
import Derived.Test.YtlopcglohpfonaaGreatDoorA6
import Derived.Test.YtlopcglohpfonaaGreatDoorA14
import Derived.Test.YtlopcglohpfonaaGreatDoorA9
section
set_option linter.unusedVariables false
set_option linter.unusedSimpArgs false
set_option maxRecDepth 4000
set_option maxHeartbeats 4000000
namespace Go.Gp
open Go.Vd Go.RowKit Go.Proofs
def yV : IC := (.seq (.seq (.reg [jm 44 4, jm 45 3, jb .lss 46 44 45]) (.cond (.t 46) .skip (.exit 2))) (.seq (.block 3 (.seq (.regd 11 [jm 49 0, jm 50 4, jx 51 2 49 50, ja 52 0 51, jl 53 1 52, jm 54 0, jm 55 3, jx 56 2 54 55, ja 57 0 56, jl 58 1 57, jb .eql 59 53 58]) (.cond (.t 59) (.seq (.reg [jc 2 (.bool false)]) .ret) .skip))) (.reg [jm 47 4, ju .add 48 47 1, jm 4 48])))
def yX : IC := (.seq (.seq (.reg [jm 13 3, jm 14 0, jL 15 14, jb .lss 16 13 15]) (.cond (.t 16) .skip (.exit 0))) (.seq (.block 1 (.seq (.seq (.reg [jm 19 0, jm 20 3, jx 21 2 19 20, ja 22 0 21, jl 23 1 22, jn 24 (.call 81 [(.t 23)]), jn 25 (.un .not (.t 24)), jm 26 25, jf 26 27 (.mov (.t 0)), jf 26 28 (.mov (.t 3)), jf 26 29 (.ixp 2 (.t 27) (.t 28)), jf 26 30 (.fda 1 (.t 29)), jf 26 31 (.load 1 false (.t 30)), jf 26 32 (.len true (.t 31)), jf 26 33 (.bin .lss (.t 32) (ji 1)), jo 34 26 33, jm 35 34, jf 35 36 (.mov (.t 0)), jf 35 37 (.mov (.t 3)), jf 35 38 (.ixp 2 (.t 36) (.t 37)), jf 35 39 (.fda 1 (.t 38)), jf 35 40 (.load 1 false (.t 39)), jf 35 41 (.len true (.t 40)), jf 35 42 (.bin .gtr (.t 41) (ji 60)), jo 43 35 42]) (.cond (.t 43) (.seq (.reg [jc 2 (.bool false)]) .ret) .skip)) (.seq (.reg [jc 4 (j6 0)]) (.block 2 (.loop yV))))) (.reg [jm 17 3, ju .add 18 17 1, jm 3 18])))
def k61 : IC := (.seq (.reg [jc 2 (.bool false)]) (.seq (.seq (.reg [jm 5 0, jL 6 5, ju .lss 7 6 1, jm 8 7, jf 8 9 (.mov (.t 0)), jf 8 10 (.len false (.t 9)), jf 8 11 (.bin .gtr (.t 10) (ji 4)), jo 12 8 11]) (.cond (.t 12) (.seq (.reg [jc 2 (.bool false)]) .ret) .skip)) (.seq (.seq (.reg [jc 3 (j6 0)]) (.block 0 (.loop yX))) (.seq (.reg [jc 2 (.bool true)]) .ret))))
theorem Uk : BV Tryz.prog Tryz.f61 = some ⟨60, k61, [(.tmp 2)]⟩ := by kernel_rfl
theorem VZ (N : Nat) (a0 : List AL) (v3l14 : Int) : ∀ (n : Nat) (x : Int) (y : Unit ⊕ Bool), FO N a0 v3l14 n x = some y → WX Tryz.prog (fun _ => false) (.loop yV) ((fun (x : Int) => ⟨AY [(0, .sl 2 (List.map AV a0)), (3, j6 v3l14), (4, j6 x)], AY []⟩) x) ((Sum.elim (fun y e s => e = .exit 2 ∧ s = ⟨AY [(0, .sl 2 (List.map AV a0)), (3, j6 v3l14)], AY []⟩) (fun y e s => e = .ret ∧ s = ⟨AY [(2, .bool y)], AY []⟩) : (Unit ⊕ Bool) → Xt → St → Prop) y) := by
 refine EP _ _ (FO N a0 v3l14) (J7 N a0 v3l14) (fun _ => rfl) (fun _ _ => rfl) ?_
 rintro rec v4l34 y h
 iterate 2 refine AC ?_
 refine AB ?_
 iterate 3 refine wq rfl ?_
 refine D5 h rfl (fun c9 h => ?_) (fun c9 h => ?_)
 refine BF (AC (BZ (AC (P6 ?_))))
 iterate 2 refine dq rfl ?_
 obtain ⟨Lv, Xm, h⟩ := AJ h
 refine JN rfl (DF (cs := [.str Lv.Attr, .str Lv.Value]) Xm rfl rfl rfl) ?_
 refine JN (p := .ep [.str Lv.Attr, .str Lv.Value]) rfl rfl ?_
 iterate 3 refine dq rfl ?_
 obtain ⟨Lu, Xk, h⟩ := AJ h
 refine JN rfl (DF (cs := [.str Lu.Attr, .str Lu.Value]) Xk rfl rfl rfl) ?_
 refine JN (p := .ep [.str Lu.Attr, .str Lu.Value]) rfl rfl ?_
 iterate 2 refine dq rfl ?_
 refine D5 h rfl (fun c10 h => ?_) (fun c10 h => ?_)
 refine AC (AB ?_)
 refine wq rfl ?_
 obtain rfl := AA h
 exact DL (st1 := ⟨AY [(2, .bool false)], AY []⟩) (cq rfl) ⟨rfl, rfl⟩
 refine BF (AB ?_)
 refine wq rfl ?_
 refine AQ (p := j6 (BM (v4l34 + (1 : Int)))) rfl rfl ?_
 refine wq rfl ?_
 exact ⟨(BM (v4l34 + (1 : Int))), (cq rfl), h⟩
 cases AA h
 exact CU (st1 := ⟨AY [(0, .sl 2 (List.map AV a0)), (3, j6 v3l14)], AY []⟩) (cq rfl) ⟨rfl, rfl⟩
theorem W9 (N : Nat) (a0 : List AL) : ∀ (n : Nat) (x : Int) (y : Unit ⊕ Bool), FP N a0 n x = some y → WX Tryz.prog (fun _ => false) (.loop yX) ((fun (x : Int) => ⟨AY [(0, .sl 2 (List.map AV a0)), (3, j6 x)], AY []⟩) x) ((Sum.elim (fun y e s => e = .exit 0 ∧ s = ⟨AY [], AY []⟩) (fun y e s => e = .ret ∧ s = ⟨AY [(2, .bool y)], AY []⟩) : (Unit ⊕ Bool) → Xt → St → Prop) y) := by
 refine EP _ _ (FP N a0) (J8 N a0) (fun _ => rfl) (fun _ _ => rfl) ?_
 rintro rec v3l14 y h
 iterate 2 refine AC ?_
 refine AB ?_
 iterate 2 refine wq rfl ?_
 refine AQ rfl (BU rfl) ?_
 refine wq rfl ?_
 refine D5 h rfl (fun c4 h => ?_) (fun c4 h => ?_)
 refine BF (AC (BZ (AC ?_)))
 obtain ⟨g5, hg5, h⟩ := AJ h
 refine F3 ⟨AY [(0, .sl 2 (List.map AV a0)), (3, j6 v3l14), (43, .bool g5)], AY []⟩ ?_ ?_
 have h := hg5
 refine AB ?_
 iterate 2 refine wq rfl ?_
 obtain ⟨VF, YU, h⟩ := AJ h
 refine AQ rfl (DF (cs := [.str VF.Attr, .str VF.Value]) YU rfl rfl rfl) ?_
 refine AQ (p := .ep [.str VF.Attr, .str VF.Value]) rfl rfl ?_
 refine wq rfl ?_
 obtain ⟨x24, hx24, h⟩ := AJ h
 refine CO rfl (CB (XF N _ _ hx24) rfl (.cons A8 .nil) rfl rfl rfl) ?_
 iterate 2 refine wq rfl ?_
 rcases BO h with ⟨c6, h⟩ | ⟨c6, h⟩
 iterate 7 refine BJ (gn rfl c6) ?_
 refine AQ rfl (BA c6 rfl rfl) ?_
 refine wq rfl ?_
 iterate 7 refine BJ rfl ?_
 refine wq rfl ?_
 obtain rfl := AA h
 exact cq rfl
 iterate 2 refine AQ (gy rfl c6) rfl ?_
 obtain ⟨x29, hx29, h⟩ := AJ h
 refine AQ (gy rfl c6) (DF (cs := [.str x29.Attr, .str x29.Value]) hx29 rfl rfl rfl) ?_
 refine AQ (p := .ep [.str x29.Value]) (gy rfl c6) rfl ?_
 iterate 3 refine AQ (gy rfl c6) rfl ?_
 refine AQ rfl (AZ c6 rfl rfl) ?_
 refine wq rfl ?_
 rcases BO h with ⟨c7, h⟩ | ⟨c7, h⟩
 iterate 7 refine BJ (gn rfl c7) ?_
 refine AQ rfl (BA c7 rfl rfl) ?_
 obtain rfl := AA h
 exact cq rfl
 iterate 2 refine AQ (gy rfl c7) rfl ?_
 obtain ⟨x38, hx38, h⟩ := AJ h
 refine AQ (gy rfl c7) (DF (cs := [.str x38.Attr, .str x38.Value]) hx38 rfl rfl rfl) ?_
 refine AQ (p := .ep [.str x38.Value]) (gy rfl c7) rfl ?_
 iterate 3 refine AQ (gy rfl c7) rfl ?_
 refine AQ rfl (AZ c7 rfl rfl) ?_
 cases AA h
 exact cq rfl
 clear hg5
 refine D5 h rfl (fun c8 h => ?_) (fun c8 h => ?_)
 refine AC (AB ?_)
 refine wq rfl ?_
 obtain rfl := AA h
 exact DL (st1 := ⟨AY [(2, .bool false)], AY []⟩) (cq rfl) ⟨rfl, rfl⟩
 refine BF (AC (AB ?_))
 refine wq rfl ?_
 refine BZ ?_
 obtain ⟨Dj, Ou, h⟩ := AJ h
 refine QI (VZ N a0 v3l14 N _ _ Ou) (cq rfl) ?_
 clear Ou
 rcases Dj with Dj | Dj
 rintro e s ⟨rfl, rfl⟩
 refine AB ?_
 refine wq rfl ?_
 refine AQ (p := j6 (BM (v3l14 + (1 : Int)))) rfl rfl ?_
 refine wq rfl ?_
 exact ⟨(BM (v3l14 + (1 : Int))), (cq rfl), h⟩
 rintro e s ⟨rfl, rfl⟩
 obtain rfl := AA h
 exact ⟨rfl, rfl⟩
 cases AA h
 exact CU (st1 := ⟨AY [], AY []⟩) (cq rfl) ⟨rfl, rfl⟩
theorem NH (N : Nat) (a0 : List AL) (r : Bool) (h : J9 N a0 = some r) : Sat Tryz.prog 61 AO [.sl 2 (List.map AV a0)] (.bool r) AO := by
 refine DK mixed Tryz.func61 Uk (rs := [.bool r]) rfl rfl ?_
 refine AC (AB ?_)
 refine wq rfl ?_
 refine AC ?_
 obtain ⟨g1, hg1, h⟩ := AJ h
 refine F3 ⟨AY [(0, .sl 2 (List.map AV a0)), (12, .bool g1)], AY []⟩ ?_ ?_
 have h := hg1
 refine AB ?_
 refine wq rfl ?_
 refine AQ rfl (BU rfl) ?_
 iterate 2 refine wq rfl ?_
 rcases BO h with ⟨c2, h⟩ | ⟨c2, h⟩
 iterate 3 refine BJ (gn rfl c2) ?_
 refine AQ rfl (BA c2 rfl rfl) ?_
 obtain rfl := AA h
 exact cq rfl
 refine AQ (gy rfl c2) rfl ?_
 refine AQ (gy rfl c2) (BU rfl) ?_
 refine AQ (gy rfl c2) rfl ?_
 refine AQ rfl (AZ c2 rfl rfl) ?_
 cases AA h
 exact cq rfl
 clear hg1
 refine D5 h rfl (fun c3 h => ?_) (fun c3 h => ?_)
 refine AC (AB ?_)
 refine wq rfl ?_
 obtain rfl := AA h
 refine BR ?_
 exact ⟨nofun, rfl, rfl⟩
 refine BF ?_
 iterate 2 refine AC ?_
 refine AB ?_
 refine wq rfl ?_
 refine BZ ?_
 obtain ⟨qY, Ia, h⟩ := AJ h
 refine QI (W9 N a0 N _ _ Ia) (cq rfl) ?_
 clear Ia
 rcases qY with qY | qY
 rintro e s ⟨rfl, rfl⟩
 refine AC (AB ?_)
 refine wq rfl ?_
 obtain rfl := AA h
 refine BR ?_
 exact ⟨nofun, rfl, rfl⟩
 rintro e s ⟨rfl, rfl⟩
 obtain rfl := AA h
 exact ⟨nofun, rfl, rfl⟩
def k84 : IC := (.seq (.reg [jc 0 .nl]) (.seq (.reg [jn 1 (.build [(.str []), (j6 0), (.bool false)] [(0, (1, (.c (.str [97, 99, 105])))), (1, (1, (ji 2)))]), jn 2 (.build [(.str []), (j6 0), (.bool false)] [(0, (1, (.c (.str [99])))), (1, (1, (ji 1))), (2, (1, jB))]), jn 3 (.build [(.str []), (j6 0), (.bool false)] [(0, (1, (.c (.str [99, 110])))), (1, (1, (ji 1)))]), jn 4 (.build [(.str []), (j6 0), (.bool false)] [(0, (1, (.c (.str [100, 99])))), (1, (1, (ji 1)))]), jn 5 (.build [(.str []), (j6 0), (.bool false)] [(0, (1, (.c (.str [100, 101, 115, 99, 114, 105, 112, 116, 105, 111, 110])))), (1, (1, (ji 1)))]), jn 6 (.build [(.str []), (j6 0), (.bool false)] [(0, (1, (.c (.str [101, 110, 116, 114, 121, 105, 100])))), (1, (1, (ji 2))), (2, (1, jB))]), jn 7 (.build [(.str []), (j6 0), (.bool false)] [(0, (1, (.c (.str [109, 97, 105, 108])))), (1, (1, (ji 2)))]), jn 8 (.build [(.str []), (j6 0), (.bool false)] [(0, (1, (.c (.str [109, 101, 109, 98, 101, 114])))), (1, (1, (ji 5)))]), jn 9 (.build [(.str []), (j6 0), (.bool false)] [(0, (1, (.c (.str [111])))), (1, (1, (ji 1)))]), jn 10 (.build [(.str []), (j6 0), (.bool false)] [(0, (1, (.c (.str [111, 117])))), (1, (1, (ji 1)))]), jn 11 (.build [(.str []), (j6 0), (.bool false)] [(0, (1, (.c (.str [115, 110])))), (1, (1, (ji 1)))]), jn 12 (.build [(.str []), (j6 0), (.bool false)] [(0, (1, (.c (.str [116, 105, 116, 108, 101])))), (1, (1, (ji 1))), (2, (1, jB))]), jn 13 (.build [(.str []), (j6 0), (.bool false)] [(0, (1, (.c (.str [117, 105, 100])))), (1, (1, (ji 1)))]), jn 14 (.build [(.str []), (j6 0), (.bool false)] [(0, (1, (.c (.str [117, 105, 100, 110, 117, 109, 98, 101, 114])))), (1, (1, (ji 3))), (2, (1, jB))]), jn 15 (.build [(.str []), (j6 0), (.bool false)] [(0, (1, (.c (.str [117, 115, 101, 114, 112, 97, 115, 115, 119, 111, 114, 100])))), (1, (1, (ji 4)))]), jn 16 (.bsl 3 [(.t 1), (.t 2), (.t 3), (.t 4), (.t 5), (.t 6), (.t 7), (.t 8), (.t 9), (.t 10), (.t 11), (.t 12), (.t 13), (.t 14), (.t 15)]), jm 0 16]) .ret))
theorem Tn : BV Tryz.prog Tryz.f84 = some ⟨17, k84, [(.tmp 0)]⟩ := by kernel_rfl
theorem ZY (N : Nat)  (r : List BB) (h : TB N  = some r) : Sat Tryz.prog 84 AO [] (.sl 3 (List.map CG r)) AO := by
 refine DK mixed Tryz.func84 Tn (rs := [.sl 3 (List.map CG r)]) rfl rfl ?_
 refine AC (AB ?_)
 refine wq rfl ?_
 refine AC (AB ?_)
 refine AQ (p := .agg [.str ([97, 99, 105] : List UInt8), j6 2, .bool false]) rfl rfl ?_
 refine AQ (p := .agg [.str ([99] : List UInt8), j6 1, .bool true]) rfl rfl ?_
 refine AQ (p := .agg [.str ([99, 110] : List UInt8), j6 1, .bool false]) rfl rfl ?_
 refine AQ (p := .agg [.str ([100, 99] : List UInt8), j6 1, .bool false]) rfl rfl ?_
 refine AQ (p := .agg [.str ([100, 101, 115, 99, 114, 105, 112, 116, 105, 111, 110] : List UInt8), j6 1, .bool false]) rfl rfl ?_
 refine AQ (p := .agg [.str ([101, 110, 116, 114, 121, 105, 100] : List UInt8), j6 2, .bool true]) rfl rfl ?_
 refine AQ (p := .agg [.str ([109, 97, 105, 108] : List UInt8), j6 2, .bool false]) rfl rfl ?_
 refine AQ (p := .agg [.str ([109, 101, 109, 98, 101, 114] : List UInt8), j6 5, .bool false]) rfl rfl ?_
 refine AQ (p := .agg [.str ([111] : List UInt8), j6 1, .bool false]) rfl rfl ?_
 refine AQ (p := .agg [.str ([111, 117] : List UInt8), j6 1, .bool false]) rfl rfl ?_
 refine AQ (p := .agg [.str ([115, 110] : List UInt8), j6 1, .bool false]) rfl rfl ?_
 refine AQ (p := .agg [.str ([116, 105, 116, 108, 101] : List UInt8), j6 1, .bool true]) rfl rfl ?_
 refine AQ (p := .agg [.str ([117, 105, 100] : List UInt8), j6 1, .bool false]) rfl rfl ?_
 refine AQ (p := .agg [.str ([117, 105, 100, 110, 117, 109, 98, 101, 114] : List UInt8), j6 3, .bool true]) rfl rfl ?_
 refine AQ (p := .agg [.str ([117, 115, 101, 114, 112, 97, 115, 115, 119, 111, 114, 100] : List UInt8), j6 4, .bool false]) rfl rfl ?_
 refine CO rfl (TC 134416 rfl rfl rfl) ?_
 refine wq rfl ?_
 cases AA h
 refine DL (st1 := ⟨AY [(0, .sl 3 (List.map CG [(⟨([97, 99, 105] : List UInt8), 2, false⟩ : BB), (⟨([99] : List UInt8), 1, true⟩ : BB), (⟨([99, 110] : List UInt8), 1, false⟩ : BB), (⟨([100, 99] : List UInt8), 1, false⟩ : BB), (⟨([100, 101, 115, 99, 114, 105, 112, 116, 105, 111, 110] : List UInt8), 1, false⟩ : BB), (⟨([101, 110, 116, 114, 121, 105, 100] : List UInt8), 2, true⟩ : BB), (⟨([109, 97, 105, 108] : List UInt8), 2, false⟩ : BB), (⟨([109, 101, 109, 98, 101, 114] : List UInt8), 5, false⟩ : BB), (⟨([111] : List UInt8), 1, false⟩ : BB), (⟨([111, 117] : List UInt8), 1, false⟩ : BB), (⟨([115, 110] : List UInt8), 1, false⟩ : BB), (⟨([116, 105, 116, 108, 101] : List UInt8), 1, true⟩ : BB), (⟨([117, 105, 100] : List UInt8), 1, false⟩ : BB), (⟨([117, 105, 100, 110, 117, 109, 98, 101, 114] : List UInt8), 3, true⟩ : BB), (⟨([117, 115, 101, 114, 112, 97, 115, 115, 119, 111, 114, 100] : List UInt8), 4, false⟩ : BB)]))], AY []⟩) (C8.trans (Vd.freeze 134416 _ rfl rfl rfl) (C8.trans (KP 0 (H5 (congrArg (PV.sl 3) (BQ (f := CG) (l := [(⟨([97, 99, 105] : List UInt8), 2, false⟩ : BB), (⟨([99] : List UInt8), 1, true⟩ : BB), (⟨([99, 110] : List UInt8), 1, false⟩ : BB), (⟨([100, 99] : List UInt8), 1, false⟩ : BB), (⟨([100, 101, 115, 99, 114, 105, 112, 116, 105, 111, 110] : List UInt8), 1, false⟩ : BB), (⟨([101, 110, 116, 114, 121, 105, 100] : List UInt8), 2, true⟩ : BB), (⟨([109, 97, 105, 108] : List UInt8), 2, false⟩ : BB), (⟨([109, 101, 109, 98, 101, 114] : List UInt8), 5, false⟩ : BB), (⟨([111] : List UInt8), 1, false⟩ : BB), (⟨([111, 117] : List UInt8), 1, false⟩ : BB), (⟨([115, 110] : List UInt8), 1, false⟩ : BB), (⟨([116, 105, 116, 108, 101] : List UInt8), 1, true⟩ : BB), (⟨([117, 105, 100] : List UInt8), 1, false⟩ : BB), (⟨([117, 105, 100, 110, 117, 109, 98, 101, 114] : List UInt8), 3, true⟩ : BB), (⟨([117, 115, 101, 114, 112, 97, 115, 115, 119, 111, 114, 100] : List UInt8), 4, false⟩ : BB)])))) rfl) (cq rfl))) ?_
 exact ⟨nofun, rfl, rfl⟩
def Gq : IC := (.seq (.seq (.reg [jm 7 4, jm 8 3, jL 9 8, jb .lss 10 7 9]) (.cond (.t 10) .skip (.exit 0))) (.seq (.block 1 (.seq (.reg [jm 13 3, jm 14 4, jx 15 1 13 14, jl 16 1 15, jn 17 (.bin .geq (.t 16) (.c (.int .u8 65))), jm 18 17, jt 18 19 (.mov (.t 3)), jt 18 20 (.mov (.t 4)), jt 18 21 (.ixp 1 (.t 19) (.t 20)), jt 18 22 (.load 1 false (.t 21)), jt 18 23 (.bin .leq (.t 22) (.c (.int .u8 90))), jp 24 18 23]) (.cond (.t 24) (.reg [jm 25 3, jm 26 4, jm 27 3, jm 28 4, jx 29 1 27 28, jl 30 1 29, jn 31 (.bin .add (.t 30) (.c (.int .u8 32))), jx 32 1 25 26, js 1 32 31]) .skip))) (.reg [jm 11 4, ju .add 12 11 1, jm 4 12])))
def k85 : IC := (.seq (.reg [jc 2 (.str [])]) (.seq (.reg [jm 5 0, jn 6 (.cvs (.t 5)), jm 3 6]) (.seq (.seq (.reg [jc 4 (j6 0)]) (.block 0 (.loop Gq))) (.seq (.reg [jm 33 3, jn 34 (.cvb (.t 33)), jm 2 34]) .ret))))
theorem Tm : BV Tryz.prog Tryz.f85 = some ⟨35, k85, [(.tmp 2)]⟩ := by kernel_rfl
theorem X5 (N : Nat) : ∀ (n : Nat) (x : Int × List UInt8) (y : List UInt8), FB N n x = some y → WX Tryz.prog (fun _ => false) (.loop Gq) ((fun (x : Int × List UInt8) => ⟨AY [(3, .slr 136006 0 x.2.length), (4, j6 x.1)], AY [(136006, ⟨1, true, List.map eb x.2⟩)]⟩) x) ((fun y e s => e = .exit 0 ∧ s = ⟨AY [(3, .slr 136006 0 y.length)], AY [(136006, ⟨1, true, List.map eb y⟩)]⟩ : (List UInt8) → Xt → St → Prop) y) := by
 refine EP _ _ (FB N) (JR N) (fun _ => rfl) (fun _ _ => rfl) ?_
 rintro rec ⟨aS, FL⟩ y h
 iterate 2 refine AC ?_
 refine AB ?_
 iterate 4 refine wq rfl ?_
 refine D5 h rfl (fun c1 h => ?_) (fun c1 h => ?_)
 refine BF ?_
 refine QJ (fun (x : List UInt8) => ⟨AY [(3, .slr 136006 0 x.length), (4, j6 aS)], AY [(136006, ⟨1, true, List.map eb x⟩)]⟩) (fun x => KE aS rec x = some y) ?_ ?_
 rintro bC h
 refine AB ?_
 refine wq rfl ?_
 refine AQ (p := j6 (BM (aS + (1 : Int)))) rfl rfl ?_
 refine wq rfl ?_
 exact ⟨((BM (aS + (1 : Int))), bC), (cq rfl), h⟩
 refine BZ ?_
 obtain ⟨g2, hg2, h⟩ := AJ h
 refine F3 ⟨AY [(3, .slr 136006 0 FL.length), (4, j6 aS), (24, .bool g2)], AY [(136006, ⟨1, true, List.map eb FL⟩)]⟩ ?_ ?_
 have h := hg2
 refine AB ?_
 iterate 2 refine wq rfl ?_
 obtain ⟨NK, RX, h⟩ := AJ h
 refine AQ rfl (PE RX rfl rfl rfl rfl) ?_
 obtain ⟨YH, hx16, h⟩ := AJ h
 refine AQ rfl (UE (f := eb) (v := eb YH) hx16 rfl rfl rfl) ?_
 refine AQ (p := .bool (decide (((YH).toNat : Int) ≥ (65 : Int)))) rfl rfl ?_
 refine wq rfl ?_
 rcases BO h with ⟨c3, h⟩ | ⟨c3, h⟩
 iterate 2 refine AQ (gy rfl c3) rfl ?_
 obtain ⟨VF, YU, h⟩ := AJ h
 refine AQ (gy rfl c3) (PE YU rfl rfl rfl rfl) ?_
 obtain ⟨WY, YT, h⟩ := AJ h
 refine AQ (gy rfl c3) (UE (f := eb) (v := eb WY) YT rfl rfl rfl) ?_
 refine AQ (p := .bool (decide (((WY).toNat : Int) ≤ (90 : Int)))) (gy rfl c3) rfl ?_
 refine AQ rfl (BA c3 rfl rfl) ?_
 cases AA h
 exact cq rfl
 iterate 5 refine BJ (gn rfl c3) ?_
 refine AQ rfl (AZ c3 rfl rfl) ?_
 obtain rfl := AA h
 exact cq rfl
 clear hg2
 refine D5 h rfl (fun c4 h => ?_) (fun c4 h => ?_)
 refine AB ?_
 iterate 4 refine wq rfl ?_
 obtain ⟨x29, hx29, h⟩ := AJ h
 refine AQ rfl (PE hx29 rfl rfl rfl rfl) ?_
 obtain ⟨x30, wF, h⟩ := AJ h
 refine AQ rfl (UE (f := eb) (v := eb x30) wF rfl rfl rfl) ?_
 refine AQ rfl (yC (a := x30) (b := (32 : UInt8)) rfl rfl) ?_
 obtain ⟨x32, hx32, h⟩ := AJ h
 refine AQ rfl (PE hx32 rfl rfl rfl rfl) ?_
 obtain ⟨qZ, l9, h⟩ := AJ h
 refine Af (f := eb) (e' := (x30 + (32 : UInt8))) l9 rfl rfl rfl rfl rfl rfl rfl rfl (fun _ => rfl) rfl ?_
 exact ⟨(FL.set x32 (x30 + (32 : UInt8))), (C8.trans (KP 3 (H5 (congrArg (PV.slr 136006 0) (by simp only [List.length_set, List.length_replicate] : FL.length = (FL.set x32 (x30 + (32 : UInt8))).length))) rfl) (cq rfl)), h⟩
 refine BF ?_
 exact ⟨FL, (cq rfl), h⟩
 obtain rfl := AA h
 exact CU (st1 := ⟨AY [(3, .slr 136006 0 FL.length)], AY [(136006, ⟨1, true, List.map eb FL⟩)]⟩) (cq rfl) ⟨rfl, rfl⟩
theorem RL (N : Nat) (a0 : List UInt8) (r : List UInt8) (h : KY N a0 = some r) : Sat Tryz.prog 85 AO [.str a0] (.str r) AO := by
 refine DK mixed Tryz.func85 Tm (rs := [.str r]) rfl rfl ?_
 refine AC (AB ?_)
 refine wq rfl ?_
 refine AC (AB ?_)
 refine wq rfl ?_
 refine CO rfl (pU 136006 rfl rfl) ?_
 refine wq rfl ?_
 iterate 2 refine AC ?_
 refine AB ?_
 refine wq rfl ?_
 refine BZ ?_
 obtain ⟨y6, uO, h⟩ := AJ h
 refine QI (X5 N N _ _ uO) (cq rfl) ?_
 rintro e s ⟨rfl, rfl⟩
 refine AC (AB ?_)
 refine wq rfl ?_
 refine AQ rfl (UF (l := y6) rfl rfl (BQ (f := eb) (l := y6))) ?_
 refine wq rfl ?_
 obtain rfl := AA h
 refine BR ?_
 exact ⟨nofun, rfl, rfl⟩
def Gt : IC := (.seq (.seq (.reg [jm 7 5, jm 8 4, jL 9 8, jb .lss 10 7 9]) (.cond (.t 10) .skip (.exit 0))) (.seq (.block 1 (.seq (.regd 8 [jm 13 4, jm 14 5, jx 15 3 13 14, ja 16 0 15, jl 17 1 16, jm 18 0, jn 19 (.call 85 [(.t 18)]), jb .eql 20 17 19]) (.cond (.t 20) (.seq (.reg [jm 21 4, jm 22 5, jx 23 3 21 22, jg 24 3 23, js 3 2 24, jc 3 (.bool true)]) .ret) .skip))) (.reg [jm 11 5, ju .add 12 11 1, jm 5 12])))
def k63 : IC := (.seq (.reg [jn 2 (.box 90 (.c (.agg [(.str []), (j6 0), (.bool false)]))), jc 3 (.bool false)]) (.seq (.reg [jn 6 (.call 84 []), jm 4 6]) (.seq (.seq (.reg [jc 5 (j6 0)]) (.block 0 (.loop Gt))) (.seq (.reg [jn 25 (.build [(.str []), (j6 0), (.bool false)] []), js 3 2 25, jc 3 (.bool false)]) .ret))))
theorem Ui : BV Tryz.prog Tryz.f63 = some ⟨26, k63, [(.cell 3 true 2), (.tmp 3)]⟩ := by kernel_rfl
theorem Y9 (N : Nat) (a0 : List UInt8) (x6 : List BB) : ∀ (n : Nat) (x : Int) (y : Unit ⊕ (BB × Bool)), GJ N a0 x6 n x = some y → WX Tryz.prog (fun _ => false) (.loop Gt) ((fun (x : Int) => ⟨AY [(0, .str a0), (2, .ptr 100802 0 0), (4, .sl 3 (List.map CG x6)), (5, j6 x)], AY [(100802, ⟨3, false, [.agg [.str ([] : List UInt8), j6 0, .bool false]]⟩)]⟩) x) ((Sum.elim (fun y e s => e = .exit 0 ∧ s = ⟨AY [(2, .ptr 100802 0 0)], AY [(100802, ⟨3, false, [.agg [.str ([] : List UInt8), j6 0, .bool false]]⟩)]⟩) (fun y e s => e = .ret ∧ s = ⟨AY [(2, .ptr 100802 0 0), (3, .bool y.2)], AY [(100802, ⟨3, false, [CG y.1]⟩)]⟩) : (Unit ⊕ (BB × Bool)) → Xt → St → Prop) y) := by
 refine EP _ _ (GJ N a0 x6) (KF N a0 x6) (fun _ => rfl) (fun _ _ => rfl) ?_
 rintro rec v5l8 y h
 iterate 2 refine AC ?_
 refine AB ?_
 iterate 2 refine wq rfl ?_
 refine AQ rfl (BU rfl) ?_
 refine wq rfl ?_
 refine D5 h rfl (fun c1 h => ?_) (fun c1 h => ?_)
 refine BF (AC (BZ (AC (P6 ?_))))
 iterate 2 refine dq rfl ?_
 obtain ⟨NK, RX, h⟩ := AJ h
 refine JN rfl (DF (cs := [.str NK.Name, j6 NK.Syntax, .bool NK.Single]) RX rfl rfl rfl) ?_
 refine JN (p := .ep [.str NK.Name, j6 NK.Syntax, .bool NK.Single]) rfl rfl ?_
 iterate 2 refine dq rfl ?_
 obtain ⟨QG, YV, h⟩ := AJ h
 refine VG rfl (PD (RL N _ _ YV) rfl (.cons A8 .nil) rfl rfl rfl) CZ ?_
 refine dq rfl ?_
 refine D5 h rfl (fun c2 h => ?_) (fun c2 h => ?_)
 refine AC (AB ?_)
 iterate 2 refine wq rfl ?_
 obtain ⟨XY, gB, h⟩ := AJ h
 refine AQ rfl (DF (cs := [.str XY.Name, j6 XY.Syntax, .bool XY.Single]) gB rfl rfl rfl) ?_
 refine AQ (p := CG XY) rfl rfl ?_
 refine EW (e' := CG XY) rfl rfl rfl rfl rfl rfl rfl rfl nofun rfl ?_
 refine wq rfl ?_
 cases AA h
 exact DL (st1 := ⟨AY [(2, .ptr 100802 0 0), (3, .bool true)], AY [(100802, ⟨3, false, [CG XY]⟩)]⟩) (cq rfl) ⟨rfl, rfl⟩
 refine BF (AB ?_)
 refine wq rfl ?_
 refine AQ (p := j6 (BM (v5l8 + (1 : Int)))) rfl rfl ?_
 refine wq rfl ?_
 exact ⟨(BM (v5l8 + (1 : Int))), (cq rfl), h⟩
 cases AA h
 exact CU (st1 := ⟨AY [(2, .ptr 100802 0 0)], AY [(100802, ⟨3, false, [.agg [.str ([] : List UInt8), j6 0, .bool false]]⟩)]⟩) (cq rfl) ⟨rfl, rfl⟩
theorem SN (N : Nat) (a0 : List UInt8) (r : BB × Bool) (h : M0 N a0 = some r) : Sat Tryz.prog 63 AO [.str a0] (.tup [CG r.1, .bool r.2]) AO := by
 refine DK mixed Tryz.func63 Ui (rs := [CG r.1, .bool r.2]) rfl rfl ?_
 refine AC (AB ?_)
 refine CO rfl (G5 100802 rfl rfl rfl rfl rfl) ?_
 refine wq rfl ?_
 refine AC (AB ?_)
 obtain ⟨x6, hx6, h⟩ := AJ h
 refine CO rfl (CB (ZY N _ hx6) rfl .nil rfl rfl rfl) ?_
 refine wq rfl ?_
 iterate 2 refine AC ?_
 refine AB ?_
 refine wq rfl ?_
 refine BZ ?_
 obtain ⟨y3, hy3, h⟩ := AJ h
 refine QI (Y9 N a0 x6 N _ _ hy3) (cq rfl) ?_
 clear hy3
 rcases y3 with y3 | y3
 rintro e s ⟨rfl, rfl⟩
 refine AC (AB ?_)
 refine AQ (p := .agg [.str ([] : List UInt8), j6 0, .bool false]) rfl rfl ?_
 refine EW (e' := .agg [.str ([] : List UInt8), j6 0, .bool false]) rfl rfl rfl rfl rfl rfl rfl rfl nofun rfl ?_
 refine wq rfl ?_
 cases AA h
 refine BR ?_
 exact ⟨nofun, rfl, rfl⟩
 rintro e s ⟨rfl, rfl⟩
 cases AA h
 exact ⟨nofun, rfl, rfl⟩
def yR : IC := (.seq (.seq (.reg [jm 36 4, jm 37 3, jS 38 37, jb .lss 39 36 38]) (.cond (.t 39) .skip (.exit 0))) (.seq (.block 1 (.seq (.reg [jm 42 3, jm 43 4, jn 44 (.idxs (.t 42) (.t 43)), jn 45 (.bin .lss (.t 44) (.c (.int .u8 48))), jm 46 45, jf 46 47 (.mov (.t 3)), jf 46 48 (.mov (.t 4)), jf 46 49 (.idxs (.t 47) (.t 48)), jf 46 50 (.bin .gtr (.t 49) (.c (.int .u8 57))), jo 51 46 50]) (.cond (.t 51) (.seq (.reg [jc 2 (.bool false)]) .ret) .skip))) (.reg [jm 40 4, ju .add 41 40 1, jm 4 41])))
def k82 : IC := (.seq (.reg [jc 2 (.bool false)]) (.seq (.reg [jm 5 0, jm 3 5]) (.seq (.seq (.reg [jm 6 3, jS 7 6, ju .gtr 8 7 0, jm 9 8, jt 9 10 (.mov (.t 3)), jt 9 11 (.idxs (.t 10) (ji 0)), jt 9 12 (.bin .eql (.t 11) (.c (.int .u8 45))), jp 13 9 12]) (.cond (.t 13) (.seq (.reg [jm 14 3, jn 15 (.slcs (.t 14) (some (ji 1)) none), jm 3 15]) (.seq (.reg [jm 16 3, jn 17 (.bin .eql (.t 16) (.c (.str [48])))]) (.cond (.t 17) (.seq (.reg [jc 2 (.bool false)]) .ret) .skip))) .skip)) (.seq (.seq (.reg [jm 18 3, jS 19 18, ju .lss 20 19 1, jm 21 20, jf 21 22 (.mov (.t 3)), jf 21 23 (.len true (.t 22)), jf 21 24 (.bin .gtr (.t 23) (ji 15)), jo 25 21 24, jm 26 25, jf 26 27 (.mov (.t 3)), jf 26 28 (.len true (.t 27)), jf 26 29 (.bin .gtr (.t 28) (ji 1)), jf 26 30 (.mov (.t 29)), jt 30 31 (.mov (.t 3)), jt 30 32 (.idxs (.t 31) (ji 0)), jt 30 33 (.bin .eql (.t 32) (.c (.int .u8 48))), jf 26 34 (.pick (.t 30) (.t 33) jA), jo 35 26 34]) (.cond (.t 35) (.seq (.reg [jc 2 (.bool false)]) .ret) .skip)) (.seq (.seq (.reg [jc 4 (j6 0)]) (.block 0 (.loop yR))) (.seq (.reg [jc 2 (.bool true)]) .ret))))))
theorem Tq : BV Tryz.prog Tryz.f82 = some ⟨52, k82, [(.tmp 2)]⟩ := by kernel_rfl
theorem WA (N : Nat) (VK : List UInt8) : ∀ (n : Nat) (x : Int) (y : Unit ⊕ Bool), FQ N VK n x = some y → WX Tryz.prog (fun _ => false) (.loop yR) ((fun (x : Int) => ⟨AY [(3, .str VK), (4, j6 x)], AY []⟩) x) ((Sum.elim (fun y e s => e = .exit 0 ∧ s = ⟨AY [], AY []⟩) (fun y e s => e = .ret ∧ s = ⟨AY [(2, .bool y)], AY []⟩) : (Unit ⊕ Bool) → Xt → St → Prop) y) := by
 refine EP _ _ (FQ N VK) (JA N VK) (fun _ => rfl) (fun _ _ => rfl) ?_
 rintro rec v4l30 y h
 iterate 2 refine AC ?_
 refine AB ?_
 iterate 4 refine wq rfl ?_
 refine D5 h rfl (fun c6 h => ?_) (fun c6 h => ?_)
 refine BF (AC (BZ ?_))
 obtain ⟨g7, tQ, h⟩ := AJ h
 refine F3 ⟨AY [(3, .str VK), (4, j6 v4l30), (51, .bool g7)], AY []⟩ ?_ ?_
 have h := tQ
 refine AB ?_
 iterate 2 refine wq rfl ?_
 obtain ⟨x44, hx44, h⟩ := AJ h
 refine AQ rfl (GY hx44 rfl rfl) ?_
 refine AQ (p := .bool (decide (((x44).toNat : Int) < (48 : Int)))) rfl rfl ?_
 refine wq rfl ?_
 rcases BO h with ⟨c8, h⟩ | ⟨c8, h⟩
 iterate 4 refine BJ (gn rfl c8) ?_
 refine AQ rfl (BA c8 rfl rfl) ?_
 obtain rfl := AA h
 exact cq rfl
 iterate 2 refine AQ (gy rfl c8) rfl ?_
 obtain ⟨Y7, qD, h⟩ := AJ h
 refine AQ (gy rfl c8) (GY qD rfl rfl) ?_
 refine AQ (p := .bool (decide (((Y7).toNat : Int) > (57 : Int)))) (gy rfl c8) rfl ?_
 refine AQ rfl (AZ c8 rfl rfl) ?_
 cases AA h
 exact cq rfl
 clear tQ
 refine D5 h rfl (fun c9 h => ?_) (fun c9 h => ?_)
 refine AC (AB ?_)
 refine wq rfl ?_
 obtain rfl := AA h
 exact DL (st1 := ⟨AY [(2, .bool false)], AY []⟩) (cq rfl) ⟨rfl, rfl⟩
 refine BF (AB ?_)
 refine wq rfl ?_
 refine AQ (p := j6 (BM (v4l30 + (1 : Int)))) rfl rfl ?_
 refine wq rfl ?_
 exact ⟨(BM (v4l30 + (1 : Int))), (cq rfl), h⟩
 cases AA h
 exact CU (st1 := ⟨AY [], AY []⟩) (cq rfl) ⟨rfl, rfl⟩
theorem YE (N : Nat) (a0 : List UInt8) (r : Bool) (h : NQ N a0 = some r) : Sat Tryz.prog 82 AO [.str a0] (.bool r) AO := by
 refine DK mixed Tryz.func82 Tq (rs := [.bool r]) rfl rfl ?_
 refine AC (AB ?_)
 refine wq rfl ?_
 refine AC (AB ?_)
 iterate 2 refine wq rfl ?_
 refine QJ (fun (x : List UInt8) => ⟨AY [(3, .str x)], AY []⟩) (fun x => IY N x = some r) ?_ ?_
 rintro VK h
 refine AC ?_
 obtain ⟨g1, hg1, h⟩ := AJ h
 refine F3 ⟨AY [(3, .str VK), (35, .bool g1)], AY []⟩ ?_ ?_
 have h := hg1
 refine AB ?_
 iterate 4 refine wq rfl ?_
 rcases BO h with ⟨c2, h⟩ | ⟨c2, h⟩
 iterate 3 refine BJ (gn rfl c2) ?_
 refine AQ rfl (BA c2 rfl rfl) ?_
 refine wq rfl ?_
 iterate 4 refine BJ rfl ?_
 iterate 3 refine BJ (gu rfl) ?_
 refine BJ rfl ?_
 refine wq rfl ?_
 obtain rfl := AA h
 exact cq rfl
 iterate 3 refine AQ (gy rfl c2) rfl ?_
 refine AQ rfl (AZ c2 rfl rfl) ?_
 refine wq rfl ?_
 rcases BO h with ⟨c3, h⟩ | ⟨c3, h⟩
 iterate 4 refine BJ (gn rfl c3) ?_
 iterate 3 refine BJ (gu rfl) ?_
 refine BJ (gn rfl c3) ?_
 refine AQ rfl (BA c3 rfl rfl) ?_
 obtain rfl := AA h
 exact cq rfl
 iterate 4 refine AQ (gy rfl c3) rfl ?_
 rcases BO h with ⟨c4, h⟩ | ⟨c4, h⟩
 refine AQ (gy rfl c4) rfl ?_
 obtain ⟨x32, hx32, h⟩ := AJ h
 refine AQ (gy rfl c4) (GY hx32 rfl rfl) ?_
 refine AQ (p := .bool (((x32).toNat : Int) == (48 : Int))) (gy rfl c4) rfl ?_
 refine AQ (gy rfl c3) (BA c4 rfl rfl) ?_
 refine AQ rfl (AZ c3 rfl rfl) ?_
 cases AA h
 exact cq rfl
 iterate 3 refine BJ (gn rfl c4) ?_
 refine AQ (gy rfl c3) (AZ c4 rfl rfl) ?_
 refine AQ rfl (AZ c3 rfl rfl) ?_
 obtain rfl := AA h
 exact cq rfl
 clear hg1
 refine D5 h rfl (fun c5 h => ?_) (fun c5 h => ?_)
 refine AC (AB ?_)
 refine wq rfl ?_
 obtain rfl := AA h
 refine BR ?_
 exact ⟨nofun, rfl, rfl⟩
 refine BF ?_
 iterate 2 refine AC ?_
 refine AB ?_
 refine wq rfl ?_
 refine BZ ?_
 obtain ⟨M7, iR, h⟩ := AJ h
 refine QI (WA N VK N _ _ iR) (cq rfl) ?_
 clear iR
 rcases M7 with M7 | M7
 rintro e s ⟨rfl, rfl⟩
 refine AC (AB ?_)
 refine wq rfl ?_
 obtain rfl := AA h
 refine BR ?_
 exact ⟨nofun, rfl, rfl⟩
 rintro e s ⟨rfl, rfl⟩
 obtain rfl := AA h
 exact ⟨nofun, rfl, rfl⟩
 obtain ⟨g11, lF, h⟩ := AJ h
 refine F3 ⟨AY [(3, .str a0), (13, .bool g11)], AY []⟩ ?_ ?_
 have h := lF
 refine AB ?_
 iterate 4 refine wq rfl ?_
 rcases BO h with ⟨c12, h⟩ | ⟨c12, h⟩
 refine AQ (gy rfl c12) rfl ?_
 obtain ⟨LK, bI, h⟩ := AJ h
 refine AQ (gy rfl c12) (GY bI rfl rfl) ?_
 refine AQ (p := .bool (((LK).toNat : Int) == (45 : Int))) (gy rfl c12) rfl ?_
 refine AQ rfl (BA c12 rfl rfl) ?_
 cases AA h
 exact cq rfl
 iterate 3 refine BJ (gn rfl c12) ?_
 refine AQ rfl (AZ c12 rfl rfl) ?_
 obtain rfl := AA h
 exact cq rfl
 clear lF
 refine D5 h rfl (fun c13 h => ?_) (fun c13 h => ?_)
 refine AC (AB ?_)
 refine wq rfl ?_
 obtain ⟨NK, RX, h⟩ := AJ h
 refine AQ rfl (YP RX rfl rfl) ?_
 refine wq rfl ?_
 refine AC (AB ?_)
 iterate 2 refine wq rfl ?_
 refine D5 h rfl (fun c14 h => ?_) (fun c14 h => ?_)
 refine AC (AB ?_)
 refine wq rfl ?_
 obtain rfl := AA h
 refine BR ?_
 exact ⟨nofun, rfl, rfl⟩
 refine BF ?_
 exact ⟨NK, (cq rfl), h⟩
 refine BF ?_
 exact ⟨a0, (cq rfl), h⟩
def yL : IC := (.seq (.seq (.reg [jm 8 7, jm 9 0, jS 10 9, jb .lss 11 8 10]) (.cond (.t 11) .skip (.exit 0))) (.seq (.block 1 (.seq (.reg [jm 14 0, jm 15 7, jn 16 (.idxs (.t 14) (.t 15)), jn 17 (.bin .eql (.t 16) (.c (.int .u8 92)))]) (.cond (.t 17) (.reg [jm 18 7, ju .add 19 18 1, jm 7 19]) (.seq (.reg [jm 20 0, jm 21 7, jn 22 (.idxs (.t 20) (.t 21)), jm 23 1, jb .eql 24 22 23]) (.cond (.t 24) (.seq (.reg [jm 25 5, jm 26 0, jm 27 6, jm 28 7, jn 29 (.slcs (.t 26) (some (.t 27)) (some (.t 28))), jn 30 (.bsl 1 [(.t 29)]), jn 31 (.app 9 1 16 (.t 25) (.t 30)), jm 5 31]) (.reg [jm 32 7, ju .add 33 32 1, jm 6 33])) .skip))))) (.reg [jm 12 7, ju .add 13 12 1, jm 7 13])))
def k97 : IC := (.seq (.reg [jc 4 .nl]) (.seq (.reg [jc 5 .nl]) (.seq (.reg [jc 6 (j6 0)]) (.seq (.seq (.reg [jc 7 (j6 0)]) (.block 0 (.loop yL))) (.seq (.reg [jm 34 5, jm 35 0, jm 36 6, jn 37 (.slcs (.t 35) (some (.t 36)) none), jn 38 (.bsl 1 [(.t 37)]), jn 39 (.app 9 1 16 (.t 34) (.t 38)), jm 4 39]) .ret)))))
theorem Tc : BV Tryz.prog Tryz.f97 = some ⟨40, k97, [(.tmp 4)]⟩ := by kernel_rfl
theorem Y8 (N : Nat) (a0 : List UInt8) (a1 : UInt8) : ∀ (n : Nat) (x : Int × Int × List (List UInt8)) (y : Int × List (List UInt8)), GI N a0 a1 n x = some y → WX Tryz.prog (fun _ => false) (.loop yL) ((fun (x : Int × Int × List (List UInt8)) => ⟨AY [(0, .str a0), (1, eb a1), (5, .slr 156005 0 x.2.2.length), (6, j6 x.1), (7, j6 x.2.1)], AY [(156005, ⟨1, true, List.map PV.str x.2.2⟩)]⟩) x) ((fun y e s => e = .exit 0 ∧ s = ⟨AY [(0, .str a0), (5, .slr 156005 0 y.2.length), (6, j6 y.1)], AY [(156005, ⟨1, true, List.map PV.str y.2⟩)]⟩ : (Int × List (List UInt8)) → Xt → St → Prop) y) := by
 refine EP _ _ (GI N a0 a1) (NI N a0 a1) (fun _ => rfl) (fun _ _ => rfl) ?_
 rintro rec ⟨GD, KM, MI⟩ y h
 iterate 2 refine AC ?_
 refine AB ?_
 iterate 4 refine wq rfl ?_
 refine D5 h rfl (fun c1 h => ?_) (fun c1 h => ?_)
 refine BF ?_
 refine QJ (fun (x : Int × Int × List (List UInt8)) => ⟨AY [(0, .str a0), (1, eb a1), (5, .slr 156005 0 x.2.2.length), (6, j6 x.1), (7, j6 x.2.1)], AY [(156005, ⟨1, true, List.map PV.str x.2.2⟩)]⟩) (fun x => JL rec x.1 x.2.1 x.2.2 = some y) ?_ ?_
 rintro ⟨jH, dD, bB⟩ h
 refine AB ?_
 refine wq rfl ?_
 refine AQ (p := j6 (BM (dD + (1 : Int)))) rfl rfl ?_
 refine wq rfl ?_
 exact ⟨(jH, (BM (dD + (1 : Int))), bB), (cq rfl), h⟩
 refine BZ (AC (AB ?_))
 iterate 2 refine wq rfl ?_
 obtain ⟨YH, hx16, h⟩ := AJ h
 refine AQ rfl (GY hx16 rfl rfl) ?_
 refine AQ (p := .bool (((YH).toNat : Int) == (92 : Int))) rfl rfl ?_
 refine D5 h rfl (fun c2 h => ?_) (fun c2 h => ?_)
 refine AB ?_
 refine wq rfl ?_
 refine AQ (p := j6 (BM (KM + (1 : Int)))) rfl rfl ?_
 refine wq rfl ?_
 exact ⟨(GD, (BM (KM + (1 : Int))), MI), (cq rfl), h⟩
 refine AC (AB ?_)
 iterate 2 refine wq rfl ?_
 obtain ⟨WY, YT, h⟩ := AJ h
 refine AQ rfl (GY YT rfl rfl) ?_
 refine wq rfl ?_
 refine AQ (p := .bool (((WY).toNat : Int) == ((a1).toNat : Int))) rfl rfl ?_
 refine D5 h rfl (fun c3 h => ?_) (fun c3 h => ?_)
 refine AC (AB ?_)
 iterate 4 refine wq rfl ?_
 obtain ⟨x29, hx29, h⟩ := AJ h
 refine AQ rfl (nT hx29 rfl rfl rfl) ?_
 refine CO rfl (TC 155230 rfl rfl rfl) ?_
 obtain ⟨x31, hx31, h⟩ := AJ h
 refine UU (f := PV.str) 155231 hx31 rfl rfl rfl rfl rfl (KR rfl (BQ (f := PV.str) (l := [x29]))) rfl rfl rfl rfl ?_
 refine wq rfl ?_
 refine AB ?_
 refine wq rfl ?_
 refine AQ (p := j6 (BM (KM + (1 : Int)))) rfl rfl ?_
 refine wq rfl ?_
 exact ⟨((BM (KM + (1 : Int))), KM, x31), (C8.trans (rename 155231 156005 rfl rfl) (cq rfl)), h⟩
 refine BF ?_
 exact ⟨(GD, KM, MI), (cq rfl), h⟩
 cases AA h
 exact CU (st1 := ⟨AY [(0, .str a0), (5, .slr 156005 0 MI.length), (6, j6 GD)], AY [(156005, ⟨1, true, List.map PV.str MI⟩)]⟩) (cq rfl) ⟨rfl, rfl⟩
theorem OY (N : Nat) (a0 : List UInt8) (a1 : UInt8) (r : List (List UInt8)) (h : KS N a0 a1 = some r) : Sat Tryz.prog 97 AO [.str a0, eb a1] (.sl 1 (List.map PV.str r)) AO := by
 refine DK mixed Tryz.func97 Tc (rs := [.sl 1 (List.map PV.str r)]) rfl rfl ?_
 refine AC (AB ?_)
 refine wq rfl ?_
 refine AC (AB ?_)
 refine wq rfl ?_
 refine AC (AB ?_)
 refine wq rfl ?_
 iterate 2 refine AC ?_
 refine AB ?_
 refine wq rfl ?_
 refine BZ ?_
 obtain ⟨y4, hy4, h⟩ := AJ h
 refine QI (Y8 N a0 a1 N _ _ hy4) (C8.trans (aJ 5 156005 1 true rfl rfl rfl) (cq rfl)) ?_
 rintro e s ⟨rfl, rfl⟩
 refine AC (AB ?_)
 iterate 3 refine wq rfl ?_
 obtain ⟨x37, Xo, h⟩ := AJ h
 refine AQ rfl (YP Xo rfl rfl) ?_
 refine CO rfl (TC 155238 rfl rfl rfl) ?_
 obtain ⟨x39, hx39, h⟩ := AJ h
 refine UU (f := PV.str) 155239 hx39 rfl rfl rfl rfl rfl (KR rfl (BQ (f := PV.str) (l := [x37]))) rfl rfl rfl rfl ?_
 refine wq rfl ?_
 obtain rfl := AA h
 refine DL (st1 := ⟨AY [(4, .sl 1 (List.map PV.str x39))], AY []⟩) (C8.trans (Vd.freeze 155239 _ rfl rfl rfl) (C8.trans (KP 4 (H5 (congrArg (PV.sl 1) (BQ (f := PV.str) (l := x39)))) rfl) (cq rfl))) ?_
 exact ⟨nofun, rfl, rfl⟩
def k142 : IC := (.seq (.reg [jc 2 (.bool false)]) (.seq (.reg [jm 3 0, jn 4 (.bin .eql (.t 3) (.c (.int .u8 44))), jm 5 4, jf 5 6 (.mov (.t 0)), jf 5 7 (.bin .eql (.t 6) (.c (.int .u8 43))), jo 8 5 7, jm 9 8, jf 9 10 (.mov (.t 0)), jf 9 11 (.bin .eql (.t 10) (.c (.int .u8 34))), jo 12 9 11, jm 13 12, jf 13 14 (.mov (.t 0)), jf 13 15 (.bin .eql (.t 14) (.c (.int .u8 92))), jo 16 13 15, jm 17 16, jf 17 18 (.mov (.t 0)), jf 17 19 (.bin .eql (.t 18) (.c (.int .u8 60))), jo 20 17 19, jm 21 20, jf 21 22 (.mov (.t 0)), jf 21 23 (.bin .eql (.t 22) (.c (.int .u8 62))), jo 24 21 23, jm 25 24, jf 25 26 (.mov (.t 0)), jf 25 27 (.bin .eql (.t 26) (.c (.int .u8 59))), jo 28 25 27, jm 2 28]) .ret))
theorem Nw : BV Tryz.prog Tryz.f142 = some ⟨29, k142, [(.tmp 2)]⟩ := by kernel_rfl
theorem PX (N : Nat) (a0 : UInt8) (r : Bool) (h : I1 N a0 = some r) : Sat Tryz.prog 142 AO [eb a0] (.bool r) AO := by
 refine DK mixed Tryz.func142 Nw (rs := [.bool r]) rfl rfl ?_
 refine AC (AB ?_)
 refine wq rfl ?_
 obtain ⟨g1, hg1, h⟩ := AJ h
 refine F3 ⟨AY [(2, .bool g1)], AY []⟩ ?_ ?_
 have h := hg1
 refine AB ?_
 refine wq rfl ?_
 refine AQ (p := .bool (((a0).toNat : Int) == (44 : Int))) rfl rfl ?_
 refine wq rfl ?_
 rcases BO h with ⟨c2, h⟩ | ⟨c2, h⟩
 iterate 2 refine BJ (gn rfl c2) ?_
 refine AQ rfl (BA c2 rfl rfl) ?_
 refine wq rfl ?_
 iterate 2 refine BJ rfl ?_
 iterate 2 refine wq rfl ?_
 iterate 2 refine BJ rfl ?_
 iterate 2 refine wq rfl ?_
 iterate 2 refine BJ rfl ?_
 iterate 2 refine wq rfl ?_
 iterate 2 refine BJ rfl ?_
 iterate 2 refine wq rfl ?_
 iterate 2 refine BJ rfl ?_
 iterate 2 refine wq rfl ?_
 obtain rfl := AA h
 exact cq rfl
 refine AQ (gy rfl c2) rfl ?_
 refine AQ (p := .bool (((a0).toNat : Int) == (43 : Int))) (gy rfl c2) rfl ?_
 refine AQ rfl (AZ c2 rfl rfl) ?_
 refine wq rfl ?_
 rcases BO h with ⟨c3, h⟩ | ⟨c3, h⟩
 iterate 2 refine BJ (gn rfl c3) ?_
 refine AQ rfl (BA c3 rfl rfl) ?_
 refine wq rfl ?_
 iterate 2 refine BJ rfl ?_
 iterate 2 refine wq rfl ?_
 iterate 2 refine BJ rfl ?_
 iterate 2 refine wq rfl ?_
 iterate 2 refine BJ rfl ?_
 iterate 2 refine wq rfl ?_
 iterate 2 refine BJ rfl ?_
 iterate 2 refine wq rfl ?_
 obtain rfl := AA h
 exact cq rfl
 refine AQ (gy rfl c3) rfl ?_
 refine AQ (p := .bool (((a0).toNat : Int) == (34 : Int))) (gy rfl c3) rfl ?_
 refine AQ rfl (AZ c3 rfl rfl) ?_
 refine wq rfl ?_
 rcases BO h with ⟨c4, h⟩ | ⟨c4, h⟩
 iterate 2 refine BJ (gn rfl c4) ?_
 refine AQ rfl (BA c4 rfl rfl) ?_
 refine wq rfl ?_
 iterate 2 refine BJ rfl ?_
 iterate 2 refine wq rfl ?_
 iterate 2 refine BJ rfl ?_
 iterate 2 refine wq rfl ?_
 iterate 2 refine BJ rfl ?_
 iterate 2 refine wq rfl ?_
 obtain rfl := AA h
 exact cq rfl
 refine AQ (gy rfl c4) rfl ?_
 refine AQ (p := .bool (((a0).toNat : Int) == (92 : Int))) (gy rfl c4) rfl ?_
 refine AQ rfl (AZ c4 rfl rfl) ?_
 refine wq rfl ?_
 rcases BO h with ⟨c5, h⟩ | ⟨c5, h⟩
 iterate 2 refine BJ (gn rfl c5) ?_
 refine AQ rfl (BA c5 rfl rfl) ?_
 refine wq rfl ?_
 iterate 2 refine BJ rfl ?_
 iterate 2 refine wq rfl ?_
 iterate 2 refine BJ rfl ?_
 iterate 2 refine wq rfl ?_
 obtain rfl := AA h
 exact cq rfl
 refine AQ (gy rfl c5) rfl ?_
 refine AQ (p := .bool (((a0).toNat : Int) == (60 : Int))) (gy rfl c5) rfl ?_
 refine AQ rfl (AZ c5 rfl rfl) ?_
 refine wq rfl ?_
 rcases BO h with ⟨c6, h⟩ | ⟨c6, h⟩
 iterate 2 refine BJ (gn rfl c6) ?_
 refine AQ rfl (BA c6 rfl rfl) ?_
 refine wq rfl ?_
 iterate 2 refine BJ rfl ?_
 iterate 2 refine wq rfl ?_
 obtain rfl := AA h
 exact cq rfl
 refine AQ (gy rfl c6) rfl ?_
 refine AQ (p := .bool (((a0).toNat : Int) == (62 : Int))) (gy rfl c6) rfl ?_
 refine AQ rfl (AZ c6 rfl rfl) ?_
 refine wq rfl ?_
 rcases BO h with ⟨c7, h⟩ | ⟨c7, h⟩
 iterate 2 refine BJ (gn rfl c7) ?_
 refine AQ rfl (BA c7 rfl rfl) ?_
 refine wq rfl ?_
 obtain rfl := AA h
 exact cq rfl
 refine AQ (gy rfl c7) rfl ?_
 refine AQ (p := .bool (((a0).toNat : Int) == (59 : Int))) (gy rfl c7) rfl ?_
 refine AQ rfl (AZ c7 rfl rfl) ?_
 refine wq rfl ?_
 cases AA h
 exact cq rfl
 clear hg1
 obtain rfl := AA h
 refine BR ?_
 exact ⟨nofun, rfl, rfl⟩
def k143 : IC := (.seq (.reg [jc 2 (j6 0)]) (.seq (.block 0 (.seq (.reg [jm 4 0, jn 5 (.bin .geq (.t 4) (.c (.int .u8 48))), jm 6 5, jt 6 7 (.mov (.t 0)), jt 6 8 (.bin .leq (.t 7) (.c (.int .u8 57))), jp 9 6 8, jm 3 9]) (.cond (.t 3) (.seq (.reg [jm 10 0, jn 11 (.bin .sub (.t 10) (.c (.int .u8 48))), jn 12 (.cvi .i64 (.t 11)), jm 2 12]) .ret) (.seq (.reg [jm 14 0, jn 15 (.bin .geq (.t 14) (.c (.int .u8 97))), jm 16 15, jt 16 17 (.mov (.t 0)), jt 16 18 (.bin .leq (.t 17) (.c (.int .u8 102))), jp 19 16 18, jm 13 19]) (.cond (.t 13) (.seq (.reg [jm 20 0, jn 21 (.bin .sub (.t 20) (.c (.int .u8 97))), jn 22 (.cvi .i64 (.t 21)), ju .add 23 22 10, jm 2 23]) .ret) (.seq (.reg [jm 25 0, jn 26 (.bin .geq (.t 25) (.c (.int .u8 65))), jm 27 26, jt 27 28 (.mov (.t 0)), jt 27 29 (.bin .leq (.t 28) (.c (.int .u8 70))), jp 30 27 29, jm 24 30]) (.cond (.t 24) (.seq (.reg [jm 31 0, jn 32 (.bin .sub (.t 31) (.c (.int .u8 65))), jn 33 (.cvi .i64 (.t 32)), ju .add 34 33 10, jm 2 34]) .ret) .skip))))))) (.seq (.reg [jc 2 (j6 (-1))]) .ret)))
theorem Nv : BV Tryz.prog Tryz.f143 = some ⟨35, k143, [(.tmp 2)]⟩ := by kernel_rfl
theorem KA (N : Nat) (a0 : UInt8) (r : Int) (h : GK N a0 = some r) : Sat Tryz.prog 143 AO [eb a0] (j6 r) AO := by
 refine DK mixed Tryz.func143 Nv (rs := [j6 r]) rfl rfl ?_
 refine AC (AB ?_)
 refine wq rfl ?_
 refine AC (BZ ?_)
 obtain ⟨g1, hg1, h⟩ := AJ h
 refine F3 ⟨AY [(0, eb a0), (3, .bool g1)], AY []⟩ ?_ ?_
 have h := hg1
 refine AB ?_
 refine wq rfl ?_
 refine AQ (p := .bool (decide (((a0).toNat : Int) ≥ (48 : Int)))) rfl rfl ?_
 refine wq rfl ?_
 rcases BO h with ⟨c2, h⟩ | ⟨c2, h⟩
 refine AQ (gy rfl c2) rfl ?_
 refine AQ (p := .bool (decide (((a0).toNat : Int) ≤ (57 : Int)))) (gy rfl c2) rfl ?_
 refine AQ rfl (BA c2 rfl rfl) ?_
 refine wq rfl ?_
 cases AA h
 exact cq rfl
 iterate 2 refine BJ (gn rfl c2) ?_
 refine AQ rfl (AZ c2 rfl rfl) ?_
 refine wq rfl ?_
 obtain rfl := AA h
 exact cq rfl
 clear hg1
 refine D5 h rfl (fun c3 h => ?_) (fun c3 h => ?_)
 refine AC (AB ?_)
 refine wq rfl ?_
 refine AQ rfl (pQ (a := a0) (b := (48 : UInt8)) rfl rfl) ?_
 refine AQ rfl (fP (a := (a0 - (48 : UInt8))) rfl) ?_
 refine wq rfl ?_
 cases AA h
 refine BR ?_
 exact ⟨nofun, rfl, rfl⟩
 obtain ⟨g4, hg4, h⟩ := AJ h
 refine F3 ⟨AY [(0, eb a0), (13, .bool g4)], AY []⟩ ?_ ?_
 have h := hg4
 refine AB ?_
 refine wq rfl ?_
 refine AQ (p := .bool (decide (((a0).toNat : Int) ≥ (97 : Int)))) rfl rfl ?_
 refine wq rfl ?_
 rcases BO h with ⟨c5, h⟩ | ⟨c5, h⟩
 refine AQ (gy rfl c5) rfl ?_
 refine AQ (p := .bool (decide (((a0).toNat : Int) ≤ (102 : Int)))) (gy rfl c5) rfl ?_
 refine AQ rfl (BA c5 rfl rfl) ?_
 refine wq rfl ?_
 cases AA h
 exact cq rfl
 iterate 2 refine BJ (gn rfl c5) ?_
 refine AQ rfl (AZ c5 rfl rfl) ?_
 refine wq rfl ?_
 obtain rfl := AA h
 exact cq rfl
 clear hg4
 refine D5 h rfl (fun c6 h => ?_) (fun c6 h => ?_)
 refine AC (AB ?_)
 refine wq rfl ?_
 refine AQ rfl (pQ (a := a0) (b := (97 : UInt8)) rfl rfl) ?_
 refine AQ rfl (fP (a := (a0 - (97 : UInt8))) rfl) ?_
 refine AQ (p := j6 (BM ((((a0 - (97 : UInt8))).toNat : Int) + (10 : Int)))) rfl rfl ?_
 refine wq rfl ?_
 cases AA h
 refine BR ?_
 exact ⟨nofun, rfl, rfl⟩
 obtain ⟨g7, tQ, h⟩ := AJ h
 refine F3 ⟨AY [(0, eb a0), (24, .bool g7)], AY []⟩ ?_ ?_
 have h := tQ
 refine AB ?_
 refine wq rfl ?_
 refine AQ (p := .bool (decide (((a0).toNat : Int) ≥ (65 : Int)))) rfl rfl ?_
 refine wq rfl ?_
 rcases BO h with ⟨c8, h⟩ | ⟨c8, h⟩
 refine AQ (gy rfl c8) rfl ?_
 refine AQ (p := .bool (decide (((a0).toNat : Int) ≤ (70 : Int)))) (gy rfl c8) rfl ?_
 refine AQ rfl (BA c8 rfl rfl) ?_
 refine wq rfl ?_
 cases AA h
 exact cq rfl
 iterate 2 refine BJ (gn rfl c8) ?_
 refine AQ rfl (AZ c8 rfl rfl) ?_
 refine wq rfl ?_
 obtain rfl := AA h
 exact cq rfl
 clear tQ
 refine D5 h rfl (fun c9 h => ?_) (fun c9 h => ?_)
 refine AC (AB ?_)
 refine wq rfl ?_
 refine AQ rfl (pQ (a := a0) (b := (65 : UInt8)) rfl rfl) ?_
 refine AQ rfl (fP (a := (a0 - (65 : UInt8))) rfl) ?_
 refine AQ (p := j6 (BM ((((a0 - (65 : UInt8))).toNat : Int) + (10 : Int)))) rfl rfl ?_
 refine wq rfl ?_
 cases AA h
 refine BR ?_
 exact ⟨nofun, rfl, rfl⟩
 refine BF (AC (AB ?_))
 refine wq rfl ?_
 cases AA h
 refine BR ?_
 exact ⟨nofun, rfl, rfl⟩
def zN : IC := (.seq (.seq (.reg [jm 7 5, jm 8 0, jS 9 8, jb .lss 10 7 9]) (.cond (.t 10) .skip (.exit 0))) (.seq (.block 1 (.seq (.reg [jm 13 0, jm 14 5, jn 15 (.idxs (.t 13) (.t 14)), jm 6 15]) (.seq (.seq (.reg [jm 16 6, jn 17 (.bin .neq (.t 16) (.c (.int .u8 92)))]) (.cond (.t 17) (.seq (.seq (.reg [jm 18 6, jn 19 (.call 142 [(.t 18)]), jm 20 19, jf 20 21 (.mov (.t 5)), jf 20 22 (.bin .eql (.t 21) (ji 0)), jf 20 23 (.mov (.t 22)), jt 23 24 (.mov (.t 6)), jt 23 25 (.bin .eql (.t 24) (.c (.int .u8 35))), jt 23 26 (.mov (.t 25)), jf 26 27 (.mov (.t 6)), jf 26 28 (.bin .eql (.t 27) (.c (.int .u8 32))), jt 23 29 (.pick (.t 26) jB (.t 28)), jf 20 30 (.pick (.t 23) (.t 29) jA), jo 31 20 30, jm 32 31, jf 32 33 (.mov (.t 5)), jf 32 34 (.mov (.t 0)), jf 32 35 (.len true (.t 34)), jf 32 36 (.bin .sub (.t 35) (ji 1)), jf 32 37 (.bin .eql (.t 33) (.t 36)), jf 32 38 (.mov (.t 37)), jt 38 39 (.mov (.t 6)), jt 38 40 (.bin .eql (.t 39) (.c (.int .u8 32))), jf 32 41 (.pick (.t 38) (.t 40) jA), jo 42 32 41]) (.cond (.t 42) (.seq (.reg [jc 2 (.str []), jc 3 (.bool false)]) .ret) .skip)) (.seq (.reg [jm 43 4, jm 44 6, jn 45 (.bsl 1 [(.t 44)]), jn 46 (.app 5 1 1 (.t 43) (.t 45)), jm 4 46]) (.exit 1))) .skip)) (.block 2 (.seq (.reg [jm 48 5, ju .add 49 48 1, jm 50 0, jS 51 50, jb .lss 52 49 51, jm 53 52, jt 53 54 (.mov (.t 0)), jt 53 55 (.mov (.t 5)), jt 53 56 (.bin .add (.t 55) (ji 1)), jt 53 57 (.idxs (.t 54) (.t 56)), jt 53 58 (.call 142 [(.t 57)]), jt 53 59 (.mov (.t 58)), jf 59 60 (.mov (.t 0)), jf 59 61 (.mov (.t 5)), jf 59 62 (.bin .add (.t 61) (ji 1)), jf 59 63 (.idxs (.t 60) (.t 62)), jf 59 64 (.bin .eql (.t 63) (.c (.int .u8 35))), jt 53 65 (.pick (.t 59) jB (.t 64)), jt 53 66 (.mov (.t 65)), jf 66 67 (.mov (.t 0)), jf 66 68 (.mov (.t 5)), jf 66 69 (.bin .add (.t 68) (ji 1)), jf 66 70 (.idxs (.t 67) (.t 69)), jf 66 71 (.bin .eql (.t 70) (.c (.int .u8 61))), jt 53 72 (.pick (.t 66) jB (.t 71)), jt 53 73 (.mov (.t 72)), jf 73 74 (.mov (.t 0)), jf 73 75 (.mov (.t 5)), jf 73 76 (.bin .add (.t 75) (ji 1)), jf 73 77 (.idxs (.t 74) (.t 76)), jf 73 78 (.bin .eql (.t 77) (.c (.int .u8 32))), jt 53 79 (.pick (.t 73) jB (.t 78)), jp 80 53 79, jm 47 80]) (.cond (.t 47) (.seq (.reg [jm 81 4, jm 82 0, jm 83 5, ju .add 84 83 1, jn 85 (.idxs (.t 82) (.t 84)), jn 86 (.bsl 1 [(.t 85)]), jn 87 (.app 5 1 1 (.t 81) (.t 86)), jm 4 87]) (.reg [jm 88 5, ju .add 89 88 1, jm 5 89])) (.seq (.reg [jm 91 5, ju .add 92 91 2, jm 93 0, jS 94 93, jb .lss 95 92 94, jm 96 95, jt 96 97 (.mov (.t 0)), jt 96 98 (.mov (.t 5)), jt 96 99 (.bin .add (.t 98) (ji 1)), jt 96 100 (.idxs (.t 97) (.t 99)), jt 96 101 (.call 143 [(.t 100)]), jt 96 102 (.bin .geq (.t 101) (ji 0)), jp 103 96 102, jm 104 103, jt 104 105 (.mov (.t 0)), jt 104 106 (.mov (.t 5)), jt 104 107 (.bin .add (.t 106) (ji 2)), jt 104 108 (.idxs (.t 105) (.t 107)), jt 104 109 (.call 143 [(.t 108)]), jt 104 110 (.bin .geq (.t 109) (ji 0)), jp 111 104 110, jm 90 111]) (.cond (.t 90) (.seq (.regd 15 [jm 112 4, jm 113 0, jm 114 5, ju .add 115 114 1, jn 116 (.idxs (.t 113) (.t 115)), jn 117 (.call 143 [(.t 116)]), jn 118 (.bin .mul (ji 16) (.t 117)), jm 119 0, jm 120 5, ju .add 121 120 2, jn 122 (.idxs (.t 119) (.t 121)), jn 123 (.call 143 [(.t 122)]), jb .add 124 118 123, jn 125 (.cvi .u8 (.t 124)), jn 126 (.bsl 1 [(.t 125)]), jn 127 (.app 5 1 1 (.t 112) (.t 126)), jm 4 127]) (.reg [jm 128 5, ju .add 129 128 2, jm 5 129])) (.seq (.reg [jc 2 (.str []), jc 3 (.bool false)]) .ret))))))))) (.reg [jm 11 5, ju .add 12 11 1, jm 5 12])))
def k122 : IC := (.seq (.reg [jc 2 (.str []), jc 3 (.bool false)]) (.seq (.reg [jc 4 .nl]) (.seq (.seq (.reg [jc 5 (j6 0)]) (.block 0 (.loop zN))) (.seq (.reg [jm 130 4, jn 131 (.cvb (.t 130)), jm 2 131, jc 3 (.bool true)]) .ret))))
theorem Ob : BV Tryz.prog Tryz.f122 = some ⟨132, k122, [(.tmp 2), (.tmp 3)]⟩ := by kernel_rfl
theorem X4 (N : Nat) (a0 : List UInt8) : ∀ (n : Nat) (x : Int × List UInt8) (y : (List UInt8) ⊕ (List UInt8 × Bool)), F9 N a0 n x = some y → WX Tryz.prog (fun _ => false) (.loop zN) ((fun (x : Int × List UInt8) => ⟨AY [(0, .str a0), (4, .slr 196004 0 x.2.length), (5, j6 x.1)], AY [(196004, ⟨1, true, List.map eb x.2⟩)]⟩) x) ((Sum.elim (fun y e s => e = .exit 0 ∧ s = ⟨AY [(4, .slr 196004 0 y.length)], AY [(196004, ⟨1, true, List.map eb y⟩)]⟩) (fun y e s => e = .ret ∧ s = ⟨AY [(2, .str y.1), (3, .bool y.2)], AY []⟩) : ((List UInt8) ⊕ (List UInt8 × Bool)) → Xt → St → Prop) y) := by
 refine EP _ _ (F9 N a0) (H7 N a0) (fun _ => rfl) (fun _ _ => rfl) ?_
 rintro rec ⟨v5l8, JY⟩ y h
 iterate 2 refine AC ?_
 refine AB ?_
 iterate 4 refine wq rfl ?_
 refine D5 h rfl (fun c1 h => ?_) (fun c1 h => ?_)
 refine BF ?_
 refine QJ (fun (x : Int × List UInt8) => ⟨AY [(0, .str a0), (4, .slr 196004 0 x.2.length), (5, j6 x.1)], AY [(196004, ⟨1, true, List.map eb x.2⟩)]⟩) (fun x => IE rec x.1 x.2 = some y) ?_ ?_
 rintro ⟨xO, aZ⟩ h
 refine AB ?_
 refine wq rfl ?_
 refine AQ (p := j6 (BM (xO + (1 : Int)))) rfl rfl ?_
 refine wq rfl ?_
 exact ⟨((BM (xO + (1 : Int))), aZ), (cq rfl), h⟩
 refine BZ (AC (AB ?_))
 iterate 2 refine wq rfl ?_
 obtain ⟨NK, RX, h⟩ := AJ h
 refine AQ rfl (GY RX rfl rfl) ?_
 refine wq rfl ?_
 iterate 2 refine AC ?_
 refine AB ?_
 refine wq rfl ?_
 refine AQ (p := .bool (((NK).toNat : Int) != (92 : Int))) rfl rfl ?_
 refine D5 h rfl (fun c2 h => ?_) (fun c2 h => ?_)
 refine AC ?_
 obtain ⟨g3, hg3, h⟩ := AJ h
 refine F3 ⟨AY [(0, .str a0), (4, .slr 196004 0 JY.length), (5, j6 v5l8), (6, eb NK), (42, .bool g3)], AY [(196004, ⟨1, true, List.map eb JY⟩)]⟩ ?_ ?_
 have h := hg3
 refine AB ?_
 refine wq rfl ?_
 obtain ⟨QG, YV, h⟩ := AJ h
 refine CO rfl (CB (PX N _ _ YV) rfl (.cons A8 .nil) rfl rfl rfl) ?_
 refine wq rfl ?_
 rcases BO h with ⟨c4, h⟩ | ⟨c4, h⟩
 iterate 3 refine BJ (gn rfl c4) ?_
 iterate 6 refine BJ (gu rfl) ?_
 refine BJ (gn rfl c4) ?_
 refine AQ rfl (BA c4 rfl rfl) ?_
 refine wq rfl ?_
 iterate 6 refine BJ rfl ?_
 iterate 2 refine BJ (gu rfl) ?_
 refine BJ rfl ?_
 refine wq rfl ?_
 obtain rfl := AA h
 exact cq rfl
 iterate 3 refine AQ (gy rfl c4) rfl ?_
 rcases BO h with ⟨c5, h⟩ | ⟨c5, h⟩
 refine AQ (gy rfl c5) rfl ?_
 refine AQ (p := .bool (((NK).toNat : Int) == (35 : Int))) (gy rfl c5) rfl ?_
 refine AQ (gy rfl c5) rfl ?_
 rcases BO h with ⟨c6, h⟩ | ⟨c6, h⟩
 iterate 2 refine BJ (gn rfl c6) ?_
 refine AQ (gy rfl c5) (BA c6 rfl rfl) ?_
 refine AQ (gy rfl c4) (BA c5 rfl rfl) ?_
 refine AQ rfl (AZ c4 rfl rfl) ?_
 refine wq rfl ?_
 iterate 6 refine BJ rfl ?_
 iterate 2 refine BJ (gu rfl) ?_
 refine BJ rfl ?_
 refine wq rfl ?_
 obtain rfl := AA h
 exact cq rfl
 refine AQ (gy rfl c6) rfl ?_
 refine AQ (p := .bool (((NK).toNat : Int) == (32 : Int))) (gy rfl c6) rfl ?_
 refine AQ (gy rfl c5) (AZ c6 rfl rfl) ?_
 refine AQ (gy rfl c4) (BA c5 rfl rfl) ?_
 refine AQ rfl (AZ c4 rfl rfl) ?_
 refine wq rfl ?_
 rcases BO h with ⟨c7, h⟩ | ⟨c7, h⟩
 iterate 6 refine BJ (gn rfl c7) ?_
 iterate 2 refine BJ (gu rfl) ?_
 refine BJ (gn rfl c7) ?_
 refine AQ rfl (BA c7 rfl rfl) ?_
 obtain rfl := AA h
 exact cq rfl
 iterate 3 refine AQ (gy rfl c7) rfl ?_
 refine AQ (p := j6 (BM ((a0.length : Int) - (1 : Int)))) (gy rfl c7) rfl ?_
 iterate 2 refine AQ (gy rfl c7) rfl ?_
 rcases BO h with ⟨c8, h⟩ | ⟨c8, h⟩
 refine AQ (gy rfl c8) rfl ?_
 refine AQ (p := .bool (((NK).toNat : Int) == (32 : Int))) (gy rfl c8) rfl ?_
 refine AQ (gy rfl c7) (BA c8 rfl rfl) ?_
 refine AQ rfl (AZ c7 rfl rfl) ?_
 cases AA h
 exact cq rfl
 iterate 2 refine BJ (gn rfl c8) ?_
 refine AQ (gy rfl c7) (AZ c8 rfl rfl) ?_
 refine AQ rfl (AZ c7 rfl rfl) ?_
 obtain rfl := AA h
 exact cq rfl
 iterate 3 refine BJ (gn rfl c5) ?_
 iterate 2 refine BJ (gu rfl) ?_
 refine BJ (gn rfl c5) ?_
 refine AQ (gy rfl c4) (AZ c5 rfl rfl) ?_
 refine AQ rfl (AZ c4 rfl rfl) ?_
 iterate 4 refine wq rfl ?_
 refine AQ (p := j6 (BM ((a0.length : Int) - (1 : Int)))) rfl rfl ?_
 iterate 2 refine wq rfl ?_
 rcases BO h with ⟨c9, h⟩ | ⟨c9, h⟩
 refine AQ (gy rfl c9) rfl ?_
 refine AQ (p := .bool (((NK).toNat : Int) == (32 : Int))) (gy rfl c9) rfl ?_
 refine AQ rfl (BA c9 rfl rfl) ?_
 refine wq rfl ?_
 cases AA h
 exact cq rfl
 iterate 2 refine BJ (gn rfl c9) ?_
 refine AQ rfl (AZ c9 rfl rfl) ?_
 refine wq rfl ?_
 obtain rfl := AA h
 exact cq rfl
 clear hg3
 refine D5 h rfl (fun c10 h => ?_) (fun c10 h => ?_)
 refine AC (AB ?_)
 iterate 2 refine wq rfl ?_
 cases AA h
 exact DL (st1 := ⟨AY [(2, .str ([] : List UInt8)), (3, .bool false)], AY []⟩) (cq rfl) ⟨rfl, rfl⟩
 refine BF (AC (AB ?_))
 iterate 2 refine wq rfl ?_
 refine CO rfl (TC 195245 rfl rfl rfl) ?_
 obtain ⟨uN, qE, h⟩ := AJ h
 refine UU (f := eb) 195246 qE rfl rfl rfl rfl rfl (KR rfl (BQ (f := eb) (l := [NK]))) rfl rfl rfl rfl ?_
 refine wq rfl ?_
 refine QK ?_
 exact ⟨(v5l8, uN), (C8.trans (rename 195246 196004 rfl rfl) (cq rfl)), h⟩
 refine BF (BZ ?_)
 obtain ⟨g11, lF, h⟩ := AJ h
 refine F3 ⟨AY [(0, .str a0), (4, .slr 196004 0 JY.length), (5, j6 v5l8), (47, .bool g11)], AY [(196004, ⟨1, true, List.map eb JY⟩)]⟩ ?_ ?_
 have h := lF
 refine AB ?_
 refine wq rfl ?_
 refine AQ (p := j6 (BM (v5l8 + (1 : Int)))) rfl rfl ?_
 iterate 4 refine wq rfl ?_
 rcases BO h with ⟨c12, h⟩ | ⟨c12, h⟩
 iterate 2 refine AQ (gy rfl c12) rfl ?_
 refine AQ (p := j6 (BM (v5l8 + (1 : Int)))) (gy rfl c12) rfl ?_
 obtain ⟨x57, Xj, h⟩ := AJ h
 refine AQ (gy rfl c12) (GY Xj rfl rfl) ?_
 obtain ⟨Ad, Ig, h⟩ := AJ h
 refine CO (gy rfl c12) (CB (PX N _ _ Ig) rfl (.cons A8 .nil) rfl rfl rfl) ?_
 refine AQ (gy rfl c12) rfl ?_
 rcases BO h with ⟨c13, h⟩ | ⟨c13, h⟩
 iterate 5 refine BJ (gn rfl c13) ?_
 refine AQ (gy rfl c12) (BA c13 rfl rfl) ?_
 refine AQ (gy rfl c12) rfl ?_
 iterate 5 refine BJ rfl ?_
 iterate 2 refine AQ (gy rfl c12) rfl ?_
 iterate 5 refine BJ rfl ?_
 refine AQ (gy rfl c12) rfl ?_
 refine AQ rfl (BA c12 rfl rfl) ?_
 refine wq rfl ?_
 obtain rfl := AA h
 exact cq rfl
 iterate 2 refine AQ (gy rfl c13) rfl ?_
 refine AQ (p := j6 (BM (v5l8 + (1 : Int)))) (gy rfl c13) rfl ?_
 obtain ⟨x63, Xh, h⟩ := AJ h
 refine AQ (gy rfl c13) (GY Xh rfl rfl) ?_
 refine AQ (p := .bool (((x63).toNat : Int) == (35 : Int))) (gy rfl c13) rfl ?_
 refine AQ (gy rfl c12) (AZ c13 rfl rfl) ?_
 refine AQ (gy rfl c12) rfl ?_
 rcases BO h with ⟨c14, h⟩ | ⟨c14, h⟩
 iterate 5 refine BJ (gn rfl c14) ?_
 refine AQ (gy rfl c12) (BA c14 rfl rfl) ?_
 refine AQ (gy rfl c12) rfl ?_
 iterate 5 refine BJ rfl ?_
 refine AQ (gy rfl c12) rfl ?_
 refine AQ rfl (BA c12 rfl rfl) ?_
 refine wq rfl ?_
 obtain rfl := AA h
 exact cq rfl
 iterate 2 refine AQ (gy rfl c14) rfl ?_
 refine AQ (p := j6 (BM (v5l8 + (1 : Int)))) (gy rfl c14) rfl ?_
 obtain ⟨x70, hx70, h⟩ := AJ h
 refine AQ (gy rfl c14) (GY hx70 rfl rfl) ?_
 refine AQ (p := .bool (((x70).toNat : Int) == (61 : Int))) (gy rfl c14) rfl ?_
 refine AQ (gy rfl c12) (AZ c14 rfl rfl) ?_
 refine AQ (gy rfl c12) rfl ?_
 rcases BO h with ⟨c15, h⟩ | ⟨c15, h⟩
 iterate 5 refine BJ (gn rfl c15) ?_
 refine AQ (gy rfl c12) (BA c15 rfl rfl) ?_
 refine AQ rfl (BA c12 rfl rfl) ?_
 refine wq rfl ?_
 obtain rfl := AA h
 exact cq rfl
 iterate 2 refine AQ (gy rfl c15) rfl ?_
 refine AQ (p := j6 (BM (v5l8 + (1 : Int)))) (gy rfl c15) rfl ?_
 obtain ⟨x77, Xb, h⟩ := AJ h
 refine AQ (gy rfl c15) (GY Xb rfl rfl) ?_
 refine AQ (p := .bool (((x77).toNat : Int) == (32 : Int))) (gy rfl c15) rfl ?_
 refine AQ (gy rfl c12) (AZ c15 rfl rfl) ?_
 refine AQ rfl (BA c12 rfl rfl) ?_
 refine wq rfl ?_
 cases AA h
 exact cq rfl
 iterate 6 refine BJ (gn rfl c12) ?_
 iterate 5 refine BJ (gu rfl) ?_
 iterate 2 refine BJ (gn rfl c12) ?_
 iterate 5 refine BJ (gu rfl) ?_
 iterate 2 refine BJ (gn rfl c12) ?_
 iterate 5 refine BJ (gu rfl) ?_
 refine BJ (gn rfl c12) ?_
 refine AQ rfl (AZ c12 rfl rfl) ?_
 refine wq rfl ?_
 obtain rfl := AA h
 exact cq rfl
 clear lF
 refine D5 h rfl (fun c16 h => ?_) (fun c16 h => ?_)
 refine AC (AB ?_)
 iterate 3 refine wq rfl ?_
 refine AQ (p := j6 (BM (v5l8 + (1 : Int)))) rfl rfl ?_
 obtain ⟨x85, Wy, h⟩ := AJ h
 refine AQ rfl (GY Wy rfl rfl) ?_
 refine CO rfl (TC 195286 rfl rfl rfl) ?_
 obtain ⟨x87, Wx, h⟩ := AJ h
 refine UU (f := eb) 195287 Wx rfl rfl rfl rfl rfl (KR rfl (BQ (f := eb) (l := [x85]))) rfl rfl rfl rfl ?_
 refine wq rfl ?_
 refine AB ?_
 refine wq rfl ?_
 refine AQ (p := j6 (BM (v5l8 + (1 : Int)))) rfl rfl ?_
 refine wq rfl ?_
 exact ⟨((BM (v5l8 + (1 : Int))), x87), (C8.trans (rename 195287 196004 rfl rfl) (cq rfl)), h⟩
 obtain ⟨g17, hg17, h⟩ := AJ h
 refine F3 ⟨AY [(0, .str a0), (4, .slr 196004 0 JY.length), (5, j6 v5l8), (90, .bool g17)], AY [(196004, ⟨1, true, List.map eb JY⟩)]⟩ ?_ ?_
 have h := hg17
 refine AB ?_
 refine wq rfl ?_
 refine AQ (p := j6 (BM (v5l8 + (2 : Int)))) rfl rfl ?_
 iterate 4 refine wq rfl ?_
 rcases BO h with ⟨c18, h⟩ | ⟨c18, h⟩
 iterate 2 refine AQ (gy rfl c18) rfl ?_
 refine AQ (p := j6 (BM (v5l8 + (1 : Int)))) (gy rfl c18) rfl ?_
 obtain ⟨x100, hx100, h⟩ := AJ h
 refine AQ (gy rfl c18) (GY hx100 rfl rfl) ?_
 obtain ⟨x101, hx101, h⟩ := AJ h
 refine CO (gy rfl c18) (CB (KA N _ _ hx101) rfl (.cons A8 .nil) rfl rfl rfl) ?_
 refine AQ (gy rfl c18) rfl ?_
 refine AQ rfl (BA c18 rfl rfl) ?_
 refine wq rfl ?_
 rcases BO h with ⟨c19, h⟩ | ⟨c19, h⟩
 iterate 2 refine AQ (gy rfl c19) rfl ?_
 refine AQ (p := j6 (BM (v5l8 + (2 : Int)))) (gy rfl c19) rfl ?_
 obtain ⟨x108, hx108, h⟩ := AJ h
 refine AQ (gy rfl c19) (GY hx108 rfl rfl) ?_
 obtain ⟨x109, hx109, h⟩ := AJ h
 refine CO (gy rfl c19) (CB (KA N _ _ hx109) rfl (.cons A8 .nil) rfl rfl rfl) ?_
 refine AQ (gy rfl c19) rfl ?_
 refine AQ rfl (BA c19 rfl rfl) ?_
 refine wq rfl ?_
 cases AA h
 exact cq rfl
 iterate 6 refine BJ (gn rfl c19) ?_
 refine AQ rfl (AZ c19 rfl rfl) ?_
 refine wq rfl ?_
 obtain rfl := AA h
 exact cq rfl
 iterate 6 refine BJ (gn rfl c18) ?_
 refine AQ rfl (AZ c18 rfl rfl) ?_
 refine wq rfl ?_
 iterate 6 refine BJ rfl ?_
 iterate 2 refine wq rfl ?_
 obtain rfl := AA h
 exact cq rfl
 clear hg17
 refine D5 h rfl (fun c20 h => ?_) (fun c20 h => ?_)
 refine AC (P6 ?_)
 iterate 3 refine dq rfl ?_
 refine JN (p := j6 (BM (v5l8 + (1 : Int)))) rfl rfl ?_
 obtain ⟨mM, tO, h⟩ := AJ h
 refine JN rfl (GY tO rfl rfl) ?_
 obtain ⟨Dq, hx117, h⟩ := AJ h
 refine VG rfl (PD (KA N _ _ hx117) rfl (.cons A8 .nil) rfl rfl rfl) CZ ?_
 refine JN (p := j6 (BM ((16 : Int) * Dq))) rfl rfl ?_
 iterate 2 refine dq rfl ?_
 refine JN (p := j6 (BM (v5l8 + (2 : Int)))) rfl rfl ?_
 obtain ⟨M8, tN, h⟩ := AJ h
 refine JN rfl (GY tN rfl rfl) ?_
 obtain ⟨Mc, hx123, h⟩ := AJ h
 refine VG rfl (PD (KA N _ _ hx123) rfl (.cons A8 .nil) rfl rfl rfl) CZ ?_
 refine JN (p := j6 (BM ((BM ((16 : Int) * Dq)) + Mc))) rfl rfl ?_
 refine JN rfl (YQ rfl) ?_
 refine VG rfl (.bsl _ 195326 rfl (OP rfl) rfl) (RY rfl) ?_
 obtain ⟨Rx, hx127, h⟩ := AJ h
 refine UU (f := eb) 195327 hx127 rfl rfl rfl rfl rfl (KR rfl (BQ (f := eb) (l := [(byte (BM ((BM ((16 : Int) * Dq)) + Mc)))]))) rfl rfl rfl rfl ?_
 refine wq rfl ?_
 refine AB ?_
 refine wq rfl ?_
 refine AQ (p := j6 (BM (v5l8 + (2 : Int)))) rfl rfl ?_
 refine wq rfl ?_
 exact ⟨((BM (v5l8 + (2 : Int))), Rx), (C8.trans (rename 195327 196004 rfl rfl) (cq rfl)), h⟩
 refine AC (AB ?_)
 iterate 2 refine wq rfl ?_
 cases AA h
 exact DL (st1 := ⟨AY [(2, .str ([] : List UInt8)), (3, .bool false)], AY []⟩) (cq rfl) ⟨rfl, rfl⟩
 obtain rfl := AA h
 exact CU (st1 := ⟨AY [(4, .slr 196004 0 JY.length)], AY [(196004, ⟨1, true, List.map eb JY⟩)]⟩) (cq rfl) ⟨rfl, rfl⟩
theorem YC (N : Nat) (a0 : List UInt8) (r : List UInt8 × Bool) (h : NN N a0 = some r) : Sat Tryz.prog 122 AO [.str a0] (.tup [.str r.1, .bool r.2]) AO := by
 refine DK mixed Tryz.func122 Ob (rs := [.str r.1, .bool r.2]) rfl rfl ?_
 refine AC (AB ?_)
 iterate 2 refine wq rfl ?_
 refine AC (AB ?_)
 refine wq rfl ?_
 iterate 2 refine AC ?_
 refine AB ?_
 refine wq rfl ?_
 refine BZ ?_
 obtain ⟨y21, hy21, h⟩ := AJ h
 refine QI (X4 N a0 N _ _ hy21) (C8.trans (aJ 4 196004 1 true rfl rfl rfl) (cq rfl)) ?_
 clear hy21
 rcases y21 with y21 | y21
 rintro e s ⟨rfl, rfl⟩
 refine AC (AB ?_)
 refine wq rfl ?_
 refine AQ rfl (UF (l := y21) rfl rfl (BQ (f := eb) (l := y21))) ?_
 iterate 2 refine wq rfl ?_
 cases AA h
 refine BR ?_
 exact ⟨nofun, rfl, rfl⟩
 rintro e s ⟨rfl, rfl⟩
 cases AA h
 exact ⟨nofun, rfl, rfl⟩
def yJ : IC := (.seq (.seq (.reg [jm 18 7, jm 19 5, jm 20 6, jx 21 1 19 20, jl 22 1 21, jS 23 22, jb .lss 24 18 23, jm 25 24, jt 25 26 (.mov (.t 5)), jt 25 27 (.mov (.t 6)), jt 25 28 (.ixp 1 (.t 26) (.t 27)), jt 25 29 (.load 1 false (.t 28)), jt 25 30 (.mov (.t 7)), jt 25 31 (.idxs (.t 29) (.t 30)), jt 25 32 (.bin .neq (.t 31) (.c (.int .u8 61))), jp 33 25 32]) (.cond (.t 33) .skip (.exit 2))) (.block 3 (.reg [jm 34 7, ju .add 35 34 1, jm 7 35])))
def yK : IC := (.seq (.seq (.reg [jm 12 6, jm 13 5, jL 14 13, jb .lss 15 12 14]) (.cond (.t 15) .skip (.exit 0))) (.seq (.block 1 (.seq (.reg [jc 7 (j6 0)]) (.seq (.block 2 (.loop yJ)) (.seq (.seq (.reg [jm 36 7, jm 37 5, jm 38 6, jx 39 1 37 38, jl 40 1 39, jS 41 40, jb .eql 42 36 41, jm 43 42, jf 43 44 (.mov (.t 5)), jf 43 45 (.mov (.t 6)), jf 43 46 (.ixp 1 (.t 44) (.t 45)), jf 43 47 (.load 1 false (.t 46)), jf 43 48 (.call 97 [(.t 47), (.c (.int .u8 44))]), jf 43 49 (.len false (.t 48)), jf 43 50 (.bin .gtr (.t 49) (ji 1)), jo 51 43 50]) (.cond (.t 51) (.seq (.reg [jc 2 .nl, jc 3 (.bool false)]) .ret) .skip)) (.seq (.reg [jm 53 5, jm 54 6, jx 55 1 53 54, jl 56 1 55, jm 57 7, ju .add 58 57 1, jn 59 (.slcs (.t 56) (some (.t 58)) none), jn 60 (.call 122 [(.t 59)]), jm 52 60, je 61 0 52, je 62 1 52, jm 8 61, jm 9 62]) (.seq (.seq (.reg [jm 63 9, jn 64 (.un .not (.t 63))]) (.cond (.t 64) (.seq (.reg [jc 2 .nl, jc 3 (.bool false)]) .ret) .skip)) (.reg [jm 65 4, jm 66 5, jm 67 6, jx 68 1 66 67, jl 69 1 68, jm 70 7, jn 71 (.slcs (.t 69) none (some (.t 70))), jn 72 (.call 85 [(.t 71)]), jm 73 8, jn 74 (.build [(.str []), (.str [])] [(0, (1, (.t 72))), (1, (1, (.t 73)))]), jn 75 (.bsl 2 [(.t 74)]), jn 76 (.app 41 2 32 (.t 65) (.t 75)), jm 4 76]))))))) (.reg [jm 16 6, ju .add 17 16 1, jm 6 17])))
def k98 : IC := (.seq (.reg [jc 2 .nl, jc 3 (.bool false)]) (.seq (.reg [jc 4 .nl]) (.seq (.reg [jm 10 0, jn 11 (.call 97 [(.t 10), (.c (.int .u8 43))]), jm 5 11]) (.seq (.seq (.reg [jc 6 (j6 0)]) (.block 0 (.loop yK))) (.seq (.seq (.reg [jm 77 4, jn 78 (.call 61 [(.t 77)]), jn 79 (.un .not (.t 78))]) (.cond (.t 79) (.seq (.reg [jc 2 .nl, jc 3 (.bool false)]) .ret) .skip)) (.seq (.reg [jm 80 4, jm 2 80, jc 3 (.bool true)]) .ret))))))
theorem Ta : BV Tryz.prog Tryz.f98 = some ⟨81, k98, [(.tmp 2), (.tmp 3)]⟩ := by kernel_rfl
theorem TZ (N : Nat) (LK : List (List UInt8)) (GD : Int) (DJ : List AL) : ∀ (n : Nat) (x : Int) (y : Int), EQ N LK GD DJ n x = some y → WX Tryz.prog (fun _ => false) (.loop yJ) ((fun (x : Int) => ⟨AY [(4, .slr 157604 0 DJ.length), (5, .sl 1 (List.map PV.str LK)), (6, j6 GD), (7, j6 x)], AY [(157604, ⟨2, true, List.map AV DJ⟩)]⟩) x) ((fun y e s => e = .exit 2 ∧ s = ⟨AY [(4, .slr 157604 0 DJ.length), (5, .sl 1 (List.map PV.str LK)), (6, j6 GD), (7, j6 y)], AY [(157604, ⟨2, true, List.map AV DJ⟩)]⟩ : Int → Xt → St → Prop) y) := by
 refine EP _ _ (EQ N LK GD DJ) (H8 N LK GD DJ) (fun _ => rfl) (fun _ _ => rfl) ?_
 rintro rec v7l23 y h
 refine AC ?_
 obtain ⟨g2, hg2, h⟩ := AJ h
 refine F3 ⟨AY [(4, .slr 157604 0 DJ.length), (5, .sl 1 (List.map PV.str LK)), (6, j6 GD), (7, j6 v7l23), (33, .bool g2)], AY [(157604, ⟨2, true, List.map AV DJ⟩)]⟩ ?_ ?_
 have h := hg2
 refine AB ?_
 iterate 3 refine wq rfl ?_
 obtain ⟨VF, YU, h⟩ := AJ h
 refine AQ rfl (DF (cs := [.str VF]) YU rfl rfl rfl) ?_
 iterate 4 refine wq rfl ?_
 rcases BO h with ⟨c3, h⟩ | ⟨c3, h⟩
 iterate 2 refine AQ (gy rfl c3) rfl ?_
 obtain ⟨x28, hx28, h⟩ := AJ h
 refine AQ (gy rfl c3) (DF (cs := [.str x28]) hx28 rfl rfl rfl) ?_
 iterate 2 refine AQ (gy rfl c3) rfl ?_
 obtain ⟨x31, hx31, h⟩ := AJ h
 refine AQ (gy rfl c3) (GY hx31 rfl rfl) ?_
 refine AQ (p := .bool (((x31).toNat : Int) != (61 : Int))) (gy rfl c3) rfl ?_
 refine AQ rfl (BA c3 rfl rfl) ?_
 cases AA h
 exact cq rfl
 iterate 7 refine BJ (gn rfl c3) ?_
 refine AQ rfl (AZ c3 rfl rfl) ?_
 obtain rfl := AA h
 exact cq rfl
 clear hg2
 refine D5 h rfl (fun c4 h => ?_) (fun c4 h => ?_)
 refine BF (BZ (AB ?_))
 refine wq rfl ?_
 refine AQ (p := j6 (BM (v7l23 + (1 : Int)))) rfl rfl ?_
 refine wq rfl ?_
 exact ⟨(BM (v7l23 + (1 : Int))), (cq rfl), h⟩
 obtain rfl := AA h
 exact CU (st1 := ⟨AY [(4, .slr 157604 0 DJ.length), (5, .sl 1 (List.map PV.str LK)), (6, j6 GD), (7, j6 v7l23)], AY [(157604, ⟨2, true, List.map AV DJ⟩)]⟩) (cq rfl) ⟨rfl, rfl⟩
theorem U0 (N : Nat) (LK : List (List UInt8)) : ∀ (n : Nat) (x : Int × List AL) (y : (List AL) ⊕ (List AL × Bool)), ER N LK n x = some y → WX Tryz.prog (fun _ => false) (.loop yK) ((fun (x : Int × List AL) => ⟨AY [(4, .slr 157604 0 x.2.length), (5, .sl 1 (List.map PV.str LK)), (6, j6 x.1)], AY [(157604, ⟨2, true, List.map AV x.2⟩)]⟩) x) ((Sum.elim (fun y e s => e = .exit 0 ∧ s = ⟨AY [(4, .slr 157604 0 y.length)], AY [(157604, ⟨2, true, List.map AV y⟩)]⟩) (fun y e s => e = .ret ∧ s = ⟨AY [(2, .sl 2 (List.map AV y.1)), (3, .bool y.2)], AY []⟩) : ((List AL) ⊕ (List AL × Bool)) → Xt → St → Prop) y) := by
 refine EP _ _ (ER N LK) (H9 N LK) (fun _ => rfl) (fun _ _ => rfl) ?_
 rintro rec ⟨GD, DJ⟩ y h
 iterate 2 refine AC ?_
 refine AB ?_
 iterate 2 refine wq rfl ?_
 refine AQ rfl (BU rfl) ?_
 refine wq rfl ?_
 refine D5 h rfl (fun c1 h => ?_) (fun c1 h => ?_)
 refine BF (AC (BZ (AC (AB ?_))))
 refine wq rfl ?_
 refine AC (BZ ?_)
 obtain ⟨y5, Lm, h⟩ := AJ h
 refine QI (TZ N LK GD DJ N _ _ Lm) (cq rfl) ?_
 rintro e s ⟨rfl, rfl⟩
 refine AC ?_
 obtain ⟨g6, zT, h⟩ := AJ h
 refine F3 ⟨AY [(4, .slr 157604 0 DJ.length), (5, .sl 1 (List.map PV.str LK)), (6, j6 GD), (7, j6 y5), (51, .bool g6)], AY [(157604, ⟨2, true, List.map AV DJ⟩)]⟩ ?_ ?_
 have h := zT
 refine AB ?_
 iterate 3 refine wq rfl ?_
 obtain ⟨x39, hx39, h⟩ := AJ h
 refine AQ rfl (DF (cs := [.str x39]) hx39 rfl rfl rfl) ?_
 iterate 4 refine wq rfl ?_
 rcases BO h with ⟨c7, h⟩ | ⟨c7, h⟩
 iterate 7 refine BJ (gn rfl c7) ?_
 refine AQ rfl (BA c7 rfl rfl) ?_
 obtain rfl := AA h
 exact cq rfl
 iterate 2 refine AQ (gy rfl c7) rfl ?_
 obtain ⟨uN, qE, h⟩ := AJ h
 refine AQ (gy rfl c7) (DF (cs := [.str uN]) qE rfl rfl rfl) ?_
 refine AQ (gy rfl c7) rfl ?_
 obtain ⟨gL, fZ, h⟩ := AJ h
 refine CO (gy rfl c7) (CB (OY N _ _ _ fZ) rfl (.cons A8 (.cons A8 .nil)) rfl rfl rfl) ?_
 refine AQ (gy rfl c7) (BU rfl) ?_
 refine AQ (gy rfl c7) rfl ?_
 refine AQ rfl (AZ c7 rfl rfl) ?_
 cases AA h
 exact cq rfl
 clear zT
 refine D5 h rfl (fun c8 h => ?_) (fun c8 h => ?_)
 refine AC (AB ?_)
 iterate 2 refine wq rfl ?_
 cases AA h
 exact DL (st1 := ⟨AY [(2, .sl 2 (List.map AV [])), (3, .bool false)], AY []⟩) (C8.trans (KP 2 (FM 2) rfl) (cq rfl)) ⟨rfl, rfl⟩
 refine BF (AC (AB ?_))
 iterate 2 refine wq rfl ?_
 obtain ⟨x55, wD, h⟩ := AJ h
 refine AQ rfl (DF (cs := [.str x55]) wD rfl rfl rfl) ?_
 iterate 2 refine wq rfl ?_
 refine AQ (p := j6 (BM (y5 + (1 : Int)))) rfl rfl ?_
 obtain ⟨Lt, Ie, h⟩ := AJ h
 refine AQ rfl (YP Ie rfl rfl) ?_
 obtain ⟨x60, hx60, h⟩ := AJ h
 refine CO rfl (CB (YC N _ _ hx60) rfl (.cons A8 .nil) rfl rfl rfl) ?_
 iterate 5 refine wq rfl ?_
 iterate 2 refine AC ?_
 refine AB ?_
 iterate 2 refine wq rfl ?_
 refine D5 h rfl (fun c9 h => ?_) (fun c9 h => ?_)
 refine AC (AB ?_)
 iterate 2 refine wq rfl ?_
 cases AA h
 exact DL (st1 := ⟨AY [(2, .sl 2 (List.map AV [])), (3, .bool false)], AY []⟩) (C8.trans (KP 2 (FM 2) rfl) (cq rfl)) ⟨rfl, rfl⟩
 refine BF (AB ?_)
 iterate 3 refine wq rfl ?_
 obtain ⟨jC, Xf, h⟩ := AJ h
 refine AQ rfl (DF (cs := [.str jC]) Xf rfl rfl rfl) ?_
 iterate 2 refine wq rfl ?_
 obtain ⟨x71, hx71, h⟩ := AJ h
 refine AQ rfl (kP hx71 rfl rfl) ?_
 obtain ⟨x72, hx72, h⟩ := AJ h
 refine CO rfl (CB (RL N _ _ hx72) rfl (.cons A8 .nil) rfl rfl rfl) ?_
 refine wq rfl ?_
 refine AQ (p := .agg [.str x72, .str x60.1]) rfl rfl ?_
 refine CO rfl (TC 156875 rfl rfl rfl) ?_
 obtain ⟨x76, hx76, h⟩ := AJ h
 refine UU (f := AV) 156876 hx76 rfl rfl rfl rfl rfl (KR rfl (BQ (f := AV) (l := [(⟨x72, x60.1⟩ : AL)]))) rfl rfl rfl rfl ?_
 refine wq rfl ?_
 refine V4 (cn (st := _) (l := [(4, .slr 156876 0 x76.length), (5, .sl 1 (List.map PV.str LK)), (6, j6 GD)]) (m := [(156876, ⟨2, true, List.map AV x76⟩)]) rfl rfl rfl rfl) ?_
 refine AB ?_
 refine wq rfl ?_
 refine AQ (p := j6 (BM (GD + (1 : Int)))) rfl rfl ?_
 refine wq rfl ?_
 exact ⟨((BM (GD + (1 : Int))), x76), (C8.trans (rename 156876 157604 rfl rfl) (cq rfl)), h⟩
 obtain rfl := AA h
 exact CU (st1 := ⟨AY [(4, .slr 157604 0 DJ.length)], AY [(157604, ⟨2, true, List.map AV DJ⟩)]⟩) (cq rfl) ⟨rfl, rfl⟩
theorem VN (N : Nat) (a0 : List UInt8) (r : List AL × Bool) (h : KX N a0 = some r) : Sat Tryz.prog 98 AO [.str a0] (.tup [.sl 2 (List.map AV r.1), .bool r.2]) AO := by
 refine DK mixed Tryz.func98 Ta (rs := [.sl 2 (List.map AV r.1), .bool r.2]) rfl rfl ?_
 refine AC (AB ?_)
 iterate 2 refine wq rfl ?_
 refine AC (AB ?_)
 refine wq rfl ?_
 refine AC (AB ?_)
 refine wq rfl ?_
 obtain ⟨LK, bI, h⟩ := AJ h
 refine CO rfl (CB (OY N _ _ _ bI) rfl (.cons A8 (.cons A8 .nil)) rfl rfl rfl) ?_
 refine wq rfl ?_
 iterate 2 refine AC ?_
 refine AB ?_
 refine wq rfl ?_
 refine BZ ?_
 obtain ⟨M7, iR, h⟩ := AJ h
 refine QI (U0 N LK N _ _ iR) (C8.trans (aJ 4 157604 2 true rfl rfl rfl) (cq rfl)) ?_
 clear iR
 rcases M7 with M7 | M7
 rintro e s ⟨rfl, rfl⟩
 iterate 2 refine AC ?_
 refine AB ?_
 refine wq rfl ?_
 obtain ⟨Lh, Xa, h⟩ := AJ h
 refine CO rfl (CB (NH N _ _ Xa) rfl (.cons (ZQ rfl (BQ (f := AV) (l := M7))) .nil) rfl rfl rfl) ?_
 refine wq rfl ?_
 refine D5 h rfl (fun c11 h => ?_) (fun c11 h => ?_)
 refine AC (AB ?_)
 iterate 2 refine wq rfl ?_
 cases AA h
 refine DL (st1 := ⟨AY [(2, .sl 2 (List.map AV [])), (3, .bool false)], AY []⟩) (C8.trans (KP 2 (FM 2) rfl) (cq rfl)) ?_
 exact ⟨nofun, rfl, rfl⟩
 refine BF (AC (AB ?_))
 iterate 3 refine wq rfl ?_
 cases AA h
 refine DL (st1 := ⟨AY [(2, .sl 2 (List.map AV M7)), (3, .bool true)], AY []⟩) (C8.trans (Vd.freeze 157604 _ rfl rfl rfl) (C8.trans (KP 2 (H5 (congrArg (PV.sl 2) (BQ (f := AV) (l := M7)))) rfl) (cq rfl))) ?_
 exact ⟨nofun, rfl, rfl⟩
 rintro e s ⟨rfl, rfl⟩
 cases AA h
 exact ⟨nofun, rfl, rfl⟩
def yI : IC := (.seq (.seq (.reg [jm 7 3, jm 8 0, jL 9 8, jb .lss 10 7 9]) (.cond (.t 10) .skip (.exit 0))) (.seq (.block 1 (.seq (.reg [jm 13 0, jm 14 3, jx 15 1 13 14, jl 16 1 15, jn 17 (.call 61 [(.t 16)]), jn 18 (.un .not (.t 17))]) (.cond (.t 18) (.seq (.reg [jc 2 (.bool false)]) .ret) .skip))) (.reg [jm 11 3, ju .add 12 11 1, jm 3 12])))
def k99 : IC := (.seq (.reg [jc 2 (.bool false)]) (.seq (.seq (.reg [jm 4 0, jL 5 4, ju .gtr 6 5 8]) (.cond (.t 6) (.seq (.reg [jc 2 (.bool false)]) .ret) .skip)) (.seq (.seq (.reg [jc 3 (j6 0)]) (.block 0 (.loop yI))) (.seq (.reg [jc 2 (.bool true)]) .ret))))
theorem Sz : BV Tryz.prog Tryz.f99 = some ⟨19, k99, [(.tmp 2)]⟩ := by kernel_rfl
theorem YJ (N : Nat) (a0 : List (List AL)) : ∀ (n : Nat) (x : Int) (y : Unit ⊕ Bool), GU N a0 n x = some y → WX Tryz.prog (fun _ => false) (.loop yI) ((fun (x : Int) => ⟨AY [(0, .sl 1 (List.map (es 2 AV) a0)), (3, j6 x)], AY []⟩) x) ((Sum.elim (fun y e s => e = .exit 0 ∧ s = ⟨AY [], AY []⟩) (fun y e s => e = .ret ∧ s = ⟨AY [(2, .bool y)], AY []⟩) : (Unit ⊕ Bool) → Xt → St → Prop) y) := by
 refine EP _ _ (GU N a0) (KZ N a0) (fun _ => rfl) (fun _ _ => rfl) ?_
 rintro rec v3l14 y h
 iterate 2 refine AC ?_
 refine AB ?_
 iterate 2 refine wq rfl ?_
 refine AQ rfl (BU rfl) ?_
 refine wq rfl ?_
 refine D5 h rfl (fun c2 h => ?_) (fun c2 h => ?_)
 refine BF (AC (BZ (AC (AB ?_))))
 iterate 2 refine wq rfl ?_
 obtain ⟨NK, RX, h⟩ := AJ h
 refine AQ rfl (DF (cs := [.sl 2 (List.map AV NK)]) RX rfl rfl rfl) ?_
 refine wq rfl ?_
 obtain ⟨E9, VU, h⟩ := AJ h
 refine CO rfl (CB (NH N _ _ VU) rfl (.cons A8 .nil) rfl rfl rfl) ?_
 refine wq rfl ?_
 refine D5 h rfl (fun c3 h => ?_) (fun c3 h => ?_)
 refine AC (AB ?_)
 refine wq rfl ?_
 obtain rfl := AA h
 exact DL (st1 := ⟨AY [(2, .bool false)], AY []⟩) (cq rfl) ⟨rfl, rfl⟩
 refine BF (AB ?_)
 refine wq rfl ?_
 refine AQ (p := j6 (BM (v3l14 + (1 : Int)))) rfl rfl ?_
 refine wq rfl ?_
 exact ⟨(BM (v3l14 + (1 : Int))), (cq rfl), h⟩
 cases AA h
 exact CU (st1 := ⟨AY [], AY []⟩) (cq rfl) ⟨rfl, rfl⟩
theorem aW (N : Nat) (a0 : List (List AL)) (r : Bool) (h : QV N a0 = some r) : Sat Tryz.prog 99 AO [.sl 1 (List.map (es 2 AV) a0)] (.bool r) AO := by
 refine DK mixed Tryz.func99 Sz (rs := [.bool r]) rfl rfl ?_
 refine AC (AB ?_)
 refine wq rfl ?_
 iterate 2 refine AC ?_
 refine AB ?_
 refine wq rfl ?_
 refine AQ rfl (BU rfl) ?_
 refine wq rfl ?_
 refine D5 h rfl (fun c1 h => ?_) (fun c1 h => ?_)
 refine AC (AB ?_)
 refine wq rfl ?_
 obtain rfl := AA h
 refine BR ?_
 exact ⟨nofun, rfl, rfl⟩
 refine BF ?_
 iterate 2 refine AC ?_
 refine AB ?_
 refine wq rfl ?_
 refine BZ ?_
 obtain ⟨y4, hy4, h⟩ := AJ h
 refine QI (YJ N a0 N _ _ hy4) (cq rfl) ?_
 clear hy4
 rcases y4 with y4 | y4
 rintro e s ⟨rfl, rfl⟩
 refine AC (AB ?_)
 refine wq rfl ?_
 obtain rfl := AA h
 refine BR ?_
 exact ⟨nofun, rfl, rfl⟩
 rintro e s ⟨rfl, rfl⟩
 obtain rfl := AA h
 exact ⟨nofun, rfl, rfl⟩
def yQ : IC := (.seq (.seq (.reg [jm 13 6, jm 14 5, jL 15 14, jb .lss 16 13 15]) (.cond (.t 16) .skip (.exit 0))) (.seq (.block 1 (.seq (.reg [jm 20 5, jm 21 6, jx 22 1 20 21, jl 23 1 22, jn 24 (.call 98 [(.t 23)]), jm 19 24, je 25 0 19, je 26 1 19, jm 7 25, jm 8 26]) (.seq (.seq (.reg [jm 27 8, jn 28 (.un .not (.t 27))]) (.cond (.t 28) (.seq (.reg [jc 2 .nl, jc 3 (.bool false)]) .ret) .skip)) (.reg [jm 29 4, jm 30 7, jn 31 (.bsl 1 [(.t 30)]), jn 32 (.app 25 1 24 (.t 29) (.t 31)), jm 4 32])))) (.reg [jm 17 6, ju .add 18 17 1, jm 6 18])))
def k83 : IC := (.seq (.reg [jc 2 .nl, jc 3 (.bool false)]) (.seq (.seq (.reg [jm 9 0, jn 10 (.bin .eql (.t 9) (.c (.str [])))]) (.cond (.t 10) (.seq (.reg [jc 2 .nl, jc 3 (.bool true)]) .ret) .skip)) (.seq (.reg [jc 4 .nl]) (.seq (.reg [jm 11 0, jn 12 (.call 97 [(.t 11), (.c (.int .u8 44))]), jm 5 12]) (.seq (.seq (.reg [jc 6 (j6 0)]) (.block 0 (.loop yQ))) (.seq (.seq (.reg [jm 33 4, jn 34 (.call 99 [(.t 33)]), jn 35 (.un .not (.t 34))]) (.cond (.t 35) (.seq (.reg [jc 2 .nl, jc 3 (.bool false)]) .ret) .skip)) (.seq (.reg [jm 36 4, jm 2 36, jc 3 (.bool true)]) .ret)))))))
theorem Tp : BV Tryz.prog Tryz.f83 = some ⟨37, k83, [(.tmp 2), (.tmp 3)]⟩ := by kernel_rfl
theorem VY (N : Nat) (IP : List (List UInt8)) : ∀ (n : Nat) (x : Int × List (List AL)) (y : (List (List AL)) ⊕ (List (List AL) × Bool)), FN N IP n x = some y → WX Tryz.prog (fun _ => false) (.loop yQ) ((fun (x : Int × List (List AL)) => ⟨AY [(4, .slr 133604 0 x.2.length), (5, .sl 1 (List.map PV.str IP)), (6, j6 x.1)], AY [(133604, ⟨1, true, List.map (es 2 AV) x.2⟩)]⟩) x) ((Sum.elim (fun y e s => e = .exit 0 ∧ s = ⟨AY [(4, .slr 133604 0 y.length)], AY [(133604, ⟨1, true, List.map (es 2 AV) y⟩)]⟩) (fun y e s => e = .ret ∧ s = ⟨AY [(2, .sl 1 (List.map (es 2 AV) y.1)), (3, .bool y.2)], AY []⟩) : ((List (List AL)) ⊕ (List (List AL) × Bool)) → Xt → St → Prop) y) := by
 refine EP _ _ (FN N IP) (J6 N IP) (fun _ => rfl) (fun _ _ => rfl) ?_
 rintro rec ⟨M9, UC⟩ y h
 iterate 2 refine AC ?_
 refine AB ?_
 iterate 2 refine wq rfl ?_
 refine AQ rfl (BU rfl) ?_
 refine wq rfl ?_
 refine D5 h rfl (fun c2 h => ?_) (fun c2 h => ?_)
 refine BF (AC (BZ (AC (AB ?_))))
 iterate 2 refine wq rfl ?_
 obtain ⟨WY, YT, h⟩ := AJ h
 refine AQ rfl (DF (cs := [.str WY]) YT rfl rfl rfl) ?_
 refine wq rfl ?_
 obtain ⟨x24, hx24, h⟩ := AJ h
 refine CO rfl (CB (VN N _ _ hx24) rfl (.cons A8 .nil) rfl rfl rfl) ?_
 iterate 5 refine wq rfl ?_
 iterate 2 refine AC ?_
 refine AB ?_
 iterate 2 refine wq rfl ?_
 refine D5 h rfl (fun c3 h => ?_) (fun c3 h => ?_)
 refine AC (AB ?_)
 iterate 2 refine wq rfl ?_
 cases AA h
 exact DL (st1 := ⟨AY [(2, .sl 1 (List.map (es 2 AV) [])), (3, .bool false)], AY []⟩) (C8.trans (KP 2 (FM 1) rfl) (cq rfl)) ⟨rfl, rfl⟩
 refine BF (AB ?_)
 iterate 2 refine wq rfl ?_
 refine CO rfl (TC 132831 rfl rfl rfl) ?_
 obtain ⟨x32, hx32, h⟩ := AJ h
 refine UU (f := (es 2 AV)) 132832 hx32 rfl rfl rfl rfl rfl (KR rfl (BQ (f := (es 2 AV)) (l := [x24.1]))) rfl rfl rfl rfl ?_
 refine wq rfl ?_
 refine AB ?_
 refine wq rfl ?_
 refine AQ (p := j6 (BM (M9 + (1 : Int)))) rfl rfl ?_
 refine wq rfl ?_
 exact ⟨((BM (M9 + (1 : Int))), x32), (C8.trans (rename 132832 133604 rfl rfl) (cq rfl)), h⟩
 obtain rfl := AA h
 exact CU (st1 := ⟨AY [(4, .slr 133604 0 UC.length)], AY [(133604, ⟨1, true, List.map (es 2 AV) UC⟩)]⟩) (cq rfl) ⟨rfl, rfl⟩
theorem YD (N : Nat) (a0 : List UInt8) (r : List (List AL) × Bool) (h : NP N a0 = some r) : Sat Tryz.prog 83 AO [.str a0] (.tup [.sl 1 (List.map (es 2 AV) r.1), .bool r.2]) AO := by
 refine DK mixed Tryz.func83 Tp (rs := [.sl 1 (List.map (es 2 AV) r.1), .bool r.2]) rfl rfl ?_
 refine AC (AB ?_)
 iterate 2 refine wq rfl ?_
 iterate 2 refine AC ?_
 refine AB ?_
 iterate 2 refine wq rfl ?_
 refine D5 h rfl (fun c1 h => ?_) (fun c1 h => ?_)
 refine AC (AB ?_)
 iterate 2 refine wq rfl ?_
 cases AA h
 refine DL (st1 := ⟨AY [(2, .sl 1 (List.map (es 2 AV) [])), (3, .bool true)], AY []⟩) (C8.trans (KP 2 (FM 1) rfl) (cq rfl)) ?_
 exact ⟨nofun, rfl, rfl⟩
 refine BF (AC (AB ?_))
 refine wq rfl ?_
 refine AC (AB ?_)
 refine wq rfl ?_
 obtain ⟨IP, XN, h⟩ := AJ h
 refine CO rfl (CB (OY N _ _ _ XN) rfl (.cons A8 (.cons A8 .nil)) rfl rfl rfl) ?_
 refine wq rfl ?_
 iterate 2 refine AC ?_
 refine AB ?_
 refine wq rfl ?_
 refine BZ ?_
 obtain ⟨y4, hy4, h⟩ := AJ h
 refine QI (VY N IP N _ _ hy4) (C8.trans (aJ 4 133604 1 true rfl rfl rfl) (cq rfl)) ?_
 clear hy4
 rcases y4 with y4 | y4
 rintro e s ⟨rfl, rfl⟩
 iterate 2 refine AC ?_
 refine AB ?_
 refine wq rfl ?_
 obtain ⟨x34, hx34, h⟩ := AJ h
 refine CO rfl (CB (aW N _ _ hx34) rfl (.cons (ZQ rfl (BQ (f := (es 2 AV)) (l := y4))) .nil) rfl rfl rfl) ?_
 refine wq rfl ?_
 refine D5 h rfl (fun c5 h => ?_) (fun c5 h => ?_)
 refine AC (AB ?_)
 iterate 2 refine wq rfl ?_
 cases AA h
 refine DL (st1 := ⟨AY [(2, .sl 1 (List.map (es 2 AV) [])), (3, .bool false)], AY []⟩) (C8.trans (KP 2 (FM 1) rfl) (cq rfl)) ?_
 exact ⟨nofun, rfl, rfl⟩
 refine BF (AC (AB ?_))
 iterate 3 refine wq rfl ?_
 cases AA h
 refine DL (st1 := ⟨AY [(2, .sl 1 (List.map (es 2 AV) y4)), (3, .bool true)], AY []⟩) (C8.trans (Vd.freeze 133604 _ rfl rfl rfl) (C8.trans (KP 2 (H5 (congrArg (PV.sl 1) (BQ (f := (es 2 AV)) (l := y4)))) rfl) (cq rfl))) ?_
 exact ⟨nofun, rfl, rfl⟩
 rintro e s ⟨rfl, rfl⟩
 cases AA h
 exact ⟨nofun, rfl, rfl⟩
def yU : IC := (.seq (.seq (.reg [jm 25 9, jm 26 1, jS 27 26, jb .lss 28 25 27]) (.cond (.t 28) .skip (.exit 0))) (.seq (.block 1 (.seq (.reg [jm 31 7, jm 32 31, jt 32 33 (.mov (.t 1)), jt 32 34 (.mov (.t 9)), jt 32 35 (.idxs (.t 33) (.t 34)), jt 32 36 (.bin .geq (.t 35) (.c (.int .u8 32))), jp 37 32 36, jm 38 37, jt 38 39 (.mov (.t 1)), jt 38 40 (.mov (.t 9)), jt 38 41 (.idxs (.t 39) (.t 40)), jt 38 42 (.bin .leq (.t 41) (.c (.int .u8 126))), jp 43 38 42, jm 7 43]) (.reg [jm 44 8, jm 45 44, jf 45 46 (.mov (.t 1)), jf 45 47 (.mov (.t 9)), jf 45 48 (.idxs (.t 46) (.t 47)), jf 45 49 (.bin .neq (.t 48) (.c (.int .u8 32))), jo 50 45 49, jm 8 50]))) (.reg [jm 29 9, ju .add 30 29 1, jm 9 30])))
def k62 : IC := (.seq (.reg [jc 4 (j6 0)]) (.seq (.reg [jm 11 0, jn 12 (.call 63 [(.t 11)]), jm 10 12, je 13 0 10, je 14 1 10, jn 5 (.box 90 (.c (.agg [(.str []), (j6 0), (.bool false)]))), js 3 5 13, jm 6 14]) (.seq (.seq (.reg [jm 15 6, jn 16 (.un .not (.t 15))]) (.cond (.t 16) (.seq (.reg [jc 4 (j6 16)]) .ret) .skip)) (.seq (.seq (.reg [jm 17 1, jS 18 17, ju .lss 19 18 1, jm 20 19, jf 20 21 (.mov (.t 1)), jf 20 22 (.len true (.t 21)), jf 20 23 (.bin .gtr (.t 22) (ji 60)), jo 24 20 23]) (.cond (.t 24) (.seq (.reg [jc 4 (j6 17)]) .ret) .skip)) (.seq (.reg [jc 7 (.bool true)]) (.seq (.reg [jc 8 (.bool false)]) (.seq (.seq (.reg [jc 9 (j6 0)]) (.block 0 (.loop yU))) (.seq (.seq (.reg [ja 51 1 5, jl 52 1 51]) (.block 2 (.seq (.reg [ju .eql 54 52 1, jm 53 54]) (.cond (.t 53) (.reg [jm 55 7, jm 56 55, jt 56 57 (.mov (.t 8)), jp 58 56 57, jm 7 58]) (.seq (.reg [ju .eql 60 52 3, jm 59 60]) (.cond (.t 59) (.reg [jm 61 1, jn 62 (.call 82 [(.t 61)]), jm 7 62]) (.seq (.reg [ju .eql 64 52 4, jm 63 64]) (.cond (.t 63) (.reg [jc 7 (.bool true)]) (.seq (.reg [ju .eql 66 52 5, jm 65 66]) (.cond (.t 65) (.reg [jm 68 1, jn 69 (.call 83 [(.t 68)]), jm 67 69, je 70 0 67, je 71 1 67, jm 7 71]) .skip)))))))))) (.seq (.seq (.reg [jm 72 7, jn 73 (.un .not (.t 72))]) (.cond (.t 73) (.seq (.reg [jc 4 (j6 17)]) .ret) .skip)) (.seq (.reg [jc 4 (j6 0)]) .ret))))))))))
theorem Uj : BV Tryz.prog Tryz.f62 = some ⟨74, k62, [(.tmp 4)]⟩ := by kernel_rfl
theorem WB (N : Nat) (a1 : List UInt8) (IP : BB × Bool) : ∀ (n : Nat) (x : Bool × Bool × Int) (y : Bool × Bool), FR N a1 IP n x = some y → WX Tryz.prog (fun _ => false) (.loop yU) ((fun (x : Bool × Bool × Int) => ⟨AY [(1, .str a1), (5, .ptr 99205 0 0), (7, .bool x.1), (8, .bool x.2.1), (9, j6 x.2.2)], AY [(99205, ⟨3, false, [CG IP.1]⟩)]⟩) x) ((fun y e s => e = .exit 0 ∧ s = ⟨AY [(1, .str a1), (5, .ptr 99205 0 0), (7, .bool y.1), (8, .bool y.2)], AY [(99205, ⟨3, false, [CG IP.1]⟩)]⟩ : (Bool × Bool) → Xt → St → Prop) y) := by
 refine EP _ _ (FR N a1 IP) (JB N a1 IP) (fun _ => rfl) (fun _ _ => rfl) ?_
 rintro rec ⟨xM, rC, XZ⟩ y h
 iterate 2 refine AC ?_
 refine AB ?_
 iterate 4 refine wq rfl ?_
 refine D5 h rfl (fun c5 h => ?_) (fun c5 h => ?_)
 refine BF (AC (BZ ?_))
 obtain ⟨g6, zT, h⟩ := AJ h
 refine F3 ⟨AY [(1, .str a1), (5, .ptr 99205 0 0), (7, .bool g6), (8, .bool rC), (9, j6 XZ)], AY [(99205, ⟨3, false, [CG IP.1]⟩)]⟩ ?_ ?_
 have h := zT
 refine AB ?_
 iterate 2 refine wq rfl ?_
 rcases BO h with ⟨c7, h⟩ | ⟨c7, h⟩
 iterate 2 refine AQ (gy rfl c7) rfl ?_
 obtain ⟨LM, qF, h⟩ := AJ h
 refine AQ (gy rfl c7) (GY qF rfl rfl) ?_
 refine AQ (p := .bool (decide (((LM).toNat : Int) ≥ (32 : Int)))) (gy rfl c7) rfl ?_
 refine AQ rfl (BA c7 rfl rfl) ?_
 refine wq rfl ?_
 rcases BO h with ⟨c8, h⟩ | ⟨c8, h⟩
 iterate 2 refine AQ (gy rfl c8) rfl ?_
 obtain ⟨x41, lD, h⟩ := AJ h
 refine AQ (gy rfl c8) (GY lD rfl rfl) ?_
 refine AQ (p := .bool (decide (((x41).toNat : Int) ≤ (126 : Int)))) (gy rfl c8) rfl ?_
 refine AQ rfl (BA c8 rfl rfl) ?_
 refine wq rfl ?_
 cases AA h
 exact cq rfl
 iterate 4 refine BJ (gn rfl c8) ?_
 refine AQ rfl (AZ c8 rfl rfl) ?_
 refine wq rfl ?_
 obtain rfl := AA h
 exact cq rfl
 iterate 4 refine BJ (gn rfl c7) ?_
 refine AQ rfl (AZ c7 rfl rfl) ?_
 refine wq rfl ?_
 iterate 4 refine BJ rfl ?_
 iterate 2 refine wq rfl ?_
 obtain rfl := AA h
 exact cq rfl
 clear zT
 refine AB ?_
 iterate 2 refine wq rfl ?_
 rcases BO h with ⟨c9, h⟩ | ⟨c9, h⟩
 iterate 4 refine BJ (gn rfl c9) ?_
 refine AQ rfl (BA c9 rfl rfl) ?_
 refine wq rfl ?_
 refine AB ?_
 refine wq rfl ?_
 refine AQ (p := j6 (BM (XZ + (1 : Int)))) rfl rfl ?_
 refine wq rfl ?_
 exact ⟨(g6, true, (BM (XZ + (1 : Int)))), (cq rfl), h⟩
 iterate 2 refine AQ (gy rfl c9) rfl ?_
 obtain ⟨gL, fZ, h⟩ := AJ h
 refine AQ (gy rfl c9) (GY fZ rfl rfl) ?_
 refine AQ (p := .bool (((gL).toNat : Int) != (32 : Int))) (gy rfl c9) rfl ?_
 refine AQ rfl (AZ c9 rfl rfl) ?_
 refine wq rfl ?_
 refine AB ?_
 refine wq rfl ?_
 refine AQ (p := j6 (BM (XZ + (1 : Int)))) rfl rfl ?_
 refine wq rfl ?_
 exact ⟨(g6, (((gL).toNat : Int) != (32 : Int)), (BM (XZ + (1 : Int)))), (cq rfl), h⟩
 cases AA h
 exact CU (st1 := ⟨AY [(1, .str a1), (5, .ptr 99205 0 0), (7, .bool xM), (8, .bool rC)], AY [(99205, ⟨3, false, [CG IP.1]⟩)]⟩) (cq rfl) ⟨rfl, rfl⟩
theorem RN (N : Nat) (a0 : List UInt8) (a1 : List UInt8) (r : Int) (h : L6 N a0 a1 = some r) : Sat Tryz.prog 62 AO [.str a0, .str a1] (j6 r) AO := by
 refine DK mixed Tryz.func62 Uj (rs := [j6 r]) rfl rfl ?_
 refine AC (AB ?_)
 refine wq rfl ?_
 refine AC (AB ?_)
 refine wq rfl ?_
 obtain ⟨IP, XN, h⟩ := AJ h
 refine CO rfl (CB (SN N _ _ XN) rfl (.cons A8 .nil) rfl rfl rfl) ?_
 iterate 3 refine wq rfl ?_
 refine CO rfl (G5 99205 rfl rfl rfl rfl rfl) ?_
 refine EW (e' := CG IP.1) rfl rfl rfl rfl rfl rfl rfl rfl nofun rfl ?_
 refine wq rfl ?_
 iterate 2 refine AC ?_
 refine AB ?_
 iterate 2 refine wq rfl ?_
 refine D5 h rfl (fun c1 h => ?_) (fun c1 h => ?_)
 refine AC (AB ?_)
 refine wq rfl ?_
 obtain rfl := AA h
 refine BR ?_
 exact ⟨nofun, rfl, rfl⟩
 refine BF (AC ?_)
 obtain ⟨g2, hg2, h⟩ := AJ h
 refine F3 ⟨AY [(1, .str a1), (5, .ptr 99205 0 0), (24, .bool g2)], AY [(99205, ⟨3, false, [CG IP.1]⟩)]⟩ ?_ ?_
 have h := hg2
 refine AB ?_
 iterate 4 refine wq rfl ?_
 rcases BO h with ⟨c3, h⟩ | ⟨c3, h⟩
 iterate 3 refine BJ (gn rfl c3) ?_
 refine AQ rfl (BA c3 rfl rfl) ?_
 obtain rfl := AA h
 exact cq rfl
 iterate 3 refine AQ (gy rfl c3) rfl ?_
 refine AQ rfl (AZ c3 rfl rfl) ?_
 cases AA h
 exact cq rfl
 clear hg2
 refine D5 h rfl (fun c4 h => ?_) (fun c4 h => ?_)
 refine AC (AB ?_)
 refine wq rfl ?_
 obtain rfl := AA h
 refine BR ?_
 exact ⟨nofun, rfl, rfl⟩
 refine BF (AC (AB ?_))
 refine wq rfl ?_
 refine AC (AB ?_)
 refine wq rfl ?_
 iterate 2 refine AC ?_
 refine AB ?_
 refine wq rfl ?_
 refine BZ ?_
 obtain ⟨M7, iR, h⟩ := AJ h
 refine QI (WB N a1 IP N _ _ iR) (cq rfl) ?_
 rintro e s ⟨rfl, rfl⟩
 refine QJ (fun (x : Bool) => ⟨AY [(7, .bool x)], AY []⟩) (fun x => EY x = some r) ?_ ?_
 rintro Qd h
 iterate 2 refine AC ?_
 refine AB ?_
 iterate 2 refine wq rfl ?_
 refine D5 h rfl (fun c11 h => ?_) (fun c11 h => ?_)
 refine AC (AB ?_)
 refine wq rfl ?_
 obtain rfl := AA h
 refine BR ?_
 exact ⟨nofun, rfl, rfl⟩
 refine BF (AC (AB ?_))
 refine wq rfl ?_
 obtain rfl := AA h
 refine BR ?_
 exact ⟨nofun, rfl, rfl⟩
 refine AC (AB ?_)
 iterate 2 refine wq rfl ?_
 refine BZ (AC (AB ?_))
 iterate 2 refine wq rfl ?_
 refine D5 h rfl (fun c12 h => ?_) (fun c12 h => ?_)
 refine AB ?_
 iterate 2 refine wq rfl ?_
 rcases BO h with ⟨c13, h⟩ | ⟨c13, h⟩
 refine AQ (gy rfl c13) rfl ?_
 refine AQ rfl (BA c13 rfl rfl) ?_
 refine wq rfl ?_
 exact ⟨M7.2, (cq rfl), h⟩
 refine BJ (gn rfl c13) ?_
 refine AQ rfl (AZ c13 rfl rfl) ?_
 refine wq rfl ?_
 exact ⟨false, (cq rfl), h⟩
 refine AC (AB ?_)
 iterate 2 refine wq rfl ?_
 refine D5 h rfl (fun c14 h => ?_) (fun c14 h => ?_)
 refine AB ?_
 refine wq rfl ?_
 obtain ⟨x62, hx62, h⟩ := AJ h
 refine CO rfl (CB (YE N _ _ hx62) rfl (.cons A8 .nil) rfl rfl rfl) ?_
 refine wq rfl ?_
 exact ⟨x62, (cq rfl), h⟩
 refine AC (AB ?_)
 iterate 2 refine wq rfl ?_
 refine D5 h rfl (fun c15 h => ?_) (fun c15 h => ?_)
 refine AB ?_
 refine wq rfl ?_
 exact ⟨true, (cq rfl), h⟩
 refine AC (AB ?_)
 iterate 2 refine wq rfl ?_
 refine D5 h rfl (fun c16 h => ?_) (fun c16 h => ?_)
 refine AB ?_
 refine wq rfl ?_
 obtain ⟨x69, Xe, h⟩ := AJ h
 refine CO rfl (CB (YD N _ _ Xe) rfl (.cons A8 .nil) rfl rfl rfl) ?_
 iterate 4 refine wq rfl ?_
 exact ⟨x69.2, (cq rfl), h⟩
 refine BF ?_
 exact ⟨M7.1, (cq rfl), h⟩
def zD : IC := (.seq (.seq (.reg [jm 12 3, jm 13 0, jL 14 13, jb .lss 15 12 14]) (.cond (.t 15) .skip (.exit 0))) (.seq (.block 1 (.seq (.regd 20 [jm 18 0, jm 19 3, jx 20 2 18 19, ja 21 0 20, jl 22 1 21, jn 23 (.bin .eql (.t 22) (.c (.str [101, 110, 116, 114, 121, 105, 100]))), jm 24 23, jf 24 25 (.mov (.t 0)), jf 24 26 (.mov (.t 3)), jf 24 27 (.ixp 2 (.t 25) (.t 26)), jf 24 28 (.fda 0 (.t 27)), jf 24 29 (.load 1 false (.t 28)), jf 24 30 (.mov (.t 0)), jf 24 31 (.mov (.t 3)), jf 24 32 (.ixp 2 (.t 30) (.t 31)), jf 24 33 (.fda 1 (.t 32)), jf 24 34 (.load 1 false (.t 33)), jf 24 35 (.call 62 [(.t 29), (.t 34)]), jf 24 36 (.bin .neq (.t 35) (ji 0)), jo 37 24 36]) (.cond (.t 37) (.seq (.reg [jc 2 (.bool false)]) .ret) .skip))) (.reg [jm 16 3, ju .add 17 16 1, jm 3 17])))
def k33 : IC := (.seq (.reg [jc 2 (.bool false)]) (.seq (.seq (.reg [jm 4 0, jn 5 (.call 61 [(.t 4)]), jn 6 (.un .not (.t 5)), jm 7 6, jf 7 8 (.mov (.t 0)), jf 7 9 (.len false (.t 8)), jf 7 10 (.bin .geq (.t 9) (ji 4)), jo 11 7 10]) (.cond (.t 11) (.seq (.reg [jc 2 (.bool false)]) .ret) .skip)) (.seq (.seq (.reg [jc 3 (j6 0)]) (.block 0 (.loop zD))) (.seq (.reg [jc 2 (.bool true)]) .ret))))
theorem Vn : BV Tryz.prog Tryz.f33 = some ⟨38, k33, [(.tmp 2)]⟩ := by kernel_rfl
theorem X6 (N : Nat) (a0 : List AL) : ∀ (n : Nat) (x : Int) (y : Unit ⊕ Bool), FY N a0 n x = some y → WX Tryz.prog (fun _ => false) (.loop zD) ((fun (x : Int) => ⟨AY [(0, .sl 2 (List.map AV a0)), (3, j6 x)], AY []⟩) x) ((Sum.elim (fun y e s => e = .exit 0 ∧ s = ⟨AY [], AY []⟩) (fun y e s => e = .ret ∧ s = ⟨AY [(2, .bool y)], AY []⟩) : (Unit ⊕ Bool) → Xt → St → Prop) y) := by
 refine EP _ _ (FY N a0) (JS N a0) (fun _ => rfl) (fun _ _ => rfl) ?_
 rintro rec v3l14 y h
 iterate 2 refine AC ?_
 refine AB ?_
 iterate 2 refine wq rfl ?_
 refine AQ rfl (BU rfl) ?_
 refine wq rfl ?_
 refine D5 h rfl (fun c4 h => ?_) (fun c4 h => ?_)
 refine BF (AC (BZ ?_))
 obtain ⟨g5, hg5, h⟩ := AJ h
 refine F3 ⟨AY [(0, .sl 2 (List.map AV a0)), (3, j6 v3l14), (37, .bool g5)], AY []⟩ ?_ ?_
 have h := hg5
 refine P6 ?_
 iterate 2 refine dq rfl ?_
 obtain ⟨x20, bG, h⟩ := AJ h
 refine JN rfl (DF (cs := [.str x20.Attr, .str x20.Value]) bG rfl rfl rfl) ?_
 refine JN (p := .ep [.str x20.Attr, .str x20.Value]) rfl rfl ?_
 iterate 3 refine dq rfl ?_
 rcases BO h with ⟨c6, h⟩ | ⟨c6, h⟩
 iterate 12 refine cB (gn rfl c6) ?_
 refine JN rfl (BA c6 rfl rfl) ?_
 obtain rfl := AA h
 exact cq rfl
 iterate 2 refine JN (gy rfl c6) rfl ?_
 obtain ⟨x27, hx27, h⟩ := AJ h
 refine JN (gy rfl c6) (DF (cs := [.str x27.Attr, .str x27.Value]) hx27 rfl rfl rfl) ?_
 refine JN (p := .ep [.str x27.Attr, .str x27.Value]) (gy rfl c6) rfl ?_
 iterate 3 refine JN (gy rfl c6) rfl ?_
 obtain ⟨x32, hx32, h⟩ := AJ h
 refine JN (gy rfl c6) (DF (cs := [.str x32.Attr, .str x32.Value]) hx32 rfl rfl rfl) ?_
 refine JN (p := .ep [.str x32.Value]) (gy rfl c6) rfl ?_
 refine JN (gy rfl c6) rfl ?_
 obtain ⟨LM, qF, h⟩ := AJ h
 refine VG (gy rfl c6) (PD (RN N _ _ _ qF) rfl (.cons A8 (.cons A8 .nil)) rfl rfl rfl) CZ ?_
 refine JN (gy rfl c6) rfl ?_
 refine JN rfl (AZ c6 rfl rfl) ?_
 cases AA h
 exact cq rfl
 clear hg5
 refine D5 h rfl (fun c7 h => ?_) (fun c7 h => ?_)
 refine AC (AB ?_)
 refine wq rfl ?_
 obtain rfl := AA h
 exact DL (st1 := ⟨AY [(2, .bool false)], AY []⟩) (cq rfl) ⟨rfl, rfl⟩
 refine BF (AB ?_)
 refine wq rfl ?_
 refine AQ (p := j6 (BM (v3l14 + (1 : Int)))) rfl rfl ?_
 refine wq rfl ?_
 exact ⟨(BM (v3l14 + (1 : Int))), (cq rfl), h⟩
 cases AA h
 exact CU (st1 := ⟨AY [], AY []⟩) (cq rfl) ⟨rfl, rfl⟩
theorem YM (N : Nat) (a0 : List AL) (r : Bool) (h : OO N a0 = some r) : Sat Tryz.prog 33 AO [.sl 2 (List.map AV a0)] (.bool r) AO := by
 refine DK mixed Tryz.func33 Vn (rs := [.bool r]) rfl rfl ?_
 refine AC (AB ?_)
 refine wq rfl ?_
 refine AC ?_
 obtain ⟨g1, hg1, h⟩ := AJ h
 refine F3 ⟨AY [(0, .sl 2 (List.map AV a0)), (11, .bool g1)], AY []⟩ ?_ ?_
 have h := hg1
 refine AB ?_
 refine wq rfl ?_
 obtain ⟨x5, hx5, h⟩ := AJ h
 refine CO rfl (CB (NH N _ _ hx5) rfl (.cons A8 .nil) rfl rfl rfl) ?_
 iterate 2 refine wq rfl ?_
 rcases BO h with ⟨c2, h⟩ | ⟨c2, h⟩
 iterate 3 refine BJ (gn rfl c2) ?_
 refine AQ rfl (BA c2 rfl rfl) ?_
 obtain rfl := AA h
 exact cq rfl
 refine AQ (gy rfl c2) rfl ?_
 refine AQ (gy rfl c2) (BU rfl) ?_
 refine AQ (gy rfl c2) rfl ?_
 refine AQ rfl (AZ c2 rfl rfl) ?_
 cases AA h
 exact cq rfl
 clear hg1
 refine D5 h rfl (fun c3 h => ?_) (fun c3 h => ?_)
 refine AC (AB ?_)
 refine wq rfl ?_
 obtain rfl := AA h
 refine BR ?_
 exact ⟨nofun, rfl, rfl⟩
 refine BF ?_
 iterate 2 refine AC ?_
 refine AB ?_
 refine wq rfl ?_
 refine BZ ?_
 obtain ⟨y8, Cg, h⟩ := AJ h
 refine QI (X6 N a0 N _ _ Cg) (cq rfl) ?_
 clear Cg
 rcases y8 with y8 | y8
 rintro e s ⟨rfl, rfl⟩
 refine AC (AB ?_)
 refine wq rfl ?_
 obtain rfl := AA h
 refine BR ?_
 exact ⟨nofun, rfl, rfl⟩
 rintro e s ⟨rfl, rfl⟩
 obtain rfl := AA h
 exact ⟨nofun, rfl, rfl⟩
def zC : IC := (.seq (.seq (.reg [jm 75 9, ja 76 2 6, jl 77 1 76, jL 78 77, jb .lss 79 75 78]) (.cond (.t 79) .skip (.exit 2))) (.seq (.block 3 (.seq (.regd 9 [ja 82 1 6, jl 83 1 82, ja 84 2 6, jl 85 1 84, jm 86 9, jx 87 1 85 86, jl 88 1 87, jn 89 (.call 62 [(.t 83), (.t 88)]), ju .neq 90 89 0]) (.cond (.t 90) (.seq (.reg [jc 4 (.bool false)]) .ret) .skip))) (.reg [jm 80 9, ju .add 81 80 1, jm 9 81])))
def Ha : IC := (.seq (.seq (.reg [jm 10 5, jm 11 0, jL 12 11, jb .lss 13 10 12]) (.cond (.t 13) .skip (.exit 0))) (.seq (.block 1 (.seq (.reg [jm 16 0, jm 17 5, jx 18 3 16 17, jg 19 3 18, jn 6 (.box 44 (.c (.agg [(j6 0), (.str []), .nl]))), js 3 6 19]) (.seq (.reg [ja 21 1 6, jl 22 1 21, jn 23 (.call 63 [(.t 22)]), jm 20 23, je 24 0 20, je 25 1 20, jn 7 (.box 90 (.c (.agg [(.str []), (j6 0), (.bool false)]))), js 3 7 24, jm 8 25]) (.seq (.seq (.reg [jm 26 8, jn 27 (.un .not (.t 26)), jm 28 27, jf 28 29 (.fda 0 (.t 7)), jf 28 30 (.load 1 false (.t 29)), jf 28 31 (.fda 1 (.t 6)), jf 28 32 (.load 1 false (.t 31)), jf 28 33 (.bin .neq (.t 30) (.t 32)), jo 34 28 33, jm 35 34, jf 35 36 (.fda 0 (.t 7)), jf 35 37 (.load 1 false (.t 36)), jf 35 38 (.bin .eql (.t 37) (.c (.str [101, 110, 116, 114, 121, 105, 100]))), jo 39 35 38, jm 40 39, jf 40 41 (.fda 0 (.t 6)), jf 40 42 (.load 1 false (.t 41)), jf 40 43 (.bin .lss (.t 42) (ji 1)), jo 44 40 43, jm 45 44, jf 45 46 (.fda 0 (.t 6)), jf 45 47 (.load 1 false (.t 46)), jf 45 48 (.bin .gtr (.t 47) (ji 3)), jo 49 45 48, jm 50 49, jf 50 51 (.mov (.t 1)), jf 50 52 (.mov (.t 51)), jt 52 53 (.fda 0 (.t 6)), jt 52 54 (.load 1 false (.t 53)), jt 52 55 (.bin .neq (.t 54) (ji 1)), jf 50 56 (.pick (.t 52) (.t 55) jA), jo 57 50 56, jm 58 57, jf 58 59 (.fda 0 (.t 6)), jf 58 60 (.load 1 false (.t 59)), jf 58 61 (.bin .eql (.t 60) (ji 1)), jf 58 62 (.mov (.t 61)), jt 62 63 (.fda 2 (.t 6)), jt 62 64 (.load 1 false (.t 63)), jt 62 65 (.len false (.t 64)), jt 62 66 (.bin .eql (.t 65) (ji 0)), jf 58 67 (.pick (.t 62) (.t 66) jA), jo 68 58 67, jm 69 68, jf 69 70 (.fda 2 (.t 6)), jf 69 71 (.load 1 false (.t 70)), jf 69 72 (.len false (.t 71)), jf 69 73 (.bin .gtr (.t 72) (ji 12)), jo 74 69 73]) (.cond (.t 74) (.seq (.reg [jc 4 (.bool false)]) .ret) .skip)) (.seq (.reg [jc 9 (j6 0)]) (.block 2 (.loop zC))))))) (.reg [jm 14 5, ju .add 15 14 1, jm 5 15])))
def k34 : IC := (.seq (.reg [jc 4 (.bool false)]) (.seq (.seq (.reg [jc 5 (j6 0)]) (.block 0 (.loop Ha))) (.seq (.reg [jm 91 0, jL 92 91, ju .leq 93 92 8, jm 4 93]) .ret)))
theorem Vm : BV Tryz.prog Tryz.f34 = some ⟨94, k34, [(.tmp 4)]⟩ := by kernel_rfl
theorem WC (N : Nat) (a0 : List BD) (a1 : Bool) (v5l6 : Int) (PN : BD) : ∀ (n : Nat) (x : Int) (y : Unit ⊕ Bool), FT N a0 a1 v5l6 PN n x = some y → WX Tryz.prog (fun _ => false) (.loop zC) ((fun (x : Int) => ⟨AY [(0, .sl 3 (List.map AU a0)), (1, .bool a1), (5, j6 v5l6), (6, .ptr 54406 0 0), (9, j6 x)], AY [(54406, ⟨3, false, [AU PN]⟩)]⟩) x) ((Sum.elim (fun y e s => e = .exit 2 ∧ s = ⟨AY [(0, .sl 3 (List.map AU a0)), (1, .bool a1), (5, j6 v5l6)], AY []⟩) (fun y e s => e = .ret ∧ s = ⟨AY [(4, .bool y)], AY []⟩) : (Unit ⊕ Bool) → Xt → St → Prop) y) := by
 refine EP _ _ (FT N a0 a1 v5l6 PN) (JC N a0 a1 v5l6 PN) (fun _ => rfl) (fun _ _ => rfl) ?_
 rintro rec v9l30 y h
 iterate 2 refine AC ?_
 refine AB ?_
 iterate 3 refine wq rfl ?_
 refine AQ rfl (BU rfl) ?_
 refine wq rfl ?_
 refine D5 h rfl (fun c15 h => ?_) (fun c15 h => ?_)
 refine BF (AC (BZ (AC (P6 ?_))))
 iterate 5 refine dq rfl ?_
 obtain ⟨x87, Wx, h⟩ := AJ h
 refine JN rfl (DF (cs := [.str x87]) Wx rfl rfl rfl) ?_
 refine dq rfl ?_
 obtain ⟨x89, hx89, h⟩ := AJ h
 refine VG rfl (PD (RN N _ _ _ hx89) rfl (.cons A8 (.cons A8 .nil)) rfl rfl rfl) CZ ?_
 refine dq rfl ?_
 refine D5 h rfl (fun c16 h => ?_) (fun c16 h => ?_)
 refine AC (AB ?_)
 refine wq rfl ?_
 obtain rfl := AA h
 exact DL (st1 := ⟨AY [(4, .bool false)], AY []⟩) (cq rfl) ⟨rfl, rfl⟩
 refine BF (AB ?_)
 refine wq rfl ?_
 refine AQ (p := j6 (BM (v9l30 + (1 : Int)))) rfl rfl ?_
 refine wq rfl ?_
 exact ⟨(BM (v9l30 + (1 : Int))), (cq rfl), h⟩
 cases AA h
 exact CU (st1 := ⟨AY [(0, .sl 3 (List.map AU a0)), (1, .bool a1), (5, j6 v5l6)], AY []⟩) (cq rfl) ⟨rfl, rfl⟩
theorem X7 (N : Nat) (a0 : List BD) (a1 : Bool) : ∀ (n : Nat) (x : Int) (y : Unit ⊕ Bool), FZ N a0 a1 n x = some y → WX Tryz.prog (fun _ => false) (.loop Ha) ((fun (x : Int) => ⟨AY [(0, .sl 3 (List.map AU a0)), (1, .bool a1), (5, j6 x)], AY []⟩) x) ((Sum.elim (fun y e s => e = .exit 0 ∧ s = ⟨AY [(0, .sl 3 (List.map AU a0))], AY []⟩) (fun y e s => e = .ret ∧ s = ⟨AY [(4, .bool y)], AY []⟩) : (Unit ⊕ Bool) → Xt → St → Prop) y) := by
 refine EP _ _ (FZ N a0 a1) (JU N a0 a1) (fun _ => rfl) (fun _ _ => rfl) ?_
 rintro rec v5l6 y h
 iterate 2 refine AC ?_
 refine AB ?_
 iterate 2 refine wq rfl ?_
 refine AQ rfl (BU rfl) ?_
 refine wq rfl ?_
 refine D5 h rfl (fun c1 h => ?_) (fun c1 h => ?_)
 refine BF (AC (BZ (AC (AB ?_))))
 iterate 2 refine wq rfl ?_
 obtain ⟨PN, gD, h⟩ := AJ h
 refine AQ rfl (DF (cs := [j6 PN.Kind, .str PN.Attr, .sl 1 (List.map PV.str PN.Values)]) gD rfl rfl rfl) ?_
 refine AQ (p := AU PN) rfl rfl ?_
 refine CO rfl (G5 54406 rfl rfl rfl rfl rfl) ?_
 refine EW (e' := AU PN) rfl rfl rfl rfl rfl rfl rfl rfl nofun rfl ?_
 refine AC (AB ?_)
 iterate 2 refine wq rfl ?_
 obtain ⟨XY, gB, h⟩ := AJ h
 refine CO rfl (CB (SN N _ _ gB) rfl (.cons A8 .nil) rfl rfl rfl) ?_
 iterate 3 refine wq rfl ?_
 refine CO rfl (G5 54407 rfl rfl rfl rfl rfl) ?_
 refine EW (e' := CG XY.1) rfl rfl rfl rfl rfl rfl rfl rfl nofun rfl ?_
 refine wq rfl ?_
 refine AC ?_
 obtain ⟨g2, hg2, h⟩ := AJ h
 refine F3 ⟨AY [(0, .sl 3 (List.map AU a0)), (1, .bool a1), (5, j6 v5l6), (6, .ptr 54406 0 0), (74, .bool g2)], AY [(54406, ⟨3, false, [AU PN]⟩)]⟩ ?_ ?_
 have h := hg2
 refine AB ?_
 iterate 3 refine wq rfl ?_
 rcases BO h with ⟨c3, h⟩ | ⟨c3, h⟩
 iterate 5 refine BJ (gn rfl c3) ?_
 refine AQ rfl (BA c3 rfl rfl) ?_
 refine wq rfl ?_
 iterate 3 refine BJ rfl ?_
 iterate 2 refine wq rfl ?_
 iterate 3 refine BJ rfl ?_
 iterate 2 refine wq rfl ?_
 iterate 3 refine BJ rfl ?_
 iterate 2 refine wq rfl ?_
 iterate 2 refine BJ rfl ?_
 iterate 3 refine BJ (gu rfl) ?_
 refine BJ rfl ?_
 iterate 2 refine wq rfl ?_
 iterate 4 refine BJ rfl ?_
 iterate 4 refine BJ (gu rfl) ?_
 refine BJ rfl ?_
 iterate 2 refine wq rfl ?_
 iterate 4 refine BJ rfl ?_
 refine wq rfl ?_
 obtain rfl := AA h
 exact cq rfl
 iterate 5 refine AQ (gy rfl c3) rfl ?_
 refine AQ rfl (AZ c3 rfl rfl) ?_
 refine wq rfl ?_
 rcases BO h with ⟨c4, h⟩ | ⟨c4, h⟩
 iterate 3 refine BJ (gn rfl c4) ?_
 refine AQ rfl (BA c4 rfl rfl) ?_
 refine wq rfl ?_
 iterate 3 refine BJ rfl ?_
 iterate 2 refine wq rfl ?_
 iterate 3 refine BJ rfl ?_
 iterate 2 refine wq rfl ?_
 iterate 2 refine BJ rfl ?_
 iterate 3 refine BJ (gu rfl) ?_
 refine BJ rfl ?_
 iterate 2 refine wq rfl ?_
 iterate 4 refine BJ rfl ?_
 iterate 4 refine BJ (gu rfl) ?_
 refine BJ rfl ?_
 iterate 2 refine wq rfl ?_
 iterate 4 refine BJ rfl ?_
 refine wq rfl ?_
 obtain rfl := AA h
 exact cq rfl
 iterate 3 refine AQ (gy rfl c4) rfl ?_
 refine AQ rfl (AZ c4 rfl rfl) ?_
 refine wq rfl ?_
 rcases BO h with ⟨c5, h⟩ | ⟨c5, h⟩
 iterate 3 refine BJ (gn rfl c5) ?_
 refine AQ rfl (BA c5 rfl rfl) ?_
 refine wq rfl ?_
 iterate 3 refine BJ rfl ?_
 iterate 2 refine wq rfl ?_
 iterate 2 refine BJ rfl ?_
 iterate 3 refine BJ (gu rfl) ?_
 refine BJ rfl ?_
 iterate 2 refine wq rfl ?_
 iterate 4 refine BJ rfl ?_
 iterate 4 refine BJ (gu rfl) ?_
 refine BJ rfl ?_
 iterate 2 refine wq rfl ?_
 iterate 4 refine BJ rfl ?_
 refine wq rfl ?_
 obtain rfl := AA h
 exact cq rfl
 iterate 3 refine AQ (gy rfl c5) rfl ?_
 refine AQ rfl (AZ c5 rfl rfl) ?_
 refine wq rfl ?_
 rcases BO h with ⟨c6, h⟩ | ⟨c6, h⟩
 iterate 3 refine BJ (gn rfl c6) ?_
 refine AQ rfl (BA c6 rfl rfl) ?_
 refine wq rfl ?_
 iterate 2 refine BJ rfl ?_
 iterate 3 refine BJ (gu rfl) ?_
 refine BJ rfl ?_
 iterate 2 refine wq rfl ?_
 iterate 4 refine BJ rfl ?_
 iterate 4 refine BJ (gu rfl) ?_
 refine BJ rfl ?_
 iterate 2 refine wq rfl ?_
 iterate 4 refine BJ rfl ?_
 refine wq rfl ?_
 obtain rfl := AA h
 exact cq rfl
 iterate 3 refine AQ (gy rfl c6) rfl ?_
 refine AQ rfl (AZ c6 rfl rfl) ?_
 refine wq rfl ?_
 rcases BO h with ⟨c7, h⟩ | ⟨c7, h⟩
 iterate 2 refine BJ (gn rfl c7) ?_
 iterate 3 refine BJ (gu rfl) ?_
 refine BJ (gn rfl c7) ?_
 refine AQ rfl (BA c7 rfl rfl) ?_
 refine wq rfl ?_
 iterate 4 refine BJ rfl ?_
 iterate 4 refine BJ (gu rfl) ?_
 refine BJ rfl ?_
 iterate 2 refine wq rfl ?_
 iterate 4 refine BJ rfl ?_
 refine wq rfl ?_
 obtain rfl := AA h
 exact cq rfl
 iterate 2 refine AQ (gy rfl c7) rfl ?_
 rcases BO h with ⟨c8, h⟩ | ⟨c8, h⟩
 iterate 3 refine AQ (gy rfl c8) rfl ?_
 refine AQ (gy rfl c7) (BA c8 rfl rfl) ?_
 refine AQ rfl (AZ c7 rfl rfl) ?_
 refine wq rfl ?_
 rcases BO h with ⟨c9, h⟩ | ⟨c9, h⟩
 iterate 4 refine BJ (gn rfl c9) ?_
 iterate 4 refine BJ (gu rfl) ?_
 refine BJ (gn rfl c9) ?_
 refine AQ rfl (BA c9 rfl rfl) ?_
 refine wq rfl ?_
 iterate 4 refine BJ rfl ?_
 refine wq rfl ?_
 obtain rfl := AA h
 exact cq rfl
 iterate 4 refine AQ (gy rfl c9) rfl ?_
 rcases BO h with ⟨c10, h⟩ | ⟨c10, h⟩
 iterate 2 refine AQ (gy rfl c10) rfl ?_
 refine AQ (gy rfl c10) (BU rfl) ?_
 refine AQ (gy rfl c10) rfl ?_
 refine AQ (gy rfl c9) (BA c10 rfl rfl) ?_
 refine AQ rfl (AZ c9 rfl rfl) ?_
 refine wq rfl ?_
 rcases BO h with ⟨c11, h⟩ | ⟨c11, h⟩
 iterate 4 refine BJ (gn rfl c11) ?_
 refine AQ rfl (BA c11 rfl rfl) ?_
 obtain rfl := AA h
 exact cq rfl
 iterate 2 refine AQ (gy rfl c11) rfl ?_
 refine AQ (gy rfl c11) (BU rfl) ?_
 refine AQ (gy rfl c11) rfl ?_
 refine AQ rfl (AZ c11 rfl rfl) ?_
 cases AA h
 exact cq rfl
 iterate 4 refine BJ (gn rfl c10) ?_
 refine AQ (gy rfl c9) (AZ c10 rfl rfl) ?_
 refine AQ rfl (AZ c9 rfl rfl) ?_
 iterate 3 refine wq rfl ?_
 refine AQ rfl (BU rfl) ?_
 iterate 2 refine wq rfl ?_
 cases AA h
 exact cq rfl
 iterate 3 refine BJ (gn rfl c8) ?_
 refine AQ (gy rfl c7) (AZ c8 rfl rfl) ?_
 refine AQ rfl (AZ c7 rfl rfl) ?_
 iterate 5 refine wq rfl ?_
 rcases BO h with ⟨c12, h⟩ | ⟨c12, h⟩
 iterate 2 refine AQ (gy rfl c12) rfl ?_
 refine AQ (gy rfl c12) (BU rfl) ?_
 refine AQ (gy rfl c12) rfl ?_
 refine AQ rfl (BA c12 rfl rfl) ?_
 iterate 2 refine wq rfl ?_
 rcases BO h with ⟨c13, h⟩ | ⟨c13, h⟩
 iterate 4 refine BJ (gn rfl c13) ?_
 refine AQ rfl (BA c13 rfl rfl) ?_
 obtain rfl := AA h
 exact cq rfl
 iterate 2 refine AQ (gy rfl c13) rfl ?_
 refine AQ (gy rfl c13) (BU rfl) ?_
 refine AQ (gy rfl c13) rfl ?_
 refine AQ rfl (AZ c13 rfl rfl) ?_
 cases AA h
 exact cq rfl
 iterate 4 refine BJ (gn rfl c12) ?_
 refine AQ rfl (AZ c12 rfl rfl) ?_
 iterate 4 refine wq rfl ?_
 refine AQ rfl (BU rfl) ?_
 iterate 2 refine wq rfl ?_
 cases AA h
 exact cq rfl
 clear hg2
 refine D5 h rfl (fun c14 h => ?_) (fun c14 h => ?_)
 refine AC (AB ?_)
 refine wq rfl ?_
 obtain rfl := AA h
 exact DL (st1 := ⟨AY [(4, .bool false)], AY []⟩) (cq rfl) ⟨rfl, rfl⟩
 refine BF (AC (AB ?_))
 refine wq rfl ?_
 refine BZ ?_
 obtain ⟨qX, Hy, h⟩ := AJ h
 refine QI (WC N a0 a1 v5l6 PN N _ _ Hy) (cq rfl) ?_
 clear Hy
 rcases qX with qX | qX
 rintro e s ⟨rfl, rfl⟩
 refine AB ?_
 refine wq rfl ?_
 refine AQ (p := j6 (BM (v5l6 + (1 : Int)))) rfl rfl ?_
 refine wq rfl ?_
 exact ⟨(BM (v5l6 + (1 : Int))), (cq rfl), h⟩
 rintro e s ⟨rfl, rfl⟩
 obtain rfl := AA h
 exact ⟨rfl, rfl⟩
 cases AA h
 exact CU (st1 := ⟨AY [(0, .sl 3 (List.map AU a0))], AY []⟩) (cq rfl) ⟨rfl, rfl⟩
theorem RO (N : Nat) (a0 : List BD) (a1 : Bool) (r : Bool) (h : L8 N a0 a1 = some r) : Sat Tryz.prog 34 AO [.sl 3 (List.map AU a0), .bool a1] (.bool r) AO := by
 refine DK mixed Tryz.func34 Vm (rs := [.bool r]) rfl rfl ?_
 refine AC (AB ?_)
 refine wq rfl ?_
 iterate 2 refine AC ?_
 refine AB ?_
 refine wq rfl ?_
 refine BZ ?_
 obtain ⟨Qa, hy18, h⟩ := AJ h
 refine QI (X7 N a0 a1 N _ _ hy18) (cq rfl) ?_
 clear hy18
 rcases Qa with Qa | Qa
 rintro e s ⟨rfl, rfl⟩
 refine AC (AB ?_)
 refine wq rfl ?_
 refine AQ rfl (BU rfl) ?_
 iterate 2 refine wq rfl ?_
 cases AA h
 refine BR ?_
 exact ⟨nofun, rfl, rfl⟩
 rintro e s ⟨rfl, rfl⟩
 obtain rfl := AA h
 exact ⟨nofun, rfl, rfl⟩
end Go.Gp
end
