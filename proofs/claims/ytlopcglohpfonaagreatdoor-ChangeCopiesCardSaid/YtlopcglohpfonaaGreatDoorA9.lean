/- A part of the proof: functions of the program and what they compute. -/
import Derived.Test.YtlopcglohpfonaaGreatDoorA5
import Derived.Test.YtlopcglohpfonaaGreatDoorA7
import Derived.Test.YtlopcglohpfonaaGreatDoorA8
section
set_option linter.unusedVariables false
set_option linter.unusedSimpArgs false
set_option maxRecDepth 4000
set_option maxHeartbeats 4000000
namespace Go.Gp
open Go.Vd Go.RowKit Go.Proofs
def iP : IC := (.seq (.reg [jb .lss 17 16 15]) (.seq (.cond (.t 17) .skip (.exit 0)) (.seq (.block 1 (.seq (.reg [jm 18 16, jx 19 3 14 16, jg 20 3 19, jn 4 (.box 44 (.c (.agg [(j6 0), (.str []), .nl]))), jm 3 18, js 3 4 20]) (.regd 8 [ja 21 12 1, jl 22 1 21, jm 23 3, ja 24 2 4, jl 25 1 24, jn 26 (.call 42 [(.t 25)]), jx 27 3 22 23, ja 28 2 27, js 1 28 26]))) (.reg [ju .add 29 16 1, jm 16 29]))))
def k15 : IC := (.seq (.reg [jn 1 (.box 28 (.t 0)), jn 2 (.box 28 (.c (.agg [(j6 0), (j6 0), (j6 0), (j6 0), (j6 0), (j6 0), (j6 0), (j6 0), (j6 0), (j6 0), .nl, (.bool false), .nl])))]) (.seq (.reg [ja 5 10 1, jl 6 1 5, jn 7 (.call 40 [(.t 6)]), ja 8 10 1, js 1 8 7]) (.seq (.reg [ja 9 12 1, jl 10 1 9, jn 11 (.call 41 [(.t 10)]), ja 12 12 1, js 1 12 11]) (.seq (.seq (.reg [ja 13 12 1, jl 14 1 13, jL 15 14, jc 16 (j6 0)]) (.block 0 (.loop iP))) (.seq (.reg [jg 30 13 1, js 13 2 30]) .ret)))))
theorem wK : BV Tryz.prog Tryz.f15 = some ⟨31, k15, [(.cell 13 true 2)]⟩ := by kernel_rfl
theorem X4 (N : Nat) (QJ : List AY) : ∀ (n : Nat) (x : Int × Int × Int × Int × Int × Int × Int × Int × Int × Int × Int × Bool × List AU × List AY) (y : Int × Int × Int × Int × Int × Int × Int × Int × Int × Int × Bool × List AU × List AY), GK N QJ n x = some y → WX Tryz.prog (fun _ => false) (.loop iP) ((fun (x : Int × Int × Int × Int × Int × Int × Int × Int × Int × Int × Int × Bool × List AU × List AY) => ⟨AX [(1, .ptr 24001 0 0), (2, .ptr 24002 0 0), (14, .slr 24011 0 x.2.2.2.2.2.2.2.2.2.2.2.2.2.length), (15, j6 (QJ.length : Int)), (16, j6 x.1)], AX [(24001, ⟨13, false, [.agg [j6 x.2.1, j6 x.2.2.1, j6 x.2.2.2.1, j6 x.2.2.2.2.1, j6 x.2.2.2.2.2.1, j6 x.2.2.2.2.2.2.1, j6 x.2.2.2.2.2.2.2.1, j6 x.2.2.2.2.2.2.2.2.1, j6 x.2.2.2.2.2.2.2.2.2.1, j6 x.2.2.2.2.2.2.2.2.2.2.1, .slr 24007 0 x.2.2.2.2.2.2.2.2.2.2.2.2.1.length, .bool x.2.2.2.2.2.2.2.2.2.2.2.1, .slr 24011 0 x.2.2.2.2.2.2.2.2.2.2.2.2.2.length]]⟩), (24002, ⟨13, false, [.agg [j6 0, j6 0, j6 0, j6 0, j6 0, j6 0, j6 0, j6 0, j6 0, j6 0, .nl, .bool false, .nl]]⟩), (24007, ⟨2, true, List.map AV x.2.2.2.2.2.2.2.2.2.2.2.2.1⟩), (24011, ⟨3, true, List.map AL x.2.2.2.2.2.2.2.2.2.2.2.2.2⟩)]⟩) x) ((fun y e s => e = .exit 0 ∧ s = ⟨AX [(1, .ptr 24001 0 0), (2, .ptr 24002 0 0)], AX [(24001, ⟨13, false, [.agg [j6 y.1, j6 y.2.1, j6 y.2.2.1, j6 y.2.2.2.1, j6 y.2.2.2.2.1, j6 y.2.2.2.2.2.1, j6 y.2.2.2.2.2.2.1, j6 y.2.2.2.2.2.2.2.1, j6 y.2.2.2.2.2.2.2.2.1, j6 y.2.2.2.2.2.2.2.2.2.1, .slr 24007 0 y.2.2.2.2.2.2.2.2.2.2.2.1.length, .bool y.2.2.2.2.2.2.2.2.2.2.1, .slr 24011 0 y.2.2.2.2.2.2.2.2.2.2.2.2.length]]⟩), (24002, ⟨13, false, [.agg [j6 0, j6 0, j6 0, j6 0, j6 0, j6 0, j6 0, j6 0, j6 0, j6 0, .nl, .bool false, .nl]]⟩), (24007, ⟨2, true, List.map AV y.2.2.2.2.2.2.2.2.2.2.2.1⟩), (24011, ⟨3, true, List.map AL y.2.2.2.2.2.2.2.2.2.2.2.2⟩)]⟩ : (Int × Int × Int × Int × Int × Int × Int × Int × Int × Int × Bool × List AU × List AY) → Xt → St → Prop) y) := by
 refine F5 _ _ (GK N QJ) (JV N QJ) (fun _ => rfl) (fun _ _ => rfl) ?_
 rintro rec ⟨W9, KC, KA, K9, K8, K7, K6, K5, K4, K3, JZ, J6, MG, FN⟩ y h
 refine AA (AB ?_)
 refine wq rfl ?_
 refine AA ?_
 refine EP h rfl (fun c1 h => ?_) (fun c1 h => ?_)
 refine BH (AA (CJ (AA (AB ?_))))
 refine wq rfl ?_
 obtain ⟨OO, bO, h⟩ := AP h
 refine AZ rfl (KF bO rfl rfl rfl rfl) ?_
 obtain ⟨x20, bN, h⟩ := AP h
 refine AZ rfl (Q4 (f := AL) (v := AL x20) bN rfl rfl rfl) ?_
 refine CW rfl (F8 24004 rfl rfl rfl rfl rfl) ?_
 refine wq rfl ?_
 refine ED (e' := AL x20) rfl rfl rfl rfl rfl rfl rfl rfl nofun rfl ?_
 refine NG ?_
 iterate 5 refine dq rfl ?_
 obtain ⟨IR, iT, h⟩ := AP h
 refine QK rfl (vB [(24026, ⟨1, true, List.map PV.str IR⟩)] (Z4 PV.str 24026 rfl iT) rfl (.cons A9 .nil) rfl rfl rfl rfl) (Kj rfl) ?_
 obtain ⟨x27, hx27, h⟩ := AP h
 refine JF rfl (KF hx27 rfl rfl rfl rfl) ?_
 refine dq rfl ?_
 refine wn (C9.trans (Vd.freeze 24026 _ rfl rfl rfl) (L6 26 (GQ (congrArg (PV.sl 1) (BU (f := PV.str) (l := IR)))) rfl)) ?_
 obtain ⟨RQ, Jq, h⟩ := AP h
 refine jK (f := AL) (e' := (⟨RQ.Kind, RQ.Attr, IR⟩ : AY)) Jq rfl rfl rfl rfl rfl rfl rfl rfl (fun _ => rfl) rfl ?_
 refine AB ?_
 refine AZ (p := j6 (BX (W9 + (1 : Int)))) rfl rfl ?_
 refine wq rfl ?_
 exact ⟨((BX (W9 + (1 : Int))), KC, KA, K9, K8, K7, K6, K5, K4, K3, JZ, J6, MG, (FN.set x27 (⟨RQ.Kind, RQ.Attr, IR⟩ : AY))), (C9.trans (L6 14 (GQ (congrArg (PV.slr 24011 0) (by simp only [List.length_set, List.length_replicate] : FN.length = (FN.set x27 (⟨RQ.Kind, RQ.Attr, IR⟩ : AY)).length))) rfl) (C9.trans (mO 24001 (x := .agg [j6 KC, j6 KA, j6 K9, j6 K8, j6 K7, j6 K6, j6 K5, j6 K4, j6 K3, j6 JZ, .slr 24007 0 MG.length, .bool J6, .slr 24011 0 FN.length]) (y := .agg [j6 KC, j6 KA, j6 K9, j6 K8, j6 K7, j6 K6, j6 K5, j6 K4, j6 K3, j6 JZ, .slr 24007 0 MG.length, .bool J6, .slr 24011 0 ((FN.set x27 (⟨RQ.Kind, RQ.Attr, IR⟩ : AY)).length)]) (.cons A9 (.cons A9 (.cons A9 (.cons A9 (.cons A9 (.cons A9 (.cons A9 (.cons A9 (.cons A9 (.cons A9 (.cons A9 (.cons A9 (.cons (GQ (congrArg (PV.slr 24011 0) (by simp only [List.length_set, List.length_replicate] : FN.length = (FN.set x27 (⟨RQ.Kind, RQ.Attr, IR⟩ : AY)).length))) .nil))))))))))))) rfl rfl) (cq rfl))), h⟩
 cases AO h
 exact D9 (st1 := ⟨AX [(1, .ptr 24001 0 0), (2, .ptr 24002 0 0)], AX [(24001, ⟨13, false, [.agg [j6 KC, j6 KA, j6 K9, j6 K8, j6 K7, j6 K6, j6 K5, j6 K4, j6 K3, j6 JZ, .slr 24007 0 MG.length, .bool J6, .slr 24011 0 FN.length]]⟩), (24002, ⟨13, false, [.agg [j6 0, j6 0, j6 0, j6 0, j6 0, j6 0, j6 0, j6 0, j6 0, j6 0, .nl, .bool false, .nl]]⟩), (24007, ⟨2, true, List.map AV MG⟩), (24011, ⟨3, true, List.map AL FN⟩)]⟩) (cq rfl) ⟨rfl, rfl⟩
theorem U3 (N : Nat) (a0 : AR) (r : AR) (h : OH N a0 = some r) : Sat Tryz.prog 15 AC [AJ a0] (AJ r) AC := by
 refine EL mixed Tryz.func15 wK (rs := [AJ r]) rfl rfl ?_
 refine AA (AB ?_)
 refine CW rfl (F8 24001 rfl rfl rfl rfl rfl) ?_
 refine CW rfl (F8 24002 rfl rfl rfl rfl rfl) ?_
 refine AA (AB ?_)
 iterate 2 refine wq rfl ?_
 obtain ⟨x7, hx7, h⟩ := AP h
 refine CW rfl (pK [(24007, ⟨2, true, List.map AV x7⟩)] (Z6 AV 24007 rfl hx7) rfl (.cons A9 .nil) rfl rfl rfl rfl rfl) ?_
 refine wq rfl ?_
 refine ED (e' := .agg [j6 a0.CSN.Time, j6 a0.CSN.Seq, j6 a0.CSN.Rep, j6 a0.Kind, j6 a0.ID.Time, j6 a0.ID.Seq, j6 a0.ID.Rep, j6 a0.Parent.Time, j6 a0.Parent.Seq, j6 a0.Parent.Rep, .slr 24007 0 x7.length, .bool a0.DelOld, .sl 3 (List.map AL a0.Mods)]) rfl rfl rfl rfl rfl rfl rfl rfl nofun rfl ?_
 refine AA (AB ?_)
 iterate 2 refine wq rfl ?_
 obtain ⟨QJ, WH, h⟩ := AP h
 refine CW rfl (pK [(24011, ⟨3, true, List.map AL QJ⟩)] (Z5 AL 24011 rfl WH) rfl (.cons A9 .nil) rfl rfl rfl rfl rfl) ?_
 refine wq rfl ?_
 refine ED (e' := .agg [j6 a0.CSN.Time, j6 a0.CSN.Seq, j6 a0.CSN.Rep, j6 a0.Kind, j6 a0.ID.Time, j6 a0.ID.Seq, j6 a0.ID.Rep, j6 a0.Parent.Time, j6 a0.Parent.Seq, j6 a0.Parent.Rep, .slr 24007 0 x7.length, .bool a0.DelOld, .slr 24011 0 QJ.length]) rfl rfl rfl rfl rfl rfl rfl rfl nofun rfl ?_
 iterate 2 refine AA ?_
 refine AB ?_
 iterate 4 refine wq rfl ?_
 refine CJ ?_
 obtain ⟨y3, hy3, h⟩ := AP h
 refine PQ (X4 N QJ N _ _ hy3) (cq rfl) ?_
 rintro e s ⟨rfl, rfl⟩
 refine AA (AB ?_)
 refine AZ (p := .agg [j6 y3.1, j6 y3.2.1, j6 y3.2.2.1, j6 y3.2.2.2.1, j6 y3.2.2.2.2.1, j6 y3.2.2.2.2.2.1, j6 y3.2.2.2.2.2.2.1, j6 y3.2.2.2.2.2.2.2.1, j6 y3.2.2.2.2.2.2.2.2.1, j6 y3.2.2.2.2.2.2.2.2.2.1, .slr 24007 0 y3.2.2.2.2.2.2.2.2.2.2.2.1.length, .bool y3.2.2.2.2.2.2.2.2.2.2.1, .slr 24011 0 y3.2.2.2.2.2.2.2.2.2.2.2.2.length]) rfl rfl ?_
 refine ED (e' := .agg [j6 y3.1, j6 y3.2.1, j6 y3.2.2.1, j6 y3.2.2.2.1, j6 y3.2.2.2.2.1, j6 y3.2.2.2.2.2.1, j6 y3.2.2.2.2.2.2.1, j6 y3.2.2.2.2.2.2.2.1, j6 y3.2.2.2.2.2.2.2.2.1, j6 y3.2.2.2.2.2.2.2.2.2.1, .slr 24007 0 y3.2.2.2.2.2.2.2.2.2.2.2.1.length, .bool y3.2.2.2.2.2.2.2.2.2.2.1, .slr 24011 0 y3.2.2.2.2.2.2.2.2.2.2.2.2.length]) rfl rfl rfl rfl rfl rfl rfl rfl nofun rfl ?_
 cases AO h
 refine EX (st1 := ⟨AX [(2, .ptr 24002 0 0)], AX [(24002, ⟨13, false, [AJ (⟨(⟨y3.1, y3.2.1, y3.2.2.1⟩ : AQ), y3.2.2.2.1, (⟨y3.2.2.2.2.1, y3.2.2.2.2.2.1, y3.2.2.2.2.2.2.1⟩ : AQ), (⟨y3.2.2.2.2.2.2.2.1, y3.2.2.2.2.2.2.2.2.1, y3.2.2.2.2.2.2.2.2.2.1⟩ : AQ), y3.2.2.2.2.2.2.2.2.2.2.2.1, y3.2.2.2.2.2.2.2.2.2.2.1, y3.2.2.2.2.2.2.2.2.2.2.2.2⟩ : AR)]⟩)]⟩) (C9.trans (Vd.freeze 24007 _ rfl rfl rfl) (C9.trans (Vd.freeze 24011 _ rfl rfl rfl) (C9.trans (mO 24002 (x := .agg [j6 y3.1, j6 y3.2.1, j6 y3.2.2.1, j6 y3.2.2.2.1, j6 y3.2.2.2.2.1, j6 y3.2.2.2.2.2.1, j6 y3.2.2.2.2.2.2.1, j6 y3.2.2.2.2.2.2.2.1, j6 y3.2.2.2.2.2.2.2.2.1, j6 y3.2.2.2.2.2.2.2.2.2.1, .sl 2 (List.take y3.2.2.2.2.2.2.2.2.2.2.2.1.length (List.drop 0 (List.map AV y3.2.2.2.2.2.2.2.2.2.2.2.1))), .bool y3.2.2.2.2.2.2.2.2.2.2.1, .sl 3 (List.take y3.2.2.2.2.2.2.2.2.2.2.2.2.length (List.drop 0 (List.map AL y3.2.2.2.2.2.2.2.2.2.2.2.2)))]) (y := .agg [j6 (((⟨(⟨y3.1, y3.2.1, y3.2.2.1⟩ : AQ), y3.2.2.2.1, (⟨y3.2.2.2.2.1, y3.2.2.2.2.2.1, y3.2.2.2.2.2.2.1⟩ : AQ), (⟨y3.2.2.2.2.2.2.2.1, y3.2.2.2.2.2.2.2.2.1, y3.2.2.2.2.2.2.2.2.2.1⟩ : AQ), y3.2.2.2.2.2.2.2.2.2.2.2.1, y3.2.2.2.2.2.2.2.2.2.2.1, y3.2.2.2.2.2.2.2.2.2.2.2.2⟩ : AR).CSN).Time), j6 (((⟨(⟨y3.1, y3.2.1, y3.2.2.1⟩ : AQ), y3.2.2.2.1, (⟨y3.2.2.2.2.1, y3.2.2.2.2.2.1, y3.2.2.2.2.2.2.1⟩ : AQ), (⟨y3.2.2.2.2.2.2.2.1, y3.2.2.2.2.2.2.2.2.1, y3.2.2.2.2.2.2.2.2.2.1⟩ : AQ), y3.2.2.2.2.2.2.2.2.2.2.2.1, y3.2.2.2.2.2.2.2.2.2.2.1, y3.2.2.2.2.2.2.2.2.2.2.2.2⟩ : AR).CSN).Seq), j6 (((⟨(⟨y3.1, y3.2.1, y3.2.2.1⟩ : AQ), y3.2.2.2.1, (⟨y3.2.2.2.2.1, y3.2.2.2.2.2.1, y3.2.2.2.2.2.2.1⟩ : AQ), (⟨y3.2.2.2.2.2.2.2.1, y3.2.2.2.2.2.2.2.2.1, y3.2.2.2.2.2.2.2.2.2.1⟩ : AQ), y3.2.2.2.2.2.2.2.2.2.2.2.1, y3.2.2.2.2.2.2.2.2.2.2.1, y3.2.2.2.2.2.2.2.2.2.2.2.2⟩ : AR).CSN).Rep), j6 ((⟨(⟨y3.1, y3.2.1, y3.2.2.1⟩ : AQ), y3.2.2.2.1, (⟨y3.2.2.2.2.1, y3.2.2.2.2.2.1, y3.2.2.2.2.2.2.1⟩ : AQ), (⟨y3.2.2.2.2.2.2.2.1, y3.2.2.2.2.2.2.2.2.1, y3.2.2.2.2.2.2.2.2.2.1⟩ : AQ), y3.2.2.2.2.2.2.2.2.2.2.2.1, y3.2.2.2.2.2.2.2.2.2.2.1, y3.2.2.2.2.2.2.2.2.2.2.2.2⟩ : AR).Kind), j6 (((⟨(⟨y3.1, y3.2.1, y3.2.2.1⟩ : AQ), y3.2.2.2.1, (⟨y3.2.2.2.2.1, y3.2.2.2.2.2.1, y3.2.2.2.2.2.2.1⟩ : AQ), (⟨y3.2.2.2.2.2.2.2.1, y3.2.2.2.2.2.2.2.2.1, y3.2.2.2.2.2.2.2.2.2.1⟩ : AQ), y3.2.2.2.2.2.2.2.2.2.2.2.1, y3.2.2.2.2.2.2.2.2.2.2.1, y3.2.2.2.2.2.2.2.2.2.2.2.2⟩ : AR).ID).Time), j6 (((⟨(⟨y3.1, y3.2.1, y3.2.2.1⟩ : AQ), y3.2.2.2.1, (⟨y3.2.2.2.2.1, y3.2.2.2.2.2.1, y3.2.2.2.2.2.2.1⟩ : AQ), (⟨y3.2.2.2.2.2.2.2.1, y3.2.2.2.2.2.2.2.2.1, y3.2.2.2.2.2.2.2.2.2.1⟩ : AQ), y3.2.2.2.2.2.2.2.2.2.2.2.1, y3.2.2.2.2.2.2.2.2.2.2.1, y3.2.2.2.2.2.2.2.2.2.2.2.2⟩ : AR).ID).Seq), j6 (((⟨(⟨y3.1, y3.2.1, y3.2.2.1⟩ : AQ), y3.2.2.2.1, (⟨y3.2.2.2.2.1, y3.2.2.2.2.2.1, y3.2.2.2.2.2.2.1⟩ : AQ), (⟨y3.2.2.2.2.2.2.2.1, y3.2.2.2.2.2.2.2.2.1, y3.2.2.2.2.2.2.2.2.2.1⟩ : AQ), y3.2.2.2.2.2.2.2.2.2.2.2.1, y3.2.2.2.2.2.2.2.2.2.2.1, y3.2.2.2.2.2.2.2.2.2.2.2.2⟩ : AR).ID).Rep), j6 (((⟨(⟨y3.1, y3.2.1, y3.2.2.1⟩ : AQ), y3.2.2.2.1, (⟨y3.2.2.2.2.1, y3.2.2.2.2.2.1, y3.2.2.2.2.2.2.1⟩ : AQ), (⟨y3.2.2.2.2.2.2.2.1, y3.2.2.2.2.2.2.2.2.1, y3.2.2.2.2.2.2.2.2.2.1⟩ : AQ), y3.2.2.2.2.2.2.2.2.2.2.2.1, y3.2.2.2.2.2.2.2.2.2.2.1, y3.2.2.2.2.2.2.2.2.2.2.2.2⟩ : AR).Parent).Time), j6 (((⟨(⟨y3.1, y3.2.1, y3.2.2.1⟩ : AQ), y3.2.2.2.1, (⟨y3.2.2.2.2.1, y3.2.2.2.2.2.1, y3.2.2.2.2.2.2.1⟩ : AQ), (⟨y3.2.2.2.2.2.2.2.1, y3.2.2.2.2.2.2.2.2.1, y3.2.2.2.2.2.2.2.2.2.1⟩ : AQ), y3.2.2.2.2.2.2.2.2.2.2.2.1, y3.2.2.2.2.2.2.2.2.2.2.1, y3.2.2.2.2.2.2.2.2.2.2.2.2⟩ : AR).Parent).Seq), j6 (((⟨(⟨y3.1, y3.2.1, y3.2.2.1⟩ : AQ), y3.2.2.2.1, (⟨y3.2.2.2.2.1, y3.2.2.2.2.2.1, y3.2.2.2.2.2.2.1⟩ : AQ), (⟨y3.2.2.2.2.2.2.2.1, y3.2.2.2.2.2.2.2.2.1, y3.2.2.2.2.2.2.2.2.2.1⟩ : AQ), y3.2.2.2.2.2.2.2.2.2.2.2.1, y3.2.2.2.2.2.2.2.2.2.2.1, y3.2.2.2.2.2.2.2.2.2.2.2.2⟩ : AR).Parent).Rep), .sl 2 (List.map AV ((⟨(⟨y3.1, y3.2.1, y3.2.2.1⟩ : AQ), y3.2.2.2.1, (⟨y3.2.2.2.2.1, y3.2.2.2.2.2.1, y3.2.2.2.2.2.2.1⟩ : AQ), (⟨y3.2.2.2.2.2.2.2.1, y3.2.2.2.2.2.2.2.2.1, y3.2.2.2.2.2.2.2.2.2.1⟩ : AQ), y3.2.2.2.2.2.2.2.2.2.2.2.1, y3.2.2.2.2.2.2.2.2.2.2.1, y3.2.2.2.2.2.2.2.2.2.2.2.2⟩ : AR).RDN)), .bool ((⟨(⟨y3.1, y3.2.1, y3.2.2.1⟩ : AQ), y3.2.2.2.1, (⟨y3.2.2.2.2.1, y3.2.2.2.2.2.1, y3.2.2.2.2.2.2.1⟩ : AQ), (⟨y3.2.2.2.2.2.2.2.1, y3.2.2.2.2.2.2.2.2.1, y3.2.2.2.2.2.2.2.2.2.1⟩ : AQ), y3.2.2.2.2.2.2.2.2.2.2.2.1, y3.2.2.2.2.2.2.2.2.2.2.1, y3.2.2.2.2.2.2.2.2.2.2.2.2⟩ : AR).DelOld), .sl 3 (List.map AL ((⟨(⟨y3.1, y3.2.1, y3.2.2.1⟩ : AQ), y3.2.2.2.1, (⟨y3.2.2.2.2.1, y3.2.2.2.2.2.1, y3.2.2.2.2.2.2.1⟩ : AQ), (⟨y3.2.2.2.2.2.2.2.1, y3.2.2.2.2.2.2.2.2.1, y3.2.2.2.2.2.2.2.2.2.1⟩ : AQ), y3.2.2.2.2.2.2.2.2.2.2.2.1, y3.2.2.2.2.2.2.2.2.2.2.1, y3.2.2.2.2.2.2.2.2.2.2.2.2⟩ : AR).Mods))]) (.cons A9 (.cons A9 (.cons A9 (.cons A9 (.cons A9 (.cons A9 (.cons A9 (.cons A9 (.cons A9 (.cons A9 (.cons (GQ (congrArg (PV.sl 2) (BU (f := AV) (l := y3.2.2.2.2.2.2.2.2.2.2.2.1)))) (.cons A9 (.cons (GQ (congrArg (PV.sl 3) (BU (f := AL) (l := y3.2.2.2.2.2.2.2.2.2.2.2.2)))) .nil))))))))))))) rfl rfl) (cq rfl)))) ?_
 exact ⟨nofun, rfl, rfl⟩

def dL (v : List (List UInt8)) : Row := ⟨1, true, List.map PV.str v⟩
def VR (vs : List (List (List UInt8))) : Vd.Rows := fun t => bif Nat.ble 24100 t then (vs[t - 24100]?).map dL else none
def SV (vs : List (List (List UInt8))) (m : List (Nat × Row)) : Vd.Rows := N7 (VR vs) (AX m)
theorem VR_at {vs : List (List (List UInt8))} {j : Nat} {v : List (List UInt8)} (h : vs[j]? = some v) : VR vs (24100 + j) = some (dL v) := by
 unfold VR
 rw [Nat.ble_eq_true_of_le (by omega), cond_true, Nat.add_sub_cancel_left, h]; rfl
theorem Dl {vs : List (List (List UInt8))} {j : Nat} (h : vs.length ≤ j) : VR vs (24100 + j) = none := by
 unfold VR
 rw [Nat.ble_eq_true_of_le (by omega), cond_true, Nat.add_sub_cancel_left, List.getElem?_eq_none h]; rfl
theorem oL {vs : List (List (List UInt8))} {t : Nat} {row : Row} (h : VR vs t = some row) : ∃ j v, t = 24100 + j ∧ vs[j]? = some v ∧ row = dL v := by
 unfold VR at h
 cases hb : Nat.ble 24100 t with
 | false => rw [hb] at h; cases h
 | true =>
  rw [hb, cond_true] at h
  obtain ⟨v, hv, rfl⟩ := Option.map_eq_some_iff.1 h
  have := Nat.le_of_ble_eq_true hb
  exact ⟨t - 24100, v, by omega, hv, rfl⟩
theorem OZ {vs : List (List (List UInt8))} {m : List (Nat × Row)} {j : Nat} {v : List (List UInt8)} (h : vs[j]? = some v) : SV vs m (24100 + j) = some (dL v) := LB (VR_at h)
theorem SH [BA] {st : St} (l : List (Nat × PV)) (m : List (Nat × Row)) (vs : List (List (List UInt8))) (hs : ZK st.s l = TW l) (hr : ZK st.r m = TW m) (hv : ∀ j v, vs[j]? = some v → st.r (24100 + j) = some (dL v))
  (h1 : PV.tks (fun t => (SV vs m t).isSome) (l.map (·.2)) = true) (h2 : IK (fun t => (SV vs m t).isSome) (m.map (·.2)) = true) : C9 (fun _ => false) st ⟨AX l, SV vs m⟩ := by
 intro w0 O L n μ a w hL h
 refine ⟨μ, h.canon (fun k p hk => ⟨(OL hs).get k p hk, PV.tks_mem h1 p (NW hk)⟩) (fun t row ht => ?_) fun t ht => by rw [hL] at ht; cases ht⟩
 show st.r t = some row ∧ _
 have ht' : SV vs m t = some row := ht
 cases hV : VR vs t with
 | some row' =>
  unfold SV at ht'
  rw [LB hV] at ht'
  cases ht'
  obtain ⟨j, v, rfl, h3, rfl⟩ := oL hV
  exact ⟨hv j v h3, by unfold Row.tk dL; rfl⟩
 | none =>
  unfold SV at ht'
  rw [FZ hV] at ht'
  exact ⟨(OL hr).get t row ht', JY h2 row (NW ht')⟩
def fA (x : Nat × Bool × AY) : PV := bif x.2.1 then .agg [.int .i64 x.2.2.Kind, .str x.2.2.Attr, .slr (24100 + x.1) 0 x.2.2.Values.length] else AL x.2.2
def dn : Nat → List AY → List (Nat × Bool × AY)
 | _, [] => []
 | k, m :: r => (k, true, m) :: dn (k + 1) r
def td : Nat → List AY → List (Nat × Bool × AY)
 | _, [] => []
 | k, m :: r => (k, false, m) :: td (k + 1) r
theorem yA : ∀ (l : List AY) (k : Nat), (dn k l).length = l.length
 | [], _ => rfl
 | m :: r, k => by rw [dn, List.length_cons, yA r, List.length_cons]
theorem uE : ∀ (l : List AY) (k : Nat), List.map fA (td k l) = List.map AL l
 | [], _ => rfl
 | m :: r, k => by rw [td, List.map_cons, uE r, List.map_cons]; rfl
theorem yB : ∀ (a : List AY) (m : AY) (k : Nat), dn k (a ++ [m]) = dn k a ++ [(k + a.length, true, m)]
 | [], m, k => rfl
 | x :: a, m, k => by
  rw [List.cons_append, dn, yB a m (k + 1), dn, List.cons_append, List.length_cons]
  congr 4
  omega
theorem bV (f : Nat → Bool) : ∀ (l : List AY) (k : Nat), (∀ j, k ≤ j → j < k + l.length → f (24100 + j) = true) → PV.tks f (List.map fA (dn k l)) = true
 | [], _, _ => rfl
 | m :: r, k, h => by
  rw [dn, List.map_cons, PV.tks, bV f r (k + 1) (fun j h1 h2 => h j (by omega) (by simp; omega)), Bool.and_true]
  show (true && (true && (f (24100 + k) && true))) = true
  rw [h k (Nat.le_refl _) (by simp)]; rfl
theorem oQ (f : Nat → Bool) : ∀ (l : List AY) (k : Nat), PV.tks f (List.map fA (td k l)) = true
 | [], _ => rfl
 | m :: r, k => by
  rw [td, List.map_cons, PV.tks, oQ f r (k + 1), Bool.and_true]; rfl
theorem gZ (f : Nat → Bool) : ∀ a b : List PV, PV.tks f a = true → PV.tks f b = true → PV.tks f (a ++ b) = true
 | [], b, _, h => h
 | x :: a, b, h1, h2 => by
  rw [PV.tks, Bool.and_eq_true] at h1
  rw [List.cons_append, PV.tks, h1.1, gZ f a b h1.2 h2]; rfl
def IX (l : List AY) : List (List (List UInt8)) := l.map (·.Values)
theorem NM (l : List AY) (m : List (Nat × Row)) (j : Nat) (h : j < l.length) : (SV (IX l) m (24100 + j)).isSome = true := by
 have : (IX l)[j]? = some ((l[j]).Values) := by unfold IX; rw [List.getElem?_map, List.getElem?_eq_getElem h]; rfl
 rw [OZ this]; rfl
abbrev Eg (c : AR) (n : Nat) : PV := .agg [.int .i64 c.CSN.Time, .int .i64 c.CSN.Seq, .int .i64 c.CSN.Rep, .int .i64 c.Kind, .int .i64 c.ID.Time, .int .i64 c.ID.Seq, .int .i64 c.ID.Rep, .int .i64 c.Parent.Time, .int .i64 c.Parent.Seq, .int .i64 c.Parent.Rep, .slr 24007 0 c.RDN.length, .bool c.DelOld, .slr 24011 0 n]
abbrev noB : PV := .agg [.int .i64 0, .int .i64 0, .int .i64 0, .int .i64 0, .int .i64 0, .int .i64 0, .int .i64 0, .int .i64 0, .int .i64 0, .int .i64 0, .nl, .bool false, .nl]
abbrev fx (c : AR) (n : Nat) (l : List (Nat × Bool × AY)) : List (Nat × Row) := [(24001, ⟨13, false, [Eg c n]⟩), (24002, ⟨13, false, [noB]⟩), (24007, ⟨2, true, List.map AV c.RDN⟩), (24011, ⟨3, false, List.map fA l⟩)]
abbrev SC (c : AR) (n : Nat) (i : Int) (a b : List AY) : St := ⟨AX [(1, .ptr 24001 0 0), (2, .ptr 24002 0 0), (14, .slr 24011 0 n), (15, .int .i64 n), (16, .int .i64 i)], SV (IX a) (fx c n (dn 0 a ++ td a.length b))⟩
theorem qR (c : AR) (n : Nat) (l : List (Nat × Bool × AY)) (vs : List (List (List UInt8))) (h : PV.tks (fun t => (SV vs (fx c n l) t).isSome) (List.map fA l) = true) : IK (fun t => (SV vs (fx c n l) t).isSome) ((fx c n l).map (·.2)) = true := by
 show (_ && (_ && (_ && ((false || PV.tks (fun t => (SV vs (fx c n l) t).isSome) (List.map fA l)) && true)))) = true
 rw [h]; rfl
theorem gL [BA] {P : Program} {T : Nat → Bool} {b : IC} {st : St} {Q : Xt → St → Prop} (h : WX P T b st (fun e s => e = .normal ∧ WX P T (.loop b) s Q)) : WX P T (.loop b) st Q := by
 obtain ⟨e, s, h1, rfl, e2, s2, h2, hq⟩ := h
 exact ⟨e2, s2, .loop h1 h2, hq⟩
theorem gM [BA] {P : Program} {T : Nat → Bool} {b : IC} {st : St} {Q : Xt → St → Prop} (h : WX P T b st (fun e s => e ≠ .normal ∧ Q e s)) : WX P T (.loop b) st Q := by
 obtain ⟨e, s, h1, h2, hq⟩ := h
 exact ⟨e, s, .loopx h1 h2, hq⟩
theorem uD (j : Nat) (hj : j < 1000) : IP (24100 + j) = none := by
 unfold IP
 rw [show Nat.ble 1000000 (24100 + j) = false by rw [← Bool.not_eq_true, Nat.ble_eq]; omega]; rfl
end Go.Gp
end
