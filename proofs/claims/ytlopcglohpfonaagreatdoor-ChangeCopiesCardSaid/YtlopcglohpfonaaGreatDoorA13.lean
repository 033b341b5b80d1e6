/- A part of the proof: functions of the program and what they compute. -/
import Derived.Test.YtlopcglohpfonaaGreatDoorA5
import Derived.Test.YtlopcglohpfonaaGreatDoorA12
import Derived.Test.YtlopcglohpfonaaGreatDoorA8
import Derived.Test.YtlopcglohpfonaaGreatDoorA11
section
set_option linter.unusedVariables false
set_option linter.unusedSimpArgs false
set_option maxRecDepth 4000
set_option maxHeartbeats 4000000
namespace Go.Gp
open Go.Vd Go.RowKit Go.Proofs
def wE : IC := (.seq (.reg [jb .lss 16 15 14]) (.seq (.cond (.t 16) .skip (.exit 0)) (.seq (.block 1 (.seq (.reg [jx 17 3 13 15, jg 18 3 17, jn 6 (.box 52 (.c (.agg [(.int .u8 0), (.str []), .nl]))), js 3 6 18]) (.seq (.reg [jg 20 3 6, jn 21 (.call 49 [(.t 20)]), jm 19 21, je 22 0 19, je 23 1 19, jm 7 22, jm 8 23]) (.seq (.seq (.reg [jm 24 8, jn 25 (.un .not (.t 24)), jm 26 25, jf 26 27 (.mov (.t 4)), jf 26 28 (.len false (.t 27)), jf 26 29 (.mov (.t 7)), jf 26 30 (.len true (.t 29)), jf 26 31 (.bin .add (.t 28) (.t 30)), jf 26 32 (.bin .gtr (.t 31) (ji 4000)), jo 33 26 32]) (.cond (.t 33) (.seq (.reg [jc 2 (.str []), jc 3 (.bool false)]) .ret) .skip)) (.reg [jm 34 4, jm 35 7, jn 36 (.aps 5 (.t 34) (.t 35)), jm 4 36]))))) (.reg [ju .add 37 15 1, jm 15 37]))))
def k49 : IC := (.seq (.reg [jn 1 (.box 52 (.t 0)), jc 2 (.str []), jc 3 (.bool false)]) (.seq (.reg [ja 9 1 1, jl 10 1 9, jn 11 (.cvs (.t 10)), jm 4 11]) (.seq (.seq (.reg [ja 12 2 1, jl 13 1 12, jL 14 13, jc 15 (j6 0)]) (.block 0 (.loop wE))) (.seq (.seq (.reg [jm 38 4, jL 39 38, ju .gtr 40 39 4000]) (.cond (.t 40) (.seq (.reg [jc 2 (.str []), jc 3 (.bool false)]) .ret) .skip)) (.seq (.regd 13 [ja 41 0 1, jl 42 1 41, jn 43 (.bsl 1 [(.t 42)]), jn 44 (.cvb (.t 43)), jm 45 4, jL 46 45, jn 47 (.call 69 [(.t 46)]), jb .add 48 44 47, jm 49 4, jn 50 (.cvb (.t 49)), jb .add 51 48 50, jm 2 51, jc 3 (.bool true)]) .ret)))))
theorem Ih : BV Tryz.prog Tryz.f49 = some ⟨52, k49, [(.tmp 2), (.tmp 3)]⟩ := by kernel_rfl
theorem aG (N : Nat) (IJ : A7 → Option (List UInt8 × Bool)) (RN : ∀ (a0 : A7) (r : List UInt8 × Bool), IJ a0 = some r → Sat Tryz.prog 49 AC [A8 a0] (.tup [.str r.1, .bool r.2]) AC) (a0 : A7) (JP : List A7) : ∀ (n : Nat) (x : Int × List UInt8) (y : (List UInt8) ⊕ (List UInt8 × Bool)), PM N IJ a0 JP n x = some y → WX Tryz.prog (fun _ => false) (.loop wE) ((fun (x : Int × List UInt8) => ⟨AX [(1, .ptr 78401 0 0), (4, .slr 79204 0 x.2.length), (13, .sl 3 (List.map A8 JP)), (14, j6 (JP.length : Int)), (15, j6 x.1)], AX [(78401, ⟨3, false, [A8 a0]⟩), (79204, ⟨1, true, List.map eb x.2⟩)]⟩) x) ((Sum.elim (fun y e s => e = .exit 0 ∧ s = ⟨AX [(1, .ptr 78401 0 0), (4, .slr 79204 0 y.length)], AX [(78401, ⟨3, false, [A8 a0]⟩), (79204, ⟨1, true, List.map eb y⟩)]⟩) (fun y e s => e = .ret ∧ s = ⟨AX [(2, .str y.1), (3, .bool y.2)], AX []⟩) : ((List UInt8) ⊕ (List UInt8 × Bool)) → Xt → St → Prop) y) := by
 refine F5 _ _ (PM N IJ a0 JP) (UX N IJ a0 JP) (fun _ => rfl) (fun _ _ => rfl) ?_
 rintro rec ⟨PU, MX⟩ y h
 refine AA (AB ?_)
 refine wq rfl ?_
 refine AA ?_
 refine EP h rfl (fun c1 h => ?_) (fun c1 h => ?_)
 refine BH (AA (CJ (AA (AB ?_))))
 obtain ⟨DY, TQ, h⟩ := AP h
 refine AZ rfl (EU (cs := [eb DY.Tag, .str DY.Body, .sl 3 DY.Kids]) TQ rfl rfl rfl) ?_
 refine AZ (p := A8 DY) rfl rfl ?_
 refine CW rfl (F8 78406 rfl rfl rfl rfl rfl) ?_
 refine ED (e' := A8 DY) rfl rfl rfl rfl rfl rfl rfl rfl nofun rfl ?_
 refine AA (AB ?_)
 refine AZ (p := A8 DY) rfl rfl ?_
 obtain ⟨WT, bM, h⟩ := AP h
 refine CW rfl (CX (RN _ _ bM) rfl (.cons A9 .nil) rfl rfl rfl) ?_
 iterate 5 refine wq rfl ?_
 refine AA ?_
 obtain ⟨g2, hg2, h⟩ := AP h
 refine GZ ⟨AX [(1, .ptr 78401 0 0), (4, .slr 79204 0 MX.length), (7, .str WT.1), (13, .sl 3 (List.map A8 JP)), (14, j6 (JP.length : Int)), (15, j6 PU), (33, .bool g2)], AX [(78401, ⟨3, false, [A8 a0]⟩), (79204, ⟨1, true, List.map eb MX⟩)]⟩ ?_ ?_
 have h := hg2
 refine AB ?_
 iterate 3 refine wq rfl ?_
 rcases CY h with ⟨c3, h⟩ | ⟨c3, h⟩
 iterate 6 refine D7 (gn rfl c3) ?_
 refine AZ rfl (BG c3 rfl rfl) ?_
 obtain rfl := AO h
 exact cq rfl
 iterate 4 refine AZ (gy rfl c3) rfl ?_
 refine AZ (p := j6 (BX ((MX.length : Int) + (WT.1.length : Int)))) (gy rfl c3) rfl ?_
 refine AZ (gy rfl c3) rfl ?_
 refine AZ rfl (BD c3 rfl rfl) ?_
 cases AO h
 exact cq rfl
 clear hg2
 refine EP h rfl (fun c4 h => ?_) (fun c4 h => ?_)
 refine AA (AB ?_)
 iterate 2 refine wq rfl ?_
 cases AO h
 exact EX (st1 := ⟨AX [(2, .str ([] : List UInt8)), (3, .bool false)], AX []⟩) (cq rfl) ⟨rfl, rfl⟩
 refine BH (AB ?_)
 iterate 2 refine wq rfl ?_
 obtain ⟨Fh, Kg, h⟩ := AP h
 refine waps 78436 Kg rfl rfl rfl rfl rfl rfl rfl rfl ?_
 refine wq rfl ?_
 refine AB ?_
 refine AZ (p := j6 (BX (PU + (1 : Int)))) rfl rfl ?_
 refine wq rfl ?_
 exact ⟨((BX (PU + (1 : Int))), Fh), (C9.trans (rename 78436 79204 rfl rfl) (cq rfl)), h⟩
 obtain rfl := AO h
 exact D9 (st1 := ⟨AX [(1, .ptr 78401 0 0), (4, .slr 79204 0 MX.length)], AX [(78401, ⟨3, false, [A8 a0]⟩), (79204, ⟨1, true, List.map eb MX⟩)]⟩) (cq rfl) ⟨rfl, rfl⟩
theorem ZO (N : Nat) (IJ : A7 → Option (List UInt8 × Bool)) (RN : ∀ (a0 : A7) (r : List UInt8 × Bool), IJ a0 = some r → Sat Tryz.prog 49 AC [A8 a0] (.tup [.str r.1, .bool r.2]) AC) (a0 : A7) (r : List UInt8 × Bool) (h : ZB N IJ a0 = some r) : Sat Tryz.prog 49 AC [A8 a0] (.tup [.str r.1, .bool r.2]) AC := by
 refine EL mixed Tryz.func49 Ih (rs := [.str r.1, .bool r.2]) rfl rfl ?_
 refine AA (AB ?_)
 refine CW rfl (F8 78401 rfl rfl rfl rfl rfl) ?_
 iterate 2 refine wq rfl ?_
 refine AA (AB ?_)
 iterate 2 refine wq rfl ?_
 refine CW rfl (mU 78411 rfl rfl) ?_
 refine wq rfl ?_
 iterate 2 refine AA ?_
 refine AB ?_
 refine wq rfl ?_
 obtain ⟨JP, YM, h⟩ := AP h
 refine AZ (p := .sl 3 (List.map A8 JP)) rfl (congrArg (fun z => some (PV.sl 3 z)) (G5 (e := A8) BS YM)) ?_
 refine AZ rfl (CO rfl) ?_
 refine wq rfl ?_
 refine CJ ?_
 obtain ⟨y5, Ea, h⟩ := AP h
 refine PQ (aG N IJ RN a0 JP N _ _ Ea) (C9.trans (rename 78411 79204 rfl rfl) (cq rfl)) ?_
 clear Ea
 rcases y5 with y5 | y5
 rintro e s ⟨rfl, rfl⟩
 iterate 2 refine AA ?_
 refine AB ?_
 iterate 3 refine wq rfl ?_
 refine EP h rfl (fun c6 h => ?_) (fun c6 h => ?_)
 refine AA (AB ?_)
 iterate 2 refine wq rfl ?_
 cases AO h
 refine BR ?_
 exact ⟨nofun, rfl, rfl⟩
 refine BH (AA (NG ?_))
 iterate 2 refine dq rfl ?_
 refine QK rfl (.bsl _ 78443 rfl (MJ rfl) rfl) (N9 rfl) ?_
 refine JF rfl (UK (l := [a0.Tag]) rfl rfl (BU (f := eb) (l := [a0.Tag]))) ?_
 iterate 2 refine dq rfl ?_
 obtain ⟨Y1, iR, h⟩ := AP h
 refine QK rfl (LX (aS N _ _ iR) rfl (.cons A9 .nil) rfl rfl rfl) CQ ?_
 obtain ⟨lW, nK, h⟩ := AP h
 refine JF rfl (fB nK rfl rfl) ?_
 refine dq rfl ?_
 refine JF rfl (UK (l := y5) rfl rfl (BU (f := eb) (l := y5))) ?_
 obtain ⟨x51, hx51, h⟩ := AP h
 refine JF rfl (fB hx51 rfl rfl) ?_
 iterate 2 refine dq rfl ?_
 cases AO h
 refine BR ?_
 exact ⟨nofun, rfl, rfl⟩
 rintro e s ⟨rfl, rfl⟩
 cases AO h
 exact ⟨nofun, rfl, rfl⟩
theorem ZP (N : Nat) : ∀ (n : Nat) (a0 : A7) (r : List UInt8 × Bool) (h : OJ N n a0 = some r), Sat Tryz.prog 49 AC [A8 a0] (.tup [.str r.1, .bool r.2]) AC := by
 intro n
 induction n with
 | zero => intro a0 r h; cases h
 | succ n ih => intro a0 r h; exact ZO N (OJ N n) ih a0 r h
theorem dN (N : Nat) (a0 : A7) (r : List UInt8 × Bool) (h : gH N a0 = some r) : Sat Tryz.prog 49 AC [A8 a0] (.tup [.str r.1, .bool r.2]) AC := ZP N N a0 r h
def k22 : IC := (.seq (.reg [jn 1 (.box 52 (.t 0)), jc 2 (.str []), jc 3 (j6 0)]) (.seq (.seq (.reg [jg 6 3 1, jn 7 (.call 47 [(.t 6)]), jn 8 (.un .not (.t 7))]) (.cond (.t 8) (.seq (.reg [jc 2 (.str []), jc 3 (j6 14)]) .ret) .skip)) (.seq (.seq (.reg [jg 9 3 1, jn 10 (.call 48 [(.t 9)]), ju .gtr 11 10 20]) (.cond (.t 11) (.seq (.reg [jc 2 (.str []), jc 3 (j6 12)]) .ret) .skip)) (.seq (.reg [jg 13 3 1, jn 14 (.call 49 [(.t 13)]), jm 12 14, je 15 0 12, je 16 1 12, jm 4 15, jm 5 16]) (.seq (.seq (.reg [jm 17 5, jn 18 (.un .not (.t 17))]) (.cond (.t 18) (.seq (.reg [jc 2 (.str []), jc 3 (j6 13)]) .ret) .skip)) (.seq (.reg [jm 19 4, jm 2 19, jc 3 (j6 0)]) .ret))))))
theorem Jf : BV Tryz.prog Tryz.f22 = some ⟨20, k22, [(.tmp 2), (.tmp 3)]⟩ := by kernel_rfl
theorem dO (N : Nat) (a0 : A7) (r : List UInt8 × Int) (h : gI N a0 = some r) : Sat Tryz.prog 22 AC [A8 a0] (.tup [.str r.1, j6 r.2]) AC := by
 refine EL mixed Tryz.func22 Jf (rs := [.str r.1, j6 r.2]) rfl rfl ?_
 refine AA (AB ?_)
 refine CW rfl (F8 35201 rfl rfl rfl rfl rfl) ?_
 iterate 2 refine wq rfl ?_
 iterate 2 refine AA ?_
 refine AB ?_
 refine AZ (p := A8 a0) rfl rfl ?_
 obtain ⟨x7, hx7, h⟩ := AP h
 refine CW rfl (CX (aT N _ _ hx7) rfl (.cons A9 .nil) rfl rfl rfl) ?_
 refine wq rfl ?_
 refine EP h rfl (fun c1 h => ?_) (fun c1 h => ?_)
 refine AA (AB ?_)
 iterate 2 refine wq rfl ?_
 cases AO h
 refine BR ?_
 exact ⟨nofun, rfl, rfl⟩
 refine BH ?_
 iterate 2 refine AA ?_
 refine AB ?_
 refine AZ (p := A8 a0) rfl rfl ?_
 obtain ⟨P5, TR, h⟩ := AP h
 refine CW rfl (CX (iC N _ _ TR) rfl (.cons A9 .nil) rfl rfl rfl) ?_
 refine wq rfl ?_
 refine EP h rfl (fun c2 h => ?_) (fun c2 h => ?_)
 refine AA (AB ?_)
 iterate 2 refine wq rfl ?_
 cases AO h
 refine BR ?_
 exact ⟨nofun, rfl, rfl⟩
 refine BH (AA (AB ?_))
 refine AZ (p := A8 a0) rfl rfl ?_
 obtain ⟨MM, Q5, h⟩ := AP h
 refine CW rfl (CX (dN N _ _ Q5) rfl (.cons A9 .nil) rfl rfl rfl) ?_
 iterate 5 refine wq rfl ?_
 iterate 2 refine AA ?_
 refine AB ?_
 iterate 2 refine wq rfl ?_
 refine EP h rfl (fun c3 h => ?_) (fun c3 h => ?_)
 refine AA (AB ?_)
 iterate 2 refine wq rfl ?_
 cases AO h
 refine BR ?_
 exact ⟨nofun, rfl, rfl⟩
 refine BH (AA (AB ?_))
 iterate 3 refine wq rfl ?_
 cases AO h
 refine BR ?_
 exact ⟨nofun, rfl, rfl⟩
def vU : IC := (.seq (.reg [jb .lss 23 22 21]) (.seq (.cond (.t 23) .skip (.exit 0)) (.seq (.block 1 (.seq (.reg [jx 24 2 20 22, jg 25 2 24, jn 7 (.box 41 (.c (.agg [(.str []), (.str [])]))), js 2 7 25]) (.regd 8 [jm 26 4, ja 27 0 7, jl 28 1 27, jn 29 (.call 19 [(.c (.int .u8 4)), (.t 28)]), ja 30 1 7, jl 31 1 30, jn 32 (.call 19 [(.c (.int .u8 4)), (.t 31)]), jn 33 (.bsl 3 [(.t 29), (.t 32)]), jn 34 (.app 52 3 48 (.t 26) (.t 33)), jm 4 34]))) (.reg [ju .add 35 22 1, jm 22 35]))))
def vS : IC := (.seq (.reg [jb .lss 54 53 52]) (.seq (.cond (.t 54) .skip (.exit 4)) (.seq (.block 5 (.seq (.reg [jx 55 1 51 53, jl 56 1 55, jm 12 56]) (.reg [jm 57 10, jm 58 12, jn 59 (.call 19 [(.c (.int .u8 4)), (.t 58)]), jn 60 (.bsl 3 [(.t 59)]), jn 61 (.app 52 3 48 (.t 57) (.t 60)), jm 10 61]))) (.reg [ju .add 62 53 1, jm 53 62]))))
def vT : IC := (.seq (.reg [jb .lss 40 39 38]) (.seq (.cond (.t 40) .skip (.exit 2)) (.seq (.block 3 (.seq (.reg [jx 41 3 37 39, jg 42 3 41, jn 9 (.box 44 (.c (.agg [(j6 0), (.str []), .nl]))), js 3 9 42]) (.seq (.regd 8 [ja 43 0 9, jl 44 1 43, jn 45 (.call 20 [(.c (.int .u8 2)), (.t 44)]), ja 46 1 9, jl 47 1 46, jn 48 (.call 19 [(.c (.int .u8 4)), (.t 47)]), jn 49 (.bsl 3 [(.t 45), (.t 48)]), jm 10 49]) (.seq (.seq (.reg [ja 50 2 9, jl 51 1 50, jL 52 51, jc 53 (j6 0)]) (.block 4 (.loop vS))) (.reg [jm 63 5, jm 64 10, jn 65 (.call 21 [(.c (.int .u8 48)), (.t 64)]), jn 66 (.bsl 3 [(.t 65)]), jn 67 (.app 52 3 48 (.t 63) (.t 66)), jm 5 67]))))) (.reg [ju .add 68 39 1, jm 39 68]))))
def k9 : IC := (.seq (.reg [jn 1 (.box 28 (.t 0)), jc 2 (.str []), jc 3 (j6 0)]) (.seq (.seq (.reg [jg 16 13 1, jn 17 (.call 10 [(.t 16)]), jn 18 (.un .not (.t 17))]) (.cond (.t 18) (.seq (.reg [jc 2 (.str []), jc 3 (j6 14)]) .ret) .skip)) (.seq (.reg [jc 4 .nl, jc 5 .nl]) (.seq (.seq (.reg [ja 19 10 1, jl 20 1 19, jL 21 20, jc 22 (j6 0)]) (.block 0 (.loop vU))) (.seq (.seq (.reg [ja 36 12 1, jl 37 1 36, jL 38 37, jc 39 (j6 0)]) (.block 2 (.loop vT))) (.seq (.reg [ja 69 3 1, jl 70 1 69, jm 13 70]) (.seq (.seq (.reg [ja 71 11 1, jl 72 1 71]) (.cond (.t 72) (.reg [jm 73 13, jn 74 (.un .neg (.t 73)), jm 13 74]) .skip)) (.seq (.regd 23 [jm 76 13, jn 77 (.call 20 [(.c (.int .u8 2)), (.t 76)]), ja 78 0 1, jg 79 3 78, jn 80 (.call 23 [(.t 79)]), ja 81 4 1, jg 82 3 81, jn 83 (.call 23 [(.t 82)]), ja 84 7 1, jg 85 3 84, jn 86 (.call 23 [(.t 85)]), jm 87 4, jn 88 (.call 21 [(.c (.int .u8 48)), (.t 87)]), jm 89 5, jn 90 (.call 21 [(.c (.int .u8 48)), (.t 89)]), jn 91 (.bsl 3 [(.t 77), (.t 80), (.t 83), (.t 86), (.t 88), (.t 90)]), jn 92 (.call 21 [(.c (.int .u8 48)), (.t 91)]), jn 93 (.call 22 [(.t 92)]), jm 75 93, je 94 0 75, je 95 1 75, jm 14 94, jm 15 95]) (.seq (.seq (.reg [jm 96 15, ju .eql 97 96 0, jm 98 97, jt 98 99 (.mov (.t 14)), jt 98 100 (.len true (.t 99)), jt 98 101 (.bin .gtr (.t 100) (ji 4000)), jp 102 98 101]) (.cond (.t 102) (.seq (.reg [jc 2 (.str []), jc 3 (j6 13)]) .ret) .skip)) (.seq (.reg [jm 103 14, jm 104 15, jm 2 103, jm 3 104]) .ret))))))))))
theorem k9_cf : BV Tryz.prog Tryz.f9 = some ⟨105, k9, [(.tmp 2), (.tmp 3)]⟩ := by kernel_rfl
theorem VZ (N : Nat) (a0 : AR) : ∀ (n : Nat) (x : Int × List A7) (y : List A7), KV N a0 n x = some y → WX Tryz.prog (fun _ => false) (.loop vU) ((fun (x : Int × List A7) => ⟨AX [(1, .ptr 14401 0 0), (4, .slr 15204 0 x.2.length), (5, .nl), (20, .sl 2 (List.map AV a0.RDN)), (21, j6 (a0.RDN.length : Int)), (22, j6 x.1)], AX [(14401, ⟨13, false, [AJ a0]⟩), (15204, ⟨3, true, List.map A8 x.2⟩)]⟩) x) ((fun y e s => e = .exit 0 ∧ s = ⟨AX [(1, .ptr 14401 0 0), (4, .slr 15204 0 y.length), (5, .nl)], AX [(14401, ⟨13, false, [AJ a0]⟩), (15204, ⟨3, true, List.map A8 y⟩)]⟩ : (List A7) → Xt → St → Prop) y) := by
 refine F5 _ _ (KV N a0) (QF N a0) (fun _ => rfl) (fun _ _ => rfl) ?_
 rintro rec ⟨Y9, SG⟩ y h
 refine AA (AB ?_)
 refine wq rfl ?_
 refine AA ?_
 refine EP h rfl (fun c2 h => ?_) (fun c2 h => ?_)
 refine BH (AA (CJ (AA (AB ?_))))
 obtain ⟨x24, hx24, h⟩ := AP h
 refine AZ rfl (EU (cs := [.str x24.Attr, .str x24.Value]) hx24 rfl rfl rfl) ?_
 refine AZ (p := AV x24) rfl rfl ?_
 refine CW rfl (F8 14407 rfl rfl rfl rfl rfl) ?_
 refine ED (e' := AV x24) rfl rfl rfl rfl rfl rfl rfl rfl nofun rfl ?_
 refine NG ?_
 iterate 3 refine dq rfl ?_
 obtain ⟨x29, hx29, h⟩ := AP h
 refine QK rfl (LX (IU N _ _ _ hx29) rfl (.cons A9 (.cons A9 .nil)) rfl rfl rfl) CQ ?_
 iterate 2 refine dq rfl ?_
 obtain ⟨x32, hx32, h⟩ := AP h
 refine QK rfl (LX (IU N _ _ _ hx32) rfl (.cons A9 (.cons A9 .nil)) rfl rfl rfl) CQ ?_
 refine QK rfl (.bsl _ 14433 rfl (MJ rfl) rfl) (N9 rfl) ?_
 obtain ⟨x34, hx34, h⟩ := AP h
 refine VU (f := A8) 14434 hx34 rfl rfl rfl rfl rfl (LY rfl (BU (f := A8) (l := [x29, x32]))) rfl rfl rfl rfl ?_
 refine wq rfl ?_
 refine AB ?_
 refine AZ (p := j6 (BX (Y9 + (1 : Int)))) rfl rfl ?_
 refine wq rfl ?_
 exact ⟨((BX (Y9 + (1 : Int))), x34), (C9.trans (rename 14434 15204 rfl rfl) (cq rfl)), h⟩
 obtain rfl := AO h
 exact D9 (st1 := ⟨AX [(1, .ptr 14401 0 0), (4, .slr 15204 0 SG.length), (5, .nl)], AX [(14401, ⟨13, false, [AJ a0]⟩), (15204, ⟨3, true, List.map A8 SG⟩)]⟩) (cq rfl) ⟨rfl, rfl⟩
theorem VX (N : Nat) (a0 : AR) (y3 : List A7) (J3 : Int) (ES : List A7) (x41 : AY) : ∀ (n : Nat) (x : Int × List A7) (y : List A7), KT N a0 y3 J3 ES x41 n x = some y → WX Tryz.prog (fun _ => false) (.loop vS) ((fun (x : Int × List A7) => ⟨AX [(1, .ptr 14401 0 0), (4, .slr 15204 0 y3.length), (5, .slr 15205 0 ES.length), (10, .slr 15210 0 x.2.length), (37, .sl 3 (List.map AL a0.Mods)), (38, j6 (a0.Mods.length : Int)), (39, j6 J3), (51, .sl 1 (List.map PV.str x41.Values)), (52, j6 (x41.Values.length : Int)), (53, j6 x.1)], AX [(14401, ⟨13, false, [AJ a0]⟩), (15204, ⟨3, true, List.map A8 y3⟩), (15205, ⟨3, true, List.map A8 ES⟩), (15210, ⟨3, true, List.map A8 x.2⟩)]⟩) x) ((fun y e s => e = .exit 4 ∧ s = ⟨AX [(1, .ptr 14401 0 0), (4, .slr 15204 0 y3.length), (5, .slr 15205 0 ES.length), (10, .slr 15210 0 y.length), (37, .sl 3 (List.map AL a0.Mods)), (38, j6 (a0.Mods.length : Int)), (39, j6 J3)], AX [(14401, ⟨13, false, [AJ a0]⟩), (15204, ⟨3, true, List.map A8 y3⟩), (15205, ⟨3, true, List.map A8 ES⟩), (15210, ⟨3, true, List.map A8 y⟩)]⟩ : (List A7) → Xt → St → Prop) y) := by
 refine F5 _ _ (KT N a0 y3 J3 ES x41) (QD N a0 y3 J3 ES x41) (fun _ => rfl) (fun _ _ => rfl) ?_
 rintro rec ⟨Y6, SF⟩ y h
 refine AA (AB ?_)
 refine wq rfl ?_
 refine AA ?_
 refine EP h rfl (fun c5 h => ?_) (fun c5 h => ?_)
 refine BH (AA (CJ (AA (AB ?_))))
 obtain ⟨x55, Ka, h⟩ := AP h
 refine AZ rfl (EU (cs := [.str x55]) Ka rfl rfl rfl) ?_
 iterate 2 refine wq rfl ?_
 refine AB ?_
 iterate 2 refine wq rfl ?_
 obtain ⟨x59, Jz, h⟩ := AP h
 refine CW rfl (CX (IU N _ _ _ Jz) rfl (.cons A9 (.cons A9 .nil)) rfl rfl rfl) ?_
 refine CW rfl (UE 14460 rfl rfl rfl) ?_
 obtain ⟨Fe, Jy, h⟩ := AP h
 refine VU (f := A8) 14461 Jy rfl rfl rfl rfl rfl (LY rfl (BU (f := A8) (l := [x59]))) rfl rfl rfl rfl ?_
 refine wq rfl ?_
 refine AB ?_
 refine AZ (p := j6 (BX (Y6 + (1 : Int)))) rfl rfl ?_
 refine wq rfl ?_
 exact ⟨((BX (Y6 + (1 : Int))), Fe), (C9.trans (rename 14461 15210 rfl rfl) (cq rfl)), h⟩
 obtain rfl := AO h
 exact D9 (st1 := ⟨AX [(1, .ptr 14401 0 0), (4, .slr 15204 0 y3.length), (5, .slr 15205 0 ES.length), (10, .slr 15210 0 SF.length), (37, .sl 3 (List.map AL a0.Mods)), (38, j6 (a0.Mods.length : Int)), (39, j6 J3)], AX [(14401, ⟨13, false, [AJ a0]⟩), (15204, ⟨3, true, List.map A8 y3⟩), (15205, ⟨3, true, List.map A8 ES⟩), (15210, ⟨3, true, List.map A8 SF⟩)]⟩) (cq rfl) ⟨rfl, rfl⟩
theorem VY (N : Nat) (a0 : AR) (y3 : List A7) : ∀ (n : Nat) (x : Int × List A7) (y : List A7), KU N a0 y3 n x = some y → WX Tryz.prog (fun _ => false) (.loop vT) ((fun (x : Int × List A7) => ⟨AX [(1, .ptr 14401 0 0), (4, .slr 15204 0 y3.length), (5, .slr 15205 0 x.2.length), (37, .sl 3 (List.map AL a0.Mods)), (38, j6 (a0.Mods.length : Int)), (39, j6 x.1)], AX [(14401, ⟨13, false, [AJ a0]⟩), (15204, ⟨3, true, List.map A8 y3⟩), (15205, ⟨3, true, List.map A8 x.2⟩)]⟩) x) ((fun y e s => e = .exit 2 ∧ s = ⟨AX [(1, .ptr 14401 0 0), (4, .slr 15204 0 y3.length), (5, .slr 15205 0 y.length)], AX [(14401, ⟨13, false, [AJ a0]⟩), (15204, ⟨3, true, List.map A8 y3⟩), (15205, ⟨3, true, List.map A8 y⟩)]⟩ : (List A7) → Xt → St → Prop) y) := by
 refine F5 _ _ (KU N a0 y3) (QE N a0 y3) (fun _ => rfl) (fun _ _ => rfl) ?_
 rintro rec ⟨J3, ES⟩ y h
 refine AA (AB ?_)
 refine wq rfl ?_
 refine AA ?_
 refine EP h rfl (fun c4 h => ?_) (fun c4 h => ?_)
 refine BH (AA (CJ (AA (AB ?_))))
 obtain ⟨x41, nL, h⟩ := AP h
 refine AZ rfl (EU (cs := [j6 x41.Kind, .str x41.Attr, .sl 1 (List.map PV.str x41.Values)]) nL rfl rfl rfl) ?_
 refine AZ (p := AL x41) rfl rfl ?_
 refine CW rfl (F8 14409 rfl rfl rfl rfl rfl) ?_
 refine ED (e' := AL x41) rfl rfl rfl rfl rfl rfl rfl rfl nofun rfl ?_
 refine AA (NG ?_)
 iterate 2 refine dq rfl ?_
 obtain ⟨jI, wZ, h⟩ := AP h
 refine QK rfl (LX (RY N _ _ _ wZ) rfl (.cons A9 (.cons A9 .nil)) rfl rfl rfl) CQ ?_
 iterate 2 refine dq rfl ?_
 obtain ⟨lW, nK, h⟩ := AP h
 refine QK rfl (LX (IU N _ _ _ nK) rfl (.cons A9 (.cons A9 .nil)) rfl rfl rfl) CQ ?_
 refine QK rfl (.bsl _ 14449 rfl (MJ rfl) rfl) (N9 rfl) ?_
 refine dq rfl ?_
 iterate 2 refine AA ?_
 refine AB ?_
 iterate 2 refine wq rfl ?_
 refine AZ rfl (CO rfl) ?_
 refine wq rfl ?_
 refine CJ ?_
 obtain ⟨y6, qP, h⟩ := AP h
 refine PQ (VX N a0 y3 J3 ES x41 N _ _ qP) (C9.trans (rename 14449 15210 rfl rfl) (cq rfl)) ?_
 rintro e s ⟨rfl, rfl⟩
 refine AB ?_
 iterate 2 refine wq rfl ?_
 refine wn (C9.trans (Vd.freeze 15210 _ rfl rfl rfl) (C9.trans (L6 10 (GQ (congrArg (PV.sl 3) (BU (f := A8) (l := y6)))) rfl) (L6 64 (GQ (congrArg (PV.sl 3) (BU (f := A8) (l := y6)))) rfl))) ?_
 obtain ⟨jH, kV, h⟩ := AP h
 refine CW rfl (CX (MU N _ _ _ kV) rfl (.cons A9 (.cons A9 .nil)) rfl rfl rfl) ?_
 refine CW rfl (UE 14466 rfl rfl rfl) ?_
 obtain ⟨x67, Jv, h⟩ := AP h
 refine VU (f := A8) 14467 Jv rfl rfl rfl rfl rfl (LY rfl (BU (f := A8) (l := [jH]))) rfl rfl rfl rfl ?_
 refine wq rfl ?_
 refine AB ?_
 refine AZ (p := j6 (BX (J3 + (1 : Int)))) rfl rfl ?_
 refine wq rfl ?_
 exact ⟨((BX (J3 + (1 : Int))), x67), (C9.trans (rename 14467 15205 rfl rfl) (cq rfl)), h⟩
 obtain rfl := AO h
 exact D9 (st1 := ⟨AX [(1, .ptr 14401 0 0), (4, .slr 15204 0 y3.length), (5, .slr 15205 0 ES.length)], AX [(14401, ⟨13, false, [AJ a0]⟩), (15204, ⟨3, true, List.map A8 y3⟩), (15205, ⟨3, true, List.map A8 ES⟩)]⟩) (cq rfl) ⟨rfl, rfl⟩
theorem NQ (N : Nat) (a0 : AR) (r : List UInt8 × Int) (h : PL N a0 = some r) : Sat Tryz.prog 9 AC [AJ a0] (.tup [.str r.1, j6 r.2]) AC := by
 refine EL mixed Tryz.func9 k9_cf (rs := [.str r.1, j6 r.2]) rfl rfl ?_
 refine AA (AB ?_)
 refine CW rfl (F8 14401 rfl rfl rfl rfl rfl) ?_
 iterate 2 refine wq rfl ?_
 iterate 2 refine AA ?_
 refine AB ?_
 refine AZ (p := AJ a0) rfl rfl ?_
 obtain ⟨DY, TQ, h⟩ := AP h
 refine CW rfl (CX (LA N _ _ TQ) rfl (.cons A9 .nil) rfl rfl rfl) ?_
 refine wq rfl ?_
 refine EP h rfl (fun c1 h => ?_) (fun c1 h => ?_)
 refine AA (AB ?_)
 iterate 2 refine wq rfl ?_
 cases AO h
 refine BR ?_
 exact ⟨nofun, rfl, rfl⟩
 refine BH (AA (AB ?_))
 iterate 2 refine wq rfl ?_
 iterate 2 refine AA ?_
 refine AB ?_
 iterate 2 refine wq rfl ?_
 refine AZ rfl (CO rfl) ?_
 refine wq rfl ?_
 refine CJ ?_
 obtain ⟨y3, hy3, h⟩ := AP h
 refine PQ (VZ N a0 N _ _ hy3) (C9.trans (fC 4 15204 3 true rfl rfl rfl) (cq rfl)) ?_
 rintro e s ⟨rfl, rfl⟩
 iterate 2 refine AA ?_
 refine AB ?_
 iterate 2 refine wq rfl ?_
 refine AZ rfl (CO rfl) ?_
 refine wq rfl ?_
 refine CJ ?_
 obtain ⟨y7, hy7, h⟩ := AP h
 refine PQ (VY N a0 y3 N _ _ hy7) (C9.trans (fC 5 15205 3 true rfl rfl rfl) (cq rfl)) ?_
 rintro e s ⟨rfl, rfl⟩
 refine AA (AB ?_)
 iterate 3 refine wq rfl ?_
 refine RP (fun (x : Int) => ⟨AX [(1, .ptr 14401 0 0), (4, .slr 15204 0 y3.length), (5, .slr 15205 0 y7.length), (13, j6 x)], AX [(14401, ⟨13, false, [AJ a0]⟩), (15204, ⟨3, true, List.map A8 y3⟩), (15205, ⟨3, true, List.map A8 y7⟩)]⟩) (fun x => NS a0 N y3 y7 x = some r) ?_ ?_
 rintro uA h
 refine AA ?_
 refine NH (C9.trans (Vd.freeze 15204 _ rfl rfl rfl) (L6 4 (GQ (congrArg (PV.sl 3) (BU (f := A8) (l := y3)))) rfl)) ?_
 refine NH (C9.trans (Vd.freeze 15205 _ rfl rfl rfl) (L6 5 (GQ (congrArg (PV.sl 3) (BU (f := A8) (l := y7)))) rfl)) ?_
 refine NG ?_
 refine dq rfl ?_
 obtain ⟨x77, hx77, h⟩ := AP h
 refine QK rfl (LX (RY N _ _ _ hx77) rfl (.cons A9 (.cons A9 .nil)) rfl rfl rfl) CQ ?_
 refine dq rfl ?_
 refine JF (p := .agg [j6 a0.CSN.Time, j6 a0.CSN.Seq, j6 a0.CSN.Rep]) rfl rfl ?_
 obtain ⟨x80, Js, h⟩ := AP h
 refine QK rfl (LX (MW N _ _ Js) rfl (.cons A9 .nil) rfl rfl rfl) CQ ?_
 refine dq rfl ?_
 refine JF (p := .agg [j6 a0.ID.Time, j6 a0.ID.Seq, j6 a0.ID.Rep]) rfl rfl ?_
 obtain ⟨x83, hx83, h⟩ := AP h
 refine QK rfl (LX (MW N _ _ hx83) rfl (.cons A9 .nil) rfl rfl rfl) CQ ?_
 refine dq rfl ?_
 refine JF (p := .agg [j6 a0.Parent.Time, j6 a0.Parent.Seq, j6 a0.Parent.Rep]) rfl rfl ?_
 obtain ⟨x86, hx86, h⟩ := AP h
 refine QK rfl (LX (MW N _ _ hx86) rfl (.cons A9 .nil) rfl rfl rfl) CQ ?_
 refine dq rfl ?_
 obtain ⟨x88, hx88, h⟩ := AP h
 refine QK rfl (LX (MU N _ _ _ hx88) rfl (.cons A9 (.cons A9 .nil)) rfl rfl rfl) CQ ?_
 refine dq rfl ?_
 obtain ⟨x90, hx90, h⟩ := AP h
 refine QK rfl (LX (MU N _ _ _ hx90) rfl (.cons A9 (.cons A9 .nil)) rfl rfl rfl) CQ ?_
 refine QK rfl (.bslf _ 14491 rfl (MJ rfl) rfl rfl) (N9 rfl) ?_
 obtain ⟨x92, hx92, h⟩ := AP h
 refine QK rfl (LX (MU N _ _ _ hx92) rfl (.cons A9 (.cons A9 .nil)) rfl rfl rfl) CQ ?_
 obtain ⟨x93, hx93, h⟩ := AP h
 refine QK rfl (LX (dO N _ _ hx93) rfl (.cons A9 .nil) rfl rfl rfl) CQ ?_
 iterate 5 refine dq rfl ?_
 refine AA ?_
 obtain ⟨g8, hg8, h⟩ := AP h
 refine GZ ⟨AX [(14, .str x93.1), (15, j6 x93.2), (102, .bool g8)], AX []⟩ ?_ ?_
 have h := hg8
 refine AB ?_
 iterate 3 refine wq rfl ?_
 rcases CY h with ⟨c9, h⟩ | ⟨c9, h⟩
 iterate 3 refine AZ (gy rfl c9) rfl ?_
 refine AZ rfl (BG c9 rfl rfl) ?_
 cases AO h
 exact cq rfl
 iterate 3 refine D7 (gn rfl c9) ?_
 refine AZ rfl (BD c9 rfl rfl) ?_
 obtain rfl := AO h
 exact cq rfl
 clear hg8
 refine EP h rfl (fun c10 h => ?_) (fun c10 h => ?_)
 refine AA (AB ?_)
 iterate 2 refine wq rfl ?_
 cases AO h
 refine BR ?_
 exact ⟨nofun, rfl, rfl⟩
 refine BH (AA (AB ?_))
 iterate 4 refine wq rfl ?_
 cases AO h
 refine BR ?_
 exact ⟨nofun, rfl, rfl⟩
 refine AA (AB ?_)
 iterate 2 refine wq rfl ?_
 refine EP h rfl (fun c11 h => ?_) (fun c11 h => ?_)
 refine AB ?_
 refine wq rfl ?_
 refine AZ (p := j6 (BX (0 - a0.Kind))) rfl rfl ?_
 refine wq rfl ?_
 exact ⟨(BX (0 - a0.Kind)), (cq rfl), h⟩
 refine BH ?_
 exact ⟨a0.Kind, (cq rfl), h⟩
def pW : IC := (.seq (.reg [jb .lss 45 44 43]) (.seq (.cond (.t 45) .skip (.exit 4)) (.seq (.block 5 (.seq (.reg [jx 46 1 42 44, jl 47 1 46, jm 8 47]) (.reg [jm 48 5, jn 49 (.bin .shl (.t 48) (.c (.int .u64 8))), jm 50 8, jn 51 (.cvi .i64 (.t 50)), jb .or 52 49 51, jm 5 52]))) (.reg [ju .add 53 44 1, jm 44 53]))))
def k86 : IC := (.seq (.reg [jc 2 (j6 0), jc 3 (j6 0), jc 4 (j6 0)]) (.seq (.seq (.reg [jm 9 0, jn 10 (.bin .eql (.t 9) (.c (.str [])))]) (.cond (.t 10) (.seq (.reg [jc 2 (j6 0), jc 3 (j6 0), jc 4 (j6 10)]) .ret) .skip)) (.seq (.seq (.reg [jm 11 0, jn 12 (.idxs (.t 11) (ji 0)), jn 13 (.bin .and (.t 12) (.c (.int .u8 31))), jn 14 (.bin .eql (.t 13) (.c (.int .u8 31)))]) (.cond (.t 14) (.seq (.reg [jc 2 (j6 0), jc 3 (j6 0), jc 4 (j6 14)]) .ret) .skip)) (.seq (.seq (.reg [jm 15 0, jS 16 15, ju .eql 17 16 1]) (.cond (.t 17) (.seq (.reg [jc 2 (j6 0), jc 3 (j6 0), jc 4 (j6 10)]) .ret) .skip)) (.seq (.reg [jm 18 0, jn 19 (.idxs (.t 18) (ji 1)), jn 20 (.cvi .i64 (.t 19)), jm 5 20]) (.seq (.reg [jc 6 (j6 0)]) (.seq (.block 0 (.seq (.block 3 (.seq (.block 2 (.seq (.block 1 (.seq (.seq (.seq (.reg [jm 22 5, ju .eql 23 22 128, jm 24 23, jf 24 25 (.mov (.t 5)), jf 24 26 (.bin .gtr (.t 25) (ji 132)), jo 27 24 26, jm 21 27]) (.cond (.t 21) (.exit 1) .skip)) (.seq (.reg [jm 29 5, ju .gtr 30 29 128, jm 28 30]) (.cond (.t 28) (.exit 2) .skip))) (.exit 3))) (.seq (.seq (.reg [jc 2 (j6 0), jc 3 (j6 0), jc 4 (j6 11)]) .ret) (.exit 0)))) (.seq (.reg [jm 31 5, ju .sub 32 31 128, jm 6 32]) (.seq (.seq (.reg [jm 33 0, jS 34 33, jm 35 6, jn 36 (.bin .add (ji 2) (.t 35)), jb .lss 37 34 36]) (.cond (.t 37) (.seq (.reg [jc 2 (j6 0), jc 3 (j6 0), jc 4 (j6 10)]) .ret) .skip)) (.seq (.reg [jc 5 (j6 0)]) (.seq (.reg [jm 38 0, jm 39 6, jn 40 (.bin .add (ji 2) (.t 39)), jn 41 (.slcs (.t 38) (some (ji 2)) (some (.t 40))), jn 42 (.cvs (.t 41)), jL 43 42, jc 44 (j6 0)]) (.block 4 (.loop pW)))))))) (.seq (.seq (.reg [jm 54 5, ju .gtr 55 54 4000]) (.cond (.t 55) (.seq (.reg [jc 2 (j6 0), jc 3 (j6 0), jc 4 (j6 13)]) .ret) .skip)) (.exit 0)))) (.seq (.reg [jm 56 6, jn 57 (.bin .add (ji 2) (.t 56)), jm 58 5, jm 2 57, jm 3 58, jc 4 (j6 0)]) .ret))))))))
theorem Gt : BV Tryz.prog Tryz.f86 = some ⟨59, k86, [(.tmp 2), (.tmp 3), (.tmp 4)]⟩ := by kernel_rfl
theorem aH (N : Nat) (OO : UInt8) (x41 : List UInt8) : ∀ (n : Nat) (x : Int × Int) (y : Int), PN N OO x41 n x = some y → WX Tryz.prog (fun _ => false) (.loop pW) ((fun (x : Int × Int) => ⟨AX [(5, j6 x.1), (6, j6 (BX (((OO).toNat : Int) - (128 : Int)))), (42, .slr 137642 0 x41.length), (43, j6 (x41.length : Int)), (44, j6 x.2)], AX [(137642, ⟨1, true, List.map eb x41⟩)]⟩) x) ((fun y e s => e = .exit 4 ∧ s = ⟨AX [(5, j6 y), (6, j6 (BX (((OO).toNat : Int) - (128 : Int))))], AX []⟩ : Int → Xt → St → Prop) y) := by
 refine F5 _ _ (PN N OO x41) (UY N OO x41) (fun _ => rfl) (fun _ _ => rfl) ?_
 rintro rec ⟨eO, Y7⟩ y h
 refine AA (AB ?_)
 refine wq rfl ?_
 refine AA ?_
 refine EP h rfl (fun c10 h => ?_) (fun c10 h => ?_)
 refine BH (AA (CJ (AA (AB ?_))))
 obtain ⟨x46, Kc, h⟩ := AP h
 refine AZ rfl (KF Kc rfl rfl rfl rfl) ?_
 obtain ⟨Y1, iR, h⟩ := AP h
 refine AZ rfl (Q4 (f := eb) (v := eb Y1) iR rfl rfl rfl) ?_
 refine wq rfl ?_
 refine AB ?_
 refine wq rfl ?_
 refine AZ rfl (Dw (by decide) rfl rfl) ?_
 refine wq rfl ?_
 refine AZ rfl (mR (a := Y1) rfl) ?_
 refine AZ (p := j6 (iop .or .i64 (mJ eO 8) ((Y1).toNat : Int))) rfl rfl ?_
 refine wq rfl ?_
 refine AB ?_
 refine AZ (p := j6 (BX (Y7 + (1 : Int)))) rfl rfl ?_
 refine wq rfl ?_
 exact ⟨((iop .or .i64 (mJ eO 8) ((Y1).toNat : Int)), (BX (Y7 + (1 : Int)))), (cq rfl), h⟩
 obtain rfl := AO h
 exact D9 (st1 := ⟨AX [(5, j6 eO), (6, j6 (BX (((OO).toNat : Int) - (128 : Int))))], AX []⟩) (cq rfl) ⟨rfl, rfl⟩
theorem iE (N : Nat) (a0 : List UInt8) (r : Int × Int × Int) (h : lS N a0 = some r) : Sat Tryz.prog 86 AC [.str a0] (.tup [j6 r.1, j6 r.2.1, j6 r.2.2]) AC := by
 refine EL mixed Tryz.func86 Gt (rs := [j6 r.1, j6 r.2.1, j6 r.2.2]) rfl rfl ?_
 refine AA (AB ?_)
 iterate 3 refine wq rfl ?_
 iterate 2 refine AA ?_
 refine AB ?_
 iterate 2 refine wq rfl ?_
 refine EP h rfl (fun c1 h => ?_) (fun c1 h => ?_)
 refine AA (AB ?_)
 iterate 3 refine wq rfl ?_
 cases AO h
 refine BR ?_
 exact ⟨nofun, rfl, rfl⟩
 refine BH ?_
 iterate 2 refine AA ?_
 refine AB ?_
 refine wq rfl ?_
 obtain ⟨KW, YN, h⟩ := AP h
 refine AZ rfl (OB YN rfl rfl) ?_
 refine AZ rfl (V7 (a := KW) (b := (31 : UInt8)) rfl rfl) ?_
 refine AZ (p := .bool ((((KW &&& (31 : UInt8))).toNat : Int) == (31 : Int))) rfl rfl ?_
 refine EP h rfl (fun c2 h => ?_) (fun c2 h => ?_)
 refine AA (AB ?_)
 iterate 3 refine wq rfl ?_
 cases AO h
 refine BR ?_
 exact ⟨nofun, rfl, rfl⟩
 refine BH ?_
 iterate 2 refine AA ?_
 refine AB ?_
 iterate 3 refine wq rfl ?_
 refine EP h rfl (fun c3 h => ?_) (fun c3 h => ?_)
 refine AA (AB ?_)
 iterate 3 refine wq rfl ?_
 cases AO h
 refine BR ?_
 exact ⟨nofun, rfl, rfl⟩
 refine BH (AA (AB ?_))
 refine wq rfl ?_
 obtain ⟨OO, bO, h⟩ := AP h
 refine AZ rfl (OB bO rfl rfl) ?_
 refine AZ rfl (mR (a := OO) rfl) ?_
 refine wq rfl ?_
 refine AA (AB ?_)
 refine wq rfl ?_
 refine AA (CJ ?_)
 refine RP (fun (x : Int × Int) => ⟨AX [(5, j6 x.1), (6, j6 x.2)], AX []⟩) (fun x => TT x.1 x.2 = some r) ?_ ?_
 rintro ⟨tZ, tV⟩ h
 iterate 2 refine AA ?_
 refine AB ?_
 iterate 2 refine wq rfl ?_
 refine EP h rfl (fun c4 h => ?_) (fun c4 h => ?_)
 refine AA (AB ?_)
 iterate 3 refine wq rfl ?_
 cases AO h
 refine BR ?_
 exact ⟨nofun, rfl, rfl⟩
 refine BH ?_
 refine NI ?_
 refine AA (AB ?_)
 refine wq rfl ?_
 refine AZ (p := j6 (BX ((2 : Int) + tV))) rfl rfl ?_
 iterate 4 refine wq rfl ?_
 cases AO h
 refine BR ?_
 exact ⟨nofun, rfl, rfl⟩
 refine CJ (AA (CJ (AA (CJ ?_))))
 iterate 2 refine AA ?_
 obtain ⟨g5, hg5, h⟩ := AP h
 refine GZ ⟨AX [(0, .str a0), (5, j6 ((OO).toNat : Int)), (6, j6 0), (21, .bool g5)], AX []⟩ ?_ ?_
 have h := hg5
 refine AB ?_
 iterate 3 refine wq rfl ?_
 rcases CY h with ⟨c6, h⟩ | ⟨c6, h⟩
 iterate 2 refine D7 (gn rfl c6) ?_
 refine AZ rfl (BG c6 rfl rfl) ?_
 refine wq rfl ?_
 obtain rfl := AO h
 exact cq rfl
 iterate 2 refine AZ (gy rfl c6) rfl ?_
 refine AZ rfl (BD c6 rfl rfl) ?_
 refine wq rfl ?_
 cases AO h
 exact cq rfl
 clear hg5
 refine EP h rfl (fun c7 h => ?_) (fun c7 h => ?_)
 refine NI ?_
 iterate 2 refine AA ?_
 refine AB ?_
 iterate 3 refine wq rfl ?_
 cases AO h
 refine BR ?_
 exact ⟨nofun, rfl, rfl⟩
 refine BH (AA (AB ?_))
 iterate 3 refine wq rfl ?_
 refine EP h rfl (fun c8 h => ?_) (fun c8 h => ?_)
 refine NI ?_
 refine AA (AB ?_)
 refine wq rfl ?_
 refine AZ (p := j6 (BX (((OO).toNat : Int) - (128 : Int)))) rfl rfl ?_
 refine wq rfl ?_
 iterate 2 refine AA ?_
 refine AB ?_
 iterate 3 refine wq rfl ?_
 refine AZ (p := j6 (BX ((2 : Int) + (BX (((OO).toNat : Int) - (128 : Int)))))) rfl rfl ?_
 refine wq rfl ?_
 refine EP h rfl (fun c9 h => ?_) (fun c9 h => ?_)
 refine AA (AB ?_)
 iterate 3 refine wq rfl ?_
 cases AO h
 refine BR ?_
 exact ⟨nofun, rfl, rfl⟩
 refine BH (AA (AB ?_))
 refine wq rfl ?_
 refine AA (AB ?_)
 iterate 2 refine wq rfl ?_
 refine AZ (p := j6 (BX ((2 : Int) + (BX (((OO).toNat : Int) - (128 : Int)))))) rfl rfl ?_
 obtain ⟨x41, nL, h⟩ := AP h
 refine AZ rfl (kD nL rfl rfl rfl) ?_
 refine CW rfl (mU 137642 rfl rfl) ?_
 iterate 2 refine wq rfl ?_
 refine CJ ?_
 obtain ⟨y11, hy11, h⟩ := AP h
 refine PQ (aH N OO x41 N _ _ hy11) (cq rfl) ?_
 rintro e s ⟨rfl, rfl⟩
 exact ⟨(y11, (BX (((OO).toNat : Int) - (128 : Int)))), (cq rfl), h⟩
 refine BH ?_
 refine NI ?_
 exact ⟨(((OO).toNat : Int), 0), (cq rfl), h⟩
def fM : IC := (.seq (.seq (.reg [jm 89 16, jm 90 14, jm 91 12, jb .add 92 90 91, jb .lss 93 89 92]) (.cond (.t 93) .skip (.exit 0))) (.block 1 (.seq (.reg [jm 95 0, jm 96 16, jm 97 14, jm 98 12, jb .add 99 97 98, jm 100 3, ju .add 101 100 1, jn 102 (.call 64 [(.t 95), (.t 96), (.t 99), (.t 101)]), jm 94 102, je 103 0 94, je 104 1 94, je 105 2 94, jn 17 (.box 52 (.c (.agg [(.int .u8 0), (.str []), .nl]))), js 3 17 103, jm 18 104, jm 19 105]) (.seq (.seq (.reg [jm 106 19, ju .neq 107 106 0]) (.cond (.t 107) (.seq (.reg [jn 108 (.build [(.int .u8 0), (.str []), .nl] []), jm 109 19, js 3 8 108, jc 9 (j6 0), jm 10 109]) .ret) .skip)) (.seq (.reg [ja 110 2 15, jl 111 1 110, jg 112 3 17, jn 113 (.bsl 3 [(.t 112)]), jn 114 (.app 52 3 48 (.t 111) (.t 113)), ja 115 2 15, js 1 115 114]) (.reg [jm 116 18, jm 16 116]))))))
def k64o0 : IC := (.seq (.reg [jn 8 (.box 52 (.c (.agg [(.int .u8 0), (.str []), .nl]))), jc 9 (j6 0), jc 10 (j6 0)]) (.seq (.reg [jm 20 0, jm 21 1, jn 22 (.nck (.t 20)), ja 23 1 22, js 1 23 21]) (.seq (.seq (.reg [jm 24 3, ju .gtr 25 24 20]) (.cond (.t 25) (.seq (.reg [jn 26 (.build [(.int .u8 0), (.str []), .nl] []), js 3 8 26, jc 9 (j6 0), jc 10 (j6 12)]) .ret) .skip)) (.seq (.reg [jm 28 0, jn 29 (.nck (.t 28)), ja 30 0 29, jl 31 1 30, jm 32 1, jm 33 2, jn 34 (.slcs (.t 31) (some (.t 32)) (some (.t 33))), jn 35 (.call 86 [(.t 34)]), jm 27 35, je 36 0 27, je 37 1 27, je 38 2 27, jm 11 36, jm 12 37, jm 13 38]) (.seq (.seq (.reg [jm 39 13, ju .eql 40 39 0, jm 41 40, jt 41 42 (.mov (.t 12)), jt 41 43 (.mov (.t 2)), jt 41 44 (.mov (.t 1)), jt 41 45 (.bin .sub (.t 43) (.t 44)), jt 41 46 (.mov (.t 11)), jt 41 47 (.bin .sub (.t 45) (.t 46)), jt 41 48 (.bin .gtr (.t 42) (.t 47)), jp 49 41 48]) (.cond (.t 49) (.reg [jc 13 (j6 10)]) .skip)) (.seq (.seq (.reg [jm 50 13, ju .eql 51 50 10, jm 52 51, jt 52 53 (.mov (.t 3)), jt 52 54 (.bin .gtr (.t 53) (ji 1)), jp 55 52 54]) (.cond (.t 55) (.reg [jc 13 (j6 11)]) .skip)) (.seq (.seq (.reg [jm 56 13, ju .neq 57 56 0]) (.cond (.t 57) (.seq (.reg [jn 58 (.build [(.int .u8 0), (.str []), .nl] []), jm 59 13, js 3 8 58, jc 9 (j6 0), jm 10 59]) .ret) .skip)) (.seq (.reg [jm 60 1, jm 61 11, jb .add 62 60 61, jm 14 62]) (.seq (.reg [jm 63 0, jn 64 (.nck (.t 63)), ja 65 0 64, jl 66 1 65, jm 67 1, jn 68 (.idxs (.t 66) (.t 67)), jn 69 (.build [(.int .u8 0), (.str []), .nl] [(0, (1, (.t 68)))]), jn 15 (.box 52 (.c (.agg [(.int .u8 0), (.str []), .nl]))), js 3 15 69]) (.seq (.seq (.reg [ja 70 0 15, jl 71 1 70, jn 72 (.bin .and (.t 71) (.c (.int .u8 32))), jn 73 (.bin .eql (.t 72) (.c (.int .u8 0)))]) (.cond (.t 73) (.seq (.reg [jm 74 0, jn 75 (.nck (.t 74)), ja 76 0 75, jl 77 1 76, jm 78 14, jm 79 14, jm 80 12, jb .add 81 79 80, jn 82 (.slcs (.t 77) (some (.t 78)) (some (.t 81))), ja 83 1 15, js 1 83 82]) (.seq (.reg [jg 84 3 15, jm 85 14, jm 86 12, jb .add 87 85 86, js 3 8 84, jm 9 87, jc 10 (j6 0)]) .ret)) .skip)) (.seq (.seq (.reg [jm 88 14, jm 16 88]) (.block 0 (.loop fM))) (.seq (.reg [jg 117 3 15, jm 118 14, jm 119 12, jb .add 120 118 119, js 3 8 117, jm 9 120, jc 10 (j6 0)]) .ret))))))))))))
theorem vX : BV Tryz.prog Tryz.f64 = some ⟨121, k64o0, [(.cell 3 true 8), (.tmp 9), (.tmp 10)]⟩ := by kernel_rfl
theorem R8 (N : Nat) (IJ : BC → Int → Int → Int → Option (A7 × Int × Int × BC)) (RN : ∀ (a0 : BC) (a1 : Int) (a2 : Int) (a3 : Int) (r : A7 × Int × Int × BC), IJ a0 a1 a2 a3 = some r → Sat Tryz.prog 64 (AX [(700970, ⟨2, false, [BF a0]⟩)]) [.ptr 700970 0 0, j6 a1, j6 a2, j6 a3] (.tup [A8 r.1, j6 r.2.1, j6 r.2.2.1]) (AX [(700970, ⟨2, false, [BF r.2.2.2]⟩)])) (a1 : Int) (a3 : Int) (JO : Int × Int × Int) : ∀ (n : Nat) (x : Int × UInt8 × List UInt8 × List A7 × BC) (y : (UInt8 × List UInt8 × List A7 × BC) ⊕ (A7 × Int × Int × BC)), GY N IJ a1 a3 JO n x = some y → WX Tryz.prog (Z8 [700970]) (.loop fM) ((fun (x : Int × UInt8 × List UInt8 × List A7 × BC) => ⟨AX [(0, .ptr 700970 0 0), (3, j6 a3), (8, .ptr 102408 0 0), (12, j6 JO.2.1), (14, j6 (BX (a1 + JO.1))), (15, .ptr 102415 0 0), (16, j6 x.1)], AX [(102408, ⟨3, false, [.agg [eb (0 : UInt8), .str ([] : List UInt8), .nl]]⟩), (102415, ⟨3, false, [.agg [eb x.2.1, .str x.2.2.1, .slr 524152 0 x.2.2.2.1.length]]⟩), (524152, ⟨3, true, List.map A8 x.2.2.2.1⟩), (700970, ⟨2, false, [BF x.2.2.2.2]⟩)]⟩) x) ((Sum.elim (fun y e s => e = .exit 0 ∧ s = ⟨AX [(8, .ptr 102408 0 0), (12, j6 JO.2.1), (14, j6 (BX (a1 + JO.1))), (15, .ptr 102415 0 0)], AX [(102408, ⟨3, false, [.agg [eb (0 : UInt8), .str ([] : List UInt8), .nl]]⟩), (102415, ⟨3, false, [.agg [eb y.1, .str y.2.1, .slr 524152 0 y.2.2.1.length]]⟩), (524152, ⟨3, true, List.map A8 y.2.2.1⟩), (700970, ⟨2, false, [BF y.2.2.2]⟩)]⟩) (fun y e s => e = .ret ∧ s = ⟨AX [(8, .ptr 102408 0 0), (9, j6 y.2.1), (10, j6 y.2.2.1)], AX [(102408, ⟨3, false, [A8 y.1]⟩), (700970, ⟨2, false, [BF y.2.2.2]⟩)]⟩) : ((UInt8 × List UInt8 × List A7 × BC) ⊕ (A7 × Int × Int × BC)) → Xt → St → Prop) y) := by
 refine F5 _ _ (GY N IJ a1 a3 JO) (LF N IJ a1 a3 JO) (fun _ => rfl) (fun _ _ => rfl) ?_
 rintro rec ⟨mD, J9, J8, Q3, PY⟩ y h
 iterate 2 refine AA ?_
 refine AB ?_
 iterate 3 refine wq rfl ?_
 refine AZ (p := j6 (BX ((BX (a1 + JO.1)) + JO.2.1))) rfl rfl ?_
 refine wq rfl ?_
 refine EP h rfl (fun c4 h => ?_) (fun c4 h => ?_)
 refine BH (CJ (AA (AB ?_)))
 iterate 4 refine wq rfl ?_
 refine AZ (p := j6 (BX ((BX (a1 + JO.1)) + JO.2.1))) rfl rfl ?_
 refine wq rfl ?_
 refine AZ (p := j6 (BX (a3 + (1 : Int)))) rfl rfl ?_
 obtain ⟨x102, hx102, h⟩ := AP h
 refine CW rfl (vI [(700970, ⟨2, false, [BF PY]⟩)] [(700970, ⟨2, false, [BF x102.2.2.2]⟩)] (RN _ _ _ _ _ hx102) rfl (.cons A9 (.cons A9 (.cons A9 (.cons A9 .nil)))) ⟨rfl, trivial⟩ rfl rfl rfl) ?_
 iterate 4 refine wq rfl ?_
 refine CW rfl (F8 102417 rfl rfl rfl rfl rfl) ?_
 refine ED (e' := A8 x102.1) rfl rfl rfl rfl rfl rfl rfl rfl nofun rfl ?_
 iterate 2 refine wq rfl ?_
 iterate 2 refine AA ?_
 refine AB ?_
 iterate 2 refine wq rfl ?_
 refine EP h rfl (fun c5 h => ?_) (fun c5 h => ?_)
 refine AA (AB ?_)
 refine AZ (p := .agg [eb (0 : UInt8), .str ([] : List UInt8), .nl]) rfl rfl ?_
 refine tH (L6 108 (J4 (.cons A9 (.cons A9 (.cons (FH 3) .nil))) rfl) rfl) ?_
 refine wq rfl ?_
 refine ED (e' := .agg [eb (0 : UInt8), .str ([] : List UInt8), .sl 3 (List.map A8 [])]) rfl rfl rfl rfl rfl rfl rfl rfl nofun rfl ?_
 iterate 2 refine wq rfl ?_
 cases AO h
 exact EX (st1 := ⟨AX [(8, .ptr 102408 0 0), (9, j6 0), (10, j6 x102.2.2.1)], AX [(102408, ⟨3, false, [A8 (⟨(0 : UInt8), ([] : List UInt8), []⟩ : A7)]⟩), (700970, ⟨2, false, [BF x102.2.2.2]⟩)]⟩) (jF [700970] rfl rfl rfl rfl rfl) ⟨rfl, rfl⟩
 refine BH (AA (AB ?_))
 iterate 2 refine wq rfl ?_
 refine AZ (p := A8 x102.1) rfl rfl ?_
 refine CW rfl (UE 102513 rfl rfl rfl) ?_
 obtain ⟨x114, hx114, h⟩ := AP h
 refine VU (f := A8) 102514 hx114 rfl rfl rfl rfl rfl (LY rfl (BU (f := A8) (l := [x102.1]))) rfl rfl rfl rfl ?_
 refine wq rfl ?_
 refine ED (e' := .agg [eb J9, .str J8, .slr 102514 0 x114.length]) rfl rfl rfl rfl rfl rfl rfl rfl nofun rfl ?_
 refine NH (jF [700970] rfl (st := _) (l := [(0, .ptr 700970 0 0), (3, j6 a3), (8, .ptr 102408 0 0), (12, j6 JO.2.1), (14, j6 (BX (a1 + JO.1))), (15, .ptr 102415 0 0), (18, j6 x102.2.1)]) (m := [(102408, ⟨3, false, [.agg [eb (0 : UInt8), .str ([] : List UInt8), .nl]]⟩), (102415, ⟨3, false, [.agg [eb J9, .str J8, .slr 102514 0 x114.length]]⟩), (102514, ⟨3, true, List.map A8 x114⟩), (700970, ⟨2, false, [BF x102.2.2.2]⟩)]) rfl rfl rfl rfl) ?_
 refine AB ?_
 iterate 2 refine wq rfl ?_
 exact ⟨(x102.2.1, J9, J8, x114, x102.2.2.2), (C9.trans (rename 102514 524152 rfl rfl) (jF [700970] rfl rfl rfl rfl rfl)), h⟩
 cases AO h
 exact D9 (st1 := ⟨AX [(8, .ptr 102408 0 0), (12, j6 JO.2.1), (14, j6 (BX (a1 + JO.1))), (15, .ptr 102415 0 0)], AX [(102408, ⟨3, false, [.agg [eb (0 : UInt8), .str ([] : List UInt8), .nl]]⟩), (102415, ⟨3, false, [.agg [eb J9, .str J8, .slr 524152 0 Q3.length]]⟩), (524152, ⟨3, true, List.map A8 Q3⟩), (700970, ⟨2, false, [BF PY]⟩)]⟩) (jF [700970] rfl rfl rfl rfl rfl) ⟨rfl, rfl⟩
theorem RH (N : Nat) (IJ : BC → Int → Int → Int → Option (A7 × Int × Int × BC)) (RN : ∀ (a0 : BC) (a1 : Int) (a2 : Int) (a3 : Int) (r : A7 × Int × Int × BC), IJ a0 a1 a2 a3 = some r → Sat Tryz.prog 64 (AX [(700970, ⟨2, false, [BF a0]⟩)]) [.ptr 700970 0 0, j6 a1, j6 a2, j6 a3] (.tup [A8 r.1, j6 r.2.1, j6 r.2.2.1]) (AX [(700970, ⟨2, false, [BF r.2.2.2]⟩)])) (a0 : BC) (a1 : Int) (a2 : Int) (a3 : Int) (r : A7 × Int × Int × BC) (h : OI N IJ a0 a1 a2 a3 = some r) : Sat Tryz.prog 64 (AX [(700970, ⟨2, false, [BF a0]⟩)]) [.ptr 700970 0 0, j6 a1, j6 a2, j6 a3] (.tup [A8 r.1, j6 r.2.1, j6 r.2.2.1]) (AX [(700970, ⟨2, false, [BF r.2.2.2]⟩)]) := by
 refine xsatO [(700970, ⟨2, false, [BF a0]⟩)] [(700970, ⟨2, false, [BF r.2.2.2]⟩)] mixed Tryz.func64 vX (rs := [A8 r.1, j6 r.2.1, j6 r.2.2.1]) rfl rfl rfl ?_
 refine AA (AB ?_)
 refine CW rfl (F8 102408 rfl rfl rfl rfl rfl) ?_
 iterate 2 refine wq rfl ?_
 refine AA (AB ?_)
 iterate 4 refine wq rfl ?_
 refine ED (e' := .agg [.str a0.s, j6 a1]) rfl rfl rfl rfl rfl rfl rfl rfl nofun rfl ?_
 iterate 2 refine AA ?_
 refine AB ?_
 iterate 2 refine wq rfl ?_
 refine EP h rfl (fun c1 h => ?_) (fun c1 h => ?_)
 refine AA (AB ?_)
 refine AZ (p := .agg [eb (0 : UInt8), .str ([] : List UInt8), .nl]) rfl rfl ?_
 refine tH (L6 26 (J4 (.cons A9 (.cons A9 (.cons (FH 3) .nil))) rfl) rfl) ?_
 refine ED (e' := .agg [eb (0 : UInt8), .str ([] : List UInt8), .sl 3 (List.map A8 [])]) rfl rfl rfl rfl rfl rfl rfl rfl nofun rfl ?_
 iterate 2 refine wq rfl ?_
 cases AO h
 refine EX (st1 := ⟨AX [(8, .ptr 102408 0 0), (9, j6 0), (10, j6 12)], AX [(102408, ⟨3, false, [A8 (⟨(0 : UInt8), ([] : List UInt8), []⟩ : A7)]⟩), (700970, ⟨2, false, [BF (⟨a0.s, a1⟩ : BC)]⟩)]⟩) (jF [700970] rfl rfl rfl rfl rfl) ?_
 exact ⟨nofun, rfl, rfl, ⟨rfl, trivial⟩, rfl⟩
 refine BH (AA (AB ?_))
 iterate 6 refine wq rfl ?_
 obtain ⟨x34, hx34, h⟩ := AP h
 refine AZ rfl (kD hx34 rfl rfl rfl) ?_
 obtain ⟨JO, Kh, h⟩ := AP h
 refine CW rfl (CX (iE N _ _ Kh) rfl (.cons A9 .nil) rfl rfl rfl) ?_
 iterate 7 refine wq rfl ?_
 refine RP (fun (x : Int) => ⟨AX [(0, .ptr 700970 0 0), (1, j6 a1), (3, j6 a3), (8, .ptr 102408 0 0), (11, j6 JO.1), (12, j6 JO.2.1), (13, j6 x)], AX [(102408, ⟨3, false, [.agg [eb (0 : UInt8), .str ([] : List UInt8), .nl]]⟩), (700970, ⟨2, false, [.agg [.str a0.s, j6 a1]]⟩)]⟩) (fun x => JE IJ a0 a1 a3 N JO x = some r) ?_ ?_
 rintro aJ h
 refine RP (fun (x : Int) => ⟨AX [(0, .ptr 700970 0 0), (1, j6 a1), (3, j6 a3), (8, .ptr 102408 0 0), (11, j6 JO.1), (12, j6 JO.2.1), (13, j6 x)], AX [(102408, ⟨3, false, [.agg [eb (0 : UInt8), .str ([] : List UInt8), .nl]]⟩), (700970, ⟨2, false, [.agg [.str a0.s, j6 a1]]⟩)]⟩) (fun x => JD IJ a0 a1 a3 N JO x = some r) ?_ ?_
 rintro gY h
 iterate 2 refine AA ?_
 refine AB ?_
 iterate 2 refine wq rfl ?_
 refine EP h rfl (fun c2 h => ?_) (fun c2 h => ?_)
 refine AA (AB ?_)
 refine AZ (p := .agg [eb (0 : UInt8), .str ([] : List UInt8), .nl]) rfl rfl ?_
 refine tH (L6 58 (J4 (.cons A9 (.cons A9 (.cons (FH 3) .nil))) rfl) rfl) ?_
 refine wq rfl ?_
 refine ED (e' := .agg [eb (0 : UInt8), .str ([] : List UInt8), .sl 3 (List.map A8 [])]) rfl rfl rfl rfl rfl rfl rfl rfl nofun rfl ?_
 iterate 2 refine wq rfl ?_
 cases AO h
 refine EX (st1 := ⟨AX [(8, .ptr 102408 0 0), (9, j6 0), (10, j6 gY)], AX [(102408, ⟨3, false, [A8 (⟨(0 : UInt8), ([] : List UInt8), []⟩ : A7)]⟩), (700970, ⟨2, false, [BF (⟨a0.s, a1⟩ : BC)]⟩)]⟩) (jF [700970] rfl rfl rfl rfl rfl) ?_
 exact ⟨nofun, rfl, rfl, ⟨rfl, trivial⟩, rfl⟩
 refine BH (AA (AB ?_))
 iterate 2 refine wq rfl ?_
 refine AZ (p := j6 (BX (a1 + JO.1))) rfl rfl ?_
 refine wq rfl ?_
 refine AA (AB ?_)
 iterate 5 refine wq rfl ?_
 obtain ⟨gN, hx68, h⟩ := AP h
 refine AZ rfl (OB hx68 rfl rfl) ?_
 refine AZ (p := .agg [eb gN, .str ([] : List UInt8), .nl]) rfl rfl ?_
 refine CW rfl (F8 102415 rfl rfl rfl rfl rfl) ?_
 refine ED (e' := .agg [eb gN, .str ([] : List UInt8), .nl]) rfl rfl rfl rfl rfl rfl rfl rfl nofun rfl ?_
 iterate 2 refine AA ?_
 refine AB ?_
 iterate 2 refine wq rfl ?_
 refine AZ rfl (V7 (a := gN) (b := (32 : UInt8)) rfl rfl) ?_
 refine AZ (p := .bool ((((gN &&& (32 : UInt8))).toNat : Int) == (0 : Int))) rfl rfl ?_
 refine EP h rfl (fun c3 h => ?_) (fun c3 h => ?_)
 refine AA (AB ?_)
 iterate 7 refine wq rfl ?_
 refine AZ (p := j6 (BX ((BX (a1 + JO.1)) + JO.2.1))) rfl rfl ?_
 obtain ⟨x82, hx82, h⟩ := AP h
 refine AZ rfl (kD hx82 rfl rfl rfl) ?_
 refine wq rfl ?_
 refine ED (e' := .agg [eb gN, .str x82, .nl]) rfl rfl rfl rfl rfl rfl rfl rfl nofun rfl ?_
 refine AA ?_
 refine NH (jF [700970] rfl (st := _) (l := [(8, .ptr 102408 0 0), (12, j6 JO.2.1), (14, j6 (BX (a1 + JO.1))), (15, .ptr 102415 0 0)]) (m := [(102408, ⟨3, false, [.agg [eb (0 : UInt8), .str ([] : List UInt8), .nl]]⟩), (102415, ⟨3, false, [.agg [eb gN, .str x82, .nl]]⟩), (700970, ⟨2, false, [.agg [.str a0.s, j6 a1]]⟩)]) rfl rfl rfl rfl) ?_
 refine AB ?_
 refine AZ (p := .agg [eb gN, .str x82, .nl]) rfl rfl ?_
 iterate 2 refine wq rfl ?_
 refine AZ (p := j6 (BX ((BX (a1 + JO.1)) + JO.2.1))) rfl rfl ?_
 refine ED (e' := .agg [eb gN, .str x82, .nl]) rfl rfl rfl rfl rfl rfl rfl rfl nofun rfl ?_
 iterate 2 refine wq rfl ?_
 cases AO h
 refine EX (st1 := ⟨AX [(8, .ptr 102408 0 0), (9, j6 (BX ((BX (a1 + JO.1)) + JO.2.1))), (10, j6 0)], AX [(102408, ⟨3, false, [A8 (⟨gN, x82, []⟩ : A7)]⟩), (700970, ⟨2, false, [BF (⟨a0.s, a1⟩ : BC)]⟩)]⟩) (C9.trans (mO 102408 (x := .agg [eb gN, .str x82, .nl]) (y := .agg [eb ((⟨gN, x82, []⟩ : A7).Tag), .str ((⟨gN, x82, []⟩ : A7).Body), .sl 3 ((⟨gN, x82, []⟩ : A7).Kids)]) (.cons A9 (.cons A9 (.cons (FH 3) .nil))) rfl rfl) (jF [700970] rfl rfl rfl rfl rfl)) ?_
 exact ⟨nofun, rfl, rfl, ⟨rfl, trivial⟩, rfl⟩
 refine BH ?_
 iterate 2 refine AA ?_
 refine AB ?_
 iterate 2 refine wq rfl ?_
 refine CJ ?_
 obtain ⟨y6, qP, h⟩ := AP h
 refine PQ (R8 N IJ RN a1 a3 JO N _ _ qP) (C9.trans (iJ 524152 3 true rfl rfl) (C9.trans (oW 102415 (Q := fun R => R 524152 = some ⟨3, true, []⟩) (x := .agg [eb gN, .str ([] : List UInt8), .nl]) (y := .agg [eb gN, .str ([] : List UInt8), .slr 524152 0 0]) (.cons (fun _ _ _ _ _ _ h => h) (.cons (fun _ _ _ _ _ _ h => h) (.cons ZV (RV _)))) rfl rfl rfl) (jF [700970] rfl rfl rfl rfl rfl))) ?_
 clear qP
 rcases y6 with y6 | y6
 rintro e s ⟨rfl, rfl⟩
 refine AA (AB ?_)
 refine AZ (p := .agg [eb y6.1, .str y6.2.1, .slr 524152 0 y6.2.2.1.length]) rfl rfl ?_
 iterate 2 refine wq rfl ?_
 refine AZ (p := j6 (BX ((BX (a1 + JO.1)) + JO.2.1))) rfl rfl ?_
 refine ED (e' := .agg [eb y6.1, .str y6.2.1, .slr 524152 0 y6.2.2.1.length]) rfl rfl rfl rfl rfl rfl rfl rfl nofun rfl ?_
 iterate 2 refine wq rfl ?_
 cases AO h
 refine EX (st1 := ⟨AX [(8, .ptr 102408 0 0), (9, j6 (BX ((BX (a1 + JO.1)) + JO.2.1))), (10, j6 0)], AX [(102408, ⟨3, false, [A8 (⟨y6.1, y6.2.1, (List.map A8 y6.2.2.1)⟩ : A7)]⟩), (700970, ⟨2, false, [BF y6.2.2.2]⟩)]⟩) (C9.trans (Vd.freeze 524152 _ rfl rfl rfl) (C9.trans (mO 102408 (x := .agg [eb y6.1, .str y6.2.1, .sl 3 (List.take y6.2.2.1.length (List.drop 0 (List.map A8 y6.2.2.1)))]) (y := .agg [eb ((⟨y6.1, y6.2.1, (List.map A8 y6.2.2.1)⟩ : A7).Tag), .str ((⟨y6.1, y6.2.1, (List.map A8 y6.2.2.1)⟩ : A7).Body), .sl 3 ((⟨y6.1, y6.2.1, (List.map A8 y6.2.2.1)⟩ : A7).Kids)]) (.cons A9 (.cons A9 (.cons (GQ (congrArg (PV.sl 3) (BU (f := A8) (l := y6.2.2.1)))) .nil))) rfl rfl) (jF [700970] rfl rfl rfl rfl rfl))) ?_
 exact ⟨nofun, rfl, rfl, ⟨rfl, trivial⟩, rfl⟩
 rintro e s ⟨rfl, rfl⟩
 cases AO h
 exact ⟨nofun, rfl, rfl, ⟨rfl, trivial⟩, rfl⟩
 obtain ⟨g7, Eb, h⟩ := AP h
 refine GZ ⟨AX [(0, .ptr 700970 0 0), (1, j6 a1), (3, j6 a3), (8, .ptr 102408 0 0), (11, j6 JO.1), (12, j6 JO.2.1), (13, j6 aJ), (55, .bool g7)], AX [(102408, ⟨3, false, [.agg [eb (0 : UInt8), .str ([] : List UInt8), .nl]]⟩), (700970, ⟨2, false, [.agg [.str a0.s, j6 a1]]⟩)]⟩ ?_ ?_
 have h := Eb
 refine AB ?_
 iterate 3 refine wq rfl ?_
 rcases CY h with ⟨c8, h⟩ | ⟨c8, h⟩
 iterate 2 refine AZ (gy rfl c8) rfl ?_
 refine AZ rfl (BG c8 rfl rfl) ?_
 cases AO h
 exact (jF [700970] rfl rfl rfl rfl rfl)
 iterate 2 refine D7 (gn rfl c8) ?_
 refine AZ rfl (BD c8 rfl rfl) ?_
 obtain rfl := AO h
 exact (jF [700970] rfl rfl rfl rfl rfl)
 clear Eb
 refine EP h rfl (fun c9 h => ?_) (fun c9 h => ?_)
 refine AB ?_
 refine wq rfl ?_
 exact ⟨11, (jF [700970] rfl rfl rfl rfl rfl), h⟩
 refine BH ?_
 exact ⟨aJ, (jF [700970] rfl rfl rfl rfl rfl), h⟩
 obtain ⟨g10, kW, h⟩ := AP h
 refine GZ ⟨AX [(0, .ptr 700970 0 0), (1, j6 a1), (3, j6 a3), (8, .ptr 102408 0 0), (11, j6 JO.1), (12, j6 JO.2.1), (13, j6 JO.2.2), (49, .bool g10)], AX [(102408, ⟨3, false, [.agg [eb (0 : UInt8), .str ([] : List UInt8), .nl]]⟩), (700970, ⟨2, false, [.agg [.str a0.s, j6 a1]]⟩)]⟩ ?_ ?_
 have h := kW
 refine AB ?_
 iterate 3 refine wq rfl ?_
 rcases CY h with ⟨c11, h⟩ | ⟨c11, h⟩
 iterate 3 refine AZ (gy rfl c11) rfl ?_
 refine AZ (p := j6 (BX (a2 - a1))) (gy rfl c11) rfl ?_
 refine AZ (gy rfl c11) rfl ?_
 refine AZ (p := j6 (BX ((BX (a2 - a1)) - JO.1))) (gy rfl c11) rfl ?_
 refine AZ (gy rfl c11) rfl ?_
 refine AZ rfl (BG c11 rfl rfl) ?_
 cases AO h
 exact (jF [700970] rfl rfl rfl rfl rfl)
 iterate 7 refine D7 (gn rfl c11) ?_
 refine AZ rfl (BD c11 rfl rfl) ?_
 obtain rfl := AO h
 exact (jF [700970] rfl rfl rfl rfl rfl)
 clear kW
 refine EP h rfl (fun c12 h => ?_) (fun c12 h => ?_)
 refine AB ?_
 refine wq rfl ?_
 exact ⟨10, (jF [700970] rfl rfl rfl rfl rfl), h⟩
 refine BH ?_
 exact ⟨JO.2.2, (jF [700970] rfl rfl rfl rfl rfl), h⟩
theorem RI (N : Nat) : ∀ (n : Nat) (a0 : BC) (a1 : Int) (a2 : Int) (a3 : Int) (r : A7 × Int × Int × BC) (h : II N n a0 a1 a2 a3 = some r), Sat Tryz.prog 64 (AX [(700970, ⟨2, false, [BF a0]⟩)]) [.ptr 700970 0 0, j6 a1, j6 a2, j6 a3] (.tup [A8 r.1, j6 r.2.1, j6 r.2.2.1]) (AX [(700970, ⟨2, false, [BF r.2.2.2]⟩)]) := by
 intro n
 induction n with
 | zero => intro a0 a1 a2 a3 r h; cases h
 | succ n ih => intro a0 a1 a2 a3 r h; exact RH N (II N n) ih a0 a1 a2 a3 r h
theorem TL (N : Nat) (a0 : BC) (a1 : Int) (a2 : Int) (a3 : Int) (r : A7 × Int × Int × BC) (h : QH N a0 a1 a2 a3 = some r) : Sat Tryz.prog 64 (AX [(700970, ⟨2, false, [BF a0]⟩)]) [.ptr 700970 0 0, j6 a1, j6 a2, j6 a3] (.tup [A8 r.1, j6 r.2.1, j6 r.2.2.1]) (AX [(700970, ⟨2, false, [BF r.2.2.2]⟩)]) := RI N N a0 a1 a2 a3 r h
def EB : List (List Nat) := [[], [], [1], [2], [3], [], [0, 0], [6, 0, 6], [4, 7, 0, 1, 2, 3, 4, 6, 7], [5, 8, 0, 1, 2, 3, 4, 5, 6, 7, 8]]
def EA : List Ins := [jn 23 (.build [(.int .u8 0), (.str []), .nl] []), jm 24 6, jn 25 (.nck (.t 24)), ja 26 1 25, jl 27 1 26, jm 28 9, js 3 2 23, jc 3 (j6 0), jm 4 27, jm 5 28]
def k43 : IC := (.seq (.reg [jn 2 (.box 52 (.c (.agg [(.int .u8 0), (.str []), .nl]))), jc 3 (j6 0), jc 4 (j6 0), jc 5 (j6 0)]) (.seq (.reg [jm 10 0, jn 11 (.build [(.str []), (j6 0)] [(0, (1, (.t 10)))]), jn 12 (.box 97 (.t 11)), jm 6 12]) (.seq (.reg [jm 14 6, jm 15 0, jS 16 15, jn 17 (.call 64 [(.t 14), (ji 0), (.t 16), (ji 1)]), jm 13 17, je 18 0 13, je 19 1 13, je 20 2 13, jn 7 (.box 52 (.c (.agg [(.int .u8 0), (.str []), .nl]))), js 3 7 18, jm 8 19, jm 9 20]) (.seq (.seq (.reg [jm 21 9, ju .neq 22 21 0]) (.cond (.t 22) (.seq (.regf 6 [1, 2, 3, 4, 5] EB EA) .ret) .skip)) (.seq (.reg [jg 29 3 7, jm 30 8, js 3 2 29, jm 3 30, jc 4 (j6 0), jc 5 (j6 0)]) .ret)))))
theorem Io : BV Tryz.prog Tryz.f43 = some ⟨31, k43, [(.cell 3 true 2), (.tmp 3), (.tmp 4), (.tmp 5)]⟩ := by kernel_rfl
theorem iD (N : Nat) (a0 : List UInt8) (r : A7 × Int × Int × Int) (h : lQ N a0 = some r) : Sat Tryz.prog 43 AC [.str a0] (.tup [A8 r.1, j6 r.2.1, j6 r.2.2.1, j6 r.2.2.2]) AC := by
 refine EL mixed Tryz.func43 Io (rs := [A8 r.1, j6 r.2.1, j6 r.2.2.1, j6 r.2.2.2]) rfl rfl ?_
 refine AA (AB ?_)
 refine CW rfl (F8 68802 rfl rfl rfl rfl rfl) ?_
 iterate 3 refine wq rfl ?_
 refine AA (AB ?_)
 refine wq rfl ?_
 refine AZ (p := .agg [.str a0, j6 0]) rfl rfl ?_
 refine CW rfl (F8 700970 rfl rfl rfl rfl rfl) ?_
 refine wq rfl ?_
 refine AA (AB ?_)
 iterate 3 refine wq rfl ?_
 obtain ⟨DY, TQ, h⟩ := AP h
 refine CW rfl (vI [(700970, ⟨2, false, [BF (⟨a0, 0⟩ : BC)]⟩)] [(700970, ⟨2, false, [BF DY.2.2.2]⟩)] (TL N _ _ _ _ _ TQ) rfl (.cons A9 (.cons A9 (.cons A9 (.cons A9 .nil)))) ⟨rfl, trivial⟩ rfl rfl rfl) ?_
 iterate 4 refine wq rfl ?_
 refine CW rfl (F8 68807 rfl rfl rfl rfl rfl) ?_
 refine ED (e' := A8 DY.1) rfl rfl rfl rfl rfl rfl rfl rfl nofun rfl ?_
 iterate 2 refine wq rfl ?_
 iterate 2 refine AA ?_
 refine AB ?_
 iterate 2 refine wq rfl ?_
 refine EP h rfl (fun c1 h => ?_) (fun c1 h => ?_)
 refine AA ?_
 refine Dq ⟨AX [(2, .ptr 68802 0 0), (3, j6 0), (4, j6 DY.2.2.2.at_), (5, j6 DY.2.2.1)], AX [(68802, ⟨3, false, [.agg [eb (0 : UInt8), .str ([] : List UInt8), .nl]]⟩)]⟩ [[], [5], [4], [4, 5], [3, 4], [3, 4, 5], [2, 3, 4], [2, 3, 4, 5], [1, 2, 3, 4], [1, 2, 3, 4, 5]] rfl ?_ ?_
 refine JF (p := .agg [eb (0 : UInt8), .str ([] : List UInt8), .nl]) rfl rfl ?_
 iterate 5 refine dq rfl ?_
 have Li : AnyW Tryz.prog (fun _ => false) EB EA 0 [0, 1, 2, 3, 4, 5, 6, 7, 8, 9] ⟨AX [(2, .ptr 68802 0 0), (3, j6 0), (4, j6 DY.2.2.2.at_), (5, j6 DY.2.2.1)], AX [(68802, ⟨3, false, [.agg [eb (0 : UInt8), .str ([] : List UInt8), .nl]]⟩)]⟩ ⟨AX [(2, .ptr 68802 0 0), (3, j6 0), (4, j6 DY.2.2.2.at_), (5, j6 DY.2.2.1)], AX [(68802, ⟨3, false, [.agg [eb (0 : UInt8), .str ([] : List UInt8), .nl]]⟩)]⟩ := by
  exact yend rfl (cq rfl)
 have zH : AnyW Tryz.prog (fun _ => false) EB EA 1 [0, 1, 2, 3, 4, 5, 6, 7, 8] ⟨AX [(2, .ptr 68802 0 0), (3, j6 0), (4, j6 DY.2.2.2.at_), (5, j6 0), (28, j6 DY.2.2.1)], AX [(68802, ⟨3, false, [.agg [eb (0 : UInt8), .str ([] : List UInt8), .nl]]⟩)]⟩ ⟨AX [(2, .ptr 68802 0 0), (3, j6 0), (4, j6 DY.2.2.2.at_), (5, j6 DY.2.2.1)], AX [(68802, ⟨3, false, [.agg [eb (0 : UInt8), .str ([] : List UInt8), .nl]]⟩)]⟩ := by
  refine yc (l := [9]) rfl nofun ⟨⟨_, rfl, ?_⟩, trivial⟩
  refine wq rfl ?_
  exact AnyW.of Li rfl (cq rfl)
 have oC : AnyW Tryz.prog (fun _ => false) EB EA 2 [0, 1, 2, 3, 4, 5, 6, 7] ⟨AX [(2, .ptr 68802 0 0), (3, j6 0), (4, j6 0), (5, j6 0), (27, j6 DY.2.2.2.at_), (28, j6 DY.2.2.1)], AX [(68802, ⟨3, false, [.agg [eb (0 : UInt8), .str ([] : List UInt8), .nl]]⟩)]⟩ ⟨AX [(2, .ptr 68802 0 0), (3, j6 0), (4, j6 DY.2.2.2.at_), (5, j6 DY.2.2.1)], AX [(68802, ⟨3, false, [.agg [eb (0 : UInt8), .str ([] : List UInt8), .nl]]⟩)]⟩ := by
  refine yc (l := [8]) rfl nofun ⟨⟨_, rfl, ?_⟩, trivial⟩
  refine wq rfl ?_
  exact AnyW.of zH rfl (cq rfl)
 have Lj : AnyW Tryz.prog (fun _ => false) EB EA 2 [0, 1, 2, 3, 4, 6, 7, 8] ⟨AX [(2, .ptr 68802 0 0), (3, j6 0), (4, j6 DY.2.2.2.at_), (5, j6 0), (9, j6 DY.2.2.1)], AX [(68802, ⟨3, false, [.agg [eb (0 : UInt8), .str ([] : List UInt8), .nl]]⟩)]⟩ ⟨AX [(2, .ptr 68802 0 0), (3, j6 0), (4, j6 DY.2.2.2.at_), (5, j6 DY.2.2.1)], AX [(68802, ⟨3, false, [.agg [eb (0 : UInt8), .str ([] : List UInt8), .nl]]⟩)]⟩ := by
  refine yc (l := [5]) rfl nofun ⟨⟨_, rfl, ?_⟩, trivial⟩
  refine wq rfl ?_
  exact AnyW.of zH rfl (cq rfl)
 have oH : AnyW Tryz.prog (fun _ => false) EB EA 3 [0, 1, 2, 3, 4, 5, 6] ⟨AX [(2, .ptr 68802 0 0), (3, j6 0), (4, j6 0), (5, j6 0), (27, j6 DY.2.2.2.at_), (28, j6 DY.2.2.1)], AX [(68802, ⟨3, false, [.agg [eb (0 : UInt8), .str ([] : List UInt8), .nl]]⟩)]⟩ ⟨AX [(2, .ptr 68802 0 0), (3, j6 0), (4, j6 DY.2.2.2.at_), (5, j6 DY.2.2.1)], AX [(68802, ⟨3, false, [.agg [eb (0 : UInt8), .str ([] : List UInt8), .nl]]⟩)]⟩ := by
  refine yc (l := [7]) rfl nofun ⟨⟨_, rfl, ?_⟩, trivial⟩
  refine wq rfl ?_
  exact AnyW.of oC rfl (cq rfl)
 have zI : AnyW Tryz.prog (fun _ => false) EB EA 3 [0, 1, 2, 3, 4, 6, 7] ⟨AX [(2, .ptr 68802 0 0), (3, j6 0), (4, j6 0), (5, j6 0), (9, j6 DY.2.2.1), (27, j6 DY.2.2.2.at_)], AX [(68802, ⟨3, false, [.agg [eb (0 : UInt8), .str ([] : List UInt8), .nl]]⟩)]⟩ ⟨AX [(2, .ptr 68802 0 0), (3, j6 0), (4, j6 DY.2.2.2.at_), (5, j6 DY.2.2.1)], AX [(68802, ⟨3, false, [.agg [eb (0 : UInt8), .str ([] : List UInt8), .nl]]⟩)]⟩ := by
  refine yc (l := [5, 8]) rfl nofun ⟨⟨_, rfl, ?_⟩, ⟨_, rfl, ?_⟩, trivial⟩
  refine wq rfl ?_
  exact AnyW.of oC rfl (cq rfl)
  refine wq rfl ?_
  exact AnyW.of Lj rfl (cq rfl)
 have oD : AnyW Tryz.prog (fun _ => false) EB EA 3 [0, 1, 2, 3, 5, 6, 7] ⟨AX [(2, .ptr 68802 0 0), (3, j6 0), (4, j6 0), (5, j6 0), (26, .ptr 700970 0 1), (28, j6 DY.2.2.1)], AX [(68802, ⟨3, false, [.agg [eb (0 : UInt8), .str ([] : List UInt8), .nl]]⟩), (700970, ⟨2, false, [BF DY.2.2.2]⟩)]⟩ ⟨AX [(2, .ptr 68802 0 0), (3, j6 0), (4, j6 DY.2.2.2.at_), (5, j6 DY.2.2.1)], AX [(68802, ⟨3, false, [.agg [eb (0 : UInt8), .str ([] : List UInt8), .nl]]⟩)]⟩ := by
  refine yc (l := [4]) rfl nofun ⟨⟨_, rfl, ?_⟩, trivial⟩
  refine wq rfl ?_
  exact AnyW.of oC rfl (cq rfl)
 have zC : AnyW Tryz.prog (fun _ => false) EB EA 4 [0, 1, 2, 3, 4, 5] ⟨AX [(2, .ptr 68802 0 0), (3, j6 0), (4, j6 0), (5, j6 0), (23, .agg [eb (0 : UInt8), .str ([] : List UInt8), .nl]), (27, j6 DY.2.2.2.at_), (28, j6 DY.2.2.1)], AX [(68802, ⟨3, false, [.agg [eb (0 : UInt8), .str ([] : List UInt8), .nl]]⟩)]⟩ ⟨AX [(2, .ptr 68802 0 0), (3, j6 0), (4, j6 DY.2.2.2.at_), (5, j6 DY.2.2.1)], AX [(68802, ⟨3, false, [.agg [eb (0 : UInt8), .str ([] : List UInt8), .nl]]⟩)]⟩ := by
  refine yc (l := [6]) rfl nofun ⟨⟨_, rfl, ?_⟩, trivial⟩
  refine ED (e' := .agg [eb (0 : UInt8), .str ([] : List UInt8), .nl]) rfl rfl rfl rfl rfl rfl rfl rfl nofun rfl ?_
  exact AnyW.of oH rfl (cq rfl)
 have zN : AnyW Tryz.prog (fun _ => false) EB EA 4 [0, 1, 2, 3, 4, 6] ⟨AX [(2, .ptr 68802 0 0), (3, j6 0), (4, j6 0), (5, j6 0), (9, j6 DY.2.2.1), (27, j6 DY.2.2.2.at_)], AX [(68802, ⟨3, false, [.agg [eb (0 : UInt8), .str ([] : List UInt8), .nl]]⟩)]⟩ ⟨AX [(2, .ptr 68802 0 0), (3, j6 0), (4, j6 DY.2.2.2.at_), (5, j6 DY.2.2.1)], AX [(68802, ⟨3, false, [.agg [eb (0 : UInt8), .str ([] : List UInt8), .nl]]⟩)]⟩ := by
  refine yc (l := [5, 7]) rfl nofun ⟨⟨_, rfl, ?_⟩, ⟨_, rfl, ?_⟩, trivial⟩
  refine wq rfl ?_
  exact AnyW.of oH rfl (cq rfl)
  refine wq rfl ?_
  exact AnyW.of zI rfl (cq rfl)
 have oI : AnyW Tryz.prog (fun _ => false) EB EA 4 [0, 1, 2, 3, 5, 6] ⟨AX [(2, .ptr 68802 0 0), (3, j6 0), (4, j6 0), (5, j6 0), (26, .ptr 700970 0 1), (28, j6 DY.2.2.1)], AX [(68802, ⟨3, false, [.agg [eb (0 : UInt8), .str ([] : List UInt8), .nl]]⟩), (700970, ⟨2, false, [BF DY.2.2.2]⟩)]⟩ ⟨AX [(2, .ptr 68802 0 0), (3, j6 0), (4, j6 DY.2.2.2.at_), (5, j6 DY.2.2.1)], AX [(68802, ⟨3, false, [.agg [eb (0 : UInt8), .str ([] : List UInt8), .nl]]⟩)]⟩ := by
  refine yc (l := [4, 7]) rfl nofun ⟨⟨_, rfl, ?_⟩, ⟨_, rfl, ?_⟩, trivial⟩
  refine wq rfl ?_
  exact AnyW.of oH rfl (cq rfl)
  refine wq rfl ?_
  exact AnyW.of oD rfl (cq rfl)
 have zJ : AnyW Tryz.prog (fun _ => false) EB EA 4 [0, 1, 2, 3, 6, 7] ⟨AX [(2, .ptr 68802 0 0), (3, j6 0), (4, j6 0), (5, j6 0), (9, j6 DY.2.2.1), (26, .ptr 700970 0 1)], AX [(68802, ⟨3, false, [.agg [eb (0 : UInt8), .str ([] : List UInt8), .nl]]⟩), (700970, ⟨2, false, [BF DY.2.2.2]⟩)]⟩ ⟨AX [(2, .ptr 68802 0 0), (3, j6 0), (4, j6 DY.2.2.2.at_), (5, j6 DY.2.2.1)], AX [(68802, ⟨3, false, [.agg [eb (0 : UInt8), .str ([] : List UInt8), .nl]]⟩)]⟩ := by
  refine yc (l := [4, 5]) rfl nofun ⟨⟨_, rfl, ?_⟩, ⟨_, rfl, ?_⟩, trivial⟩
  refine wq rfl ?_
  exact AnyW.of zI rfl (cq rfl)
  refine wq rfl ?_
  exact AnyW.of oD rfl (cq rfl)
 have oF : AnyW Tryz.prog (fun _ => false) EB EA 4 [0, 1, 2, 5, 6, 7] ⟨AX [(2, .ptr 68802 0 0), (3, j6 0), (4, j6 0), (5, j6 0), (25, .ptr 700970 0 0), (28, j6 DY.2.2.1)], AX [(68802, ⟨3, false, [.agg [eb (0 : UInt8), .str ([] : List UInt8), .nl]]⟩), (700970, ⟨2, false, [BF DY.2.2.2]⟩)]⟩ ⟨AX [(2, .ptr 68802 0 0), (3, j6 0), (4, j6 DY.2.2.2.at_), (5, j6 DY.2.2.1)], AX [(68802, ⟨3, false, [.agg [eb (0 : UInt8), .str ([] : List UInt8), .nl]]⟩)]⟩ := by
  refine yc (l := [3]) rfl nofun ⟨⟨_, rfl, ?_⟩, trivial⟩
  refine wq rfl ?_
  exact AnyW.of oD rfl (cq rfl)
 have Eu : AnyW Tryz.prog (fun _ => false) EB EA 5 [0, 1, 2, 3, 4] ⟨AX [(2, .ptr 68802 0 0), (3, j6 0), (4, j6 0), (5, j6 0), (9, j6 DY.2.2.1), (23, .agg [eb (0 : UInt8), .str ([] : List UInt8), .nl]), (27, j6 DY.2.2.2.at_)], AX [(68802, ⟨3, false, [.agg [eb (0 : UInt8), .str ([] : List UInt8), .nl]]⟩)]⟩ ⟨AX [(2, .ptr 68802 0 0), (3, j6 0), (4, j6 DY.2.2.2.at_), (5, j6 DY.2.2.1)], AX [(68802, ⟨3, false, [.agg [eb (0 : UInt8), .str ([] : List UInt8), .nl]]⟩)]⟩ := by
  refine yc (l := [5, 6]) rfl nofun ⟨⟨_, rfl, ?_⟩, ⟨_, rfl, ?_⟩, trivial⟩
  refine wq rfl ?_
  exact AnyW.of zC rfl (cq rfl)
  refine ED (e' := .agg [eb (0 : UInt8), .str ([] : List UInt8), .nl]) rfl rfl rfl rfl rfl rfl rfl rfl nofun rfl ?_
  exact AnyW.of zN rfl (cq rfl)
 have zD : AnyW Tryz.prog (fun _ => false) EB EA 5 [0, 1, 2, 3, 5] ⟨AX [(2, .ptr 68802 0 0), (3, j6 0), (4, j6 0), (5, j6 0), (23, .agg [eb (0 : UInt8), .str ([] : List UInt8), .nl]), (26, .ptr 700970 0 1), (28, j6 DY.2.2.1)], AX [(68802, ⟨3, false, [.agg [eb (0 : UInt8), .str ([] : List UInt8), .nl]]⟩), (700970, ⟨2, false, [BF DY.2.2.2]⟩)]⟩ ⟨AX [(2, .ptr 68802 0 0), (3, j6 0), (4, j6 DY.2.2.2.at_), (5, j6 DY.2.2.1)], AX [(68802, ⟨3, false, [.agg [eb (0 : UInt8), .str ([] : List UInt8), .nl]]⟩)]⟩ := by
  refine yc (l := [4, 6]) rfl nofun ⟨⟨_, rfl, ?_⟩, ⟨_, rfl, ?_⟩, trivial⟩
  refine wq rfl ?_
  exact AnyW.of zC rfl (cq rfl)
  refine ED (e' := .agg [eb (0 : UInt8), .str ([] : List UInt8), .nl]) rfl rfl rfl rfl rfl rfl rfl rfl nofun rfl ?_
  exact AnyW.of oI rfl (cq rfl)
 have zO : AnyW Tryz.prog (fun _ => false) EB EA 5 [0, 1, 2, 3, 6] ⟨AX [(2, .ptr 68802 0 0), (3, j6 0), (4, j6 0), (5, j6 0), (9, j6 DY.2.2.1), (26, .ptr 700970 0 1)], AX [(68802, ⟨3, false, [.agg [eb (0 : UInt8), .str ([] : List UInt8), .nl]]⟩), (700970, ⟨2, false, [BF DY.2.2.2]⟩)]⟩ ⟨AX [(2, .ptr 68802 0 0), (3, j6 0), (4, j6 DY.2.2.2.at_), (5, j6 DY.2.2.1)], AX [(68802, ⟨3, false, [.agg [eb (0 : UInt8), .str ([] : List UInt8), .nl]]⟩)]⟩ := by
  refine yc (l := [4, 5, 7]) rfl nofun ⟨⟨_, rfl, ?_⟩, ⟨_, rfl, ?_⟩, ⟨_, rfl, ?_⟩, trivial⟩
  refine wq rfl ?_
  exact AnyW.of zN rfl (cq rfl)
  refine wq rfl ?_
  exact AnyW.of oI rfl (cq rfl)
  refine wq rfl ?_
  exact AnyW.of zJ rfl (cq rfl)
 have oJ : AnyW Tryz.prog (fun _ => false) EB EA 5 [0, 1, 2, 5, 6] ⟨AX [(2, .ptr 68802 0 0), (3, j6 0), (4, j6 0), (5, j6 0), (25, .ptr 700970 0 0), (28, j6 DY.2.2.1)], AX [(68802, ⟨3, false, [.agg [eb (0 : UInt8), .str ([] : List UInt8), .nl]]⟩), (700970, ⟨2, false, [BF DY.2.2.2]⟩)]⟩ ⟨AX [(2, .ptr 68802 0 0), (3, j6 0), (4, j6 DY.2.2.2.at_), (5, j6 DY.2.2.1)], AX [(68802, ⟨3, false, [.agg [eb (0 : UInt8), .str ([] : List UInt8), .nl]]⟩)]⟩ := by
  refine yc (l := [3, 7]) rfl nofun ⟨⟨_, rfl, ?_⟩, ⟨_, rfl, ?_⟩, trivial⟩
  refine wq rfl ?_
  exact AnyW.of oI rfl (cq rfl)
  refine wq rfl ?_
  exact AnyW.of oF rfl (cq rfl)
 have zK : AnyW Tryz.prog (fun _ => false) EB EA 5 [0, 1, 2, 6, 7] ⟨AX [(2, .ptr 68802 0 0), (3, j6 0), (4, j6 0), (5, j6 0), (9, j6 DY.2.2.1), (25, .ptr 700970 0 0)], AX [(68802, ⟨3, false, [.agg [eb (0 : UInt8), .str ([] : List UInt8), .nl]]⟩), (700970, ⟨2, false, [BF DY.2.2.2]⟩)]⟩ ⟨AX [(2, .ptr 68802 0 0), (3, j6 0), (4, j6 DY.2.2.2.at_), (5, j6 DY.2.2.1)], AX [(68802, ⟨3, false, [.agg [eb (0 : UInt8), .str ([] : List UInt8), .nl]]⟩)]⟩ := by
  refine yc (l := [3, 5]) rfl nofun ⟨⟨_, rfl, ?_⟩, ⟨_, rfl, ?_⟩, trivial⟩
  refine wq rfl ?_
  exact AnyW.of zJ rfl (cq rfl)
  refine wq rfl ?_
  exact AnyW.of oF rfl (cq rfl)
 have oG : AnyW Tryz.prog (fun _ => false) EB EA 5 [0, 1, 5, 6, 7] ⟨AX [(2, .ptr 68802 0 0), (3, j6 0), (4, j6 0), (5, j6 0), (24, .ptr 700970 0 0), (28, j6 DY.2.2.1)], AX [(68802, ⟨3, false, [.agg [eb (0 : UInt8), .str ([] : List UInt8), .nl]]⟩), (700970, ⟨2, false, [BF DY.2.2.2]⟩)]⟩ ⟨AX [(2, .ptr 68802 0 0), (3, j6 0), (4, j6 DY.2.2.2.at_), (5, j6 DY.2.2.1)], AX [(68802, ⟨3, false, [.agg [eb (0 : UInt8), .str ([] : List UInt8), .nl]]⟩)]⟩ := by
  refine yc (l := [2]) rfl nofun ⟨⟨_, rfl, ?_⟩, trivial⟩
  refine wq rfl ?_
  exact AnyW.of oF rfl (cq rfl)
 have Ev : AnyW Tryz.prog (fun _ => false) EB EA 6 [0, 1, 2, 3] ⟨AX [(2, .ptr 68802 0 0), (3, j6 0), (4, j6 0), (5, j6 0), (9, j6 DY.2.2.1), (23, .agg [eb (0 : UInt8), .str ([] : List UInt8), .nl]), (26, .ptr 700970 0 1)], AX [(68802, ⟨3, false, [.agg [eb (0 : UInt8), .str ([] : List UInt8), .nl]]⟩), (700970, ⟨2, false, [BF DY.2.2.2]⟩)]⟩ ⟨AX [(2, .ptr 68802 0 0), (3, j6 0), (4, j6 DY.2.2.2.at_), (5, j6 DY.2.2.1)], AX [(68802, ⟨3, false, [.agg [eb (0 : UInt8), .str ([] : List UInt8), .nl]]⟩)]⟩ := by
  refine yc (l := [4, 5, 6]) rfl nofun ⟨⟨_, rfl, ?_⟩, ⟨_, rfl, ?_⟩, ⟨_, rfl, ?_⟩, trivial⟩
  refine wq rfl ?_
  exact AnyW.of Eu rfl (cq rfl)
  refine wq rfl ?_
  exact AnyW.of zD rfl (cq rfl)
  refine ED (e' := .agg [eb (0 : UInt8), .str ([] : List UInt8), .nl]) rfl rfl rfl rfl rfl rfl rfl rfl nofun rfl ?_
  exact AnyW.of zO rfl (cq rfl)
 have zF : AnyW Tryz.prog (fun _ => false) EB EA 6 [0, 1, 2, 5] ⟨AX [(2, .ptr 68802 0 0), (3, j6 0), (4, j6 0), (5, j6 0), (23, .agg [eb (0 : UInt8), .str ([] : List UInt8), .nl]), (25, .ptr 700970 0 0), (28, j6 DY.2.2.1)], AX [(68802, ⟨3, false, [.agg [eb (0 : UInt8), .str ([] : List UInt8), .nl]]⟩), (700970, ⟨2, false, [BF DY.2.2.2]⟩)]⟩ ⟨AX [(2, .ptr 68802 0 0), (3, j6 0), (4, j6 DY.2.2.2.at_), (5, j6 DY.2.2.1)], AX [(68802, ⟨3, false, [.agg [eb (0 : UInt8), .str ([] : List UInt8), .nl]]⟩)]⟩ := by
  refine yc (l := [3, 6]) rfl nofun ⟨⟨_, rfl, ?_⟩, ⟨_, rfl, ?_⟩, trivial⟩
  refine wq rfl ?_
  exact AnyW.of zD rfl (cq rfl)
  refine ED (e' := .agg [eb (0 : UInt8), .str ([] : List UInt8), .nl]) rfl rfl rfl rfl rfl rfl rfl rfl nofun rfl ?_
  exact AnyW.of oJ rfl (cq rfl)
 have zP : AnyW Tryz.prog (fun _ => false) EB EA 6 [0, 1, 2, 6] ⟨AX [(2, .ptr 68802 0 0), (3, j6 0), (4, j6 0), (5, j6 0), (9, j6 DY.2.2.1), (25, .ptr 700970 0 0)], AX [(68802, ⟨3, false, [.agg [eb (0 : UInt8), .str ([] : List UInt8), .nl]]⟩), (700970, ⟨2, false, [BF DY.2.2.2]⟩)]⟩ ⟨AX [(2, .ptr 68802 0 0), (3, j6 0), (4, j6 DY.2.2.2.at_), (5, j6 DY.2.2.1)], AX [(68802, ⟨3, false, [.agg [eb (0 : UInt8), .str ([] : List UInt8), .nl]]⟩)]⟩ := by
  refine yc (l := [3, 5, 7]) rfl nofun ⟨⟨_, rfl, ?_⟩, ⟨_, rfl, ?_⟩, ⟨_, rfl, ?_⟩, trivial⟩
  refine wq rfl ?_
  exact AnyW.of zO rfl (cq rfl)
  refine wq rfl ?_
  exact AnyW.of oJ rfl (cq rfl)
  refine wq rfl ?_
  exact AnyW.of zK rfl (cq rfl)
 have oK : AnyW Tryz.prog (fun _ => false) EB EA 6 [0, 1, 5, 6] ⟨AX [(2, .ptr 68802 0 0), (3, j6 0), (4, j6 0), (5, j6 0), (24, .ptr 700970 0 0), (28, j6 DY.2.2.1)], AX [(68802, ⟨3, false, [.agg [eb (0 : UInt8), .str ([] : List UInt8), .nl]]⟩), (700970, ⟨2, false, [BF DY.2.2.2]⟩)]⟩ ⟨AX [(2, .ptr 68802 0 0), (3, j6 0), (4, j6 DY.2.2.2.at_), (5, j6 DY.2.2.1)], AX [(68802, ⟨3, false, [.agg [eb (0 : UInt8), .str ([] : List UInt8), .nl]]⟩)]⟩ := by
  refine yc (l := [2, 7]) rfl nofun ⟨⟨_, rfl, ?_⟩, ⟨_, rfl, ?_⟩, trivial⟩
  refine wq rfl ?_
  exact AnyW.of oJ rfl (cq rfl)
  refine wq rfl ?_
  exact AnyW.of oG rfl (cq rfl)
 have zM : AnyW Tryz.prog (fun _ => false) EB EA 6 [0, 1, 6, 7] ⟨AX [(2, .ptr 68802 0 0), (3, j6 0), (4, j6 0), (5, j6 0), (9, j6 DY.2.2.1), (24, .ptr 700970 0 0)], AX [(68802, ⟨3, false, [.agg [eb (0 : UInt8), .str ([] : List UInt8), .nl]]⟩), (700970, ⟨2, false, [BF DY.2.2.2]⟩)]⟩ ⟨AX [(2, .ptr 68802 0 0), (3, j6 0), (4, j6 DY.2.2.2.at_), (5, j6 DY.2.2.1)], AX [(68802, ⟨3, false, [.agg [eb (0 : UInt8), .str ([] : List UInt8), .nl]]⟩)]⟩ := by
  refine yc (l := [2, 5]) rfl nofun ⟨⟨_, rfl, ?_⟩, ⟨_, rfl, ?_⟩, trivial⟩
  refine wq rfl ?_
  exact AnyW.of zK rfl (cq rfl)
  refine wq rfl ?_
  exact AnyW.of oG rfl (cq rfl)
 have zL : AnyW Tryz.prog (fun _ => false) EB EA 6 [0, 5, 6, 7] ⟨AX [(2, .ptr 68802 0 0), (3, j6 0), (4, j6 0), (5, j6 0), (6, .ptr 700970 0 0), (28, j6 DY.2.2.1)], AX [(68802, ⟨3, false, [.agg [eb (0 : UInt8), .str ([] : List UInt8), .nl]]⟩), (700970, ⟨2, false, [BF DY.2.2.2]⟩)]⟩ ⟨AX [(2, .ptr 68802 0 0), (3, j6 0), (4, j6 DY.2.2.2.at_), (5, j6 DY.2.2.1)], AX [(68802, ⟨3, false, [.agg [eb (0 : UInt8), .str ([] : List UInt8), .nl]]⟩)]⟩ := by
  refine yc (l := [1]) rfl nofun ⟨⟨_, rfl, ?_⟩, trivial⟩
  refine wq rfl ?_
  exact AnyW.of oG rfl (cq rfl)
 have Ew : AnyW Tryz.prog (fun _ => false) EB EA 7 [0, 1, 2] ⟨AX [(2, .ptr 68802 0 0), (3, j6 0), (4, j6 0), (5, j6 0), (9, j6 DY.2.2.1), (23, .agg [eb (0 : UInt8), .str ([] : List UInt8), .nl]), (25, .ptr 700970 0 0)], AX [(68802, ⟨3, false, [.agg [eb (0 : UInt8), .str ([] : List UInt8), .nl]]⟩), (700970, ⟨2, false, [BF DY.2.2.2]⟩)]⟩ ⟨AX [(2, .ptr 68802 0 0), (3, j6 0), (4, j6 DY.2.2.2.at_), (5, j6 DY.2.2.1)], AX [(68802, ⟨3, false, [.agg [eb (0 : UInt8), .str ([] : List UInt8), .nl]]⟩)]⟩ := by
  refine yc (l := [3, 5, 6]) rfl nofun ⟨⟨_, rfl, ?_⟩, ⟨_, rfl, ?_⟩, ⟨_, rfl, ?_⟩, trivial⟩
  refine wq rfl ?_
  exact AnyW.of Ev rfl (cq rfl)
  refine wq rfl ?_
  exact AnyW.of zF rfl (cq rfl)
  refine ED (e' := .agg [eb (0 : UInt8), .str ([] : List UInt8), .nl]) rfl rfl rfl rfl rfl rfl rfl rfl nofun rfl ?_
  exact AnyW.of zP rfl (cq rfl)
 have zG : AnyW Tryz.prog (fun _ => false) EB EA 7 [0, 1, 5] ⟨AX [(2, .ptr 68802 0 0), (3, j6 0), (4, j6 0), (5, j6 0), (23, .agg [eb (0 : UInt8), .str ([] : List UInt8), .nl]), (24, .ptr 700970 0 0), (28, j6 DY.2.2.1)], AX [(68802, ⟨3, false, [.agg [eb (0 : UInt8), .str ([] : List UInt8), .nl]]⟩), (700970, ⟨2, false, [BF DY.2.2.2]⟩)]⟩ ⟨AX [(2, .ptr 68802 0 0), (3, j6 0), (4, j6 DY.2.2.2.at_), (5, j6 DY.2.2.1)], AX [(68802, ⟨3, false, [.agg [eb (0 : UInt8), .str ([] : List UInt8), .nl]]⟩)]⟩ := by
  refine yc (l := [2, 6]) rfl nofun ⟨⟨_, rfl, ?_⟩, ⟨_, rfl, ?_⟩, trivial⟩
  refine wq rfl ?_
  exact AnyW.of zF rfl (cq rfl)
  refine ED (e' := .agg [eb (0 : UInt8), .str ([] : List UInt8), .nl]) rfl rfl rfl rfl rfl rfl rfl rfl nofun rfl ?_
  exact AnyW.of oK rfl (cq rfl)
 have zR : AnyW Tryz.prog (fun _ => false) EB EA 7 [0, 1, 6] ⟨AX [(2, .ptr 68802 0 0), (3, j6 0), (4, j6 0), (5, j6 0), (9, j6 DY.2.2.1), (24, .ptr 700970 0 0)], AX [(68802, ⟨3, false, [.agg [eb (0 : UInt8), .str ([] : List UInt8), .nl]]⟩), (700970, ⟨2, false, [BF DY.2.2.2]⟩)]⟩ ⟨AX [(2, .ptr 68802 0 0), (3, j6 0), (4, j6 DY.2.2.2.at_), (5, j6 DY.2.2.1)], AX [(68802, ⟨3, false, [.agg [eb (0 : UInt8), .str ([] : List UInt8), .nl]]⟩)]⟩ := by
  refine yc (l := [2, 5, 7]) rfl nofun ⟨⟨_, rfl, ?_⟩, ⟨_, rfl, ?_⟩, ⟨_, rfl, ?_⟩, trivial⟩
  refine wq rfl ?_
  exact AnyW.of zP rfl (cq rfl)
  refine wq rfl ?_
  exact AnyW.of oK rfl (cq rfl)
  refine wq rfl ?_
  exact AnyW.of zM rfl (cq rfl)
 have zQ : AnyW Tryz.prog (fun _ => false) EB EA 7 [0, 5, 6] ⟨AX [(2, .ptr 68802 0 0), (3, j6 0), (4, j6 0), (5, j6 0), (6, .ptr 700970 0 0), (28, j6 DY.2.2.1)], AX [(68802, ⟨3, false, [.agg [eb (0 : UInt8), .str ([] : List UInt8), .nl]]⟩), (700970, ⟨2, false, [BF DY.2.2.2]⟩)]⟩ ⟨AX [(2, .ptr 68802 0 0), (3, j6 0), (4, j6 DY.2.2.2.at_), (5, j6 DY.2.2.1)], AX [(68802, ⟨3, false, [.agg [eb (0 : UInt8), .str ([] : List UInt8), .nl]]⟩)]⟩ := by
  refine yc (l := [1, 7]) rfl nofun ⟨⟨_, rfl, ?_⟩, ⟨_, rfl, ?_⟩, trivial⟩
  refine wq rfl ?_
  exact AnyW.of oK rfl (cq rfl)
  refine wq rfl ?_
  exact AnyW.of zL rfl (cq rfl)
 have Ll : AnyW Tryz.prog (fun _ => false) EB EA 7 [0, 6, 7] ⟨AX [(2, .ptr 68802 0 0), (3, j6 0), (4, j6 0), (5, j6 0), (6, .ptr 700970 0 0), (9, j6 DY.2.2.1)], AX [(68802, ⟨3, false, [.agg [eb (0 : UInt8), .str ([] : List UInt8), .nl]]⟩), (700970, ⟨2, false, [BF DY.2.2.2]⟩)]⟩ ⟨AX [(2, .ptr 68802 0 0), (3, j6 0), (4, j6 DY.2.2.2.at_), (5, j6 DY.2.2.1)], AX [(68802, ⟨3, false, [.agg [eb (0 : UInt8), .str ([] : List UInt8), .nl]]⟩)]⟩ := by
  refine yc (l := [1, 5]) rfl nofun ⟨⟨_, rfl, ?_⟩, ⟨_, rfl, ?_⟩, trivial⟩
  refine wq rfl ?_
  exact AnyW.of zM rfl (cq rfl)
  refine wq rfl ?_
  exact AnyW.of zL rfl (cq rfl)
 have Ez : AnyW Tryz.prog (fun _ => false) EB EA 8 [0, 1] ⟨AX [(2, .ptr 68802 0 0), (3, j6 0), (4, j6 0), (5, j6 0), (9, j6 DY.2.2.1), (23, .agg [eb (0 : UInt8), .str ([] : List UInt8), .nl]), (24, .ptr 700970 0 0)], AX [(68802, ⟨3, false, [.agg [eb (0 : UInt8), .str ([] : List UInt8), .nl]]⟩), (700970, ⟨2, false, [BF DY.2.2.2]⟩)]⟩ ⟨AX [(2, .ptr 68802 0 0), (3, j6 0), (4, j6 DY.2.2.2.at_), (5, j6 DY.2.2.1)], AX [(68802, ⟨3, false, [.agg [eb (0 : UInt8), .str ([] : List UInt8), .nl]]⟩)]⟩ := by
  refine yc (l := [2, 5, 6]) rfl nofun ⟨⟨_, rfl, ?_⟩, ⟨_, rfl, ?_⟩, ⟨_, rfl, ?_⟩, trivial⟩
  refine wq rfl ?_
  exact AnyW.of Ew rfl (cq rfl)
  refine wq rfl ?_
  exact AnyW.of zG rfl (cq rfl)
  refine ED (e' := .agg [eb (0 : UInt8), .str ([] : List UInt8), .nl]) rfl rfl rfl rfl rfl rfl rfl rfl nofun rfl ?_
  exact AnyW.of zR rfl (cq rfl)
 have Ey : AnyW Tryz.prog (fun _ => false) EB EA 8 [0, 5] ⟨AX [(2, .ptr 68802 0 0), (3, j6 0), (4, j6 0), (5, j6 0), (6, .ptr 700970 0 0), (23, .agg [eb (0 : UInt8), .str ([] : List UInt8), .nl]), (28, j6 DY.2.2.1)], AX [(68802, ⟨3, false, [.agg [eb (0 : UInt8), .str ([] : List UInt8), .nl]]⟩), (700970, ⟨2, false, [BF DY.2.2.2]⟩)]⟩ ⟨AX [(2, .ptr 68802 0 0), (3, j6 0), (4, j6 DY.2.2.2.at_), (5, j6 DY.2.2.1)], AX [(68802, ⟨3, false, [.agg [eb (0 : UInt8), .str ([] : List UInt8), .nl]]⟩)]⟩ := by
  refine yc (l := [1, 6]) rfl nofun ⟨⟨_, rfl, ?_⟩, ⟨_, rfl, ?_⟩, trivial⟩
  refine wq rfl ?_
  exact AnyW.of zG rfl (cq rfl)
  refine ED (e' := .agg [eb (0 : UInt8), .str ([] : List UInt8), .nl]) rfl rfl rfl rfl rfl rfl rfl rfl nofun rfl ?_
  exact AnyW.of zQ rfl (cq rfl)
 have Lm : AnyW Tryz.prog (fun _ => false) EB EA 8 [0, 6] ⟨AX [(2, .ptr 68802 0 0), (3, j6 0), (4, j6 0), (5, j6 0), (6, .ptr 700970 0 0), (9, j6 DY.2.2.1)], AX [(68802, ⟨3, false, [.agg [eb (0 : UInt8), .str ([] : List UInt8), .nl]]⟩), (700970, ⟨2, false, [BF DY.2.2.2]⟩)]⟩ ⟨AX [(2, .ptr 68802 0 0), (3, j6 0), (4, j6 DY.2.2.2.at_), (5, j6 DY.2.2.1)], AX [(68802, ⟨3, false, [.agg [eb (0 : UInt8), .str ([] : List UInt8), .nl]]⟩)]⟩ := by
  refine yc (l := [1, 5, 7]) rfl nofun ⟨⟨_, rfl, ?_⟩, ⟨_, rfl, ?_⟩, ⟨_, rfl, ?_⟩, trivial⟩
  refine wq rfl ?_
  exact AnyW.of zR rfl (cq rfl)
  refine wq rfl ?_
  exact AnyW.of zQ rfl (cq rfl)
  refine wq rfl ?_
  exact AnyW.of Ll rfl (cq rfl)
 have a11_0 : AnyW Tryz.prog (fun _ => false) EB EA 9 [0] ⟨AX [(2, .ptr 68802 0 0), (3, j6 0), (4, j6 0), (5, j6 0), (6, .ptr 700970 0 0), (9, j6 DY.2.2.1), (23, .agg [eb (0 : UInt8), .str ([] : List UInt8), .nl])], AX [(68802, ⟨3, false, [.agg [eb (0 : UInt8), .str ([] : List UInt8), .nl]]⟩), (700970, ⟨2, false, [BF DY.2.2.2]⟩)]⟩ ⟨AX [(2, .ptr 68802 0 0), (3, j6 0), (4, j6 DY.2.2.2.at_), (5, j6 DY.2.2.1)], AX [(68802, ⟨3, false, [.agg [eb (0 : UInt8), .str ([] : List UInt8), .nl]]⟩)]⟩ := by
  refine yc (l := [1, 5, 6]) rfl nofun ⟨⟨_, rfl, ?_⟩, ⟨_, rfl, ?_⟩, ⟨_, rfl, ?_⟩, trivial⟩
  refine wq rfl ?_
  exact AnyW.of Ez rfl (cq rfl)
  refine wq rfl ?_
  exact AnyW.of Ey rfl (cq rfl)
  refine ED (e' := .agg [eb (0 : UInt8), .str ([] : List UInt8), .nl]) rfl rfl rfl rfl rfl rfl rfl rfl nofun rfl ?_
  exact AnyW.of Lm rfl (cq rfl)
 exact ⟨⟨4, AnyW.of zC rfl (cq rfl)⟩, ⟨5, AnyW.of Eu rfl (cq rfl)⟩, ⟨5, AnyW.of zD rfl (cq rfl)⟩, ⟨6, AnyW.of Ev rfl (cq rfl)⟩, ⟨6, AnyW.of zF rfl (cq rfl)⟩, ⟨7, AnyW.of Ew rfl (cq rfl)⟩, ⟨7, AnyW.of zG rfl (cq rfl)⟩, ⟨8, AnyW.of Ez rfl (cq rfl)⟩, ⟨8, AnyW.of Ey rfl (cq rfl)⟩, ⟨9, AnyW.of a11_0 rfl (cq rfl)⟩, trivial⟩
 cases AO h
 refine EX (st1 := ⟨AX [(2, .ptr 68802 0 0), (3, j6 0), (4, j6 DY.2.2.2.at_), (5, j6 DY.2.2.1)], AX [(68802, ⟨3, false, [A8 (⟨(0 : UInt8), ([] : List UInt8), []⟩ : A7)]⟩)]⟩) (C9.trans (mO 68802 (x := .agg [eb (0 : UInt8), .str ([] : List UInt8), .nl]) (y := .agg [eb ((⟨(0 : UInt8), ([] : List UInt8), []⟩ : A7).Tag), .str ((⟨(0 : UInt8), ([] : List UInt8), []⟩ : A7).Body), .sl 3 ((⟨(0 : UInt8), ([] : List UInt8), []⟩ : A7).Kids)]) (.cons A9 (.cons A9 (.cons (FH 3) .nil))) rfl rfl) (cq rfl)) ?_
 exact ⟨nofun, rfl, rfl⟩
 refine BH (AA (AB ?_))
 refine AZ (p := A8 DY.1) rfl rfl ?_
 refine wq rfl ?_
 refine ED (e' := A8 DY.1) rfl rfl rfl rfl rfl rfl rfl rfl nofun rfl ?_
 iterate 3 refine wq rfl ?_
 cases AO h
 refine BR ?_
 exact ⟨nofun, rfl, rfl⟩
def q8 : IC := (.seq (.reg [jb .lss 24 23 22]) (.seq (.cond (.t 24) .skip (.exit 4)) (.seq (.block 5 (.seq (.reg [jx 25 1 21 23, jl 26 1 25, jm 6 26]) (.reg [jm 27 4, jn 28 (.bin .shl (.t 27) (.c (.int .u64 8))), jm 29 6, jn 30 (.cvi .i64 (.t 29)), jb .or 31 28 30, jm 4 31]))) (.reg [ju .add 32 23 1, jm 23 32]))))
def k44 : IC := (.seq (.reg [jc 2 (j6 0), jc 3 (.bool false)]) (.seq (.reg [jc 4 (j6 0)]) (.seq (.block 0 (.seq (.block 3 (.seq (.block 2 (.seq (.block 1 (.seq (.seq (.seq (.reg [jm 8 0, jn 9 (.bin .eql (.t 8) (.c (.str []))), jm 10 9, jf 10 11 (.mov (.t 0)), jf 10 12 (.len true (.t 11)), jf 10 13 (.bin .gtr (.t 12) (ji 8)), jo 14 10 13, jm 7 14]) (.cond (.t 7) (.exit 1) .skip)) (.seq (.reg [jm 16 0, jn 17 (.idxs (.t 16) (ji 0)), jn 18 (.bin .and (.t 17) (.c (.int .u8 128))), jn 19 (.bin .neq (.t 18) (.c (.int .u8 0))), jm 15 19]) (.cond (.t 15) (.exit 2) .skip))) (.exit 3))) (.seq (.seq (.reg [jc 2 (j6 0), jc 3 (.bool false)]) .ret) (.exit 0)))) (.reg [jc 4 (j6 (-1))]))) (.seq (.seq (.reg [jm 20 0, jn 21 (.cvs (.t 20)), jL 22 21, jc 23 (j6 0)]) (.block 4 (.loop q8))) (.exit 0)))) (.seq (.seq (.reg [jm 33 4, jn 34 (.call 46 [(.t 33)]), jm 35 0, jb .neq 36 34 35]) (.cond (.t 36) (.seq (.reg [jc 2 (j6 0), jc 3 (.bool false)]) .ret) .skip)) (.seq (.reg [jm 37 4, jm 2 37, jc 3 (.bool true)]) .ret)))))
theorem Im : BV Tryz.prog Tryz.f44 = some ⟨38, k44, [(.tmp 2), (.tmp 3)]⟩ := by kernel_rfl
theorem VJ (N : Nat) (a0 : List UInt8) : ∀ (n : Nat) (x : Int × Int) (y : Int), JQ N a0 n x = some y → WX Tryz.prog (fun _ => false) (.loop q8) ((fun (x : Int × Int) => ⟨AX [(0, .str a0), (4, j6 x.1), (21, .slr 70421 0 a0.length), (22, j6 (a0.length : Int)), (23, j6 x.2)], AX [(70421, ⟨1, true, List.map eb a0⟩)]⟩) x) ((fun y e s => e = .exit 4 ∧ s = ⟨AX [(0, .str a0), (4, j6 y)], AX []⟩ : Int → Xt → St → Prop) y) := by
 refine F5 _ _ (JQ N a0) (OV N a0) (fun _ => rfl) (fun _ _ => rfl) ?_
 rintro rec ⟨eP, Y8⟩ y h
 refine AA (AB ?_)
 refine wq rfl ?_
 refine AA ?_
 refine EP h rfl (fun c1 h => ?_) (fun c1 h => ?_)
 refine BH (AA (CJ (AA (AB ?_))))
 obtain ⟨x25, hx25, h⟩ := AP h
 refine AZ rfl (KF hx25 rfl rfl rfl rfl) ?_
 obtain ⟨IR, iT, h⟩ := AP h
 refine AZ rfl (Q4 (f := eb) (v := eb IR) iT rfl rfl rfl) ?_
 refine wq rfl ?_
 refine AB ?_
 refine wq rfl ?_
 refine AZ rfl (Dw (by decide) rfl rfl) ?_
 refine wq rfl ?_
 refine AZ rfl (mR (a := IR) rfl) ?_
 refine AZ (p := j6 (iop .or .i64 (mJ eP 8) ((IR).toNat : Int))) rfl rfl ?_
 refine wq rfl ?_
 refine AB ?_
 refine AZ (p := j6 (BX (Y8 + (1 : Int)))) rfl rfl ?_
 refine wq rfl ?_
 exact ⟨((iop .or .i64 (mJ eP 8) ((IR).toNat : Int)), (BX (Y8 + (1 : Int)))), (cq rfl), h⟩
 obtain rfl := AO h
 exact D9 (st1 := ⟨AX [(0, .str a0), (4, j6 eP)], AX []⟩) (cq rfl) ⟨rfl, rfl⟩
theorem QS (N : Nat) (a0 : List UInt8) (r : Int × Bool) (h : R9 N a0 = some r) : Sat Tryz.prog 44 AC [.str a0] (.tup [j6 r.1, .bool r.2]) AC := by
 refine EL mixed Tryz.func44 Im (rs := [j6 r.1, .bool r.2]) rfl rfl ?_
 refine AA (AB ?_)
 iterate 2 refine wq rfl ?_
 refine AA (AB ?_)
 refine wq rfl ?_
 refine AA (CJ ?_)
 refine RP (fun (x : Int) => ⟨AX [(0, .str a0), (4, j6 x)], AX []⟩) (fun x => NL a0 N x = some r) ?_ ?_
 rintro v4j6 h
 iterate 2 refine AA ?_
 refine AB ?_
 refine wq rfl ?_
 refine CW rfl (mU 70421 rfl rfl) ?_
 iterate 2 refine wq rfl ?_
 refine CJ ?_
 obtain ⟨y2, hy2, h⟩ := AP h
 refine PQ (VJ N a0 N _ _ hy2) (cq rfl) ?_
 rintro e s ⟨rfl, rfl⟩
 refine NI ?_
 iterate 2 refine AA ?_
 refine AB ?_
 refine wq rfl ?_
 obtain ⟨x34, hx34, h⟩ := AP h
 refine CW rfl (CX (VN N _ _ hx34) rfl (.cons A9 .nil) rfl rfl rfl) ?_
 iterate 2 refine wq rfl ?_
 refine EP h rfl (fun c3 h => ?_) (fun c3 h => ?_)
 refine AA (AB ?_)
 iterate 2 refine wq rfl ?_
 cases AO h
 refine BR ?_
 exact ⟨nofun, rfl, rfl⟩
 refine BH (AA (AB ?_))
 iterate 3 refine wq rfl ?_
 cases AO h
 refine BR ?_
 exact ⟨nofun, rfl, rfl⟩
 refine CJ (AA (CJ (AA (CJ ?_))))
 iterate 2 refine AA ?_
 obtain ⟨g4, hg4, h⟩ := AP h
 refine GZ ⟨AX [(0, .str a0), (4, j6 0), (7, .bool g4)], AX []⟩ ?_ ?_
 have h := hg4
 refine AB ?_
 iterate 3 refine wq rfl ?_
 rcases CY h with ⟨c5, h⟩ | ⟨c5, h⟩
 iterate 3 refine D7 (gn rfl c5) ?_
 refine AZ rfl (BG c5 rfl rfl) ?_
 refine wq rfl ?_
 obtain rfl := AO h
 exact cq rfl
 iterate 3 refine AZ (gy rfl c5) rfl ?_
 refine AZ rfl (BD c5 rfl rfl) ?_
 refine wq rfl ?_
 cases AO h
 exact cq rfl
 clear hg4
 refine EP h rfl (fun c6 h => ?_) (fun c6 h => ?_)
 refine NI ?_
 iterate 2 refine AA ?_
 refine AB ?_
 iterate 2 refine wq rfl ?_
 cases AO h
 refine BR ?_
 exact ⟨nofun, rfl, rfl⟩
 refine BH (AA (AB ?_))
 refine wq rfl ?_
 obtain ⟨DY, TQ, h⟩ := AP h
 refine AZ rfl (OB TQ rfl rfl) ?_
 refine AZ rfl (V7 (a := DY) (b := (128 : UInt8)) rfl rfl) ?_
 refine AZ (p := .bool ((((DY &&& (128 : UInt8))).toNat : Int) != (0 : Int))) rfl rfl ?_
 refine wq rfl ?_
 refine EP h rfl (fun c7 h => ?_) (fun c7 h => ?_)
 refine NI ?_
 refine AB ?_
 refine wq rfl ?_
 exact ⟨(-1), (cq rfl), h⟩
 refine BH ?_
 refine NI ?_
 exact ⟨0, (cq rfl), h⟩
def wL : IC := (.seq (.seq (.reg [jm 22 7, jm 23 1, ju .sub 24 23 1, jb .lss 25 22 24]) (.cond (.t 25) .skip (.exit 0))) (.seq (.block 1 (.seq (.reg [jm 29 0, jn 30 (.call 124 [(.t 29)]), jm 28 30, je 31 0 28, je 32 1 28, jm 8 31, jm 9 32]) (.seq (.reg [jm 33 6, jm 34 7, jm 35 0, jm 36 9, jn 37 (.slcs (.t 35) none (some (.t 36))), jx 38 1 33 34, js 1 38 37]) (.reg [jm 39 0, jm 40 9, jn 41 (.slcs (.t 39) (some (.t 40)) none), jm 0 41])))) (.reg [jm 26 7, ju .add 27 26 1, jm 7 27])))
def k100 : IC := (.seq (.reg [jc 4 .nl]) (.seq (.reg [jm 10 0, jn 11 (.call 123 [(.t 10)]), jm 5 11]) (.seq (.seq (.reg [jm 12 1, ju .lss 13 12 0, jm 14 13, jf 14 15 (.mov (.t 1)), jf 14 16 (.mov (.t 5)), jf 14 17 (.bin .gtr (.t 15) (.t 16)), jo 18 14 17]) (.cond (.t 18) (.reg [jm 19 5, jm 1 19]) .skip)) (.seq (.reg [jm 20 1, jn 21 (.mks 1 16 (.str []) (.t 20)), jm 6 21]) (.seq (.seq (.reg [jc 7 (j6 0)]) (.block 0 (.loop wL))) (.seq (.seq (.reg [jm 42 1, ju .gtr 43 42 0]) (.cond (.t 43) (.reg [jm 44 6, jm 45 1, ju .sub 46 45 1, jm 47 0, jx 48 1 44 46, js 1 48 47]) .skip)) (.seq (.reg [jm 49 6, jm 4 49]) .ret)))))))
theorem Cb : BV Tryz.prog Tryz.f100 = some ⟨50, k100, [(.tmp 4)]⟩ := by kernel_rfl
theorem VK (N : Nat) (a0 : List UInt8) (a1 : Int) (r : List (List UInt8)) (h : TY N a0 a1 = some r) : Sat Tryz.prog 100 AC [.str a0, j6 a1] (.sl 1 (List.map PV.str r)) AC := by
 refine EL mixed Tryz.func100 Cb (rs := [.sl 1 (List.map PV.str r)]) rfl rfl ?_
 refine AA (AB ?_)
 refine wq rfl ?_
 refine AA (AB ?_)
 refine wq rfl ?_
 cases h
def k102 : IC := (.seq (.reg [jc 4 (j6 0)]) (.seq (.reg [jm 5 0, jm 6 1, jn 7 (.call 126 [(.t 5), (.t 6)]), jm 4 7]) .ret))
theorem Ca : BV Tryz.prog Tryz.f102 = some ⟨8, k102, [(.tmp 4)]⟩ := by kernel_rfl
theorem XA (N : Nat) (a0 : List UInt8) (a1 : List UInt8) (r : Int) (h : strings_Index N a0 a1 = some r) : Sat Tryz.prog 102 AC [.str a0, .str a1] (j6 r) AC := by
 refine EL mixed Tryz.func102 Ca (rs := [j6 r]) rfl rfl ?_
 refine AA (AB ?_)
 refine wq rfl ?_
 refine AA (AB ?_)
 iterate 2 refine wq rfl ?_
 obtain ⟨x7, hx7, h⟩ := AP h
 refine CW rfl (CX (NJ N _ _ _ hx7) rfl (.cons A9 (.cons A9 .nil)) rfl rfl rfl) ?_
 refine wq rfl ?_
 obtain rfl := AO h
 refine BR ?_
 exact ⟨nofun, rfl, rfl⟩
def pV : IC := (.seq (.seq (.reg [jm 34 10, jm 35 3, jb .lss 36 34 35]) (.cond (.t 36) .skip (.exit 0))) (.block 1 (.seq (.reg [jm 37 0, jm 38 1, jn 39 (.call 102 [(.t 37), (.t 38)]), jm 11 39]) (.seq (.seq (.reg [jm 40 11, ju .lss 41 40 0]) (.cond (.t 41) (.exit 0) .skip)) (.seq (.reg [jm 42 9, jm 43 10, jm 44 0, jm 45 11, jm 46 2, jb .add 47 45 46, jn 48 (.slcs (.t 44) none (some (.t 47))), jx 49 1 42 43, js 1 49 48]) (.seq (.reg [jm 50 0, jm 51 11, jm 52 1, jS 53 52, jb .add 54 51 53, jn 55 (.slcs (.t 50) (some (.t 54)) none), jm 0 55]) (.reg [jm 56 10, ju .add 57 56 1, jm 10 57])))))))
def k87 : IC := (.seq (.reg [jc 8 .nl]) (.seq (.seq (.reg [jm 12 3, ju .eql 13 12 0]) (.cond (.t 13) (.seq (.reg [jc 8 .nl]) .ret) .skip)) (.seq (.seq (.reg [jm 14 1, jn 15 (.bin .eql (.t 14) (.c (.str [])))]) (.cond (.t 15) (.seq (.reg [jm 16 0, jm 17 3, jn 18 (.call 100 [(.t 16), (.t 17)]), jm 8 18]) .ret) .skip)) (.seq (.seq (.reg [jm 19 3, ju .lss 20 19 0]) (.cond (.t 20) (.reg [jm 21 0, jm 22 1, jn 23 (.call 101 [(.t 21), (.t 22)]), ju .add 24 23 1, jm 3 24]) .skip)) (.seq (.reg [jm 25 3, jm 26 0, jS 27 26, ju .add 28 27 1, jn 29 (.mm false (.t 25) [(.t 28)]), jm 3 29]) (.seq (.reg [jm 30 3, jn 31 (.mks 1 16 (.str []) (.t 30)), jm 9 31]) (.seq (.reg [jm 32 3, ju .sub 33 32 1, jm 3 33]) (.seq (.reg [jc 10 (j6 0)]) (.seq (.block 0 (.loop pV)) (.seq (.reg [jm 58 9, jm 59 10, jm 60 0, jx 61 1 58 59, js 1 61 60]) (.seq (.reg [jm 62 9, jm 63 10, ju .add 64 63 1, jn 65 (.slcl 1 (.t 62) none (some (.t 64))), jm 8 65]) .ret)))))))))))
theorem Gs : BV Tryz.prog Tryz.f87 = some ⟨66, k87, [(.tmp 8)]⟩ := by kernel_rfl
theorem T9 (N : Nat) (a0 : List UInt8) (a1 : List UInt8) (a2 : Int) (OW : Int) : ∀ (n : Nat) (x : List UInt8 × Int × List (List UInt8)) (y : List UInt8 × Int × List (List UInt8)), IE N a0 a1 a2 OW n x = some y → WX Tryz.prog (fun _ => false) (.loop pV) ((fun (x : List UInt8 × Int × List (List UInt8)) => ⟨AX [(0, .str x.1), (1, .str a1), (2, j6 a2), (3, j6 (BX ((mn OW (BX ((a0.length : Int) + (1 : Int)))) - (1 : Int)))), (9, .slr 139231 0 x.2.2.length), (10, j6 x.2.1)], AX [(139231, ⟨1, true, List.map PV.str x.2.2⟩)]⟩) x) ((fun y e s => e = .exit 0 ∧ s = ⟨AX [(0, .str y.1), (9, .slr 139231 0 y.2.2.length), (10, j6 y.2.1)], AX [(139231, ⟨1, true, List.map PV.str y.2.2⟩)]⟩ : (List UInt8 × Int × List (List UInt8)) → Xt → St → Prop) y) := by
 refine F5 _ _ (IE N a0 a1 a2 OW) (MQ N a0 a1 a2 OW) (fun _ => rfl) (fun _ _ => rfl) ?_
 rintro rec ⟨YY, RB, G6⟩ y h
 iterate 2 refine AA ?_
 refine AB ?_
 iterate 3 refine wq rfl ?_
 refine EP h rfl (fun c3 h => ?_) (fun c3 h => ?_)
 refine BH (CJ (AA (AB ?_)))
 iterate 2 refine wq rfl ?_
 obtain ⟨x39, hx39, h⟩ := AP h
 refine CW rfl (CX (XA N _ _ _ hx39) rfl (.cons A9 (.cons A9 .nil)) rfl rfl rfl) ?_
 refine wq rfl ?_
 iterate 2 refine AA ?_
 refine AB ?_
 iterate 2 refine wq rfl ?_
 refine EP h rfl (fun c4 h => ?_) (fun c4 h => ?_)
 cases AO h
 exact D9 (st1 := ⟨AX [(0, .str YY), (9, .slr 139231 0 G6.length), (10, j6 RB)], AX [(139231, ⟨1, true, List.map PV.str G6⟩)]⟩) (cq rfl) ⟨rfl, rfl⟩
 refine BH (AA (AB ?_))
 iterate 5 refine wq rfl ?_
 refine AZ (p := j6 (BX (x39 + a2))) rfl rfl ?_
 obtain ⟨lW, nK, h⟩ := AP h
 refine AZ rfl (iH nK rfl rfl) ?_
 obtain ⟨ZE, wY, h⟩ := AP h
 refine AZ rfl (KF wY rfl rfl rfl rfl) ?_
 obtain ⟨tQ, nJ, h⟩ := AP h
 refine jK (f := PV.str) (e' := lW) nJ rfl rfl rfl rfl rfl rfl rfl rfl (fun _ => rfl) rfl ?_
 refine AA (AB ?_)
 iterate 4 refine wq rfl ?_
 refine AZ (p := j6 (BX (x39 + (a1.length : Int)))) rfl rfl ?_
 obtain ⟨x55, Ka, h⟩ := AP h
 refine AZ rfl (bB Ka rfl rfl) ?_
 refine wq rfl ?_
 refine AB ?_
 refine wq rfl ?_
 refine AZ (p := j6 (BX (RB + (1 : Int)))) rfl rfl ?_
 refine wq rfl ?_
 exact ⟨(x55, (BX (RB + (1 : Int))), (G6.set ZE lW)), (C9.trans (L6 9 (GQ (congrArg (PV.slr 139231 0) (by simp only [List.length_set, List.length_replicate] : G6.length = (G6.set ZE lW).length))) rfl) (cq rfl)), h⟩
 cases AO h
 exact D9 (st1 := ⟨AX [(0, .str YY), (9, .slr 139231 0 G6.length), (10, j6 RB)], AX [(139231, ⟨1, true, List.map PV.str G6⟩)]⟩) (cq rfl) ⟨rfl, rfl⟩
theorem UH (N : Nat) (a0 : List UInt8) (a1 : List UInt8) (a2 : Int) (a3 : Int) (r : List (List UInt8)) (h : strings_genSplit N a0 a1 a2 a3 = some r) : Sat Tryz.prog 87 AC [.str a0, .str a1, j6 a2, j6 a3] (.sl 1 (List.map PV.str r)) AC := by
 refine EL mixed Tryz.func87 Gs (rs := [.sl 1 (List.map PV.str r)]) rfl rfl ?_
 refine AA (AB ?_)
 refine wq rfl ?_
 iterate 2 refine AA ?_
 refine AB ?_
 iterate 2 refine wq rfl ?_
 refine EP h rfl (fun c1 h => ?_) (fun c1 h => ?_)
 refine AA (AB ?_)
 refine wq rfl ?_
 cases AO h
 refine EX (st1 := ⟨AX [(8, .sl 1 (List.map PV.str []))], AX []⟩) (C9.trans (L6 8 (FH 1) rfl) (cq rfl)) ?_
 exact ⟨nofun, rfl, rfl⟩
 refine BH ?_
 iterate 2 refine AA ?_
 refine AB ?_
 iterate 2 refine wq rfl ?_
 refine EP h rfl (fun c2 h => ?_) (fun c2 h => ?_)
 refine AA (AB ?_)
 iterate 2 refine wq rfl ?_
 obtain ⟨ZF, iU, h⟩ := AP h
 refine CW rfl (CX (VK N _ _ _ iU) rfl (.cons A9 (.cons A9 .nil)) rfl rfl rfl) ?_
 refine wq rfl ?_
 obtain rfl := AO h
 refine BR ?_
 exact ⟨nofun, rfl, rfl⟩
 refine BH ?_
 refine RP (fun (x : Int) => ⟨AX [(0, .str a0), (1, .str a1), (2, j6 a2), (3, j6 x)], AX []⟩) (fun x => JX a0 a1 a2 N x = some r) ?_ ?_
 rintro OW h
 refine AA (AB ?_)
 iterate 3 refine wq rfl ?_
 refine AZ (p := j6 (BX ((a0.length : Int) + (1 : Int)))) rfl rfl ?_
 refine AZ (p := j6 (mn OW (BX ((a0.length : Int) + (1 : Int))))) rfl rfl ?_
 refine wq rfl ?_
 refine AA (AB ?_)
 refine wq rfl ?_
 obtain ⟨x31, hx31, h⟩ := AP h
 refine wmks (f := PV.str) (e := ([] : List UInt8)) 139231 hx31 rfl rfl rfl rfl rfl rfl ?_
 refine wq rfl ?_
 refine AA (AB ?_)
 refine wq rfl ?_
 refine AZ (p := j6 (BX ((mn OW (BX ((a0.length : Int) + (1 : Int)))) - (1 : Int)))) rfl rfl ?_
 refine wq rfl ?_
 refine AA (AB ?_)
 refine wq rfl ?_
 refine AA (CJ ?_)
 obtain ⟨y6, qP, h⟩ := AP h
 refine PQ (T9 N a0 a1 a2 OW N _ _ qP) (C9.trans (L6 9 (GQ (congrArg (PV.slr 139231 0) (by simp only [List.length_set, List.length_replicate] : x31 = (List.replicate x31 ([] : List UInt8)).length))) rfl) (cq rfl)) ?_
 rintro e s ⟨rfl, rfl⟩
 refine AA (AB ?_)
 iterate 3 refine wq rfl ?_
 obtain ⟨Fe, Jy, h⟩ := AP h
 refine AZ rfl (KF Jy rfl rfl rfl rfl) ?_
 obtain ⟨tO, nI, h⟩ := AP h
 refine jK (f := PV.str) (e' := y6.1) nI rfl rfl rfl rfl rfl rfl rfl rfl (fun _ => rfl) rfl ?_
 refine AA (AB ?_)
 iterate 2 refine wq rfl ?_
 refine AZ (p := j6 (BX (y6.2.1 + (1 : Int)))) rfl rfl ?_
 obtain ⟨jH, kV, h⟩ := AP h
 refine AZ rfl (Aw kV rfl (by simp only [List.length_set, List.length_replicate]) rfl rfl rfl) ?_
 refine wq rfl ?_
 obtain rfl := AO h
 refine EX (st1 := ⟨AX [(8, .sl 1 (List.map PV.str jH))], AX []⟩) (C9.trans (Vd.freeze 139231 _ rfl rfl rfl) (C9.trans (L6 8 (GQ (congrArg (PV.sl 1) (uF kV))) rfl) (cq rfl))) ?_
 exact ⟨nofun, rfl, rfl⟩
 refine AA (AB ?_)
 iterate 2 refine wq rfl ?_
 refine EP h rfl (fun c8 h => ?_) (fun c8 h => ?_)
 refine AB ?_
 iterate 2 refine wq rfl ?_
 obtain ⟨gQ, nM, h⟩ := AP h
 refine CW rfl (CX (XB N _ _ _ nM) rfl (.cons A9 (.cons A9 .nil)) rfl rfl rfl) ?_
 refine AZ (p := j6 (BX (gQ + (1 : Int)))) rfl rfl ?_
 refine wq rfl ?_
 exact ⟨(BX (gQ + (1 : Int))), (cq rfl), h⟩
 refine BH ?_
 exact ⟨a3, (cq rfl), h⟩
def k65 : IC := (.seq (.reg [jc 4 .nl]) (.seq (.reg [jm 5 0, jm 6 1, jn 7 (.call 87 [(.t 5), (.t 6), (ji 0), (ji (-1))]), jm 4 7]) .ret))
theorem Ho : BV Tryz.prog Tryz.f65 = some ⟨8, k65, [(.tmp 4)]⟩ := by kernel_rfl
theorem X9 (N : Nat) (a0 : List UInt8) (a1 : List UInt8) (r : List (List UInt8)) (h : strings_Split N a0 a1 = some r) : Sat Tryz.prog 65 AC [.str a0, .str a1] (.sl 1 (List.map PV.str r)) AC := by
 refine EL mixed Tryz.func65 Ho (rs := [.sl 1 (List.map PV.str r)]) rfl rfl ?_
 refine AA (AB ?_)
 refine wq rfl ?_
 refine AA (AB ?_)
 iterate 2 refine wq rfl ?_
 obtain ⟨x7, hx7, h⟩ := AP h
 refine CW rfl (CX (UH N _ _ _ _ _ hx7) rfl (.cons A9 (.cons A9 (.cons A9 (.cons A9 .nil)))) rfl rfl rfl) ?_
 refine wq rfl ?_
 obtain rfl := AO h
 refine BR ?_
 exact ⟨nofun, rfl, rfl⟩
def pY : IC := (.seq (.reg [jb .lss 20 19 18]) (.seq (.cond (.t 20) .skip (.exit 0)) (.seq (.block 1 (.seq (.reg [jm 21 19, jx 22 1 17 19, jl 23 1 22, jm 6 21, jm 7 23]) (.seq (.reg [jm 25 7, jn 26 (.call 66 [(.t 25), (ji 10), (ji 64)]), jm 24 26, je 27 0 24, je 28 1 24, jm 8 27, jm 9 28]) (.seq (.seq (.reg [jm 29 9, jn 30 (.eqi true (.t 29)), jm 31 30, jf 31 32 (.mov (.t 8)), jf 31 33 (.bin .lss (.t 32) (ji 0)), jo 34 31 33, jm 35 34, jf 35 36 (.mov (.t 8)), jf 35 37 (.bin .gtr (.t 36) (ji 1099511627776)), jo 38 35 37]) (.cond (.t 38) (.seq (.reg [jn 39 (.build [(j6 0), (j6 0), (j6 0)] []), js 3 2 39, jc 3 (j6 14)]) .ret) .skip)) (.reg [jm 40 6, jm 41 8, jn 42 (.ixq 3 1 (.t 5) (.t 40)), js 1 42 41]))))) (.reg [ju .add 43 19 1, jm 19 43]))))
def k45 : IC := (.seq (.reg [jn 2 (.box 23 (.c (.agg [(j6 0), (j6 0), (j6 0)]))), jc 3 (j6 0)]) (.seq (.reg [jm 11 0, jn 12 (.call 65 [(.t 11), (.c (.str [46]))]), jm 4 12]) (.seq (.seq (.reg [jm 13 4, jL 14 13, ju .neq 15 14 3]) (.cond (.t 15) (.seq (.reg [jn 16 (.build [(j6 0), (j6 0), (j6 0)] []), js 3 2 16, jc 3 (j6 14)]) .ret) .skip)) (.seq (.reg [jn 5 (.box 102 (.c (.agg [(j6 0), (j6 0), (j6 0)])))]) (.seq (.seq (.reg [jm 17 4, jL 18 17, jc 19 (j6 0)]) (.block 0 (.loop pY))) (.seq (.reg [jn 44 (.ixq 3 1 (.t 5) (ji 0)), jl 45 1 44, jn 46 (.ixq 3 1 (.t 5) (ji 1)), jl 47 1 46, jn 48 (.ixq 3 1 (.t 5) (ji 2)), jl 49 1 48, jn 50 (.build [(j6 0), (j6 0), (j6 0)] [(0, (1, (.t 45))), (1, (1, (.t 47))), (2, (1, (.t 49)))]), jn 10 (.box 23 (.c (.agg [(j6 0), (j6 0), (j6 0)]))), js 3 10 50]) (.seq (.seq (.reg [jg 51 3 10, jn 52 (.call 24 [(.t 51)]), jn 53 (.un .not (.t 52)), jm 54 53, jf 54 55 (.load 3 true (.t 10)), jf 54 56 (.call 50 [(.t 55)]), jf 54 57 (.mov (.t 0)), jf 54 58 (.bin .neq (.t 56) (.t 57)), jo 59 54 58]) (.cond (.t 59) (.seq (.reg [jn 60 (.build [(j6 0), (j6 0), (j6 0)] []), js 3 2 60, jc 3 (j6 14)]) .ret) .skip)) (.seq (.reg [jg 61 3 10, js 3 2 61, jc 3 (j6 0)]) .ret))))))))
theorem Il : BV Tryz.prog Tryz.f45 = some ⟨62, k45, [(.cell 3 true 2), (.tmp 3)]⟩ := by kernel_rfl
theorem ZI (N : Nat) (a0 : List UInt8) (KW : List (List UInt8)) : ∀ (n : Nat) (x : Int × List Int) (y : (List Int) ⊕ (AQ × Int)), O4 N a0 KW n x = some y → WX Tryz.prog (fun _ => false) (.loop pY) ((fun (x : Int × List Int) => ⟨AX [(0, .str a0), (2, .ptr 72002 0 0), (5, .ptr 72005 0 0), (17, .sl 1 (List.map PV.str KW)), (18, j6 (KW.length : Int)), (19, j6 x.1)], AX [(72002, ⟨3, false, [.agg [j6 0, j6 0, j6 0]]⟩), (72005, ⟨3, true, [.agg (List.map ei x.2)]⟩)]⟩) x) ((Sum.elim (fun y e s => e = .exit 0 ∧ s = ⟨AX [(0, .str a0), (2, .ptr 72002 0 0), (5, .ptr 72005 0 0)], AX [(72002, ⟨3, false, [.agg [j6 0, j6 0, j6 0]]⟩), (72005, ⟨3, true, [.agg (List.map ei y)]⟩)]⟩) (fun y e s => e = .ret ∧ s = ⟨AX [(2, .ptr 72002 0 0), (3, j6 y.2)], AX [(72002, ⟨3, false, [GH y.1]⟩)]⟩) : ((List Int) ⊕ (AQ × Int)) → Xt → St → Prop) y) := by
 refine F5 _ _ (O4 N a0 KW) (U8 N a0 KW) (fun _ => rfl) (fun _ _ => rfl) ?_
 rintro rec ⟨TB, NR⟩ y h
 refine AA (AB ?_)
 refine wq rfl ?_
 refine AA ?_
 refine EP h rfl (fun c2 h => ?_) (fun c2 h => ?_)
 refine BH (AA (CJ (AA (AB ?_))))
 refine wq rfl ?_
 obtain ⟨YW, bL, h⟩ := AP h
 refine AZ rfl (EU (cs := [.str YW]) bL rfl rfl rfl) ?_
 iterate 3 refine wq rfl ?_
 refine AA (AB ?_)
 refine wq rfl ?_
 obtain ⟨IR, iT, h⟩ := AP h
 refine CW rfl (CX (UI N _ _ _ _ iT) rfl (.cons A9 (.cons A9 (.cons A9 .nil))) rfl rfl rfl) ?_
 iterate 5 refine wq rfl ?_
 refine AA ?_
 obtain ⟨g3, hg3, h⟩ := AP h
 refine GZ ⟨AX [(0, .str a0), (2, .ptr 72002 0 0), (5, .ptr 72005 0 0), (6, j6 TB), (8, j6 IR.1), (17, .sl 1 (List.map PV.str KW)), (18, j6 (KW.length : Int)), (19, j6 TB), (38, .bool g3)], AX [(72002, ⟨3, false, [.agg [j6 0, j6 0, j6 0]]⟩), (72005, ⟨3, true, [.agg (List.map ei NR)]⟩)]⟩ ?_ ?_
 have h := hg3
 refine AB ?_
 refine wq rfl ?_
 refine AZ rfl (Gd rfl) ?_
 refine wq rfl ?_
 rcases CY h with ⟨c4, h⟩ | ⟨c4, h⟩
 iterate 2 refine D7 (gn rfl c4) ?_
 refine AZ rfl (BG c4 rfl rfl) ?_
 refine wq rfl ?_
 iterate 2 refine D7 rfl ?_
 refine wq rfl ?_
 obtain rfl := AO h
 exact cq rfl
 iterate 2 refine AZ (gy rfl c4) rfl ?_
 refine AZ rfl (BD c4 rfl rfl) ?_
 refine wq rfl ?_
 rcases CY h with ⟨c5, h⟩ | ⟨c5, h⟩
 iterate 2 refine D7 (gn rfl c5) ?_
 refine AZ rfl (BG c5 rfl rfl) ?_
 obtain rfl := AO h
 exact cq rfl
 iterate 2 refine AZ (gy rfl c5) rfl ?_
 refine AZ rfl (BD c5 rfl rfl) ?_
 cases AO h
 exact cq rfl
 clear hg3
 refine EP h rfl (fun c6 h => ?_) (fun c6 h => ?_)
 refine AA (AB ?_)
 refine AZ (p := .agg [j6 0, j6 0, j6 0]) rfl rfl ?_
 refine ED (e' := .agg [j6 0, j6 0, j6 0]) rfl rfl rfl rfl rfl rfl rfl rfl nofun rfl ?_
 refine wq rfl ?_
 cases AO h
 exact EX (st1 := ⟨AX [(2, .ptr 72002 0 0), (3, j6 14)], AX [(72002, ⟨3, false, [GH (⟨0, 0, 0⟩ : AQ)]⟩)]⟩) (cq rfl) ⟨rfl, rfl⟩
 refine BH (AB ?_)
 iterate 2 refine wq rfl ?_
 obtain ⟨Fg, Cj, h⟩ := AP h
 refine AZ rfl (p_ixq Cj rfl rfl rfl rfl) ?_
 obtain ⟨tO, nI, h⟩ := AP h
 refine wstq (f := ei) (e' := IR.1) nI rfl rfl rfl rfl (De Cj) rfl rfl (fun _ => rfl) ?_
 refine AB ?_
 refine AZ (p := j6 (BX (TB + (1 : Int)))) rfl rfl ?_
 refine wq rfl ?_
 exact ⟨((BX (TB + (1 : Int))), (NR.set Fg IR.1)), (cq rfl), h⟩
 obtain rfl := AO h
 exact D9 (st1 := ⟨AX [(0, .str a0), (2, .ptr 72002 0 0), (5, .ptr 72005 0 0)], AX [(72002, ⟨3, false, [.agg [j6 0, j6 0, j6 0]]⟩), (72005, ⟨3, true, [.agg (List.map ei NR)]⟩)]⟩) (cq rfl) ⟨rfl, rfl⟩
theorem RG (N : Nat) (a0 : List UInt8) (r : AQ × Int) (h : VD N a0 = some r) : Sat Tryz.prog 45 AC [.str a0] (.tup [GH r.1, j6 r.2]) AC := by
 refine EL mixed Tryz.func45 Il (rs := [GH r.1, j6 r.2]) rfl rfl ?_
 refine AA (AB ?_)
 refine CW rfl (F8 72002 rfl rfl rfl rfl rfl) ?_
 refine wq rfl ?_
 refine AA (AB ?_)
 refine wq rfl ?_
 obtain ⟨KW, YN, h⟩ := AP h
 refine CW rfl (CX (X9 N _ _ _ YN) rfl (.cons A9 (.cons A9 .nil)) rfl rfl rfl) ?_
 refine wq rfl ?_
 iterate 2 refine AA ?_
 refine AB ?_
 refine wq rfl ?_
 refine AZ rfl (CO rfl) ?_
 refine wq rfl ?_
 refine EP h rfl (fun c1 h => ?_) (fun c1 h => ?_)
 refine AA (AB ?_)
 refine AZ (p := .agg [j6 0, j6 0, j6 0]) rfl rfl ?_
 refine ED (e' := .agg [j6 0, j6 0, j6 0]) rfl rfl rfl rfl rfl rfl rfl rfl nofun rfl ?_
 refine wq rfl ?_
 cases AO h
 refine BR ?_
 exact ⟨nofun, rfl, rfl⟩
 refine BH (AA (AB ?_))
 refine CW rfl (F8 72005 rfl rfl rfl rfl rfl) ?_
 refine NH (boxpr 72005 rfl rfl) ?_
 iterate 2 refine AA ?_
 refine AB ?_
 refine wq rfl ?_
 refine AZ rfl (CO rfl) ?_
 refine wq rfl ?_
 refine CJ ?_
 obtain ⟨y8, zW, h⟩ := AP h
 refine PQ (ZI N a0 KW N _ _ zW) (cq rfl) ?_
 clear zW
 rcases y8 with y8 | y8
 rintro e s ⟨rfl, rfl⟩
 refine AA (AB ?_)
 refine wq rfl ?_
 obtain ⟨jI, wZ, h⟩ := AP h
 refine AZ rfl (vF (f := ei) wZ rfl rfl) ?_
 refine wq rfl ?_
 obtain ⟨Y1, iR, h⟩ := AP h
 refine AZ rfl (vF (f := ei) iR rfl rfl) ?_
 refine wq rfl ?_
 obtain ⟨ZE, wY, h⟩ := AP h
 refine AZ rfl (vF (f := ei) wY rfl rfl) ?_
 refine AZ (p := .agg [j6 jI, j6 Y1, j6 ZE]) rfl rfl ?_
 refine CW rfl (F8 72010 rfl rfl rfl rfl rfl) ?_
 refine ED (e' := .agg [j6 jI, j6 Y1, j6 ZE]) rfl rfl rfl rfl rfl rfl rfl rfl nofun rfl ?_
 refine AA ?_
 obtain ⟨g9, hg9, h⟩ := AP h
 refine GZ ⟨AX [(2, .ptr 72002 0 0), (10, .ptr 72010 0 0), (59, .bool g9)], AX [(72002, ⟨3, false, [.agg [j6 0, j6 0, j6 0]]⟩), (72010, ⟨3, false, [.agg [j6 jI, j6 Y1, j6 ZE]]⟩)]⟩ ?_ ?_
 have h := hg9
 refine AB ?_
 refine AZ (p := .agg [j6 jI, j6 Y1, j6 ZE]) rfl rfl ?_
 obtain ⟨LQ, wX, h⟩ := AP h
 refine CW rfl (CX (TK N _ _ wX) rfl (.cons A9 .nil) rfl rfl rfl) ?_
 iterate 2 refine wq rfl ?_
 rcases CY h with ⟨c10, h⟩ | ⟨c10, h⟩
 iterate 4 refine D7 (gn rfl c10) ?_
 refine AZ rfl (BG c10 rfl rfl) ?_
 obtain rfl := AO h
 exact cq rfl
 refine AZ (p := .agg [j6 jI, j6 Y1, j6 ZE]) (gy rfl c10) rfl ?_
 obtain ⟨x56, hx56, h⟩ := AP h
 refine CW (gy rfl c10) (CX (XE N _ _ hx56) rfl (.cons A9 .nil) rfl rfl rfl) ?_
 iterate 2 refine AZ (gy rfl c10) rfl ?_
 refine AZ rfl (BD c10 rfl rfl) ?_
 cases AO h
 exact cq rfl
 clear hg9
 refine EP h rfl (fun c11 h => ?_) (fun c11 h => ?_)
 refine AA (AB ?_)
 refine AZ (p := .agg [j6 0, j6 0, j6 0]) rfl rfl ?_
 refine ED (e' := .agg [j6 0, j6 0, j6 0]) rfl rfl rfl rfl rfl rfl rfl rfl nofun rfl ?_
 refine wq rfl ?_
 cases AO h
 refine BR ?_
 exact ⟨nofun, rfl, rfl⟩
 refine BH (AA (AB ?_))
 refine AZ (p := .agg [j6 jI, j6 Y1, j6 ZE]) rfl rfl ?_
 refine ED (e' := .agg [j6 jI, j6 Y1, j6 ZE]) rfl rfl rfl rfl rfl rfl rfl rfl nofun rfl ?_
 refine wq rfl ?_
 cases AO h
 refine BR ?_
 exact ⟨nofun, rfl, rfl⟩
 rintro e s ⟨rfl, rfl⟩
 cases AO h
 exact ⟨nofun, rfl, rfl⟩
end Go.Gp
end
