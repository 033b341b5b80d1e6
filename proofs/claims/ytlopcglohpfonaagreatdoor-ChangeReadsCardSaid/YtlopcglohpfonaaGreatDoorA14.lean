/- A part of the proof: functions of the program and what they compute. -/
import Derived.Test.YtlopcglohpfonaaGreatDoorA5
import Derived.Test.YtlopcglohpfonaaGreatDoorA6
import Derived.Test.YtlopcglohpfonaaGreatDoorA13
import Derived.Test.YtlopcglohpfonaaGreatDoorA9
import Derived.Test.YtlopcglohpfonaaGreatDoorA4
import Derived.Test.YtlopcglohpfonaaGreatDoorA11
import Derived.Test.YtlopcglohpfonaaGreatDoorA12
section
set_option linter.unusedVariables false
set_option linter.unusedSimpArgs false
set_option maxRecDepth 4000
set_option maxHeartbeats 4000000
namespace Go.Gp
open Go.Vd Go.RowKit Go.Proofs
def KI : List (List Nat) := [[], [0], [], [1, 2], [3], [], [5], [], [6, 7], [8], [], [], [10, 4, 0, 1, 2, 3, 4, 10, 11], [11, 9, 12, 0, 1, 2, 3, 4, 5, 6, 7, 8, 9, 10, 11, 12]]
def KH : List Ins := [ja 66 12 2, jl 67 1 66, jm 68 5, jx 69 3 67 68, jg 70 3 69, ja 71 12 3, jl 72 1 71, jm 73 5, jx 74 3 72 73, jg 75 3 74, jn 6 (.box 44 (.c (.agg [(j6 0), (.str []), .nl]))), jn 7 (.box 44 (.c (.agg [(j6 0), (.str []), .nl]))), js 3 6 70, js 3 7 75]
def zL : IC := (.seq (.seq (.reg [jm 97 8, ja 98 2 6, jl 99 1 98, jL 100 99, jb .lss 101 97 100]) (.cond (.t 101) .skip (.exit 2))) (.seq (.block 3 (.seq (.regd 11 [ja 104 2 6, jl 105 1 104, jm 106 8, jx 107 1 105 106, jl 108 1 107, ja 109 2 7, jl 110 1 109, jm 111 8, jx 112 1 110 111, jl 113 1 112, jb .neq 114 108 113]) (.cond (.t 114) (.seq (.reg [jc 4 (.bool false)]) .ret) .skip))) (.reg [jm 102 8, ju .add 103 102 1, jm 8 103])))
def zM : IC := (.seq (.seq (.reg [jm 59 5, ja 60 12 2, jl 61 1 60, jL 62 61, jb .lss 63 59 62]) (.cond (.t 63) .skip (.exit 0))) (.seq (.block 1 (.seq (.regf 12 [5, 6, 7, 8, 9] KI KH) (.seq (.seq (.reg [ja 76 0 6, jl 77 1 76, ja 78 0 7, jl 79 1 78, jb .neq 80 77 79, jm 81 80, jf 81 82 (.fda 1 (.t 6)), jf 81 83 (.load 1 false (.t 82)), jf 81 84 (.fda 1 (.t 7)), jf 81 85 (.load 1 false (.t 84)), jf 81 86 (.bin .neq (.t 83) (.t 85)), jo 87 81 86, jm 88 87, jf 88 89 (.fda 2 (.t 6)), jf 88 90 (.load 1 false (.t 89)), jf 88 91 (.len false (.t 90)), jf 88 92 (.fda 2 (.t 7)), jf 88 93 (.load 1 false (.t 92)), jf 88 94 (.len false (.t 93)), jf 88 95 (.bin .neq (.t 91) (.t 94)), jo 96 88 95]) (.cond (.t 96) (.seq (.reg [jc 4 (.bool false)]) .ret) .skip)) (.seq (.reg [jc 8 (j6 0)]) (.block 2 (.loop zL)))))) (.reg [jm 64 5, ju .add 65 64 1, jm 5 65])))
def k13 : IC := (.seq (.reg [jn 2 (.box 28 (.t 0)), jn 3 (.box 28 (.t 1)), jc 4 (.bool false)]) (.seq (.seq (.reg [ja 9 0 2, jg 10 3 9, ja 11 0 3, jg 12 3 11, jn 13 (.eqs true [(.i .i64), (.i .i64), (.i .i64)] (.t 10) (.t 12)), jm 14 13, jf 14 15 (.fda 3 (.t 2)), jf 14 16 (.load 1 false (.t 15)), jf 14 17 (.fda 3 (.t 3)), jf 14 18 (.load 1 false (.t 17)), jf 14 19 (.bin .neq (.t 16) (.t 18)), jo 20 14 19, jm 21 20, jf 21 22 (.fda 4 (.t 2)), jf 21 23 (.load 3 true (.t 22)), jf 21 24 (.fda 4 (.t 3)), jf 21 25 (.load 3 true (.t 24)), jf 21 26 (.eqs true [(.i .i64), (.i .i64), (.i .i64)] (.t 23) (.t 25)), jo 27 21 26, jm 28 27, jf 28 29 (.fda 7 (.t 2)), jf 28 30 (.load 3 true (.t 29)), jf 28 31 (.fda 7 (.t 3)), jf 28 32 (.load 3 true (.t 31)), jf 28 33 (.eqs true [(.i .i64), (.i .i64), (.i .i64)] (.t 30) (.t 32)), jo 34 28 33, jm 35 34, jf 35 36 (.fda 11 (.t 2)), jf 35 37 (.load 1 false (.t 36)), jf 35 38 (.fda 11 (.t 3)), jf 35 39 (.load 1 false (.t 38)), jf 35 40 (.beq true (.t 37) (.t 39)), jo 41 35 40, jm 42 41, jf 42 43 (.fda 10 (.t 2)), jf 42 44 (.load 1 false (.t 43)), jf 42 45 (.fda 10 (.t 3)), jf 42 46 (.load 1 false (.t 45)), jf 42 47 (.call 39 [(.t 44), (.t 46)]), jf 42 48 (.un .not (.t 47)), jo 49 42 48, jm 50 49, jf 50 51 (.fda 12 (.t 2)), jf 50 52 (.load 1 false (.t 51)), jf 50 53 (.len false (.t 52)), jf 50 54 (.fda 12 (.t 3)), jf 50 55 (.load 1 false (.t 54)), jf 50 56 (.len false (.t 55)), jf 50 57 (.bin .neq (.t 53) (.t 56)), jo 58 50 57]) (.cond (.t 58) (.seq (.reg [jc 4 (.bool false)]) .ret) .skip)) (.seq (.seq (.reg [jc 5 (j6 0)]) (.block 0 (.loop zM))) (.seq (.reg [jc 4 (.bool true)]) .ret))))
theorem Wn : BV Tryz.prog Tryz.f13 = some ⟨115, k13, [(.tmp 4)]⟩ := by kernel_rfl
theorem SI (N : Nat) (a0 : AX) (a1 : AX) (v5l14 : Int) (x69 : BD) (RH : BD) : ∀ (n : Nat) (x : Int) (y : Unit ⊕ Bool), DU N a0 a1 v5l14 x69 RH n x = some y → WX Tryz.prog (fun _ => false) (.loop zL) ((fun (x : Int) => ⟨AY [(2, .ptr 20802 0 0), (3, .ptr 20803 0 0), (5, j6 v5l14), (6, .ptr 20806 0 0), (7, .ptr 20807 0 0), (8, j6 x)], AY [(20802, ⟨13, false, [AR a0]⟩), (20803, ⟨13, false, [AR a1]⟩), (20806, ⟨3, false, [AU x69]⟩), (20807, ⟨3, false, [AU RH]⟩)]⟩) x) ((Sum.elim (fun y e s => e = .exit 2 ∧ s = ⟨AY [(2, .ptr 20802 0 0), (3, .ptr 20803 0 0), (5, j6 v5l14)], AY [(20802, ⟨13, false, [AR a0]⟩), (20803, ⟨13, false, [AR a1]⟩)]⟩) (fun y e s => e = .ret ∧ s = ⟨AY [(4, .bool y)], AY []⟩) : (Unit ⊕ Bool) → Xt → St → Prop) y) := by
 refine EP _ _ (DU N a0 a1 v5l14 x69 RH) (GL N a0 a1 v5l14 x69 RH) (fun _ => rfl) (fun _ _ => rfl) ?_
 rintro rec v8l36 y h
 iterate 2 refine AC ?_
 refine AB ?_
 iterate 3 refine wq rfl ?_
 refine AQ rfl (BU rfl) ?_
 refine wq rfl ?_
 refine D5 h rfl (fun c14 h => ?_) (fun c14 h => ?_)
 refine BF (AC (BZ (AC (P6 ?_))))
 iterate 3 refine dq rfl ?_
 obtain ⟨x107, hx107, h⟩ := AJ h
 refine JN rfl (DF (cs := [.str x107]) hx107 rfl rfl rfl) ?_
 iterate 4 refine dq rfl ?_
 obtain ⟨x112, hx112, h⟩ := AJ h
 refine JN rfl (DF (cs := [.str x112]) hx112 rfl rfl rfl) ?_
 iterate 2 refine dq rfl ?_
 refine D5 h rfl (fun c15 h => ?_) (fun c15 h => ?_)
 refine AC (AB ?_)
 refine wq rfl ?_
 obtain rfl := AA h
 exact DL (st1 := ⟨AY [(4, .bool false)], AY []⟩) (cq rfl) ⟨rfl, rfl⟩
 refine BF (AB ?_)
 refine wq rfl ?_
 refine AQ (p := j6 (BM (v8l36 + (1 : Int)))) rfl rfl ?_
 refine wq rfl ?_
 exact ⟨(BM (v8l36 + (1 : Int))), (cq rfl), h⟩
 cases AA h
 exact CU (st1 := ⟨AY [(2, .ptr 20802 0 0), (3, .ptr 20803 0 0), (5, j6 v5l14)], AY [(20802, ⟨13, false, [AR a0]⟩), (20803, ⟨13, false, [AR a1]⟩)]⟩) (cq rfl) ⟨rfl, rfl⟩
theorem SK (N : Nat) (a0 : AX) (a1 : AX) : ∀ (n : Nat) (x : Int) (y : Unit ⊕ Bool), DV N a0 a1 n x = some y → WX Tryz.prog (fun _ => false) (.loop zM) ((fun (x : Int) => ⟨AY [(2, .ptr 20802 0 0), (3, .ptr 20803 0 0), (5, j6 x)], AY [(20802, ⟨13, false, [AR a0]⟩), (20803, ⟨13, false, [AR a1]⟩)]⟩) x) ((Sum.elim (fun y e s => e = .exit 0 ∧ s = ⟨AY [], AY []⟩) (fun y e s => e = .ret ∧ s = ⟨AY [(4, .bool y)], AY []⟩) : (Unit ⊕ Bool) → Xt → St → Prop) y) := by
 refine EP _ _ (DV N a0 a1) (GM N a0 a1) (fun _ => rfl) (fun _ _ => rfl) ?_
 rintro rec v5l14 y h
 iterate 2 refine AC ?_
 refine AB ?_
 iterate 3 refine wq rfl ?_
 refine AQ rfl (BU rfl) ?_
 refine wq rfl ?_
 refine D5 h rfl (fun c9 h => ?_) (fun c9 h => ?_)
 refine BF (AC (BZ (AC ?_)))
 obtain ⟨x69, Xe, h⟩ := AJ h
 obtain ⟨RH, Xd, h⟩ := AJ h
 refine Qc ⟨AY [(2, .ptr 20802 0 0), (3, .ptr 20803 0 0), (5, j6 v5l14), (6, .ptr 20806 0 0), (7, .ptr 20807 0 0)], AY [(20802, ⟨13, false, [AR a0]⟩), (20803, ⟨13, false, [AR a1]⟩), (20806, ⟨3, false, [AU x69]⟩), (20807, ⟨3, false, [AU RH]⟩)]⟩ [[], [9], [8, 9], [7, 8, 9], [6, 8, 9], [6, 7, 8, 9], [5, 6, 8, 9], [5, 6, 7, 8, 9]] rfl ?_ ?_
 iterate 3 refine dq rfl ?_
 refine JN rfl (DF (cs := [j6 x69.Kind, .str x69.Attr, .sl 1 (List.map PV.str x69.Values)]) Xe rfl rfl rfl) ?_
 refine JN (p := AU x69) rfl rfl ?_
 iterate 3 refine dq rfl ?_
 refine JN rfl (DF (cs := [j6 RH.Kind, .str RH.Attr, .sl 1 (List.map PV.str RH.Values)]) Xd rfl rfl rfl) ?_
 refine JN (p := AU RH) rfl rfl ?_
 refine VG rfl (.box _ 20806 rfl (Nat.le_of_ble_eq_true rfl) (by decide) rfl) (RY rfl) ?_
 refine VG rfl (.box _ 20807 rfl (Nat.le_of_ble_eq_true rfl) (by decide) rfl) (RY rfl) ?_
 have Yi : AnyW Tryz.prog (fun _ => false) KI KH 0 [0, 1, 2, 3, 4, 5, 6, 7, 8, 9, 10, 11, 12, 13] ⟨AY [(2, .ptr 20802 0 0), (3, .ptr 20803 0 0), (5, j6 v5l14), (6, .ptr 20806 0 0), (7, .ptr 20807 0 0)], AY [(20802, ⟨13, false, [AR a0]⟩), (20803, ⟨13, false, [AR a1]⟩), (20806, ⟨3, false, [AU x69]⟩), (20807, ⟨3, false, [AU RH]⟩)]⟩ ⟨AY [(2, .ptr 20802 0 0), (3, .ptr 20803 0 0), (5, j6 v5l14), (6, .ptr 20806 0 0), (7, .ptr 20807 0 0)], AY [(20802, ⟨13, false, [AR a0]⟩), (20803, ⟨13, false, [AR a1]⟩), (20806, ⟨3, false, [AU x69]⟩), (20807, ⟨3, false, [AU RH]⟩)]⟩ := by
  exact yend rfl (cq rfl)
 have Kh : AnyW Tryz.prog (fun _ => false) KI KH 1 [0, 1, 2, 3, 4, 5, 6, 7, 8, 9, 10, 11, 12] ⟨AY [(2, .ptr 20802 0 0), (3, .ptr 20803 0 0), (5, j6 v5l14), (6, .ptr 20806 0 0), (7, .ptr 20807 0 0), (75, AU RH)], AY [(20802, ⟨13, false, [AR a0]⟩), (20803, ⟨13, false, [AR a1]⟩), (20806, ⟨3, false, [AU x69]⟩), (20807, ⟨3, false, [.agg [j6 0, .str ([] : List UInt8), .nl]]⟩)]⟩ ⟨AY [(2, .ptr 20802 0 0), (3, .ptr 20803 0 0), (5, j6 v5l14), (6, .ptr 20806 0 0), (7, .ptr 20807 0 0)], AY [(20802, ⟨13, false, [AR a0]⟩), (20803, ⟨13, false, [AR a1]⟩), (20806, ⟨3, false, [AU x69]⟩), (20807, ⟨3, false, [AU RH]⟩)]⟩ := by
  refine yc (l := [13]) rfl nofun ⟨⟨_, rfl, ?_⟩, trivial⟩
  refine EW (e' := AU RH) rfl rfl rfl rfl rfl rfl rfl rfl nofun rfl ?_
  exact AnyW.of Yi rfl (cq rfl)
 have Rb : AnyW Tryz.prog (fun _ => false) KI KH 2 [0, 1, 2, 3, 4, 5, 6, 7, 8, 9, 10, 11] ⟨AY [(2, .ptr 20802 0 0), (3, .ptr 20803 0 0), (5, j6 v5l14), (6, .ptr 20806 0 0), (7, .ptr 20807 0 0), (70, AU x69), (75, AU RH)], AY [(20802, ⟨13, false, [AR a0]⟩), (20803, ⟨13, false, [AR a1]⟩), (20806, ⟨3, false, [.agg [j6 0, .str ([] : List UInt8), .nl]]⟩), (20807, ⟨3, false, [.agg [j6 0, .str ([] : List UInt8), .nl]]⟩)]⟩ ⟨AY [(2, .ptr 20802 0 0), (3, .ptr 20803 0 0), (5, j6 v5l14), (6, .ptr 20806 0 0), (7, .ptr 20807 0 0)], AY [(20802, ⟨13, false, [AR a0]⟩), (20803, ⟨13, false, [AR a1]⟩), (20806, ⟨3, false, [AU x69]⟩), (20807, ⟨3, false, [AU RH]⟩)]⟩ := by
  refine yc (l := [12]) rfl nofun ⟨⟨_, rfl, ?_⟩, trivial⟩
  refine EW (e' := AU x69) rfl rfl rfl rfl rfl rfl rfl rfl nofun rfl ?_
  exact AnyW.of Kh rfl (cq rfl)
 have Ki : AnyW Tryz.prog (fun _ => false) KI KH 2 [0, 1, 2, 3, 4, 5, 6, 7, 8, 10, 11, 12] ⟨AY [(2, .ptr 20802 0 0), (3, .ptr 20803 0 0), (5, j6 v5l14), (6, .ptr 20806 0 0), (7, .ptr 20807 0 0), (74, .ep [j6 RH.Kind, .str RH.Attr, .sl 1 (List.map PV.str RH.Values)])], AY [(20802, ⟨13, false, [AR a0]⟩), (20803, ⟨13, false, [AR a1]⟩), (20806, ⟨3, false, [AU x69]⟩), (20807, ⟨3, false, [.agg [j6 0, .str ([] : List UInt8), .nl]]⟩)]⟩ ⟨AY [(2, .ptr 20802 0 0), (3, .ptr 20803 0 0), (5, j6 v5l14), (6, .ptr 20806 0 0), (7, .ptr 20807 0 0)], AY [(20802, ⟨13, false, [AR a0]⟩), (20803, ⟨13, false, [AR a1]⟩), (20806, ⟨3, false, [AU x69]⟩), (20807, ⟨3, false, [AU RH]⟩)]⟩ := by
  refine yc (l := [9]) rfl nofun ⟨⟨_, rfl, ?_⟩, trivial⟩
  refine AQ (p := AU RH) rfl rfl ?_
  exact AnyW.of Kh rfl (cq rfl)
 have Rc : AnyW Tryz.prog (fun _ => false) KI KH 3 [0, 1, 2, 3, 4, 5, 6, 7, 8, 10, 11] ⟨AY [(2, .ptr 20802 0 0), (3, .ptr 20803 0 0), (5, j6 v5l14), (6, .ptr 20806 0 0), (7, .ptr 20807 0 0), (70, AU x69), (74, .ep [j6 RH.Kind, .str RH.Attr, .sl 1 (List.map PV.str RH.Values)])], AY [(20802, ⟨13, false, [AR a0]⟩), (20803, ⟨13, false, [AR a1]⟩), (20806, ⟨3, false, [.agg [j6 0, .str ([] : List UInt8), .nl]]⟩), (20807, ⟨3, false, [.agg [j6 0, .str ([] : List UInt8), .nl]]⟩)]⟩ ⟨AY [(2, .ptr 20802 0 0), (3, .ptr 20803 0 0), (5, j6 v5l14), (6, .ptr 20806 0 0), (7, .ptr 20807 0 0)], AY [(20802, ⟨13, false, [AR a0]⟩), (20803, ⟨13, false, [AR a1]⟩), (20806, ⟨3, false, [AU x69]⟩), (20807, ⟨3, false, [AU RH]⟩)]⟩ := by
  refine yc (l := [9, 12]) rfl nofun ⟨⟨_, rfl, ?_⟩, ⟨_, rfl, ?_⟩, trivial⟩
  refine AQ (p := AU RH) rfl rfl ?_
  exact AnyW.of Rb rfl (cq rfl)
  refine EW (e' := AU x69) rfl rfl rfl rfl rfl rfl rfl rfl nofun rfl ?_
  exact AnyW.of Ki rfl (cq rfl)
 have wX : AnyW Tryz.prog (fun _ => false) KI KH 3 [0, 1, 2, 3, 4, 5, 6, 7, 10, 11, 12] ⟨AY [(2, .ptr 20802 0 0), (3, .ptr 20803 0 0), (5, j6 v5l14), (6, .ptr 20806 0 0), (7, .ptr 20807 0 0), (72, .sl 3 (List.map AU a1.Mods)), (73, j6 v5l14)], AY [(20802, ⟨13, false, [AR a0]⟩), (20803, ⟨13, false, [AR a1]⟩), (20806, ⟨3, false, [AU x69]⟩), (20807, ⟨3, false, [.agg [j6 0, .str ([] : List UInt8), .nl]]⟩)]⟩ ⟨AY [(2, .ptr 20802 0 0), (3, .ptr 20803 0 0), (5, j6 v5l14), (6, .ptr 20806 0 0), (7, .ptr 20807 0 0)], AY [(20802, ⟨13, false, [AR a0]⟩), (20803, ⟨13, false, [AR a1]⟩), (20806, ⟨3, false, [AU x69]⟩), (20807, ⟨3, false, [AU RH]⟩)]⟩ := by
  refine yc (l := [8]) rfl nofun ⟨⟨_, rfl, ?_⟩, trivial⟩
  refine AQ rfl (DF (cs := [j6 RH.Kind, .str RH.Attr, .sl 1 (List.map PV.str RH.Values)]) Xd rfl rfl rfl) ?_
  exact AnyW.of Ki rfl (cq rfl)
 have Ke : AnyW Tryz.prog (fun _ => false) KI KH 4 [0, 1, 2, 3, 4, 5, 6, 7, 10, 11] ⟨AY [(2, .ptr 20802 0 0), (3, .ptr 20803 0 0), (5, j6 v5l14), (6, .ptr 20806 0 0), (7, .ptr 20807 0 0), (70, AU x69), (72, .sl 3 (List.map AU a1.Mods)), (73, j6 v5l14)], AY [(20802, ⟨13, false, [AR a0]⟩), (20803, ⟨13, false, [AR a1]⟩), (20806, ⟨3, false, [.agg [j6 0, .str ([] : List UInt8), .nl]]⟩), (20807, ⟨3, false, [.agg [j6 0, .str ([] : List UInt8), .nl]]⟩)]⟩ ⟨AY [(2, .ptr 20802 0 0), (3, .ptr 20803 0 0), (5, j6 v5l14), (6, .ptr 20806 0 0), (7, .ptr 20807 0 0)], AY [(20802, ⟨13, false, [AR a0]⟩), (20803, ⟨13, false, [AR a1]⟩), (20806, ⟨3, false, [AU x69]⟩), (20807, ⟨3, false, [AU RH]⟩)]⟩ := by
  refine yc (l := [8, 12]) rfl nofun ⟨⟨_, rfl, ?_⟩, ⟨_, rfl, ?_⟩, trivial⟩
  refine AQ rfl (DF (cs := [j6 RH.Kind, .str RH.Attr, .sl 1 (List.map PV.str RH.Values)]) Xd rfl rfl rfl) ?_
  exact AnyW.of Rc rfl (cq rfl)
  refine EW (e' := AU x69) rfl rfl rfl rfl rfl rfl rfl rfl nofun rfl ?_
  exact AnyW.of wX rfl (cq rfl)
 have Kj : AnyW Tryz.prog (fun _ => false) KI KH 4 [0, 1, 2, 3, 4, 5, 6, 10, 11, 12] ⟨AY [(2, .ptr 20802 0 0), (3, .ptr 20803 0 0), (5, j6 v5l14), (6, .ptr 20806 0 0), (7, .ptr 20807 0 0), (72, .sl 3 (List.map AU a1.Mods))], AY [(20802, ⟨13, false, [AR a0]⟩), (20803, ⟨13, false, [AR a1]⟩), (20806, ⟨3, false, [AU x69]⟩), (20807, ⟨3, false, [.agg [j6 0, .str ([] : List UInt8), .nl]]⟩)]⟩ ⟨AY [(2, .ptr 20802 0 0), (3, .ptr 20803 0 0), (5, j6 v5l14), (6, .ptr 20806 0 0), (7, .ptr 20807 0 0)], AY [(20802, ⟨13, false, [AR a0]⟩), (20803, ⟨13, false, [AR a1]⟩), (20806, ⟨3, false, [AU x69]⟩), (20807, ⟨3, false, [AU RH]⟩)]⟩ := by
  refine yc (l := [7]) rfl nofun ⟨⟨_, rfl, ?_⟩, trivial⟩
  refine wq rfl ?_
  exact AnyW.of wX rfl (cq rfl)
 have wY : AnyW Tryz.prog (fun _ => false) KI KH 4 [0, 1, 2, 3, 4, 5, 7, 10, 11, 12] ⟨AY [(2, .ptr 20802 0 0), (3, .ptr 20803 0 0), (5, j6 v5l14), (6, .ptr 20806 0 0), (7, .ptr 20807 0 0), (71, .ptr 20803 0 12), (73, j6 v5l14)], AY [(20802, ⟨13, false, [AR a0]⟩), (20803, ⟨13, false, [AR a1]⟩), (20806, ⟨3, false, [AU x69]⟩), (20807, ⟨3, false, [.agg [j6 0, .str ([] : List UInt8), .nl]]⟩)]⟩ ⟨AY [(2, .ptr 20802 0 0), (3, .ptr 20803 0 0), (5, j6 v5l14), (6, .ptr 20806 0 0), (7, .ptr 20807 0 0)], AY [(20802, ⟨13, false, [AR a0]⟩), (20803, ⟨13, false, [AR a1]⟩), (20806, ⟨3, false, [AU x69]⟩), (20807, ⟨3, false, [AU RH]⟩)]⟩ := by
  refine yc (l := [6]) rfl nofun ⟨⟨_, rfl, ?_⟩, trivial⟩
  refine wq rfl ?_
  exact AnyW.of wX rfl (cq rfl)
 have Re : AnyW Tryz.prog (fun _ => false) KI KH 5 [0, 1, 2, 3, 4, 5, 6, 10, 11] ⟨AY [(2, .ptr 20802 0 0), (3, .ptr 20803 0 0), (5, j6 v5l14), (6, .ptr 20806 0 0), (7, .ptr 20807 0 0), (70, AU x69), (72, .sl 3 (List.map AU a1.Mods))], AY [(20802, ⟨13, false, [AR a0]⟩), (20803, ⟨13, false, [AR a1]⟩), (20806, ⟨3, false, [.agg [j6 0, .str ([] : List UInt8), .nl]]⟩), (20807, ⟨3, false, [.agg [j6 0, .str ([] : List UInt8), .nl]]⟩)]⟩ ⟨AY [(2, .ptr 20802 0 0), (3, .ptr 20803 0 0), (5, j6 v5l14), (6, .ptr 20806 0 0), (7, .ptr 20807 0 0)], AY [(20802, ⟨13, false, [AR a0]⟩), (20803, ⟨13, false, [AR a1]⟩), (20806, ⟨3, false, [AU x69]⟩), (20807, ⟨3, false, [AU RH]⟩)]⟩ := by
  refine yc (l := [7, 12]) rfl nofun ⟨⟨_, rfl, ?_⟩, ⟨_, rfl, ?_⟩, trivial⟩
  refine wq rfl ?_
  exact AnyW.of Ke rfl (cq rfl)
  refine EW (e' := AU x69) rfl rfl rfl rfl rfl rfl rfl rfl nofun rfl ?_
  exact AnyW.of Kj rfl (cq rfl)
 have Kg : AnyW Tryz.prog (fun _ => false) KI KH 5 [0, 1, 2, 3, 4, 5, 7, 10, 11] ⟨AY [(2, .ptr 20802 0 0), (3, .ptr 20803 0 0), (5, j6 v5l14), (6, .ptr 20806 0 0), (7, .ptr 20807 0 0), (70, AU x69), (71, .ptr 20803 0 12), (73, j6 v5l14)], AY [(20802, ⟨13, false, [AR a0]⟩), (20803, ⟨13, false, [AR a1]⟩), (20806, ⟨3, false, [.agg [j6 0, .str ([] : List UInt8), .nl]]⟩), (20807, ⟨3, false, [.agg [j6 0, .str ([] : List UInt8), .nl]]⟩)]⟩ ⟨AY [(2, .ptr 20802 0 0), (3, .ptr 20803 0 0), (5, j6 v5l14), (6, .ptr 20806 0 0), (7, .ptr 20807 0 0)], AY [(20802, ⟨13, false, [AR a0]⟩), (20803, ⟨13, false, [AR a1]⟩), (20806, ⟨3, false, [AU x69]⟩), (20807, ⟨3, false, [AU RH]⟩)]⟩ := by
  refine yc (l := [6, 12]) rfl nofun ⟨⟨_, rfl, ?_⟩, ⟨_, rfl, ?_⟩, trivial⟩
  refine wq rfl ?_
  exact AnyW.of Ke rfl (cq rfl)
  refine EW (e' := AU x69) rfl rfl rfl rfl rfl rfl rfl rfl nofun rfl ?_
  exact AnyW.of wY rfl (cq rfl)
 have Ra : AnyW Tryz.prog (fun _ => false) KI KH 5 [0, 1, 2, 3, 4, 5, 10, 11, 12] ⟨AY [(2, .ptr 20802 0 0), (3, .ptr 20803 0 0), (5, j6 v5l14), (6, .ptr 20806 0 0), (7, .ptr 20807 0 0), (71, .ptr 20803 0 12)], AY [(20802, ⟨13, false, [AR a0]⟩), (20803, ⟨13, false, [AR a1]⟩), (20806, ⟨3, false, [AU x69]⟩), (20807, ⟨3, false, [.agg [j6 0, .str ([] : List UInt8), .nl]]⟩)]⟩ ⟨AY [(2, .ptr 20802 0 0), (3, .ptr 20803 0 0), (5, j6 v5l14), (6, .ptr 20806 0 0), (7, .ptr 20807 0 0)], AY [(20802, ⟨13, false, [AR a0]⟩), (20803, ⟨13, false, [AR a1]⟩), (20806, ⟨3, false, [AU x69]⟩), (20807, ⟨3, false, [AU RH]⟩)]⟩ := by
  refine yc (l := [6, 7]) rfl nofun ⟨⟨_, rfl, ?_⟩, ⟨_, rfl, ?_⟩, trivial⟩
  refine wq rfl ?_
  exact AnyW.of Kj rfl (cq rfl)
  refine wq rfl ?_
  exact AnyW.of wY rfl (cq rfl)
 have Kk : AnyW Tryz.prog (fun _ => false) KI KH 5 [0, 1, 2, 3, 4, 7, 10, 11, 12] ⟨AY [(2, .ptr 20802 0 0), (3, .ptr 20803 0 0), (5, j6 v5l14), (6, .ptr 20806 0 0), (7, .ptr 20807 0 0), (73, j6 v5l14)], AY [(20802, ⟨13, false, [AR a0]⟩), (20803, ⟨13, false, [AR a1]⟩), (20806, ⟨3, false, [AU x69]⟩), (20807, ⟨3, false, [.agg [j6 0, .str ([] : List UInt8), .nl]]⟩)]⟩ ⟨AY [(2, .ptr 20802 0 0), (3, .ptr 20803 0 0), (5, j6 v5l14), (6, .ptr 20806 0 0), (7, .ptr 20807 0 0)], AY [(20802, ⟨13, false, [AR a0]⟩), (20803, ⟨13, false, [AR a1]⟩), (20806, ⟨3, false, [AU x69]⟩), (20807, ⟨3, false, [AU RH]⟩)]⟩ := by
  refine yc (l := [5]) rfl nofun ⟨⟨_, rfl, ?_⟩, trivial⟩
  refine wq rfl ?_
  exact AnyW.of wY rfl (cq rfl)
 have Rh : AnyW Tryz.prog (fun _ => false) KI KH 6 [0, 1, 2, 3, 4, 5, 10, 11] ⟨AY [(2, .ptr 20802 0 0), (3, .ptr 20803 0 0), (5, j6 v5l14), (6, .ptr 20806 0 0), (7, .ptr 20807 0 0), (70, AU x69), (71, .ptr 20803 0 12)], AY [(20802, ⟨13, false, [AR a0]⟩), (20803, ⟨13, false, [AR a1]⟩), (20806, ⟨3, false, [.agg [j6 0, .str ([] : List UInt8), .nl]]⟩), (20807, ⟨3, false, [.agg [j6 0, .str ([] : List UInt8), .nl]]⟩)]⟩ ⟨AY [(2, .ptr 20802 0 0), (3, .ptr 20803 0 0), (5, j6 v5l14), (6, .ptr 20806 0 0), (7, .ptr 20807 0 0)], AY [(20802, ⟨13, false, [AR a0]⟩), (20803, ⟨13, false, [AR a1]⟩), (20806, ⟨3, false, [AU x69]⟩), (20807, ⟨3, false, [AU RH]⟩)]⟩ := by
  refine yc (l := [6, 7, 12]) rfl nofun ⟨⟨_, rfl, ?_⟩, ⟨_, rfl, ?_⟩, ⟨_, rfl, ?_⟩, trivial⟩
  refine wq rfl ?_
  exact AnyW.of Re rfl (cq rfl)
  refine wq rfl ?_
  exact AnyW.of Kg rfl (cq rfl)
  refine EW (e' := AU x69) rfl rfl rfl rfl rfl rfl rfl rfl nofun rfl ?_
  exact AnyW.of Ra rfl (cq rfl)
 have Rf : AnyW Tryz.prog (fun _ => false) KI KH 6 [0, 1, 2, 3, 4, 7, 10, 11] ⟨AY [(2, .ptr 20802 0 0), (3, .ptr 20803 0 0), (5, j6 v5l14), (6, .ptr 20806 0 0), (7, .ptr 20807 0 0), (70, AU x69), (73, j6 v5l14)], AY [(20802, ⟨13, false, [AR a0]⟩), (20803, ⟨13, false, [AR a1]⟩), (20806, ⟨3, false, [.agg [j6 0, .str ([] : List UInt8), .nl]]⟩), (20807, ⟨3, false, [.agg [j6 0, .str ([] : List UInt8), .nl]]⟩)]⟩ ⟨AY [(2, .ptr 20802 0 0), (3, .ptr 20803 0 0), (5, j6 v5l14), (6, .ptr 20806 0 0), (7, .ptr 20807 0 0)], AY [(20802, ⟨13, false, [AR a0]⟩), (20803, ⟨13, false, [AR a1]⟩), (20806, ⟨3, false, [AU x69]⟩), (20807, ⟨3, false, [AU RH]⟩)]⟩ := by
  refine yc (l := [5, 12]) rfl nofun ⟨⟨_, rfl, ?_⟩, ⟨_, rfl, ?_⟩, trivial⟩
  refine wq rfl ?_
  exact AnyW.of Kg rfl (cq rfl)
  refine EW (e' := AU x69) rfl rfl rfl rfl rfl rfl rfl rfl nofun rfl ?_
  exact AnyW.of Kk rfl (cq rfl)
 have a24_8 : AnyW Tryz.prog (fun _ => false) KI KH 6 [0, 1, 2, 3, 4, 10, 11, 12] ⟨AY [(2, .ptr 20802 0 0), (3, .ptr 20803 0 0), (5, j6 v5l14), (6, .ptr 20806 0 0), (7, .ptr 20807 0 0)], AY [(20802, ⟨13, false, [AR a0]⟩), (20803, ⟨13, false, [AR a1]⟩), (20806, ⟨3, false, [AU x69]⟩), (20807, ⟨3, false, [.agg [j6 0, .str ([] : List UInt8), .nl]]⟩)]⟩ ⟨AY [(2, .ptr 20802 0 0), (3, .ptr 20803 0 0), (5, j6 v5l14), (6, .ptr 20806 0 0), (7, .ptr 20807 0 0)], AY [(20802, ⟨13, false, [AR a0]⟩), (20803, ⟨13, false, [AR a1]⟩), (20806, ⟨3, false, [AU x69]⟩), (20807, ⟨3, false, [AU RH]⟩)]⟩ := by
  refine yc (l := [5, 7]) rfl nofun ⟨⟨_, rfl, ?_⟩, ⟨_, rfl, ?_⟩, trivial⟩
  refine wq rfl ?_
  exact AnyW.of Ra rfl (cq rfl)
  refine wq rfl ?_
  exact AnyW.of Kk rfl (cq rfl)
 have a24_0 : AnyW Tryz.prog (fun _ => false) KI KH 7 [0, 1, 2, 3, 4, 10, 11] ⟨AY [(2, .ptr 20802 0 0), (3, .ptr 20803 0 0), (5, j6 v5l14), (6, .ptr 20806 0 0), (7, .ptr 20807 0 0), (70, AU x69)], AY [(20802, ⟨13, false, [AR a0]⟩), (20803, ⟨13, false, [AR a1]⟩), (20806, ⟨3, false, [.agg [j6 0, .str ([] : List UInt8), .nl]]⟩), (20807, ⟨3, false, [.agg [j6 0, .str ([] : List UInt8), .nl]]⟩)]⟩ ⟨AY [(2, .ptr 20802 0 0), (3, .ptr 20803 0 0), (5, j6 v5l14), (6, .ptr 20806 0 0), (7, .ptr 20807 0 0)], AY [(20802, ⟨13, false, [AR a0]⟩), (20803, ⟨13, false, [AR a1]⟩), (20806, ⟨3, false, [AU x69]⟩), (20807, ⟨3, false, [AU RH]⟩)]⟩ := by
  refine yc (l := [5, 7, 12]) rfl nofun ⟨⟨_, rfl, ?_⟩, ⟨_, rfl, ?_⟩, ⟨_, rfl, ?_⟩, trivial⟩
  refine wq rfl ?_
  exact AnyW.of Rh rfl (cq rfl)
  refine wq rfl ?_
  exact AnyW.of Rf rfl (cq rfl)
  refine EW (e' := AU x69) rfl rfl rfl rfl rfl rfl rfl rfl nofun rfl ?_
  exact AnyW.of a24_8 rfl (cq rfl)
 exact ⟨⟨2, AnyW.of Rb rfl (cq rfl)⟩, ⟨3, AnyW.of Rc rfl (cq rfl)⟩, ⟨4, AnyW.of Ke rfl (cq rfl)⟩, ⟨5, AnyW.of Re rfl (cq rfl)⟩, ⟨5, AnyW.of Kg rfl (cq rfl)⟩, ⟨6, AnyW.of Rh rfl (cq rfl)⟩, ⟨6, AnyW.of Rf rfl (cq rfl)⟩, ⟨7, AnyW.of a24_0 rfl (cq rfl)⟩, trivial⟩
 refine AC ?_
 obtain ⟨g10, tV, h⟩ := AJ h
 refine F3 ⟨AY [(2, .ptr 20802 0 0), (3, .ptr 20803 0 0), (5, j6 v5l14), (6, .ptr 20806 0 0), (7, .ptr 20807 0 0), (96, .bool g10)], AY [(20802, ⟨13, false, [AR a0]⟩), (20803, ⟨13, false, [AR a1]⟩), (20806, ⟨3, false, [AU x69]⟩), (20807, ⟨3, false, [AU RH]⟩)]⟩ ?_ ?_
 have h := tV
 refine AB ?_
 iterate 6 refine wq rfl ?_
 rcases BO h with ⟨c11, h⟩ | ⟨c11, h⟩
 iterate 5 refine BJ (gn rfl c11) ?_
 refine AQ rfl (BA c11 rfl rfl) ?_
 refine wq rfl ?_
 iterate 7 refine BJ rfl ?_
 refine wq rfl ?_
 obtain rfl := AA h
 exact cq rfl
 iterate 5 refine AQ (gy rfl c11) rfl ?_
 refine AQ rfl (AZ c11 rfl rfl) ?_
 refine wq rfl ?_
 rcases BO h with ⟨c12, h⟩ | ⟨c12, h⟩
 iterate 7 refine BJ (gn rfl c12) ?_
 refine AQ rfl (BA c12 rfl rfl) ?_
 obtain rfl := AA h
 exact cq rfl
 iterate 2 refine AQ (gy rfl c12) rfl ?_
 refine AQ (gy rfl c12) (BU rfl) ?_
 iterate 2 refine AQ (gy rfl c12) rfl ?_
 refine AQ (gy rfl c12) (BU rfl) ?_
 refine AQ (gy rfl c12) rfl ?_
 refine AQ rfl (AZ c12 rfl rfl) ?_
 cases AA h
 exact cq rfl
 clear tV
 refine D5 h rfl (fun c13 h => ?_) (fun c13 h => ?_)
 refine AC (AB ?_)
 refine wq rfl ?_
 obtain rfl := AA h
 exact DL (st1 := ⟨AY [(4, .bool false)], AY []⟩) (cq rfl) ⟨rfl, rfl⟩
 refine BF (AC (AB ?_))
 refine wq rfl ?_
 refine BZ ?_
 obtain ⟨Qb, hy16, h⟩ := AJ h
 refine QI (SI N a0 a1 v5l14 x69 RH N _ _ hy16) (cq rfl) ?_
 clear hy16
 rcases Qb with Qb | Qb
 rintro e s ⟨rfl, rfl⟩
 refine AB ?_
 refine wq rfl ?_
 refine AQ (p := j6 (BM (v5l14 + (1 : Int)))) rfl rfl ?_
 refine wq rfl ?_
 exact ⟨(BM (v5l14 + (1 : Int))), (cq rfl), h⟩
 rintro e s ⟨rfl, rfl⟩
 obtain rfl := AA h
 exact ⟨rfl, rfl⟩
 cases AA h
 exact CU (st1 := ⟨AY [], AY []⟩) (cq rfl) ⟨rfl, rfl⟩
theorem NM (N : Nat) (a0 : AX) (a1 : AX) (r : Bool) (h : GX N a0 a1 = some r) : Sat Tryz.prog 13 AO [AR a0, AR a1] (.bool r) AO := by
 refine DK mixed Tryz.func13 Wn (rs := [.bool r]) rfl rfl ?_
 refine AC (AB ?_)
 refine CO rfl (G5 20802 rfl rfl rfl rfl rfl) ?_
 refine CO rfl (G5 20803 rfl rfl rfl rfl rfl) ?_
 refine wq rfl ?_
 refine AC ?_
 obtain ⟨g1, hg1, h⟩ := AJ h
 refine F3 ⟨AY [(2, .ptr 20802 0 0), (3, .ptr 20803 0 0), (58, .bool g1)], AY [(20802, ⟨13, false, [AR a0]⟩), (20803, ⟨13, false, [AR a1]⟩)]⟩ ?_ ?_
 have h := hg1
 refine AB ?_
 refine wq rfl ?_
 refine AQ (p := .agg [j6 a0.CSN.Time, j6 a0.CSN.Seq, j6 a0.CSN.Rep]) rfl rfl ?_
 refine wq rfl ?_
 refine AQ (p := .agg [j6 a1.CSN.Time, j6 a1.CSN.Seq, j6 a1.CSN.Rep]) rfl rfl ?_
 refine AQ (p := .bool (!(a0.CSN.Time == a1.CSN.Time && (a0.CSN.Seq == a1.CSN.Seq && (a0.CSN.Rep == a1.CSN.Rep && true))))) rfl rfl ?_
 refine wq rfl ?_
 rcases BO h with ⟨c2, h⟩ | ⟨c2, h⟩
 iterate 5 refine BJ (gn rfl c2) ?_
 refine AQ rfl (BA c2 rfl rfl) ?_
 refine wq rfl ?_
 iterate 5 refine BJ rfl ?_
 iterate 2 refine wq rfl ?_
 iterate 5 refine BJ rfl ?_
 iterate 2 refine wq rfl ?_
 iterate 5 refine BJ rfl ?_
 iterate 2 refine wq rfl ?_
 iterate 6 refine BJ rfl ?_
 iterate 2 refine wq rfl ?_
 iterate 7 refine BJ rfl ?_
 refine wq rfl ?_
 obtain rfl := AA h
 exact cq rfl
 iterate 5 refine AQ (gy rfl c2) rfl ?_
 refine AQ rfl (AZ c2 rfl rfl) ?_
 refine wq rfl ?_
 rcases BO h with ⟨c3, h⟩ | ⟨c3, h⟩
 iterate 5 refine BJ (gn rfl c3) ?_
 refine AQ rfl (BA c3 rfl rfl) ?_
 refine wq rfl ?_
 iterate 5 refine BJ rfl ?_
 iterate 2 refine wq rfl ?_
 iterate 5 refine BJ rfl ?_
 iterate 2 refine wq rfl ?_
 iterate 6 refine BJ rfl ?_
 iterate 2 refine wq rfl ?_
 iterate 7 refine BJ rfl ?_
 refine wq rfl ?_
 obtain rfl := AA h
 exact cq rfl
 refine AQ (gy rfl c3) rfl ?_
 refine AQ (p := .agg [j6 a0.ID.Time, j6 a0.ID.Seq, j6 a0.ID.Rep]) (gy rfl c3) rfl ?_
 refine AQ (gy rfl c3) rfl ?_
 refine AQ (p := .agg [j6 a1.ID.Time, j6 a1.ID.Seq, j6 a1.ID.Rep]) (gy rfl c3) rfl ?_
 refine AQ (p := .bool (!(a0.ID.Time == a1.ID.Time && (a0.ID.Seq == a1.ID.Seq && (a0.ID.Rep == a1.ID.Rep && true))))) (gy rfl c3) rfl ?_
 refine AQ rfl (AZ c3 rfl rfl) ?_
 refine wq rfl ?_
 rcases BO h with ⟨c4, h⟩ | ⟨c4, h⟩
 iterate 5 refine BJ (gn rfl c4) ?_
 refine AQ rfl (BA c4 rfl rfl) ?_
 refine wq rfl ?_
 iterate 5 refine BJ rfl ?_
 iterate 2 refine wq rfl ?_
 iterate 6 refine BJ rfl ?_
 iterate 2 refine wq rfl ?_
 iterate 7 refine BJ rfl ?_
 refine wq rfl ?_
 obtain rfl := AA h
 exact cq rfl
 refine AQ (gy rfl c4) rfl ?_
 refine AQ (p := .agg [j6 a0.Parent.Time, j6 a0.Parent.Seq, j6 a0.Parent.Rep]) (gy rfl c4) rfl ?_
 refine AQ (gy rfl c4) rfl ?_
 refine AQ (p := .agg [j6 a1.Parent.Time, j6 a1.Parent.Seq, j6 a1.Parent.Rep]) (gy rfl c4) rfl ?_
 refine AQ (p := .bool (!(a0.Parent.Time == a1.Parent.Time && (a0.Parent.Seq == a1.Parent.Seq && (a0.Parent.Rep == a1.Parent.Rep && true))))) (gy rfl c4) rfl ?_
 refine AQ rfl (AZ c4 rfl rfl) ?_
 refine wq rfl ?_
 rcases BO h with ⟨c5, h⟩ | ⟨c5, h⟩
 iterate 5 refine BJ (gn rfl c5) ?_
 refine AQ rfl (BA c5 rfl rfl) ?_
 refine wq rfl ?_
 iterate 6 refine BJ rfl ?_
 iterate 2 refine wq rfl ?_
 iterate 7 refine BJ rfl ?_
 refine wq rfl ?_
 obtain rfl := AA h
 exact cq rfl
 iterate 5 refine AQ (gy rfl c5) rfl ?_
 refine AQ rfl (AZ c5 rfl rfl) ?_
 refine wq rfl ?_
 rcases BO h with ⟨c6, h⟩ | ⟨c6, h⟩
 iterate 6 refine BJ (gn rfl c6) ?_
 refine AQ rfl (BA c6 rfl rfl) ?_
 refine wq rfl ?_
 iterate 7 refine BJ rfl ?_
 refine wq rfl ?_
 obtain rfl := AA h
 exact cq rfl
 iterate 4 refine AQ (gy rfl c6) rfl ?_
 obtain ⟨bY, lC, h⟩ := AJ h
 refine CO (gy rfl c6) (CB (WL N _ _ _ lC) rfl (.cons A8 (.cons A8 .nil)) rfl rfl rfl) ?_
 refine AQ (gy rfl c6) rfl ?_
 refine AQ rfl (AZ c6 rfl rfl) ?_
 refine wq rfl ?_
 rcases BO h with ⟨c7, h⟩ | ⟨c7, h⟩
 iterate 7 refine BJ (gn rfl c7) ?_
 refine AQ rfl (BA c7 rfl rfl) ?_
 obtain rfl := AA h
 exact cq rfl
 iterate 2 refine AQ (gy rfl c7) rfl ?_
 refine AQ (gy rfl c7) (BU rfl) ?_
 iterate 2 refine AQ (gy rfl c7) rfl ?_
 refine AQ (gy rfl c7) (BU rfl) ?_
 refine AQ (gy rfl c7) rfl ?_
 refine AQ rfl (AZ c7 rfl rfl) ?_
 cases AA h
 exact cq rfl
 clear hg1
 refine D5 h rfl (fun c8 h => ?_) (fun c8 h => ?_)
 refine AC (AB ?_)
 refine wq rfl ?_
 obtain rfl := AA h
 refine BR ?_
 exact ⟨nofun, rfl, rfl⟩
 refine BF ?_
 iterate 2 refine AC ?_
 refine AB ?_
 refine wq rfl ?_
 refine BZ ?_
 obtain ⟨qX, Hy, h⟩ := AJ h
 refine QI (SK N a0 a1 N _ _ Hy) (cq rfl) ?_
 clear Hy
 rcases qX with qX | qX
 rintro e s ⟨rfl, rfl⟩
 refine AC (AB ?_)
 refine wq rfl ?_
 obtain rfl := AA h
 refine BR ?_
 exact ⟨nofun, rfl, rfl⟩
 rintro e s ⟨rfl, rfl⟩
 obtain rfl := AA h
 exact ⟨nofun, rfl, rfl⟩
end Go.Gp
end
section
set_option linter.unusedVariables false
namespace Go.Gp
open Go.Vd Go.RowKit Go.Proofs Go.Shelf Go.Lib
def ren40 : Ren := ⟨fun | 41 => 40 | n => n, fun | 22 => 25 | 23 => 41 | 4 => 4 | n => n, fun | n => n⟩
theorem Sw : SlLaysE0.n41 Tryz.prog ren40 := {
 mixed := by kernel_rfl
 f41 := ⟨Tryz.f40.name, by decide, Tryz.func40.trans (congrArg some (by kernel_rfl))⟩
 t4 := Tryz.underlying4
 a4 := Tryz.isAgg4
 z4 := Tryz.sizeOf4
 v4 := Tryz.zeroValue4
 t22 := Tryz.underlying25
 a22 := Tryz.isAgg25
 z22 := Tryz.sizeOf25
 v22 := Tryz.zeroValue25 }
def ren41 : Ren := ⟨fun | 41 => 41 | n => n, fun | 22 => 26 | 23 => 44 | 4 => 4 | n => n, fun | n => n⟩
theorem Sv : SlLaysE0.n41 Tryz.prog ren41 := {
 mixed := by kernel_rfl
 f41 := ⟨Tryz.f41.name, by decide, Tryz.func41.trans (congrArg some (by kernel_rfl))⟩
 t4 := Tryz.underlying4
 a4 := Tryz.isAgg4
 z4 := Tryz.sizeOf4
 v4 := Tryz.zeroValue4
 t22 := Tryz.underlying26
 a22 := Tryz.isAgg26
 z22 := Tryz.sizeOf26
 v22 := Tryz.zeroValue26 }
theorem i41 : (Tryz.prog.info? 41).map (fun i => (i.zero, i.size, i.bytes)) = some (some (Value.agg #[.string { data := #[] }, .string { data := #[] }]), 2, 32) := by kernel_rfl
theorem i44 : (Tryz.prog.info? 44).map (fun i => (i.zero, i.size, i.bytes)) = some (some (Value.agg #[.int .i64 0, .string { data := #[] }, .slice none 0 0]), 3, 48) := by kernel_rfl
theorem i9 : (Tryz.prog.info? 9).map (fun i => (i.zero, i.size, i.bytes)) = some (some (Value.string { data := #[] }), 1, 16) := by kernel_rfl
theorem rT {α : Type} (f : α → PV) {l r : List α} (t : Nat) (hty : ME t = none) (h : Z8 32 l = some r) : Sat Tryz.prog 40 AO [.sl 2 (List.map f l)] (.slr t 0 r.length) (AY [(t, ⟨2, true, List.map f r⟩)]) := by
 obtain ⟨rfl, h1, h2⟩ := bR h
 obtain ⟨i, e1, e2, e3, e4⟩ := info_parts i41
 have := fH Sw i _ 2 32 e1 e2 e3 e4 rfl (by decide) Tryz.sizeOf41 (t := t) hty (xs := List.map f r) (by simpa using h1) (by simpa using h2)
 rw [List.length_map] at this
 exact this
theorem rR {α : Type} (f : α → PV) {l r : List α} (t : Nat) (hty : ME t = none) (h : Z8 48 l = some r) : Sat Tryz.prog 41 AO [.sl 3 (List.map f l)] (.slr t 0 r.length) (AY [(t, ⟨3, true, List.map f r⟩)]) := by
 obtain ⟨rfl, h1, h2⟩ := bR h
 obtain ⟨i, e1, e2, e3, e4⟩ := info_parts i44
 have := fH Sv i _ 3 48 e1 e2 e3 e4 rfl (by decide) Tryz.sizeOf44 (t := t) hty (xs := List.map f r) (by simpa using h1) (by simpa using h2)
 rw [List.length_map] at this
 exact this
theorem rQ {α : Type} (f : α → PV) {l r : List α} (t : Nat) (hty : ME t = none) (h : Z8 16 l = some r) : Sat Tryz.prog 42 AO [.sl 1 (List.map f l)] (.slr t 0 r.length) (AY [(t, ⟨1, true, List.map f r⟩)]) := by
 obtain ⟨rfl, h1, h2⟩ := bR h
 obtain ⟨i, e1, e2, e3, e4⟩ := info_parts i9
 have := fH Tryz.laysSlE041_f42 i _ 1 16 e1 e2 e3 e4 rfl (by decide) Tryz.sizeOf9 (t := t) hty (xs := List.map f r) (by simpa using h1) (by simpa using h2)
 rw [List.length_map] at this
 exact this
end Go.Gp
end
section
set_option linter.unusedVariables false
set_option linter.unusedSimpArgs false
set_option maxRecDepth 4000
set_option maxHeartbeats 4000000
namespace Go.Gp
open Go.Vd Go.RowKit Go.Proofs
def zK : IC := (.seq (.reg [jb .lss 17 16 15]) (.seq (.cond (.t 17) .skip (.exit 0)) (.seq (.block 1 (.seq (.reg [jm 18 16, jx 19 3 14 16, jg 20 3 19, jn 4 (.box 44 (.c (.agg [(j6 0), (.str []), .nl]))), jm 3 18, js 3 4 20]) (.regd 8 [ja 21 12 1, jl 22 1 21, jm 23 3, ja 24 2 4, jl 25 1 24, jn 26 (.call 42 [(.t 25)]), jx 27 3 22 23, ja 28 2 27, js 1 28 26]))) (.reg [ju .add 29 16 1, jm 16 29]))))
def k15 : IC := (.seq (.reg [jn 1 (.box 28 (.t 0)), jn 2 (.box 28 (.c (.agg [(j6 0), (j6 0), (j6 0), (j6 0), (j6 0), (j6 0), (j6 0), (j6 0), (j6 0), (j6 0), .nl, (.bool false), .nl])))]) (.seq (.reg [ja 5 10 1, jl 6 1 5, jn 7 (.call 40 [(.t 6)]), ja 8 10 1, js 1 8 7]) (.seq (.reg [ja 9 12 1, jl 10 1 9, jn 11 (.call 41 [(.t 10)]), ja 12 12 1, js 1 12 11]) (.seq (.seq (.reg [ja 13 12 1, jl 14 1 13, jL 15 14, jc 16 (j6 0)]) (.block 0 (.loop zK))) (.seq (.reg [jg 30 13 1, js 13 2 30]) .ret)))))
theorem Wl : BV Tryz.prog Tryz.f15 = some ⟨31, k15, [(.cell 13 true 2)]⟩ := by kernel_rfl
theorem dC (N : Nat) (LK : List BD) : ∀ (n : Nat) (x : Int × Int × Int × Int × Int × Int × Int × Int × Int × Int × Int × Bool × List AL × List BD) (y : Int × Int × Int × Int × Int × Int × Int × Int × Int × Int × Bool × List AL × List BD), PM N LK n x = some y → WX Tryz.prog (fun _ => false) (.loop zK) ((fun (x : Int × Int × Int × Int × Int × Int × Int × Int × Int × Int × Int × Bool × List AL × List BD) => ⟨AY [(1, .ptr 24001 0 0), (2, .ptr 24002 0 0), (14, .slr 24011 0 x.2.2.2.2.2.2.2.2.2.2.2.2.2.length), (15, j6 (LK.length : Int)), (16, j6 x.1)], AY [(24001, ⟨13, false, [.agg [j6 x.2.1, j6 x.2.2.1, j6 x.2.2.2.1, j6 x.2.2.2.2.1, j6 x.2.2.2.2.2.1, j6 x.2.2.2.2.2.2.1, j6 x.2.2.2.2.2.2.2.1, j6 x.2.2.2.2.2.2.2.2.1, j6 x.2.2.2.2.2.2.2.2.2.1, j6 x.2.2.2.2.2.2.2.2.2.2.1, .slr 24007 0 x.2.2.2.2.2.2.2.2.2.2.2.2.1.length, .bool x.2.2.2.2.2.2.2.2.2.2.2.1, .slr 24011 0 x.2.2.2.2.2.2.2.2.2.2.2.2.2.length]]⟩), (24002, ⟨13, false, [.agg [j6 0, j6 0, j6 0, j6 0, j6 0, j6 0, j6 0, j6 0, j6 0, j6 0, .nl, .bool false, .nl]]⟩), (24007, ⟨2, true, List.map AV x.2.2.2.2.2.2.2.2.2.2.2.2.1⟩), (24011, ⟨3, true, List.map AU x.2.2.2.2.2.2.2.2.2.2.2.2.2⟩)]⟩) x) ((fun y e s => e = .exit 0 ∧ s = ⟨AY [(1, .ptr 24001 0 0), (2, .ptr 24002 0 0)], AY [(24001, ⟨13, false, [.agg [j6 y.1, j6 y.2.1, j6 y.2.2.1, j6 y.2.2.2.1, j6 y.2.2.2.2.1, j6 y.2.2.2.2.2.1, j6 y.2.2.2.2.2.2.1, j6 y.2.2.2.2.2.2.2.1, j6 y.2.2.2.2.2.2.2.2.1, j6 y.2.2.2.2.2.2.2.2.2.1, .slr 24007 0 y.2.2.2.2.2.2.2.2.2.2.2.1.length, .bool y.2.2.2.2.2.2.2.2.2.2.1, .slr 24011 0 y.2.2.2.2.2.2.2.2.2.2.2.2.length]]⟩), (24002, ⟨13, false, [.agg [j6 0, j6 0, j6 0, j6 0, j6 0, j6 0, j6 0, j6 0, j6 0, j6 0, .nl, .bool false, .nl]]⟩), (24007, ⟨2, true, List.map AV y.2.2.2.2.2.2.2.2.2.2.2.1⟩), (24011, ⟨3, true, List.map AU y.2.2.2.2.2.2.2.2.2.2.2.2⟩)]⟩ : (Int × Int × Int × Int × Int × Int × Int × Int × Int × Int × Bool × List AL × List BD) → Xt → St → Prop) y) := by
 refine EP _ _ (PM N LK) (VC N LK) (fun _ => rfl) (fun _ _ => rfl) ?_
 rintro rec ⟨aT, O7, O6, O5, O4, O3, O1, O0, NZ, NY, NW, MG, QC, HZ⟩ y h
 refine AC (AB ?_)
 refine wq rfl ?_
 refine AC ?_
 refine D5 h rfl (fun c1 h => ?_) (fun c1 h => ?_)
 refine BF (AC (BZ (AC (AB ?_))))
 refine wq rfl ?_
 obtain ⟨QG, YV, h⟩ := AJ h
 refine AQ rfl (PE YV rfl rfl rfl rfl) ?_
 obtain ⟨x20, bG, h⟩ := AJ h
 refine AQ rfl (UE (f := AU) (v := AU x20) bG rfl rfl rfl) ?_
 refine CO rfl (G5 24004 rfl rfl rfl rfl rfl) ?_
 refine wq rfl ?_
 refine EW (e' := AU x20) rfl rfl rfl rfl rfl rfl rfl rfl nofun rfl ?_
 refine P6 ?_
 iterate 5 refine dq rfl ?_
 obtain ⟨LV, qG, h⟩ := AJ h
 refine VG rfl (Qg [(24026, ⟨1, true, List.map PV.str LV⟩)] (rQ PV.str 24026 rfl qG) rfl (.cons A8 .nil) rfl rfl rfl rfl) (Xu rfl) ?_
 obtain ⟨x27, hx27, h⟩ := AJ h
 refine JN rfl (PE hx27 rfl rfl rfl rfl) ?_
 refine dq rfl ?_
 refine wn (C8.trans (Vd.freeze 24026 _ rfl rfl rfl) (KP 26 (H5 (congrArg (PV.sl 1) (BQ (f := PV.str) (l := LV)))) rfl)) ?_
 obtain ⟨VX, Ww, h⟩ := AJ h
 refine Af (f := AU) (e' := (⟨VX.Kind, VX.Attr, LV⟩ : BD)) Ww rfl rfl rfl rfl rfl rfl rfl rfl (fun _ => rfl) rfl ?_
 refine AB ?_
 refine AQ (p := j6 (BM (aT + (1 : Int)))) rfl rfl ?_
 refine wq rfl ?_
 exact ⟨((BM (aT + (1 : Int))), O7, O6, O5, O4, O3, O1, O0, NZ, NY, NW, MG, QC, (HZ.set x27 (⟨VX.Kind, VX.Attr, LV⟩ : BD))), (C8.trans (KP 14 (H5 (congrArg (PV.slr 24011 0) (by simp only [List.length_set, List.length_replicate] : HZ.length = (HZ.set x27 (⟨VX.Kind, VX.Attr, LV⟩ : BD)).length))) rfl) (C8.trans (vG 24001 (x := .agg [j6 O7, j6 O6, j6 O5, j6 O4, j6 O3, j6 O1, j6 O0, j6 NZ, j6 NY, j6 NW, .slr 24007 0 QC.length, .bool MG, .slr 24011 0 HZ.length]) (y := .agg [j6 O7, j6 O6, j6 O5, j6 O4, j6 O3, j6 O1, j6 O0, j6 NZ, j6 NY, j6 NW, .slr 24007 0 QC.length, .bool MG, .slr 24011 0 ((HZ.set x27 (⟨VX.Kind, VX.Attr, LV⟩ : BD)).length)]) (.cons A8 (.cons A8 (.cons A8 (.cons A8 (.cons A8 (.cons A8 (.cons A8 (.cons A8 (.cons A8 (.cons A8 (.cons A8 (.cons A8 (.cons (H5 (congrArg (PV.slr 24011 0) (by simp only [List.length_set, List.length_replicate] : HZ.length = (HZ.set x27 (⟨VX.Kind, VX.Attr, LV⟩ : BD)).length))) .nil))))))))))))) rfl rfl) (cq rfl))), h⟩
 cases AA h
 exact CU (st1 := ⟨AY [(1, .ptr 24001 0 0), (2, .ptr 24002 0 0)], AY [(24001, ⟨13, false, [.agg [j6 O7, j6 O6, j6 O5, j6 O4, j6 O3, j6 O1, j6 O0, j6 NZ, j6 NY, j6 NW, .slr 24007 0 QC.length, .bool MG, .slr 24011 0 HZ.length]]⟩), (24002, ⟨13, false, [.agg [j6 0, j6 0, j6 0, j6 0, j6 0, j6 0, j6 0, j6 0, j6 0, j6 0, .nl, .bool false, .nl]]⟩), (24007, ⟨2, true, List.map AV QC⟩), (24011, ⟨3, true, List.map AU HZ⟩)]⟩) (cq rfl) ⟨rfl, rfl⟩
theorem iM (N : Nat) (a0 : AX) (r : AX) (h : iB N a0 = some r) : Sat Tryz.prog 15 AO [AR a0] (AR r) AO := by
 refine DK mixed Tryz.func15 Wl (rs := [AR r]) rfl rfl ?_
 refine AC (AB ?_)
 refine CO rfl (G5 24001 rfl rfl rfl rfl rfl) ?_
 refine CO rfl (G5 24002 rfl rfl rfl rfl rfl) ?_
 refine AC (AB ?_)
 iterate 2 refine wq rfl ?_
 obtain ⟨x7, hx7, h⟩ := AJ h
 refine CO rfl (Ql [(24007, ⟨2, true, List.map AV x7⟩)] (rT AV 24007 rfl hx7) rfl (.cons A8 .nil) rfl rfl rfl rfl rfl) ?_
 refine wq rfl ?_
 refine EW (e' := .agg [j6 a0.CSN.Time, j6 a0.CSN.Seq, j6 a0.CSN.Rep, j6 a0.Kind, j6 a0.ID.Time, j6 a0.ID.Seq, j6 a0.ID.Rep, j6 a0.Parent.Time, j6 a0.Parent.Seq, j6 a0.Parent.Rep, .slr 24007 0 x7.length, .bool a0.DelOld, .sl 3 (List.map AU a0.Mods)]) rfl rfl rfl rfl rfl rfl rfl rfl nofun rfl ?_
 refine AC (AB ?_)
 iterate 2 refine wq rfl ?_
 obtain ⟨LK, bI, h⟩ := AJ h
 refine CO rfl (Ql [(24011, ⟨3, true, List.map AU LK⟩)] (rR AU 24011 rfl bI) rfl (.cons A8 .nil) rfl rfl rfl rfl rfl) ?_
 refine wq rfl ?_
 refine EW (e' := .agg [j6 a0.CSN.Time, j6 a0.CSN.Seq, j6 a0.CSN.Rep, j6 a0.Kind, j6 a0.ID.Time, j6 a0.ID.Seq, j6 a0.ID.Rep, j6 a0.Parent.Time, j6 a0.Parent.Seq, j6 a0.Parent.Rep, .slr 24007 0 x7.length, .bool a0.DelOld, .slr 24011 0 LK.length]) rfl rfl rfl rfl rfl rfl rfl rfl nofun rfl ?_
 iterate 2 refine AC ?_
 refine AB ?_
 iterate 4 refine wq rfl ?_
 refine BZ ?_
 obtain ⟨y3, hy3, h⟩ := AJ h
 refine QI (dC N LK N _ _ hy3) (cq rfl) ?_
 rintro e s ⟨rfl, rfl⟩
 refine AC (AB ?_)
 refine AQ (p := .agg [j6 y3.1, j6 y3.2.1, j6 y3.2.2.1, j6 y3.2.2.2.1, j6 y3.2.2.2.2.1, j6 y3.2.2.2.2.2.1, j6 y3.2.2.2.2.2.2.1, j6 y3.2.2.2.2.2.2.2.1, j6 y3.2.2.2.2.2.2.2.2.1, j6 y3.2.2.2.2.2.2.2.2.2.1, .slr 24007 0 y3.2.2.2.2.2.2.2.2.2.2.2.1.length, .bool y3.2.2.2.2.2.2.2.2.2.2.1, .slr 24011 0 y3.2.2.2.2.2.2.2.2.2.2.2.2.length]) rfl rfl ?_
 refine EW (e' := .agg [j6 y3.1, j6 y3.2.1, j6 y3.2.2.1, j6 y3.2.2.2.1, j6 y3.2.2.2.2.1, j6 y3.2.2.2.2.2.1, j6 y3.2.2.2.2.2.2.1, j6 y3.2.2.2.2.2.2.2.1, j6 y3.2.2.2.2.2.2.2.2.1, j6 y3.2.2.2.2.2.2.2.2.2.1, .slr 24007 0 y3.2.2.2.2.2.2.2.2.2.2.2.1.length, .bool y3.2.2.2.2.2.2.2.2.2.2.1, .slr 24011 0 y3.2.2.2.2.2.2.2.2.2.2.2.2.length]) rfl rfl rfl rfl rfl rfl rfl rfl nofun rfl ?_
 cases AA h
 refine DL (st1 := ⟨AY [(2, .ptr 24002 0 0)], AY [(24002, ⟨13, false, [AR (⟨(⟨y3.1, y3.2.1, y3.2.2.1⟩ : AP), y3.2.2.2.1, (⟨y3.2.2.2.2.1, y3.2.2.2.2.2.1, y3.2.2.2.2.2.2.1⟩ : AP), (⟨y3.2.2.2.2.2.2.2.1, y3.2.2.2.2.2.2.2.2.1, y3.2.2.2.2.2.2.2.2.2.1⟩ : AP), y3.2.2.2.2.2.2.2.2.2.2.2.1, y3.2.2.2.2.2.2.2.2.2.2.1, y3.2.2.2.2.2.2.2.2.2.2.2.2⟩ : AX)]⟩)]⟩) (C8.trans (Vd.freeze 24007 _ rfl rfl rfl) (C8.trans (Vd.freeze 24011 _ rfl rfl rfl) (C8.trans (vG 24002 (x := .agg [j6 y3.1, j6 y3.2.1, j6 y3.2.2.1, j6 y3.2.2.2.1, j6 y3.2.2.2.2.1, j6 y3.2.2.2.2.2.1, j6 y3.2.2.2.2.2.2.1, j6 y3.2.2.2.2.2.2.2.1, j6 y3.2.2.2.2.2.2.2.2.1, j6 y3.2.2.2.2.2.2.2.2.2.1, .sl 2 (List.take y3.2.2.2.2.2.2.2.2.2.2.2.1.length (List.drop 0 (List.map AV y3.2.2.2.2.2.2.2.2.2.2.2.1))), .bool y3.2.2.2.2.2.2.2.2.2.2.1, .sl 3 (List.take y3.2.2.2.2.2.2.2.2.2.2.2.2.length (List.drop 0 (List.map AU y3.2.2.2.2.2.2.2.2.2.2.2.2)))]) (y := .agg [j6 (((⟨(⟨y3.1, y3.2.1, y3.2.2.1⟩ : AP), y3.2.2.2.1, (⟨y3.2.2.2.2.1, y3.2.2.2.2.2.1, y3.2.2.2.2.2.2.1⟩ : AP), (⟨y3.2.2.2.2.2.2.2.1, y3.2.2.2.2.2.2.2.2.1, y3.2.2.2.2.2.2.2.2.2.1⟩ : AP), y3.2.2.2.2.2.2.2.2.2.2.2.1, y3.2.2.2.2.2.2.2.2.2.2.1, y3.2.2.2.2.2.2.2.2.2.2.2.2⟩ : AX).CSN).Time), j6 (((⟨(⟨y3.1, y3.2.1, y3.2.2.1⟩ : AP), y3.2.2.2.1, (⟨y3.2.2.2.2.1, y3.2.2.2.2.2.1, y3.2.2.2.2.2.2.1⟩ : AP), (⟨y3.2.2.2.2.2.2.2.1, y3.2.2.2.2.2.2.2.2.1, y3.2.2.2.2.2.2.2.2.2.1⟩ : AP), y3.2.2.2.2.2.2.2.2.2.2.2.1, y3.2.2.2.2.2.2.2.2.2.2.1, y3.2.2.2.2.2.2.2.2.2.2.2.2⟩ : AX).CSN).Seq), j6 (((⟨(⟨y3.1, y3.2.1, y3.2.2.1⟩ : AP), y3.2.2.2.1, (⟨y3.2.2.2.2.1, y3.2.2.2.2.2.1, y3.2.2.2.2.2.2.1⟩ : AP), (⟨y3.2.2.2.2.2.2.2.1, y3.2.2.2.2.2.2.2.2.1, y3.2.2.2.2.2.2.2.2.2.1⟩ : AP), y3.2.2.2.2.2.2.2.2.2.2.2.1, y3.2.2.2.2.2.2.2.2.2.2.1, y3.2.2.2.2.2.2.2.2.2.2.2.2⟩ : AX).CSN).Rep), j6 ((⟨(⟨y3.1, y3.2.1, y3.2.2.1⟩ : AP), y3.2.2.2.1, (⟨y3.2.2.2.2.1, y3.2.2.2.2.2.1, y3.2.2.2.2.2.2.1⟩ : AP), (⟨y3.2.2.2.2.2.2.2.1, y3.2.2.2.2.2.2.2.2.1, y3.2.2.2.2.2.2.2.2.2.1⟩ : AP), y3.2.2.2.2.2.2.2.2.2.2.2.1, y3.2.2.2.2.2.2.2.2.2.2.1, y3.2.2.2.2.2.2.2.2.2.2.2.2⟩ : AX).Kind), j6 (((⟨(⟨y3.1, y3.2.1, y3.2.2.1⟩ : AP), y3.2.2.2.1, (⟨y3.2.2.2.2.1, y3.2.2.2.2.2.1, y3.2.2.2.2.2.2.1⟩ : AP), (⟨y3.2.2.2.2.2.2.2.1, y3.2.2.2.2.2.2.2.2.1, y3.2.2.2.2.2.2.2.2.2.1⟩ : AP), y3.2.2.2.2.2.2.2.2.2.2.2.1, y3.2.2.2.2.2.2.2.2.2.2.1, y3.2.2.2.2.2.2.2.2.2.2.2.2⟩ : AX).ID).Time), j6 (((⟨(⟨y3.1, y3.2.1, y3.2.2.1⟩ : AP), y3.2.2.2.1, (⟨y3.2.2.2.2.1, y3.2.2.2.2.2.1, y3.2.2.2.2.2.2.1⟩ : AP), (⟨y3.2.2.2.2.2.2.2.1, y3.2.2.2.2.2.2.2.2.1, y3.2.2.2.2.2.2.2.2.2.1⟩ : AP), y3.2.2.2.2.2.2.2.2.2.2.2.1, y3.2.2.2.2.2.2.2.2.2.2.1, y3.2.2.2.2.2.2.2.2.2.2.2.2⟩ : AX).ID).Seq), j6 (((⟨(⟨y3.1, y3.2.1, y3.2.2.1⟩ : AP), y3.2.2.2.1, (⟨y3.2.2.2.2.1, y3.2.2.2.2.2.1, y3.2.2.2.2.2.2.1⟩ : AP), (⟨y3.2.2.2.2.2.2.2.1, y3.2.2.2.2.2.2.2.2.1, y3.2.2.2.2.2.2.2.2.2.1⟩ : AP), y3.2.2.2.2.2.2.2.2.2.2.2.1, y3.2.2.2.2.2.2.2.2.2.2.1, y3.2.2.2.2.2.2.2.2.2.2.2.2⟩ : AX).ID).Rep), j6 (((⟨(⟨y3.1, y3.2.1, y3.2.2.1⟩ : AP), y3.2.2.2.1, (⟨y3.2.2.2.2.1, y3.2.2.2.2.2.1, y3.2.2.2.2.2.2.1⟩ : AP), (⟨y3.2.2.2.2.2.2.2.1, y3.2.2.2.2.2.2.2.2.1, y3.2.2.2.2.2.2.2.2.2.1⟩ : AP), y3.2.2.2.2.2.2.2.2.2.2.2.1, y3.2.2.2.2.2.2.2.2.2.2.1, y3.2.2.2.2.2.2.2.2.2.2.2.2⟩ : AX).Parent).Time), j6 (((⟨(⟨y3.1, y3.2.1, y3.2.2.1⟩ : AP), y3.2.2.2.1, (⟨y3.2.2.2.2.1, y3.2.2.2.2.2.1, y3.2.2.2.2.2.2.1⟩ : AP), (⟨y3.2.2.2.2.2.2.2.1, y3.2.2.2.2.2.2.2.2.1, y3.2.2.2.2.2.2.2.2.2.1⟩ : AP), y3.2.2.2.2.2.2.2.2.2.2.2.1, y3.2.2.2.2.2.2.2.2.2.2.1, y3.2.2.2.2.2.2.2.2.2.2.2.2⟩ : AX).Parent).Seq), j6 (((⟨(⟨y3.1, y3.2.1, y3.2.2.1⟩ : AP), y3.2.2.2.1, (⟨y3.2.2.2.2.1, y3.2.2.2.2.2.1, y3.2.2.2.2.2.2.1⟩ : AP), (⟨y3.2.2.2.2.2.2.2.1, y3.2.2.2.2.2.2.2.2.1, y3.2.2.2.2.2.2.2.2.2.1⟩ : AP), y3.2.2.2.2.2.2.2.2.2.2.2.1, y3.2.2.2.2.2.2.2.2.2.2.1, y3.2.2.2.2.2.2.2.2.2.2.2.2⟩ : AX).Parent).Rep), .sl 2 (List.map AV ((⟨(⟨y3.1, y3.2.1, y3.2.2.1⟩ : AP), y3.2.2.2.1, (⟨y3.2.2.2.2.1, y3.2.2.2.2.2.1, y3.2.2.2.2.2.2.1⟩ : AP), (⟨y3.2.2.2.2.2.2.2.1, y3.2.2.2.2.2.2.2.2.1, y3.2.2.2.2.2.2.2.2.2.1⟩ : AP), y3.2.2.2.2.2.2.2.2.2.2.2.1, y3.2.2.2.2.2.2.2.2.2.2.1, y3.2.2.2.2.2.2.2.2.2.2.2.2⟩ : AX).RDN)), .bool ((⟨(⟨y3.1, y3.2.1, y3.2.2.1⟩ : AP), y3.2.2.2.1, (⟨y3.2.2.2.2.1, y3.2.2.2.2.2.1, y3.2.2.2.2.2.2.1⟩ : AP), (⟨y3.2.2.2.2.2.2.2.1, y3.2.2.2.2.2.2.2.2.1, y3.2.2.2.2.2.2.2.2.2.1⟩ : AP), y3.2.2.2.2.2.2.2.2.2.2.2.1, y3.2.2.2.2.2.2.2.2.2.2.1, y3.2.2.2.2.2.2.2.2.2.2.2.2⟩ : AX).DelOld), .sl 3 (List.map AU ((⟨(⟨y3.1, y3.2.1, y3.2.2.1⟩ : AP), y3.2.2.2.1, (⟨y3.2.2.2.2.1, y3.2.2.2.2.2.1, y3.2.2.2.2.2.2.1⟩ : AP), (⟨y3.2.2.2.2.2.2.2.1, y3.2.2.2.2.2.2.2.2.1, y3.2.2.2.2.2.2.2.2.2.1⟩ : AP), y3.2.2.2.2.2.2.2.2.2.2.2.1, y3.2.2.2.2.2.2.2.2.2.2.1, y3.2.2.2.2.2.2.2.2.2.2.2.2⟩ : AX).Mods))]) (.cons A8 (.cons A8 (.cons A8 (.cons A8 (.cons A8 (.cons A8 (.cons A8 (.cons A8 (.cons A8 (.cons A8 (.cons (H5 (congrArg (PV.sl 2) (BQ (f := AV) (l := y3.2.2.2.2.2.2.2.2.2.2.2.1)))) (.cons A8 (.cons (H5 (congrArg (PV.sl 3) (BQ (f := AU) (l := y3.2.2.2.2.2.2.2.2.2.2.2.2)))) .nil))))))))))))) rfl rfl) (cq rfl)))) ?_
 exact ⟨nofun, rfl, rfl⟩
def zB : IC := (.seq (.reg [jb .lss 14 13 12]) (.seq (.cond (.t 14) .skip (.exit 0)) (.seq (.block 1 (.seq (.reg [jm 15 13, jm 5 15]) (.seq (.regd 9 [jm 16 0, jm 17 5, jx 18 1 16 17, jl 19 1 18, jm 20 1, jm 21 5, jx 22 1 20 21, jl 23 1 22, jb .neq 24 19 23]) (.cond (.t 24) (.seq (.reg [jc 4 (.bool false)]) .ret) .skip)))) (.reg [ju .add 25 13 1, jm 13 25]))))
def k37 : IC := (.seq (.reg [jc 4 (.bool false)]) (.seq (.seq (.reg [jm 6 0, jL 7 6, jm 8 1, jL 9 8, jb .neq 10 7 9]) (.cond (.t 10) (.seq (.reg [jc 4 (.bool false)]) .ret) .skip)) (.seq (.seq (.reg [jm 11 0, jL 12 11, jc 13 (j6 0)]) (.block 0 (.loop zB))) (.seq (.reg [jc 4 (.bool true)]) .ret))))
theorem Vj : BV Tryz.prog Tryz.f37 = some ⟨26, k37, [(.tmp 4)]⟩ := by kernel_rfl
theorem QL (N : Nat) (a0 : List (List UInt8)) (a1 : List (List UInt8)) : ∀ (n : Nat) (x : Int) (y : Unit ⊕ Bool), G6 N a0 a1 n x = some y → WX Tryz.prog (fun _ => false) (.loop zB) ((fun (x : Int) => ⟨AY [(0, .sl 1 (List.map PV.str a0)), (1, .sl 1 (List.map PV.str a1)), (12, j6 (a0.length : Int)), (13, j6 x)], AY []⟩) x) ((Sum.elim (fun y e s => e = .exit 0 ∧ s = ⟨AY [], AY []⟩) (fun y e s => e = .ret ∧ s = ⟨AY [(4, .bool y)], AY []⟩) : (Unit ⊕ Bool) → Xt → St → Prop) y) := by
 refine EP _ _ (G6 N a0 a1) (KW N a0 a1) (fun _ => rfl) (fun _ _ => rfl) ?_
 rintro rec v13l14 y h
 refine AC (AB ?_)
 refine wq rfl ?_
 refine AC ?_
 refine D5 h rfl (fun c2 h => ?_) (fun c2 h => ?_)
 refine BF (AC (BZ (AC (AB ?_))))
 iterate 2 refine wq rfl ?_
 refine AC (P6 ?_)
 iterate 2 refine dq rfl ?_
 obtain ⟨PN, gD, h⟩ := AJ h
 refine JN rfl (DF (cs := [.str PN]) gD rfl rfl rfl) ?_
 iterate 3 refine dq rfl ?_
 obtain ⟨WY, YT, h⟩ := AJ h
 refine JN rfl (DF (cs := [.str WY]) YT rfl rfl rfl) ?_
 iterate 2 refine dq rfl ?_
 refine D5 h rfl (fun c3 h => ?_) (fun c3 h => ?_)
 refine AC (AB ?_)
 refine wq rfl ?_
 obtain rfl := AA h
 exact DL (st1 := ⟨AY [(4, .bool false)], AY []⟩) (cq rfl) ⟨rfl, rfl⟩
 refine BF (AB ?_)
 refine AQ (p := j6 (BM (v13l14 + (1 : Int)))) rfl rfl ?_
 refine wq rfl ?_
 exact ⟨(BM (v13l14 + (1 : Int))), (cq rfl), h⟩
 cases AA h
 exact CU (st1 := ⟨AY [], AY []⟩) (cq rfl) ⟨rfl, rfl⟩
theorem RU (N : Nat) (a0 : List (List UInt8)) (a1 : List (List UInt8)) (r : Bool) (h : NV N a0 a1 = some r) : Sat Tryz.prog 37 AO [.sl 1 (List.map PV.str a0), .sl 1 (List.map PV.str a1)] (.bool r) AO := by
 refine DK mixed Tryz.func37 Vj (rs := [.bool r]) rfl rfl ?_
 refine AC (AB ?_)
 refine wq rfl ?_
 iterate 2 refine AC ?_
 refine AB ?_
 refine wq rfl ?_
 refine AQ rfl (BU rfl) ?_
 refine wq rfl ?_
 refine AQ rfl (BU rfl) ?_
 refine wq rfl ?_
 refine D5 h rfl (fun c1 h => ?_) (fun c1 h => ?_)
 refine AC (AB ?_)
 refine wq rfl ?_
 obtain rfl := AA h
 refine BR ?_
 exact ⟨nofun, rfl, rfl⟩
 refine BF ?_
 iterate 2 refine AC ?_
 refine AB ?_
 refine wq rfl ?_
 refine AQ rfl (BU rfl) ?_
 refine wq rfl ?_
 refine BZ ?_
 obtain ⟨y4, hy4, h⟩ := AJ h
 refine QI (QL N a0 a1 N _ _ hy4) (cq rfl) ?_
 clear hy4
 rcases y4 with y4 | y4
 rintro e s ⟨rfl, rfl⟩
 refine AC (AB ?_)
 refine wq rfl ?_
 obtain rfl := AA h
 refine BR ?_
 exact ⟨nofun, rfl, rfl⟩
 rintro e s ⟨rfl, rfl⟩
 obtain rfl := AA h
 exact ⟨nofun, rfl, rfl⟩
def k36 : IC := (.seq (.reg [jn 2 (.box 44 (.t 0)), jn 3 (.box 44 (.t 1)), jc 4 (.bool false)]) (.seq (.reg [ja 5 0 2, jl 6 1 5, ja 7 0 3, jl 8 1 7, jb .eql 9 6 8, jm 10 9, jt 10 11 (.fda 1 (.t 2)), jt 10 12 (.load 1 false (.t 11)), jt 10 13 (.fda 1 (.t 3)), jt 10 14 (.load 1 false (.t 13)), jt 10 15 (.bin .eql (.t 12) (.t 14)), jp 16 10 15, jm 17 16, jt 17 18 (.fda 2 (.t 2)), jt 17 19 (.load 1 false (.t 18)), jt 17 20 (.fda 2 (.t 3)), jt 17 21 (.load 1 false (.t 20)), jt 17 22 (.call 37 [(.t 19), (.t 21)]), jp 23 17 22, jm 4 23]) .ret))
theorem Vk : BV Tryz.prog Tryz.f36 = some ⟨24, k36, [(.tmp 4)]⟩ := by kernel_rfl
theorem dN (N : Nat) (a0 : BD) (a1 : BD) (r : Bool) (h : aL N a0 a1 = some r) : Sat Tryz.prog 36 AO [AU a0, AU a1] (.bool r) AO := by
 refine DK mixed Tryz.func36 Vk (rs := [.bool r]) rfl rfl ?_
 refine AC (AB ?_)
 refine CO rfl (G5 57602 rfl rfl rfl rfl rfl) ?_
 refine CO rfl (G5 57603 rfl rfl rfl rfl rfl) ?_
 refine wq rfl ?_
 obtain ⟨g1, hg1, h⟩ := AJ h
 refine F3 ⟨AY [(4, .bool g1)], AY []⟩ ?_ ?_
 have h := hg1
 refine AB ?_
 iterate 6 refine wq rfl ?_
 rcases BO h with ⟨c2, h⟩ | ⟨c2, h⟩
 iterate 5 refine AQ (gy rfl c2) rfl ?_
 refine AQ rfl (BA c2 rfl rfl) ?_
 refine wq rfl ?_
 rcases BO h with ⟨c3, h⟩ | ⟨c3, h⟩
 iterate 4 refine AQ (gy rfl c3) rfl ?_
 obtain ⟨WY, YT, h⟩ := AJ h
 refine CO (gy rfl c3) (CB (RU N _ _ _ YT) rfl (.cons A8 (.cons A8 .nil)) rfl rfl rfl) ?_
 refine AQ rfl (BA c3 rfl rfl) ?_
 refine wq rfl ?_
 obtain rfl := AA h
 exact cq rfl
 iterate 5 refine BJ (gn rfl c3) ?_
 refine AQ rfl (AZ c3 rfl rfl) ?_
 refine wq rfl ?_
 obtain rfl := AA h
 exact cq rfl
 iterate 5 refine BJ (gn rfl c2) ?_
 refine AQ rfl (AZ c2 rfl rfl) ?_
 refine wq rfl ?_
 iterate 5 refine BJ rfl ?_
 iterate 2 refine wq rfl ?_
 obtain rfl := AA h
 exact cq rfl
 clear hg1
 obtain rfl := AA h
 refine BR ?_
 exact ⟨nofun, rfl, rfl⟩
def kX : IC := (.seq (.reg [jb .lss 18 17 16]) (.seq (.cond (.t 18) .skip (.exit 0)) (.seq (.block 1 (.seq (.reg [jm 19 17, jx 20 3 15 17, jg 21 3 20, jn 8 (.box 44 (.c (.agg [(j6 0), (.str []), .nl]))), jm 7 19, js 3 8 21]) (.seq (.reg [jm 22 1, jm 23 7, jx 24 3 22 23, jg 25 3 24, jn 9 (.box 44 (.c (.agg [(j6 0), (.str []), .nl]))), js 3 9 25]) (.seq (.reg [jm 26 2, jg 27 3 8, jg 28 3 9, jn 29 (.calv (.t 26) [(.t 27), (.t 28)]), jn 30 (.un .not (.t 29))]) (.cond (.t 30) (.seq (.reg [jc 6 (.bool false)]) .ret) .skip))))) (.reg [ju .add 31 17 1, jm 17 31]))))
def Vl : IC := (.seq (.reg [jc 6 (.bool false)]) (.seq (.seq (.reg [jm 10 0, jL 11 10, jm 12 1, jL 13 12, jb .neq 14 11 13]) (.cond (.t 14) (.seq (.reg [jc 6 (.bool false)]) .ret) .skip)) (.seq (.seq (.reg [jm 15 0, jL 16 15, jc 17 (j6 0)]) (.block 0 (.loop kX))) (.seq (.reg [jc 6 (.bool true)]) .ret))))
theorem Bz : BV Tryz.prog Tryz.f35 = some ⟨32, Vl, [(.tmp 6)]⟩ := by kernel_rfl
theorem GH (N : Nat) (a0 : List BD) (a1 : List BD) : ∀ (n : Nat) (x : Int) (y : Unit ⊕ Bool), BS N a0 a1 n x = some y → WX Tryz.prog (fun _ => false) (.loop kX) ((fun (x : Int) => ⟨AY [(1, .sl 3 (List.map AU a1)), (2, .clo 36 []), (15, .sl 3 (List.map AU a0)), (16, j6 (a0.length : Int)), (17, j6 x)], AY []⟩) x) ((Sum.elim (fun y e s => e = .exit 0 ∧ s = ⟨AY [], AY []⟩) (fun y e s => e = .ret ∧ s = ⟨AY [(6, .bool y)], AY []⟩) : (Unit ⊕ Bool) → Xt → St → Prop) y) := by
 refine EP _ _ (BS N a0 a1) (DN N a0 a1) (fun _ => rfl) (fun _ _ => rfl) ?_
 rintro rec v17l14 y h
 refine AC (AB ?_)
 refine wq rfl ?_
 refine AC ?_
 refine D5 h rfl (fun c2 h => ?_) (fun c2 h => ?_)
 refine BF (AC (BZ (AC (AB ?_))))
 refine wq rfl ?_
 obtain ⟨x20, bG, h⟩ := AJ h
 refine AQ rfl (DF (cs := [j6 x20.Kind, .str x20.Attr, .sl 1 (List.map PV.str x20.Values)]) bG rfl rfl rfl) ?_
 refine AQ (p := AU x20) rfl rfl ?_
 refine CO rfl (G5 56008 rfl rfl rfl rfl rfl) ?_
 refine wq rfl ?_
 refine EW (e' := AU x20) rfl rfl rfl rfl rfl rfl rfl rfl nofun rfl ?_
 refine AC (AB ?_)
 iterate 2 refine wq rfl ?_
 obtain ⟨x24, hx24, h⟩ := AJ h
 refine AQ rfl (DF (cs := [j6 x24.Kind, .str x24.Attr, .sl 1 (List.map PV.str x24.Values)]) hx24 rfl rfl rfl) ?_
 refine AQ (p := AU x24) rfl rfl ?_
 refine CO rfl (G5 56009 rfl rfl rfl rfl rfl) ?_
 refine EW (e' := AU x24) rfl rfl rfl rfl rfl rfl rfl rfl nofun rfl ?_
 refine AC (AB ?_)
 refine wq rfl ?_
 refine AQ (p := AU x20) rfl rfl ?_
 refine AQ (p := AU x24) rfl rfl ?_
 obtain ⟨x29, hx29, h⟩ := AJ h
 refine CO rfl (aI (dN N _ _ _ hx29) rfl rfl rfl (.cons A8 (.cons A8 .nil)) rfl rfl rfl) ?_
 refine wq rfl ?_
 refine D5 h rfl (fun c3 h => ?_) (fun c3 h => ?_)
 refine AC (AB ?_)
 refine wq rfl ?_
 obtain rfl := AA h
 exact DL (st1 := ⟨AY [(6, .bool false)], AY []⟩) (cq rfl) ⟨rfl, rfl⟩
 refine BF (AB ?_)
 refine AQ (p := j6 (BM (v17l14 + (1 : Int)))) rfl rfl ?_
 refine wq rfl ?_
 exact ⟨(BM (v17l14 + (1 : Int))), (cq rfl), h⟩
 cases AA h
 exact CU (st1 := ⟨AY [], AY []⟩) (cq rfl) ⟨rfl, rfl⟩
theorem GN (N : Nat) (a0 : List BD) (a1 : List BD) (r : Bool) (h : EM N a0 a1 = some r) : Sat Tryz.prog 35 AO [.sl 3 (List.map AU a0), .sl 3 (List.map AU a1), .clo 36 []] (.bool r) AO := by
 refine DK mixed Tryz.func35 Bz (rs := [.bool r]) rfl rfl ?_
 refine AC (AB ?_)
 refine wq rfl ?_
 iterate 2 refine AC ?_
 refine AB ?_
 refine wq rfl ?_
 refine AQ rfl (BU rfl) ?_
 refine wq rfl ?_
 refine AQ rfl (BU rfl) ?_
 refine wq rfl ?_
 refine D5 h rfl (fun c1 h => ?_) (fun c1 h => ?_)
 refine AC (AB ?_)
 refine wq rfl ?_
 obtain rfl := AA h
 refine BR ?_
 exact ⟨nofun, rfl, rfl⟩
 refine BF ?_
 iterate 2 refine AC ?_
 refine AB ?_
 refine wq rfl ?_
 refine AQ rfl (BU rfl) ?_
 refine wq rfl ?_
 refine BZ ?_
 obtain ⟨y4, hy4, h⟩ := AJ h
 refine QI (GH N a0 a1 N _ _ hy4) (cq rfl) ?_
 clear hy4
 rcases y4 with y4 | y4
 rintro e s ⟨rfl, rfl⟩
 refine AC (AB ?_)
 refine wq rfl ?_
 obtain rfl := AA h
 refine BR ?_
 exact ⟨nofun, rfl, rfl⟩
 rintro e s ⟨rfl, rfl⟩
 obtain rfl := AA h
 exact ⟨nofun, rfl, rfl⟩
def zA : IC := (.seq (.reg [jb .lss 14 13 12]) (.seq (.cond (.t 14) .skip (.exit 0)) (.seq (.block 1 (.seq (.reg [jm 15 13, jm 5 15]) (.seq (.regd 9 [jm 16 0, jm 17 5, jx 18 2 16 17, jg 19 2 18, jm 20 1, jm 21 5, jx 22 2 20 21, jg 23 2 22, jn 24 (.eqs true [.s, .s] (.t 19) (.t 23))]) (.cond (.t 24) (.seq (.reg [jc 4 (.bool false)]) .ret) .skip)))) (.reg [ju .add 25 13 1, jm 13 25]))))
def k38 : IC := (.seq (.reg [jc 4 (.bool false)]) (.seq (.seq (.reg [jm 6 0, jL 7 6, jm 8 1, jL 9 8, jb .neq 10 7 9]) (.cond (.t 10) (.seq (.reg [jc 4 (.bool false)]) .ret) .skip)) (.seq (.seq (.reg [jm 11 0, jL 12 11, jc 13 (j6 0)]) (.block 0 (.loop zA))) (.seq (.reg [jc 4 (.bool true)]) .ret))))
theorem Vi : BV Tryz.prog Tryz.f38 = some ⟨26, k38, [(.tmp 4)]⟩ := by kernel_rfl
theorem PP (N : Nat) (a0 : List AL) (a1 : List AL) : ∀ (n : Nat) (x : Int) (y : Unit ⊕ Bool), CW N a0 a1 n x = some y → WX Tryz.prog (fun _ => false) (.loop zA) ((fun (x : Int) => ⟨AY [(0, .sl 2 (List.map AV a0)), (1, .sl 2 (List.map AV a1)), (12, j6 (a0.length : Int)), (13, j6 x)], AY []⟩) x) ((Sum.elim (fun y e s => e = .exit 0 ∧ s = ⟨AY [], AY []⟩) (fun y e s => e = .ret ∧ s = ⟨AY [(4, .bool y)], AY []⟩) : (Unit ⊕ Bool) → Xt → St → Prop) y) := by
 refine EP _ _ (CW N a0 a1) (FC N a0 a1) (fun _ => rfl) (fun _ _ => rfl) ?_
 rintro rec v13l14 y h
 refine AC (AB ?_)
 refine wq rfl ?_
 refine AC ?_
 refine D5 h rfl (fun c2 h => ?_) (fun c2 h => ?_)
 refine BF (AC (BZ (AC (AB ?_))))
 iterate 2 refine wq rfl ?_
 refine AC (P6 ?_)
 iterate 2 refine dq rfl ?_
 obtain ⟨PN, gD, h⟩ := AJ h
 refine JN rfl (DF (cs := [.str PN.Attr, .str PN.Value]) gD rfl rfl rfl) ?_
 refine JN (p := AV PN) rfl rfl ?_
 iterate 2 refine dq rfl ?_
 obtain ⟨WY, YT, h⟩ := AJ h
 refine JN rfl (DF (cs := [.str WY.Attr, .str WY.Value]) YT rfl rfl rfl) ?_
 refine JN (p := AV WY) rfl rfl ?_
 refine JN (p := .bool (!(PN.Attr == WY.Attr && (PN.Value == WY.Value && true)))) rfl rfl ?_
 refine D5 h rfl (fun c3 h => ?_) (fun c3 h => ?_)
 refine AC (AB ?_)
 refine wq rfl ?_
 obtain rfl := AA h
 exact DL (st1 := ⟨AY [(4, .bool false)], AY []⟩) (cq rfl) ⟨rfl, rfl⟩
 refine BF (AB ?_)
 refine AQ (p := j6 (BM (v13l14 + (1 : Int)))) rfl rfl ?_
 refine wq rfl ?_
 exact ⟨(BM (v13l14 + (1 : Int))), (cq rfl), h⟩
 cases AA h
 exact CU (st1 := ⟨AY [], AY []⟩) (cq rfl) ⟨rfl, rfl⟩
theorem QR (N : Nat) (a0 : List AL) (a1 : List AL) (r : Bool) (h : GR N a0 a1 = some r) : Sat Tryz.prog 38 AO [.sl 2 (List.map AV a0), .sl 2 (List.map AV a1)] (.bool r) AO := by
 refine DK mixed Tryz.func38 Vi (rs := [.bool r]) rfl rfl ?_
 refine AC (AB ?_)
 refine wq rfl ?_
 iterate 2 refine AC ?_
 refine AB ?_
 refine wq rfl ?_
 refine AQ rfl (BU rfl) ?_
 refine wq rfl ?_
 refine AQ rfl (BU rfl) ?_
 refine wq rfl ?_
 refine D5 h rfl (fun c1 h => ?_) (fun c1 h => ?_)
 refine AC (AB ?_)
 refine wq rfl ?_
 obtain rfl := AA h
 refine BR ?_
 exact ⟨nofun, rfl, rfl⟩
 refine BF ?_
 iterate 2 refine AC ?_
 refine AB ?_
 refine wq rfl ?_
 refine AQ rfl (BU rfl) ?_
 refine wq rfl ?_
 refine BZ ?_
 obtain ⟨y4, hy4, h⟩ := AJ h
 refine QI (PP N a0 a1 N _ _ hy4) (cq rfl) ?_
 clear hy4
 rcases y4 with y4 | y4
 rintro e s ⟨rfl, rfl⟩
 refine AC (AB ?_)
 refine wq rfl ?_
 obtain rfl := AA h
 refine BR ?_
 exact ⟨nofun, rfl, rfl⟩
 rintro e s ⟨rfl, rfl⟩
 obtain rfl := AA h
 exact ⟨nofun, rfl, rfl⟩
def k12 : IC := (.seq (.reg [jn 2 (.box 28 (.t 0)), jn 3 (.box 28 (.t 1)), jc 4 (.bool false)]) (.seq (.reg [ja 6 12 2, jl 7 1 6, ja 8 12 3, jl 9 1 8, jn 10 (.call 35 [(.t 7), (.t 9), (.c (.clo 36 []))]), jm 5 10]) (.seq (.reg [ja 11 0 2, jg 12 3 11, ja 13 0 3, jg 14 3 13, jn 15 (.eqs false [(.i .i64), (.i .i64), (.i .i64)] (.t 12) (.t 14)), jm 16 15, jt 16 17 (.fda 3 (.t 2)), jt 16 18 (.load 1 false (.t 17)), jt 16 19 (.fda 3 (.t 3)), jt 16 20 (.load 1 false (.t 19)), jt 16 21 (.bin .eql (.t 18) (.t 20)), jp 22 16 21, jm 23 22, jt 23 24 (.fda 4 (.t 2)), jt 23 25 (.load 3 true (.t 24)), jt 23 26 (.fda 4 (.t 3)), jt 23 27 (.load 3 true (.t 26)), jt 23 28 (.eqs false [(.i .i64), (.i .i64), (.i .i64)] (.t 25) (.t 27)), jp 29 23 28, jm 30 29, jt 30 31 (.fda 7 (.t 2)), jt 30 32 (.load 3 true (.t 31)), jt 30 33 (.fda 7 (.t 3)), jt 30 34 (.load 3 true (.t 33)), jt 30 35 (.eqs false [(.i .i64), (.i .i64), (.i .i64)] (.t 32) (.t 34)), jp 36 30 35, jm 37 36, jt 37 38 (.fda 10 (.t 2)), jt 37 39 (.load 1 false (.t 38)), jt 37 40 (.fda 10 (.t 3)), jt 37 41 (.load 1 false (.t 40)), jt 37 42 (.call 38 [(.t 39), (.t 41)]), jp 43 37 42, jm 44 43, jt 44 45 (.fda 11 (.t 2)), jt 44 46 (.load 1 false (.t 45)), jt 44 47 (.fda 11 (.t 3)), jt 44 48 (.load 1 false (.t 47)), jt 44 49 (.beq false (.t 46) (.t 48)), jp 50 44 49, jm 51 50, jt 51 52 (.mov (.t 5)), jp 53 51 52, jm 4 53]) .ret)))
theorem Wo : BV Tryz.prog Tryz.f12 = some ⟨54, k12, [(.tmp 4)]⟩ := by kernel_rfl
theorem iL (N : Nat) (a0 : AX) (a1 : AX) (r : Bool) (h : iA N a0 a1 = some r) : Sat Tryz.prog 12 AO [AR a0, AR a1] (.bool r) AO := by
 refine DK mixed Tryz.func12 Wo (rs := [.bool r]) rfl rfl ?_
 refine AC (AB ?_)
 refine CO rfl (G5 19202 rfl rfl rfl rfl rfl) ?_
 refine CO rfl (G5 19203 rfl rfl rfl rfl rfl) ?_
 refine wq rfl ?_
 refine AC (AB ?_)
 iterate 4 refine wq rfl ?_
 obtain ⟨SX, XO, h⟩ := AJ h
 refine CO rfl (CB (GN N _ _ _ XO) rfl (.cons A8 (.cons A8 (.cons A8 .nil))) rfl rfl rfl) ?_
 refine wq rfl ?_
 obtain ⟨g1, hg1, h⟩ := AJ h
 refine F3 ⟨AY [(4, .bool g1)], AY []⟩ ?_ ?_
 have h := hg1
 refine AB ?_
 refine wq rfl ?_
 refine AQ (p := .agg [j6 a0.CSN.Time, j6 a0.CSN.Seq, j6 a0.CSN.Rep]) rfl rfl ?_
 refine wq rfl ?_
 refine AQ (p := .agg [j6 a1.CSN.Time, j6 a1.CSN.Seq, j6 a1.CSN.Rep]) rfl rfl ?_
 refine AQ (p := .bool (a0.CSN.Time == a1.CSN.Time && (a0.CSN.Seq == a1.CSN.Seq && (a0.CSN.Rep == a1.CSN.Rep && true)))) rfl rfl ?_
 refine wq rfl ?_
 rcases BO h with ⟨c2, h⟩ | ⟨c2, h⟩
 iterate 5 refine AQ (gy rfl c2) rfl ?_
 refine AQ rfl (BA c2 rfl rfl) ?_
 refine wq rfl ?_
 rcases BO h with ⟨c3, h⟩ | ⟨c3, h⟩
 refine AQ (gy rfl c3) rfl ?_
 refine AQ (p := .agg [j6 a0.ID.Time, j6 a0.ID.Seq, j6 a0.ID.Rep]) (gy rfl c3) rfl ?_
 refine AQ (gy rfl c3) rfl ?_
 refine AQ (p := .agg [j6 a1.ID.Time, j6 a1.ID.Seq, j6 a1.ID.Rep]) (gy rfl c3) rfl ?_
 refine AQ (p := .bool (a0.ID.Time == a1.ID.Time && (a0.ID.Seq == a1.ID.Seq && (a0.ID.Rep == a1.ID.Rep && true)))) (gy rfl c3) rfl ?_
 refine AQ rfl (BA c3 rfl rfl) ?_
 refine wq rfl ?_
 rcases BO h with ⟨c4, h⟩ | ⟨c4, h⟩
 refine AQ (gy rfl c4) rfl ?_
 refine AQ (p := .agg [j6 a0.Parent.Time, j6 a0.Parent.Seq, j6 a0.Parent.Rep]) (gy rfl c4) rfl ?_
 refine AQ (gy rfl c4) rfl ?_
 refine AQ (p := .agg [j6 a1.Parent.Time, j6 a1.Parent.Seq, j6 a1.Parent.Rep]) (gy rfl c4) rfl ?_
 refine AQ (p := .bool (a0.Parent.Time == a1.Parent.Time && (a0.Parent.Seq == a1.Parent.Seq && (a0.Parent.Rep == a1.Parent.Rep && true)))) (gy rfl c4) rfl ?_
 refine AQ rfl (BA c4 rfl rfl) ?_
 refine wq rfl ?_
 rcases BO h with ⟨c5, h⟩ | ⟨c5, h⟩
 iterate 4 refine AQ (gy rfl c5) rfl ?_
 obtain ⟨Li, Ci, h⟩ := AJ h
 refine CO (gy rfl c5) (CB (QR N _ _ _ Ci) rfl (.cons A8 (.cons A8 .nil)) rfl rfl rfl) ?_
 refine AQ rfl (BA c5 rfl rfl) ?_
 refine wq rfl ?_
 rcases BO h with ⟨c6, h⟩ | ⟨c6, h⟩
 iterate 5 refine AQ (gy rfl c6) rfl ?_
 refine AQ rfl (BA c6 rfl rfl) ?_
 refine wq rfl ?_
 rcases BO h with ⟨c7, h⟩ | ⟨c7, h⟩
 refine AQ (gy rfl c7) rfl ?_
 refine AQ rfl (BA c7 rfl rfl) ?_
 refine wq rfl ?_
 obtain rfl := AA h
 exact cq rfl
 refine BJ (gn rfl c7) ?_
 refine AQ rfl (AZ c7 rfl rfl) ?_
 refine wq rfl ?_
 obtain rfl := AA h
 exact cq rfl
 iterate 5 refine BJ (gn rfl c6) ?_
 refine AQ rfl (AZ c6 rfl rfl) ?_
 refine wq rfl ?_
 refine BJ rfl ?_
 iterate 2 refine wq rfl ?_
 obtain rfl := AA h
 exact cq rfl
 iterate 5 refine BJ (gn rfl c5) ?_
 refine AQ rfl (AZ c5 rfl rfl) ?_
 refine wq rfl ?_
 iterate 5 refine BJ rfl ?_
 iterate 2 refine wq rfl ?_
 refine BJ rfl ?_
 iterate 2 refine wq rfl ?_
 obtain rfl := AA h
 exact cq rfl
 iterate 5 refine BJ (gn rfl c4) ?_
 refine AQ rfl (AZ c4 rfl rfl) ?_
 refine wq rfl ?_
 iterate 5 refine BJ rfl ?_
 iterate 2 refine wq rfl ?_
 iterate 5 refine BJ rfl ?_
 iterate 2 refine wq rfl ?_
 refine BJ rfl ?_
 iterate 2 refine wq rfl ?_
 obtain rfl := AA h
 exact cq rfl
 iterate 5 refine BJ (gn rfl c3) ?_
 refine AQ rfl (AZ c3 rfl rfl) ?_
 refine wq rfl ?_
 iterate 5 refine BJ rfl ?_
 iterate 2 refine wq rfl ?_
 iterate 5 refine BJ rfl ?_
 iterate 2 refine wq rfl ?_
 iterate 5 refine BJ rfl ?_
 iterate 2 refine wq rfl ?_
 refine BJ rfl ?_
 iterate 2 refine wq rfl ?_
 obtain rfl := AA h
 exact cq rfl
 iterate 5 refine BJ (gn rfl c2) ?_
 refine AQ rfl (AZ c2 rfl rfl) ?_
 refine wq rfl ?_
 iterate 5 refine BJ rfl ?_
 iterate 2 refine wq rfl ?_
 iterate 5 refine BJ rfl ?_
 iterate 2 refine wq rfl ?_
 iterate 5 refine BJ rfl ?_
 iterate 2 refine wq rfl ?_
 iterate 5 refine BJ rfl ?_
 iterate 2 refine wq rfl ?_
 refine BJ rfl ?_
 iterate 2 refine wq rfl ?_
 obtain rfl := AA h
 exact cq rfl
 clear hg1
 obtain rfl := AA h
 refine BR ?_
 exact ⟨nofun, rfl, rfl⟩
def k7 : IC := (.seq (.reg [jc 0 (.bool false)]) (.seq (.reg [jn 10 (.build [(j6 0), (j6 0), (j6 0)] [(0, (1, (ji 2)))]), jn 11 (.build [(j6 0), (j6 0), (j6 0)] [(0, (1, (ji 1)))]), jn 12 (.build [(j6 0), (j6 0), (j6 0), (j6 0), (j6 0), (j6 0), (j6 0), (j6 0), (j6 0), (j6 0), .nl, (.bool false), .nl] [(0, (3, (.t 10))), (3, (1, (ji 2))), (4, (3, (.t 11)))]), jn 1 (.box 28 (.c (.agg [(j6 0), (j6 0), (j6 0), (j6 0), (j6 0), (j6 0), (j6 0), (j6 0), (j6 0), (j6 0), .nl, (.bool false), .nl]))), js 13 1 12]) (.seq (.reg [jg 14 13 1, jn 15 (.call 9 [(.t 14)]), jm 13 15, je 16 0 13, je 17 1 13, jm 2 16, jm 3 17]) (.seq (.reg [jm 19 2, jn 20 (.call 16 [(.t 19)]), jm 18 20, je 21 0 18, je 22 1 18, jn 4 (.box 28 (.c (.agg [(j6 0), (j6 0), (j6 0), (j6 0), (j6 0), (j6 0), (j6 0), (j6 0), (j6 0), (j6 0), .nl, (.bool false), .nl]))), js 13 4 21, jm 5 22]) (.seq (.reg [jn 24 (.build [(j6 0), (j6 0), (j6 0), (j6 0), (j6 0), (j6 0), (j6 0), (j6 0), (j6 0), (j6 0), .nl, (.bool false), .nl] []), jn 25 (.call 9 [(.t 24)]), jm 23 25, je 26 0 23, je 27 1 23, jm 6 26, jm 7 27]) (.seq (.reg [jn 29 (.call 16 [(.c (.str []))]), jm 28 29, je 30 0 28, je 31 1 28, jn 8 (.box 28 (.c (.agg [(j6 0), (j6 0), (j6 0), (j6 0), (j6 0), (j6 0), (j6 0), (j6 0), (j6 0), (j6 0), .nl, (.bool false), .nl]))), js 13 8 30, jm 9 31]) (.seq (.regd 35 [jm 32 3, ju .eql 33 32 0, jm 34 33, jt 34 35 (.mov (.t 5)), jt 34 36 (.bin .eql (.t 35) (ji 0)), jp 37 34 36, jm 38 37, jt 38 39 (.load 13 true (.t 1)), jt 38 40 (.load 13 true (.t 4)), jt 38 41 (.call 13 [(.t 39), (.t 40)]), jp 42 38 41, jm 43 42, jt 43 44 (.mov (.t 7)), jt 43 45 (.bin .eql (.t 44) (ji 14)), jp 46 43 45, jm 47 46, jt 47 48 (.mov (.t 9)), jt 47 49 (.bin .eql (.t 48) (ji 14)), jp 50 47 49, jm 51 50, jt 51 52 (.load 13 true (.t 1)), jt 51 53 (.call 10 [(.t 52)]), jp 54 51 53, jm 55 54, jt 55 56 (.build [(j6 0), (j6 0), (j6 0), (j6 0), (j6 0), (j6 0), (j6 0), (j6 0), (j6 0), (j6 0), .nl, (.bool false), .nl] []), jt 55 57 (.call 10 [(.t 56)]), jt 55 58 (.un .not (.t 57)), jp 59 55 58, jm 60 59, jt 60 61 (.load 13 true (.t 1)), jt 60 62 (.load 13 true (.t 1)), jt 60 63 (.call 15 [(.t 62)]), jt 60 64 (.call 12 [(.t 61), (.t 63)]), jp 65 60 64, jm 0 65]) .ret)))))))
theorem k7_cf : BV Tryz.prog Tryz.f7 = some ⟨66, k7, [(.tmp 0)]⟩ := by kernel_rfl
theorem XG (N : Nat)  (r : Bool) (h : PS N  = some r) : Sat Tryz.prog 7 AO [] (.bool r) AO := by
 refine DK mixed Tryz.func7 k7_cf (rs := [.bool r]) rfl rfl ?_
 refine AC (AB ?_)
 refine wq rfl ?_
 refine AC (AB ?_)
 refine AQ (p := .agg [j6 2, j6 0, j6 0]) rfl rfl ?_
 refine AQ (p := .agg [j6 1, j6 0, j6 0]) rfl rfl ?_
 refine AQ (p := .agg [j6 2, j6 0, j6 0, j6 2, j6 1, j6 0, j6 0, j6 0, j6 0, j6 0, .nl, .bool false, .nl]) rfl rfl ?_
 refine Ag (KP 12 (LQ (.cons A8 (.cons A8 (.cons A8 (.cons A8 (.cons A8 (.cons A8 (.cons A8 (.cons A8 (.cons A8 (.cons A8 (.cons (FM 2) (.cons A8 (.cons (FM 3) .nil))))))))))))) rfl) rfl) ?_
 refine CO rfl (G5 11201 rfl rfl rfl rfl rfl) ?_
 refine EW (e' := .agg [j6 2, j6 0, j6 0, j6 2, j6 1, j6 0, j6 0, j6 0, j6 0, j6 0, .sl 2 (List.map AV []), .bool false, .sl 3 (List.map AU [])]) rfl rfl rfl rfl rfl rfl rfl rfl nofun rfl ?_
 refine AC (AB ?_)
 refine AQ (p := .agg [j6 2, j6 0, j6 0, j6 2, j6 1, j6 0, j6 0, j6 0, j6 0, j6 0, .sl 2 (List.map AV []), .bool false, .sl 3 (List.map AU [])]) rfl rfl ?_
 obtain ⟨NK, RX, h⟩ := AJ h
 refine CO rfl (CB (LZ N _ _ RX) rfl (.cons A8 .nil) rfl rfl rfl) ?_
 iterate 5 refine wq rfl ?_
 refine AC (AB ?_)
 refine wq rfl ?_
 obtain ⟨x20, bG, h⟩ := AJ h
 refine CO rfl (CB (TA N _ _ bG) rfl (.cons A8 .nil) rfl rfl rfl) ?_
 iterate 3 refine wq rfl ?_
 refine CO rfl (G5 11204 rfl rfl rfl rfl rfl) ?_
 refine EW (e' := AR x20.1) rfl rfl rfl rfl rfl rfl rfl rfl nofun rfl ?_
 refine wq rfl ?_
 refine AC (AB ?_)
 refine AQ (p := .agg [j6 0, j6 0, j6 0, j6 0, j6 0, j6 0, j6 0, j6 0, j6 0, j6 0, .nl, .bool false, .nl]) rfl rfl ?_
 refine Ag (KP 24 (LQ (.cons A8 (.cons A8 (.cons A8 (.cons A8 (.cons A8 (.cons A8 (.cons A8 (.cons A8 (.cons A8 (.cons A8 (.cons (FM 2) (.cons A8 (.cons (FM 3) .nil))))))))))))) rfl) rfl) ?_
 obtain ⟨x25, hx25, h⟩ := AJ h
 refine CO rfl (CB (LZ N _ _ hx25) rfl (.cons A8 .nil) rfl rfl rfl) ?_
 iterate 5 refine wq rfl ?_
 refine AC ?_
 refine V4 (cn (st := _) (l := [(1, .ptr 11201 0 0), (3, j6 NK.2), (4, .ptr 11204 0 0), (5, j6 x20.2), (7, j6 x25.2)]) (m := [(11201, ⟨13, false, [.agg [j6 2, j6 0, j6 0, j6 2, j6 1, j6 0, j6 0, j6 0, j6 0, j6 0, .sl 2 (List.map AV []), .bool false, .sl 3 (List.map AU [])]]⟩), (11204, ⟨13, false, [AR x20.1]⟩)]) rfl rfl rfl rfl) ?_
 refine AB ?_
 obtain ⟨x29, hx29, h⟩ := AJ h
 refine CO rfl (CB (TA N _ _ hx29) rfl (.cons A8 .nil) rfl rfl rfl) ?_
 iterate 3 refine wq rfl ?_
 refine CO rfl (G5 11208 rfl rfl rfl rfl rfl) ?_
 refine EW (e' := AR x29.1) rfl rfl rfl rfl rfl rfl rfl rfl nofun rfl ?_
 refine wq rfl ?_
 obtain ⟨g1, hg1, h⟩ := AJ h
 refine F3 ⟨AY [(0, .bool g1)], AY []⟩ ?_ ?_
 have h := hg1
 refine P6 ?_
 iterate 3 refine dq rfl ?_
 rcases BO h with ⟨c2, h⟩ | ⟨c2, h⟩
 iterate 2 refine JN (gy rfl c2) rfl ?_
 refine JN rfl (BA c2 rfl rfl) ?_
 refine dq rfl ?_
 rcases BO h with ⟨c3, h⟩ | ⟨c3, h⟩
 refine JN (p := .agg [j6 2, j6 0, j6 0, j6 2, j6 1, j6 0, j6 0, j6 0, j6 0, j6 0, .sl 2 (List.map AV []), .bool false, .sl 3 (List.map AU [])]) (gy rfl c3) rfl ?_
 refine JN (p := AR x20.1) (gy rfl c3) rfl ?_
 obtain ⟨x41, lD, h⟩ := AJ h
 refine VG (gy rfl c3) (PD (NM N _ _ _ lD) rfl (.cons A8 (.cons A8 .nil)) rfl rfl rfl) CZ ?_
 refine JN rfl (BA c3 rfl rfl) ?_
 refine dq rfl ?_
 rcases BO h with ⟨c4, h⟩ | ⟨c4, h⟩
 iterate 2 refine JN (gy rfl c4) rfl ?_
 refine JN rfl (BA c4 rfl rfl) ?_
 refine dq rfl ?_
 rcases BO h with ⟨c5, h⟩ | ⟨c5, h⟩
 iterate 2 refine JN (gy rfl c5) rfl ?_
 refine JN rfl (BA c5 rfl rfl) ?_
 refine dq rfl ?_
 rcases BO h with ⟨c6, h⟩ | ⟨c6, h⟩
 refine JN (p := .agg [j6 2, j6 0, j6 0, j6 2, j6 1, j6 0, j6 0, j6 0, j6 0, j6 0, .sl 2 (List.map AV []), .bool false, .sl 3 (List.map AU [])]) (gy rfl c6) rfl ?_
 obtain ⟨x53, hx53, h⟩ := AJ h
 refine VG (gy rfl c6) (PD (VQ N _ _ hx53) rfl (.cons A8 .nil) rfl rfl rfl) CZ ?_
 refine JN rfl (BA c6 rfl rfl) ?_
 refine dq rfl ?_
 rcases BO h with ⟨c7, h⟩ | ⟨c7, h⟩
 refine JN (p := .agg [j6 0, j6 0, j6 0, j6 0, j6 0, j6 0, j6 0, j6 0, j6 0, j6 0, .nl, .bool false, .nl]) (gy rfl c7) rfl ?_
 obtain ⟨x57, Xj, h⟩ := AJ h
 refine VG (gy rfl c7) (PD (VQ N _ _ Xj) rfl (.cons (LQ (.cons A8 (.cons A8 (.cons A8 (.cons A8 (.cons A8 (.cons A8 (.cons A8 (.cons A8 (.cons A8 (.cons A8 (.cons (FM 2) (.cons A8 (.cons (FM 3) .nil))))))))))))) rfl) .nil) rfl rfl rfl) CZ ?_
 refine JN (gy rfl c7) rfl ?_
 refine JN rfl (BA c7 rfl rfl) ?_
 refine dq rfl ?_
 rcases BO h with ⟨c8, h⟩ | ⟨c8, h⟩
 iterate 2 refine JN (p := .agg [j6 2, j6 0, j6 0, j6 2, j6 1, j6 0, j6 0, j6 0, j6 0, j6 0, .sl 2 (List.map AV []), .bool false, .sl 3 (List.map AU [])]) (gy rfl c8) rfl ?_
 obtain ⟨x63, Xh, h⟩ := AJ h
 refine VG (gy rfl c8) (PD (iM N _ _ Xh) rfl (.cons A8 .nil) rfl rfl rfl) CZ ?_
 obtain ⟨x64, Xg, h⟩ := AJ h
 refine VG (gy rfl c8) (PD (iL N _ _ _ Xg) rfl (.cons A8 (.cons A8 .nil)) rfl rfl rfl) CZ ?_
 refine JN rfl (BA c8 rfl rfl) ?_
 refine dq rfl ?_
 obtain rfl := AA h
 exact cq rfl
 iterate 4 refine cB (gn rfl c8) ?_
 refine JN rfl (AZ c8 rfl rfl) ?_
 refine dq rfl ?_
 obtain rfl := AA h
 exact cq rfl
 iterate 3 refine cB (gn rfl c7) ?_
 refine JN rfl (AZ c7 rfl rfl) ?_
 refine dq rfl ?_
 iterate 4 refine cB rfl ?_
 iterate 2 refine dq rfl ?_
 obtain rfl := AA h
 exact cq rfl
 iterate 2 refine cB (gn rfl c6) ?_
 refine JN rfl (AZ c6 rfl rfl) ?_
 refine dq rfl ?_
 iterate 3 refine cB rfl ?_
 iterate 2 refine dq rfl ?_
 iterate 4 refine cB rfl ?_
 iterate 2 refine dq rfl ?_
 obtain rfl := AA h
 exact cq rfl
 iterate 2 refine cB (gn rfl c5) ?_
 refine JN rfl (AZ c5 rfl rfl) ?_
 refine dq rfl ?_
 iterate 2 refine cB rfl ?_
 iterate 2 refine dq rfl ?_
 iterate 3 refine cB rfl ?_
 iterate 2 refine dq rfl ?_
 iterate 4 refine cB rfl ?_
 iterate 2 refine dq rfl ?_
 obtain rfl := AA h
 exact cq rfl
 iterate 2 refine cB (gn rfl c4) ?_
 refine JN rfl (AZ c4 rfl rfl) ?_
 refine dq rfl ?_
 iterate 2 refine cB rfl ?_
 iterate 2 refine dq rfl ?_
 iterate 2 refine cB rfl ?_
 iterate 2 refine dq rfl ?_
 iterate 3 refine cB rfl ?_
 iterate 2 refine dq rfl ?_
 iterate 4 refine cB rfl ?_
 iterate 2 refine dq rfl ?_
 obtain rfl := AA h
 exact cq rfl
 iterate 3 refine cB (gn rfl c3) ?_
 refine JN rfl (AZ c3 rfl rfl) ?_
 refine dq rfl ?_
 iterate 2 refine cB rfl ?_
 iterate 2 refine dq rfl ?_
 iterate 2 refine cB rfl ?_
 iterate 2 refine dq rfl ?_
 iterate 2 refine cB rfl ?_
 iterate 2 refine dq rfl ?_
 iterate 3 refine cB rfl ?_
 iterate 2 refine dq rfl ?_
 iterate 4 refine cB rfl ?_
 iterate 2 refine dq rfl ?_
 obtain rfl := AA h
 exact cq rfl
 iterate 2 refine cB (gn rfl c2) ?_
 refine JN rfl (AZ c2 rfl rfl) ?_
 refine dq rfl ?_
 iterate 3 refine cB rfl ?_
 iterate 2 refine dq rfl ?_
 iterate 2 refine cB rfl ?_
 iterate 2 refine dq rfl ?_
 iterate 2 refine cB rfl ?_
 iterate 2 refine dq rfl ?_
 iterate 2 refine cB rfl ?_
 iterate 2 refine dq rfl ?_
 iterate 3 refine cB rfl ?_
 iterate 2 refine dq rfl ?_
 iterate 4 refine cB rfl ?_
 iterate 2 refine dq rfl ?_
 obtain rfl := AA h
 exact cq rfl
 clear hg1
 obtain rfl := AA h
 refine BR ?_
 exact ⟨nofun, rfl, rfl⟩
def zF : IC := (.seq (.seq (.reg [jm 27 4, jm 28 0, jm 29 3, jx 30 3 28 29, ja 31 2 30, jl 32 1 31, jL 33 32, jb .lss 34 27 33]) (.cond (.t 34) .skip (.exit 2))) (.seq (.block 3 (.seq (.reg [jm 37 0, jm 38 3, jx 39 3 37 38, ja 40 2 39, jl 41 1 40, jm 42 4, jx 43 1 41 42, jl 44 1 43, jS 45 44, ju .gtr 46 45 80]) (.cond (.t 46) (.seq (.reg [jc 2 (.bool false)]) .ret) .skip))) (.reg [jm 35 4, ju .add 36 35 1, jm 4 36])))
def Hf : IC := (.seq (.seq (.reg [jm 5 3, jm 6 0, jL 7 6, jb .lss 8 5 7]) (.cond (.t 8) .skip (.exit 0))) (.seq (.block 1 (.seq (.seq (.reg [jm 11 0, jm 12 3, jx 13 3 11 12, ja 14 1 13, jl 15 1 14, jS 16 15, ju .gtr 17 16 30, jm 18 17, jf 18 19 (.mov (.t 0)), jf 18 20 (.mov (.t 3)), jf 18 21 (.ixp 3 (.t 19) (.t 20)), jf 18 22 (.fda 2 (.t 21)), jf 18 23 (.load 1 false (.t 22)), jf 18 24 (.len false (.t 23)), jf 18 25 (.bin .gtr (.t 24) (ji 20)), jo 26 18 25]) (.cond (.t 26) (.seq (.reg [jc 2 (.bool false)]) .ret) .skip)) (.seq (.reg [jc 4 (j6 0)]) (.block 2 (.loop zF))))) (.reg [jm 9 3, ju .add 10 9 1, jm 3 10])))
def k17 : IC := (.seq (.reg [jc 2 (.bool false)]) (.seq (.seq (.reg [jc 3 (j6 0)]) (.block 0 (.loop Hf))) (.seq (.reg [jm 47 0, jL 48 47, ju .leq 49 48 14, jm 2 49]) .ret)))
theorem Wi : BV Tryz.prog Tryz.f17 = some ⟨50, k17, [(.tmp 2)]⟩ := by kernel_rfl
theorem U1 (N : Nat) (a0 : List BD) (v3l6 : Int) : ∀ (n : Nat) (x : Int) (y : Unit ⊕ Bool), ES N a0 v3l6 n x = some y → WX Tryz.prog (fun _ => false) (.loop zF) ((fun (x : Int) => ⟨AY [(0, .sl 3 (List.map AU a0)), (3, j6 v3l6), (4, j6 x)], AY []⟩) x) ((Sum.elim (fun y e s => e = .exit 2 ∧ s = ⟨AY [(0, .sl 3 (List.map AU a0)), (3, j6 v3l6)], AY []⟩) (fun y e s => e = .ret ∧ s = ⟨AY [(2, .bool y)], AY []⟩) : (Unit ⊕ Bool) → Xt → St → Prop) y) := by
 refine EP _ _ (ES N a0 v3l6) (HY N a0 v3l6) (fun _ => rfl) (fun _ _ => rfl) ?_
 rintro rec v4l26 y h
 iterate 2 refine AC ?_
 refine AB ?_
 iterate 3 refine wq rfl ?_
 obtain ⟨x30, wF, h⟩ := AJ h
 refine AQ rfl (DF (cs := [j6 x30.Kind, .str x30.Attr, .sl 1 (List.map PV.str x30.Values)]) wF rfl rfl rfl) ?_
 refine AQ (p := .ep [.sl 1 (List.map PV.str x30.Values)]) rfl rfl ?_
 refine wq rfl ?_
 refine AQ rfl (BU rfl) ?_
 refine wq rfl ?_
 refine D5 h rfl (fun c5 h => ?_) (fun c5 h => ?_)
 refine BF (AC (BZ (AC (AB ?_))))
 iterate 2 refine wq rfl ?_
 obtain ⟨x39, hx39, h⟩ := AJ h
 refine AQ rfl (DF (cs := [j6 x39.Kind, .str x39.Attr, .sl 1 (List.map PV.str x39.Values)]) hx39 rfl rfl rfl) ?_
 refine AQ (p := .ep [.sl 1 (List.map PV.str x39.Values)]) rfl rfl ?_
 iterate 2 refine wq rfl ?_
 obtain ⟨x43, Xn, h⟩ := AJ h
 refine AQ rfl (DF (cs := [.str x43]) Xn rfl rfl rfl) ?_
 iterate 3 refine wq rfl ?_
 refine D5 h rfl (fun c6 h => ?_) (fun c6 h => ?_)
 refine AC (AB ?_)
 refine wq rfl ?_
 obtain rfl := AA h
 exact DL (st1 := ⟨AY [(2, .bool false)], AY []⟩) (cq rfl) ⟨rfl, rfl⟩
 refine BF (AB ?_)
 refine wq rfl ?_
 refine AQ (p := j6 (BM (v4l26 + (1 : Int)))) rfl rfl ?_
 refine wq rfl ?_
 exact ⟨(BM (v4l26 + (1 : Int))), (cq rfl), h⟩
 cases AA h
 exact CU (st1 := ⟨AY [(0, .sl 3 (List.map AU a0)), (3, j6 v3l6)], AY []⟩) (cq rfl) ⟨rfl, rfl⟩
theorem UX (N : Nat) (a0 : List BD) : ∀ (n : Nat) (x : Int) (y : Unit ⊕ Bool), F5 N a0 n x = some y → WX Tryz.prog (fun _ => false) (.loop Hf) ((fun (x : Int) => ⟨AY [(0, .sl 3 (List.map AU a0)), (3, j6 x)], AY []⟩) x) ((Sum.elim (fun y e s => e = .exit 0 ∧ s = ⟨AY [(0, .sl 3 (List.map AU a0))], AY []⟩) (fun y e s => e = .ret ∧ s = ⟨AY [(2, .bool y)], AY []⟩) : (Unit ⊕ Bool) → Xt → St → Prop) y) := by
 refine EP _ _ (F5 N a0) (IA N a0) (fun _ => rfl) (fun _ _ => rfl) ?_
 rintro rec v3l6 y h
 iterate 2 refine AC ?_
 refine AB ?_
 iterate 2 refine wq rfl ?_
 refine AQ rfl (BU rfl) ?_
 refine wq rfl ?_
 refine D5 h rfl (fun c1 h => ?_) (fun c1 h => ?_)
 refine BF (AC (BZ (AC ?_)))
 obtain ⟨g2, hg2, h⟩ := AJ h
 refine F3 ⟨AY [(0, .sl 3 (List.map AU a0)), (3, j6 v3l6), (26, .bool g2)], AY []⟩ ?_ ?_
 have h := hg2
 refine AB ?_
 iterate 2 refine wq rfl ?_
 obtain ⟨MX, bH, h⟩ := AJ h
 refine AQ rfl (DF (cs := [j6 MX.Kind, .str MX.Attr, .sl 1 (List.map PV.str MX.Values)]) bH rfl rfl rfl) ?_
 refine AQ (p := .ep [.str MX.Attr, .sl 1 (List.map PV.str MX.Values)]) rfl rfl ?_
 iterate 4 refine wq rfl ?_
 rcases BO h with ⟨c3, h⟩ | ⟨c3, h⟩
 iterate 7 refine BJ (gn rfl c3) ?_
 refine AQ rfl (BA c3 rfl rfl) ?_
 obtain rfl := AA h
 exact cq rfl
 iterate 2 refine AQ (gy rfl c3) rfl ?_
 obtain ⟨VF, YU, h⟩ := AJ h
 refine AQ (gy rfl c3) (DF (cs := [j6 VF.Kind, .str VF.Attr, .sl 1 (List.map PV.str VF.Values)]) YU rfl rfl rfl) ?_
 refine AQ (p := .ep [.sl 1 (List.map PV.str VF.Values)]) (gy rfl c3) rfl ?_
 refine AQ (gy rfl c3) rfl ?_
 refine AQ (gy rfl c3) (BU rfl) ?_
 refine AQ (gy rfl c3) rfl ?_
 refine AQ rfl (AZ c3 rfl rfl) ?_
 cases AA h
 exact cq rfl
 clear hg2
 refine D5 h rfl (fun c4 h => ?_) (fun c4 h => ?_)
 refine AC (AB ?_)
 refine wq rfl ?_
 obtain rfl := AA h
 exact DL (st1 := ⟨AY [(2, .bool false)], AY []⟩) (cq rfl) ⟨rfl, rfl⟩
 refine BF (AC (AB ?_))
 refine wq rfl ?_
 refine BZ ?_
 obtain ⟨y7, hy7, h⟩ := AJ h
 refine QI (U1 N a0 v3l6 N _ _ hy7) (cq rfl) ?_
 clear hy7
 rcases y7 with y7 | y7
 rintro e s ⟨rfl, rfl⟩
 refine AB ?_
 refine wq rfl ?_
 refine AQ (p := j6 (BM (v3l6 + (1 : Int)))) rfl rfl ?_
 refine wq rfl ?_
 exact ⟨(BM (v3l6 + (1 : Int))), (cq rfl), h⟩
 rintro e s ⟨rfl, rfl⟩
 obtain rfl := AA h
 exact ⟨rfl, rfl⟩
 cases AA h
 exact CU (st1 := ⟨AY [(0, .sl 3 (List.map AU a0))], AY []⟩) (cq rfl) ⟨rfl, rfl⟩
theorem VO (N : Nat) (a0 : List BD) (r : Bool) (h : O9 N a0 = some r) : Sat Tryz.prog 17 AO [.sl 3 (List.map AU a0)] (.bool r) AO := by
 refine DK mixed Tryz.func17 Wi (rs := [.bool r]) rfl rfl ?_
 refine AC (AB ?_)
 refine wq rfl ?_
 iterate 2 refine AC ?_
 refine AB ?_
 refine wq rfl ?_
 refine BZ ?_
 obtain ⟨y8, Cg, h⟩ := AJ h
 refine QI (UX N a0 N _ _ Cg) (cq rfl) ?_
 clear Cg
 rcases y8 with y8 | y8
 rintro e s ⟨rfl, rfl⟩
 refine AC (AB ?_)
 refine wq rfl ?_
 refine AQ rfl (BU rfl) ?_
 iterate 2 refine wq rfl ?_
 cases AA h
 refine BR ?_
 exact ⟨nofun, rfl, rfl⟩
 rintro e s ⟨rfl, rfl⟩
 obtain rfl := AA h
 exact ⟨nofun, rfl, rfl⟩
def He : IC := (.seq (.seq (.reg [jm 4 3, jm 5 0, jL 6 5, jb .lss 7 4 6]) (.cond (.t 7) .skip (.exit 0))) (.seq (.block 1 (.seq (.reg [jm 10 0, jm 11 3, jx 12 2 10 11, ja 13 0 12, jl 14 1 13, jS 15 14, ju .gtr 16 15 30, jm 17 16, jf 17 18 (.mov (.t 0)), jf 17 19 (.mov (.t 3)), jf 17 20 (.ixp 2 (.t 18) (.t 19)), jf 17 21 (.fda 1 (.t 20)), jf 17 22 (.load 1 false (.t 21)), jf 17 23 (.len true (.t 22)), jf 17 24 (.bin .gtr (.t 23) (ji 80)), jo 25 17 24]) (.cond (.t 25) (.seq (.reg [jc 2 (.bool false)]) .ret) .skip))) (.reg [jm 8 3, ju .add 9 8 1, jm 3 9])))
def k18 : IC := (.seq (.reg [jc 2 (.bool false)]) (.seq (.seq (.reg [jc 3 (j6 0)]) (.block 0 (.loop He))) (.seq (.reg [jm 26 0, jL 27 26, ju .leq 28 27 6, jm 2 28]) .ret)))
theorem Wh : BV Tryz.prog Tryz.f18 = some ⟨29, k18, [(.tmp 2)]⟩ := by kernel_rfl
theorem VI (N : Nat) (a0 : List AL) : ∀ (n : Nat) (x : Int) (y : Unit ⊕ Bool), FE N a0 n x = some y → WX Tryz.prog (fun _ => false) (.loop He) ((fun (x : Int) => ⟨AY [(0, .sl 2 (List.map AV a0)), (3, j6 x)], AY []⟩) x) ((Sum.elim (fun y e s => e = .exit 0 ∧ s = ⟨AY [(0, .sl 2 (List.map AV a0))], AY []⟩) (fun y e s => e = .ret ∧ s = ⟨AY [(2, .bool y)], AY []⟩) : (Unit ⊕ Bool) → Xt → St → Prop) y) := by
 refine EP _ _ (FE N a0) (IR N a0) (fun _ => rfl) (fun _ _ => rfl) ?_
 rintro rec v3l6 y h
 iterate 2 refine AC ?_
 refine AB ?_
 iterate 2 refine wq rfl ?_
 refine AQ rfl (BU rfl) ?_
 refine wq rfl ?_
 refine D5 h rfl (fun c1 h => ?_) (fun c1 h => ?_)
 refine BF (AC (BZ ?_))
 obtain ⟨g2, hg2, h⟩ := AJ h
 refine F3 ⟨AY [(0, .sl 2 (List.map AV a0)), (3, j6 v3l6), (25, .bool g2)], AY []⟩ ?_ ?_
 have h := hg2
 refine AB ?_
 iterate 2 refine wq rfl ?_
 obtain ⟨IP, XN, h⟩ := AJ h
 refine AQ rfl (DF (cs := [.str IP.Attr, .str IP.Value]) XN rfl rfl rfl) ?_
 refine AQ (p := .ep [.str IP.Attr, .str IP.Value]) rfl rfl ?_
 iterate 4 refine wq rfl ?_
 rcases BO h with ⟨c3, h⟩ | ⟨c3, h⟩
 iterate 7 refine BJ (gn rfl c3) ?_
 refine AQ rfl (BA c3 rfl rfl) ?_
 obtain rfl := AA h
 exact cq rfl
 iterate 2 refine AQ (gy rfl c3) rfl ?_
 obtain ⟨x20, bG, h⟩ := AJ h
 refine AQ (gy rfl c3) (DF (cs := [.str x20.Attr, .str x20.Value]) bG rfl rfl rfl) ?_
 refine AQ (p := .ep [.str x20.Value]) (gy rfl c3) rfl ?_
 iterate 3 refine AQ (gy rfl c3) rfl ?_
 refine AQ rfl (AZ c3 rfl rfl) ?_
 cases AA h
 exact cq rfl
 clear hg2
 refine D5 h rfl (fun c4 h => ?_) (fun c4 h => ?_)
 refine AC (AB ?_)
 refine wq rfl ?_
 obtain rfl := AA h
 exact DL (st1 := ⟨AY [(2, .bool false)], AY []⟩) (cq rfl) ⟨rfl, rfl⟩
 refine BF (AB ?_)
 refine wq rfl ?_
 refine AQ (p := j6 (BM (v3l6 + (1 : Int)))) rfl rfl ?_
 refine wq rfl ?_
 exact ⟨(BM (v3l6 + (1 : Int))), (cq rfl), h⟩
 cases AA h
 exact CU (st1 := ⟨AY [(0, .sl 2 (List.map AV a0))], AY []⟩) (cq rfl) ⟨rfl, rfl⟩
theorem WM (N : Nat) (a0 : List AL) (r : Bool) (h : P5 N a0 = some r) : Sat Tryz.prog 18 AO [.sl 2 (List.map AV a0)] (.bool r) AO := by
 refine DK mixed Tryz.func18 Wh (rs := [.bool r]) rfl rfl ?_
 refine AC (AB ?_)
 refine wq rfl ?_
 iterate 2 refine AC ?_
 refine AB ?_
 refine wq rfl ?_
 refine BZ ?_
 obtain ⟨y5, Lm, h⟩ := AJ h
 refine QI (VI N a0 N _ _ Lm) (cq rfl) ?_
 clear Lm
 rcases y5 with y5 | y5
 rintro e s ⟨rfl, rfl⟩
 refine AC (AB ?_)
 refine wq rfl ?_
 refine AQ rfl (BU rfl) ?_
 iterate 2 refine wq rfl ?_
 cases AA h
 refine BR ?_
 exact ⟨nofun, rfl, rfl⟩
 rintro e s ⟨rfl, rfl⟩
 obtain rfl := AA h
 exact ⟨nofun, rfl, rfl⟩
def k8 : IC := (.seq (.reg [jn 1 (.box 28 (.t 0)), jc 2 (.bool false)]) (.seq (.reg [ja 3 12 1, jl 4 1 3, jn 5 (.call 17 [(.t 4)]), jm 6 5, jt 6 7 (.fda 10 (.t 1)), jt 6 8 (.load 1 false (.t 7)), jt 6 9 (.call 18 [(.t 8)]), jp 10 6 9, jm 2 10]) .ret))
theorem k8_cf : BV Tryz.prog Tryz.f8 = some ⟨11, k8, [(.tmp 2)]⟩ := by kernel_rfl
theorem YN (N : Nat) (a0 : AX) (r : Bool) (h : M4 N a0 = some r) : Sat Tryz.prog 8 AO [AR a0] (.bool r) AO := by
 refine DK mixed Tryz.func8 k8_cf (rs := [.bool r]) rfl rfl ?_
 refine AC (AB ?_)
 refine CO rfl (G5 12801 rfl rfl rfl rfl rfl) ?_
 refine wq rfl ?_
 obtain ⟨g1, hg1, h⟩ := AJ h
 refine F3 ⟨AY [(2, .bool g1)], AY []⟩ ?_ ?_
 have h := hg1
 refine AB ?_
 iterate 2 refine wq rfl ?_
 obtain ⟨x5, hx5, h⟩ := AJ h
 refine CO rfl (CB (VO N _ _ hx5) rfl (.cons A8 .nil) rfl rfl rfl) ?_
 refine wq rfl ?_
 rcases BO h with ⟨c2, h⟩ | ⟨c2, h⟩
 iterate 2 refine AQ (gy rfl c2) rfl ?_
 obtain ⟨x9, Ib, h⟩ := AJ h
 refine CO (gy rfl c2) (CB (WM N _ _ Ib) rfl (.cons A8 .nil) rfl rfl rfl) ?_
 refine AQ rfl (BA c2 rfl rfl) ?_
 refine wq rfl ?_
 obtain rfl := AA h
 exact cq rfl
 iterate 3 refine BJ (gn rfl c2) ?_
 refine AQ rfl (AZ c2 rfl rfl) ?_
 refine wq rfl ?_
 obtain rfl := AA h
 exact cq rfl
 clear hg1
 obtain rfl := AA h
 refine BR ?_
 exact ⟨nofun, rfl, rfl⟩
def k30 : IC := (.seq (.reg [jn 1 (.box 23 (.t 0)), jc 2 (.bool false)]) (.seq (.reg [ja 3 0 1, jl 4 1 3, ju .geq 5 4 0, jm 6 5, jt 6 7 (.fda 0 (.t 1)), jt 6 8 (.load 1 false (.t 7)), jt 6 9 (.bin .leq (.t 8) (ji 1099511627776)), jp 10 6 9, jm 11 10, jt 11 12 (.fda 1 (.t 1)), jt 11 13 (.load 1 false (.t 12)), jt 11 14 (.bin .geq (.t 13) (ji 0)), jp 15 11 14, jm 16 15, jt 16 17 (.fda 1 (.t 1)), jt 16 18 (.load 1 false (.t 17)), jt 16 19 (.bin .leq (.t 18) (ji 65535)), jp 20 16 19, jm 21 20, jt 21 22 (.fda 2 (.t 1)), jt 21 23 (.load 1 false (.t 22)), jt 21 24 (.bin .geq (.t 23) (ji 0)), jp 25 21 24, jm 26 25, jt 26 27 (.fda 2 (.t 1)), jt 26 28 (.load 1 false (.t 27)), jt 26 29 (.bin .lss (.t 28) (ji 6)), jp 30 26 29, jm 2 30]) .ret))
theorem Vq : BV Tryz.prog Tryz.f30 = some ⟨31, k30, [(.tmp 2)]⟩ := by kernel_rfl
theorem OZ (N : Nat) (a0 : AP) (r : Bool) (h : N7 N a0 = some r) : Sat Tryz.prog 30 AO [F7 a0] (.bool r) AO := by
 refine DK mixed Tryz.func30 Vq (rs := [.bool r]) rfl rfl ?_
 refine AC (AB ?_)
 refine CO rfl (G5 48001 rfl rfl rfl rfl rfl) ?_
 refine wq rfl ?_
 obtain ⟨g1, hg1, h⟩ := AJ h
 refine F3 ⟨AY [(2, .bool g1)], AY []⟩ ?_ ?_
 have h := hg1
 refine AB ?_
 iterate 4 refine wq rfl ?_
 rcases BO h with ⟨c2, h⟩ | ⟨c2, h⟩
 iterate 3 refine AQ (gy rfl c2) rfl ?_
 refine AQ rfl (BA c2 rfl rfl) ?_
 refine wq rfl ?_
 rcases BO h with ⟨c3, h⟩ | ⟨c3, h⟩
 iterate 3 refine AQ (gy rfl c3) rfl ?_
 refine AQ rfl (BA c3 rfl rfl) ?_
 refine wq rfl ?_
 rcases BO h with ⟨c4, h⟩ | ⟨c4, h⟩
 iterate 3 refine AQ (gy rfl c4) rfl ?_
 refine AQ rfl (BA c4 rfl rfl) ?_
 refine wq rfl ?_
 rcases BO h with ⟨c5, h⟩ | ⟨c5, h⟩
 iterate 3 refine AQ (gy rfl c5) rfl ?_
 refine AQ rfl (BA c5 rfl rfl) ?_
 refine wq rfl ?_
 rcases BO h with ⟨c6, h⟩ | ⟨c6, h⟩
 iterate 3 refine AQ (gy rfl c6) rfl ?_
 refine AQ rfl (BA c6 rfl rfl) ?_
 refine wq rfl ?_
 cases AA h
 exact cq rfl
 iterate 3 refine BJ (gn rfl c6) ?_
 refine AQ rfl (AZ c6 rfl rfl) ?_
 refine wq rfl ?_
 obtain rfl := AA h
 exact cq rfl
 iterate 3 refine BJ (gn rfl c5) ?_
 refine AQ rfl (AZ c5 rfl rfl) ?_
 refine wq rfl ?_
 iterate 3 refine BJ rfl ?_
 iterate 2 refine wq rfl ?_
 obtain rfl := AA h
 exact cq rfl
 iterate 3 refine BJ (gn rfl c4) ?_
 refine AQ rfl (AZ c4 rfl rfl) ?_
 refine wq rfl ?_
 iterate 3 refine BJ rfl ?_
 iterate 2 refine wq rfl ?_
 iterate 3 refine BJ rfl ?_
 iterate 2 refine wq rfl ?_
 obtain rfl := AA h
 exact cq rfl
 iterate 3 refine BJ (gn rfl c3) ?_
 refine AQ rfl (AZ c3 rfl rfl) ?_
 refine wq rfl ?_
 iterate 3 refine BJ rfl ?_
 iterate 2 refine wq rfl ?_
 iterate 3 refine BJ rfl ?_
 iterate 2 refine wq rfl ?_
 iterate 3 refine BJ rfl ?_
 iterate 2 refine wq rfl ?_
 obtain rfl := AA h
 exact cq rfl
 iterate 3 refine BJ (gn rfl c2) ?_
 refine AQ rfl (AZ c2 rfl rfl) ?_
 refine wq rfl ?_
 iterate 3 refine BJ rfl ?_
 iterate 2 refine wq rfl ?_
 iterate 3 refine BJ rfl ?_
 iterate 2 refine wq rfl ?_
 iterate 3 refine BJ rfl ?_
 iterate 2 refine wq rfl ?_
 iterate 3 refine BJ rfl ?_
 iterate 2 refine wq rfl ?_
 obtain rfl := AA h
 exact cq rfl
 clear hg1
 obtain rfl := AA h
 refine BR ?_
 exact ⟨nofun, rfl, rfl⟩
def k31 : IC := (.seq (.reg [jn 1 (.box 23 (.t 0)), jc 2 (.bool false)]) (.seq (.reg [jg 3 3 1, jn 4 (.build [(j6 0), (j6 0), (j6 0)] []), jn 5 (.eqs false [(.i .i64), (.i .i64), (.i .i64)] (.t 3) (.t 4)), jm 2 5]) .ret))
theorem Vp : BV Tryz.prog Tryz.f31 = some ⟨6, k31, [(.tmp 2)]⟩ := by kernel_rfl
theorem KC (N : Nat) (a0 : AP) (r : Bool) (h : HV N a0 = some r) : Sat Tryz.prog 31 AO [F7 a0] (.bool r) AO := by
 refine DK mixed Tryz.func31 Vp (rs := [.bool r]) rfl rfl ?_
 refine AC (AB ?_)
 refine CO rfl (G5 49601 rfl rfl rfl rfl rfl) ?_
 refine wq rfl ?_
 refine AC (AB ?_)
 refine AQ (p := F7 a0) rfl rfl ?_
 refine AQ (p := .agg [j6 0, j6 0, j6 0]) rfl rfl ?_
 refine AQ (p := .bool (a0.Time == (0 : Int) && (a0.Seq == (0 : Int) && (a0.Rep == (0 : Int) && true)))) rfl rfl ?_
 refine wq rfl ?_
 cases AA h
 refine BR ?_
 exact ⟨nofun, rfl, rfl⟩
def k32 : IC := (.seq (.reg [jn 2 (.box 23 (.t 0)), jn 3 (.box 23 (.t 1)), jc 4 (j6 0)]) (.seq (.block 0 (.seq (.reg [ja 6 0 2, jl 7 1 6, ja 8 0 3, jl 9 1 8, jb .lss 10 7 9, jm 11 10, jf 11 12 (.fda 0 (.t 2)), jf 11 13 (.load 1 false (.t 12)), jf 11 14 (.fda 0 (.t 3)), jf 11 15 (.load 1 false (.t 14)), jf 11 16 (.bin .eql (.t 13) (.t 15)), jf 11 17 (.mov (.t 16)), jt 17 18 (.fda 1 (.t 2)), jt 17 19 (.load 1 false (.t 18)), jt 17 20 (.fda 1 (.t 3)), jt 17 21 (.load 1 false (.t 20)), jt 17 22 (.bin .lss (.t 19) (.t 21)), jt 17 23 (.mov (.t 22)), jf 23 24 (.fda 1 (.t 2)), jf 23 25 (.load 1 false (.t 24)), jf 23 26 (.fda 1 (.t 3)), jf 23 27 (.load 1 false (.t 26)), jf 23 28 (.bin .eql (.t 25) (.t 27)), jf 23 29 (.mov (.t 28)), jt 29 30 (.fda 2 (.t 2)), jt 29 31 (.load 1 false (.t 30)), jt 29 32 (.fda 2 (.t 3)), jt 29 33 (.load 1 false (.t 32)), jt 29 34 (.bin .lss (.t 31) (.t 33)), jf 23 35 (.pick (.t 29) (.t 34) jA), jt 17 36 (.pick (.t 23) jB (.t 35)), jf 11 37 (.pick (.t 17) (.t 36) jA), jo 38 11 37, jm 5 38]) (.cond (.t 5) (.seq (.reg [jc 4 (j6 (-1))]) .ret) (.seq (.reg [jg 40 3 2, jg 41 3 3, jn 42 (.eqs false [(.i .i64), (.i .i64), (.i .i64)] (.t 40) (.t 41)), jm 39 42]) (.cond (.t 39) (.seq (.reg [jc 4 (j6 0)]) .ret) .skip))))) (.seq (.reg [jc 4 (j6 1)]) .ret)))
theorem Vo : BV Tryz.prog Tryz.f32 = some ⟨43, k32, [(.tmp 4)]⟩ := by kernel_rfl
theorem SQ (N : Nat) (a0 : AP) (a1 : AP) (r : Int) (h : M3 N a0 a1 = some r) : Sat Tryz.prog 32 AO [F7 a0, F7 a1] (j6 r) AO := by
 refine DK mixed Tryz.func32 Vo (rs := [j6 r]) rfl rfl ?_
 refine AC (AB ?_)
 refine CO rfl (G5 51202 rfl rfl rfl rfl rfl) ?_
 refine CO rfl (G5 51203 rfl rfl rfl rfl rfl) ?_
 refine wq rfl ?_
 refine AC (BZ ?_)
 obtain ⟨g1, hg1, h⟩ := AJ h
 refine F3 ⟨AY [(2, .ptr 51202 0 0), (3, .ptr 51203 0 0), (5, .bool g1)], AY [(51202, ⟨3, false, [F7 a0]⟩), (51203, ⟨3, false, [F7 a1]⟩)]⟩ ?_ ?_
 have h := hg1
 refine AB ?_
 iterate 6 refine wq rfl ?_
 rcases BO h with ⟨c2, h⟩ | ⟨c2, h⟩
 iterate 6 refine BJ (gn rfl c2) ?_
 iterate 19 refine BJ (gu rfl) ?_
 refine BJ (gn rfl c2) ?_
 refine AQ rfl (BA c2 rfl rfl) ?_
 refine wq rfl ?_
 obtain rfl := AA h
 exact cq rfl
 iterate 6 refine AQ (gy rfl c2) rfl ?_
 rcases BO h with ⟨c3, h⟩ | ⟨c3, h⟩
 iterate 6 refine AQ (gy rfl c3) rfl ?_
 rcases BO h with ⟨c4, h⟩ | ⟨c4, h⟩
 iterate 6 refine BJ (gn rfl c4) ?_
 iterate 5 refine BJ (gu rfl) ?_
 refine BJ (gn rfl c4) ?_
 refine AQ (gy rfl c3) (BA c4 rfl rfl) ?_
 refine AQ (gy rfl c2) (BA c3 rfl rfl) ?_
 refine AQ rfl (AZ c2 rfl rfl) ?_
 refine wq rfl ?_
 obtain rfl := AA h
 exact cq rfl
 iterate 6 refine AQ (gy rfl c4) rfl ?_
 rcases BO h with ⟨c5, h⟩ | ⟨c5, h⟩
 iterate 5 refine AQ (gy rfl c5) rfl ?_
 refine AQ (gy rfl c4) (BA c5 rfl rfl) ?_
 refine AQ (gy rfl c3) (AZ c4 rfl rfl) ?_
 refine AQ (gy rfl c2) (BA c3 rfl rfl) ?_
 refine AQ rfl (AZ c2 rfl rfl) ?_
 refine wq rfl ?_
 cases AA h
 exact cq rfl
 iterate 5 refine BJ (gn rfl c5) ?_
 refine AQ (gy rfl c4) (AZ c5 rfl rfl) ?_
 refine AQ (gy rfl c3) (AZ c4 rfl rfl) ?_
 refine AQ (gy rfl c2) (BA c3 rfl rfl) ?_
 refine AQ rfl (AZ c2 rfl rfl) ?_
 refine wq rfl ?_
 obtain rfl := AA h
 exact cq rfl
 iterate 6 refine BJ (gn rfl c3) ?_
 iterate 12 refine BJ (gu rfl) ?_
 refine BJ (gn rfl c3) ?_
 refine AQ (gy rfl c2) (AZ c3 rfl rfl) ?_
 refine AQ rfl (AZ c2 rfl rfl) ?_
 refine wq rfl ?_
 obtain rfl := AA h
 exact cq rfl
 clear hg1
 refine D5 h rfl (fun c6 h => ?_) (fun c6 h => ?_)
 refine AC (AB ?_)
 refine wq rfl ?_
 cases AA h
 refine BR ?_
 exact ⟨nofun, rfl, rfl⟩
 refine AC (AB ?_)
 refine AQ (p := F7 a0) rfl rfl ?_
 refine AQ (p := F7 a1) rfl rfl ?_
 refine AQ (p := .bool (a0.Time == a1.Time && (a0.Seq == a1.Seq && (a0.Rep == a1.Rep && true)))) rfl rfl ?_
 refine wq rfl ?_
 refine D5 h rfl (fun c7 h => ?_) (fun c7 h => ?_)
 refine AC (AB ?_)
 refine wq rfl ?_
 obtain rfl := AA h
 refine BR ?_
 exact ⟨nofun, rfl, rfl⟩
 refine BF (AC (AB ?_))
 refine wq rfl ?_
 obtain rfl := AA h
 refine BR ?_
 exact ⟨nofun, rfl, rfl⟩
def yS : IC := (.seq (.seq (.reg [jm 23 3, jm 24 0, jS 25 24, jb .lss 26 23 25]) (.cond (.t 26) .skip (.exit 0))) (.seq (.block 1 (.seq (.reg [jm 29 0, jm 30 3, jn 31 (.idxs (.t 29) (.t 30)), jm 4 31]) (.seq (.reg [jm 32 4, jn 33 (.bin .lss (.t 32) (.c (.int .u8 97))), jm 34 33, jf 34 35 (.mov (.t 4)), jf 34 36 (.bin .gtr (.t 35) (.c (.int .u8 122))), jo 37 34 36, jm 38 37, jt 38 39 (.mov (.t 4)), jt 38 40 (.bin .lss (.t 39) (.c (.int .u8 48))), jt 38 41 (.mov (.t 40)), jf 41 42 (.mov (.t 4)), jf 41 43 (.bin .gtr (.t 42) (.c (.int .u8 57))), jt 38 44 (.pick (.t 41) jB (.t 43)), jp 45 38 44, jm 46 45, jt 46 47 (.mov (.t 4)), jt 46 48 (.bin .neq (.t 47) (.c (.int .u8 45))), jp 49 46 48]) (.cond (.t 49) (.seq (.reg [jc 2 (.bool false)]) .ret) .skip)))) (.reg [jm 27 3, ju .add 28 27 1, jm 3 28])))
def k81 : IC := (.seq (.reg [jc 2 (.bool false)]) (.seq (.seq (.reg [jm 5 0, jS 6 5, ju .lss 7 6 1, jm 8 7, jf 8 9 (.mov (.t 0)), jf 8 10 (.len true (.t 9)), jf 8 11 (.bin .gtr (.t 10) (ji 16)), jo 12 8 11, jm 13 12, jf 13 14 (.mov (.t 0)), jf 13 15 (.idxs (.t 14) (ji 0)), jf 13 16 (.bin .lss (.t 15) (.c (.int .u8 97))), jo 17 13 16, jm 18 17, jf 18 19 (.mov (.t 0)), jf 18 20 (.idxs (.t 19) (ji 0)), jf 18 21 (.bin .gtr (.t 20) (.c (.int .u8 122))), jo 22 18 21]) (.cond (.t 22) (.seq (.reg [jc 2 (.bool false)]) .ret) .skip)) (.seq (.seq (.reg [jc 3 (j6 0)]) (.block 0 (.loop yS))) (.seq (.reg [jc 2 (.bool true)]) .ret))))
theorem Tt : BV Tryz.prog Tryz.f81 = some ⟨50, k81, [(.tmp 2)]⟩ := by kernel_rfl
theorem VH (N : Nat) (a0 : List UInt8) : ∀ (n : Nat) (x : Int) (y : Unit ⊕ Bool), FD N a0 n x = some y → WX Tryz.prog (fun _ => false) (.loop yS) ((fun (x : Int) => ⟨AY [(0, .str a0), (3, j6 x)], AY []⟩) x) ((Sum.elim (fun y e s => e = .exit 0 ∧ s = ⟨AY [], AY []⟩) (fun y e s => e = .ret ∧ s = ⟨AY [(2, .bool y)], AY []⟩) : (Unit ⊕ Bool) → Xt → St → Prop) y) := by
 refine EP _ _ (FD N a0) (IQ N a0) (fun _ => rfl) (fun _ _ => rfl) ?_
 rintro rec v3l14 y h
 iterate 2 refine AC ?_
 refine AB ?_
 iterate 4 refine wq rfl ?_
 refine D5 h rfl (fun c6 h => ?_) (fun c6 h => ?_)
 refine BF (AC (BZ (AC (AB ?_))))
 iterate 2 refine wq rfl ?_
 obtain ⟨x31, hx31, h⟩ := AJ h
 refine AQ rfl (GY hx31 rfl rfl) ?_
 refine wq rfl ?_
 obtain ⟨g7, tQ, h⟩ := AJ h
 refine F3 ⟨AY [(0, .str a0), (3, j6 v3l14), (49, .bool g7)], AY []⟩ ?_ ?_
 have h := tQ
 refine AB ?_
 refine wq rfl ?_
 refine AQ (p := .bool (decide (((x31).toNat : Int) < (97 : Int)))) rfl rfl ?_
 refine wq rfl ?_
 rcases BO h with ⟨c8, h⟩ | ⟨c8, h⟩
 iterate 2 refine BJ (gn rfl c8) ?_
 refine AQ rfl (BA c8 rfl rfl) ?_
 iterate 2 refine wq rfl ?_
 refine AQ (p := .bool (decide (((x31).toNat : Int) < (48 : Int)))) rfl rfl ?_
 refine wq rfl ?_
 rcases BO h with ⟨c9, h⟩ | ⟨c9, h⟩
 iterate 2 refine BJ (gn rfl c9) ?_
 refine AQ rfl (BA c9 rfl rfl) ?_
 iterate 3 refine wq rfl ?_
 refine AQ (p := .bool (((x31).toNat : Int) != (45 : Int))) rfl rfl ?_
 refine wq rfl ?_
 cases AA h
 exact cq rfl
 refine AQ (gy rfl c9) rfl ?_
 refine AQ (p := .bool (decide (((x31).toNat : Int) > (57 : Int)))) (gy rfl c9) rfl ?_
 refine AQ rfl (AZ c9 rfl rfl) ?_
 iterate 2 refine wq rfl ?_
 rcases BO h with ⟨c10, h⟩ | ⟨c10, h⟩
 refine AQ (gy rfl c10) rfl ?_
 refine AQ (p := .bool (((x31).toNat : Int) != (45 : Int))) (gy rfl c10) rfl ?_
 refine AQ rfl (BA c10 rfl rfl) ?_
 cases AA h
 exact cq rfl
 iterate 2 refine BJ (gn rfl c10) ?_
 refine AQ rfl (AZ c10 rfl rfl) ?_
 obtain rfl := AA h
 exact cq rfl
 refine AQ (gy rfl c8) rfl ?_
 refine AQ (p := .bool (decide (((x31).toNat : Int) > (122 : Int)))) (gy rfl c8) rfl ?_
 refine AQ rfl (AZ c8 rfl rfl) ?_
 refine wq rfl ?_
 rcases BO h with ⟨c11, h⟩ | ⟨c11, h⟩
 refine AQ (gy rfl c11) rfl ?_
 refine AQ (p := .bool (decide (((x31).toNat : Int) < (48 : Int)))) (gy rfl c11) rfl ?_
 refine AQ (gy rfl c11) rfl ?_
 rcases BO h with ⟨c12, h⟩ | ⟨c12, h⟩
 iterate 2 refine BJ (gn rfl c12) ?_
 refine AQ (gy rfl c11) (BA c12 rfl rfl) ?_
 refine AQ rfl (BA c11 rfl rfl) ?_
 iterate 2 refine wq rfl ?_
 refine AQ (p := .bool (((x31).toNat : Int) != (45 : Int))) rfl rfl ?_
 refine wq rfl ?_
 cases AA h
 exact cq rfl
 refine AQ (gy rfl c12) rfl ?_
 refine AQ (p := .bool (decide (((x31).toNat : Int) > (57 : Int)))) (gy rfl c12) rfl ?_
 refine AQ (gy rfl c11) (AZ c12 rfl rfl) ?_
 refine AQ rfl (BA c11 rfl rfl) ?_
 refine wq rfl ?_
 rcases BO h with ⟨c13, h⟩ | ⟨c13, h⟩
 refine AQ (gy rfl c13) rfl ?_
 refine AQ (p := .bool (((x31).toNat : Int) != (45 : Int))) (gy rfl c13) rfl ?_
 refine AQ rfl (BA c13 rfl rfl) ?_
 cases AA h
 exact cq rfl
 iterate 2 refine BJ (gn rfl c13) ?_
 refine AQ rfl (AZ c13 rfl rfl) ?_
 obtain rfl := AA h
 exact cq rfl
 iterate 3 refine BJ (gn rfl c11) ?_
 iterate 2 refine BJ (gu rfl) ?_
 refine BJ (gn rfl c11) ?_
 refine AQ rfl (AZ c11 rfl rfl) ?_
 refine wq rfl ?_
 iterate 2 refine BJ rfl ?_
 refine wq rfl ?_
 obtain rfl := AA h
 exact cq rfl
 clear tQ
 refine D5 h rfl (fun c14 h => ?_) (fun c14 h => ?_)
 refine AC (AB ?_)
 refine wq rfl ?_
 obtain rfl := AA h
 exact DL (st1 := ⟨AY [(2, .bool false)], AY []⟩) (cq rfl) ⟨rfl, rfl⟩
 refine BF (AB ?_)
 refine wq rfl ?_
 refine AQ (p := j6 (BM (v3l14 + (1 : Int)))) rfl rfl ?_
 refine wq rfl ?_
 exact ⟨(BM (v3l14 + (1 : Int))), (cq rfl), h⟩
 cases AA h
 exact CU (st1 := ⟨AY [], AY []⟩) (cq rfl) ⟨rfl, rfl⟩
theorem XF (N : Nat) (a0 : List UInt8) (r : Bool) (h : ML N a0 = some r) : Sat Tryz.prog 81 AO [.str a0] (.bool r) AO := by
 refine DK mixed Tryz.func81 Tt (rs := [.bool r]) rfl rfl ?_
 refine AC (AB ?_)
 refine wq rfl ?_
 refine AC ?_
 obtain ⟨g1, hg1, h⟩ := AJ h
 refine F3 ⟨AY [(0, .str a0), (22, .bool g1)], AY []⟩ ?_ ?_
 have h := hg1
 refine AB ?_
 iterate 4 refine wq rfl ?_
 rcases BO h with ⟨c2, h⟩ | ⟨c2, h⟩
 iterate 3 refine BJ (gn rfl c2) ?_
 refine AQ rfl (BA c2 rfl rfl) ?_
 refine wq rfl ?_
 iterate 3 refine BJ rfl ?_
 iterate 2 refine wq rfl ?_
 iterate 3 refine BJ rfl ?_
 refine wq rfl ?_
 obtain rfl := AA h
 exact cq rfl
 iterate 3 refine AQ (gy rfl c2) rfl ?_
 refine AQ rfl (AZ c2 rfl rfl) ?_
 refine wq rfl ?_
 rcases BO h with ⟨c3, h⟩ | ⟨c3, h⟩
 iterate 3 refine BJ (gn rfl c3) ?_
 refine AQ rfl (BA c3 rfl rfl) ?_
 refine wq rfl ?_
 iterate 3 refine BJ rfl ?_
 refine wq rfl ?_
 obtain rfl := AA h
 exact cq rfl
 refine AQ (gy rfl c3) rfl ?_
 obtain ⟨NK, RX, h⟩ := AJ h
 refine AQ (gy rfl c3) (GY RX rfl rfl) ?_
 refine AQ (p := .bool (decide (((NK).toNat : Int) < (97 : Int)))) (gy rfl c3) rfl ?_
 refine AQ rfl (AZ c3 rfl rfl) ?_
 refine wq rfl ?_
 rcases BO h with ⟨c4, h⟩ | ⟨c4, h⟩
 iterate 3 refine BJ (gn rfl c4) ?_
 refine AQ rfl (BA c4 rfl rfl) ?_
 obtain rfl := AA h
 exact cq rfl
 refine AQ (gy rfl c4) rfl ?_
 obtain ⟨x20, bG, h⟩ := AJ h
 refine AQ (gy rfl c4) (GY bG rfl rfl) ?_
 refine AQ (p := .bool (decide (((x20).toNat : Int) > (122 : Int)))) (gy rfl c4) rfl ?_
 refine AQ rfl (AZ c4 rfl rfl) ?_
 cases AA h
 exact cq rfl
 clear hg1
 refine D5 h rfl (fun c5 h => ?_) (fun c5 h => ?_)
 refine AC (AB ?_)
 refine wq rfl ?_
 obtain rfl := AA h
 refine BR ?_
 exact ⟨nofun, rfl, rfl⟩
 refine BF ?_
 iterate 2 refine AC ?_
 refine AB ?_
 refine wq rfl ?_
 refine BZ ?_
 obtain ⟨BX, Hz, h⟩ := AJ h
 refine QI (VH N a0 N _ _ Hz) (cq rfl) ?_
 clear Hz
 rcases BX with BX | BX
 rintro e s ⟨rfl, rfl⟩
 refine AC (AB ?_)
 refine wq rfl ?_
 obtain rfl := AA h
 refine BR ?_
 exact ⟨nofun, rfl, rfl⟩
 rintro e s ⟨rfl, rfl⟩
 obtain rfl := AA h
 exact ⟨nofun, rfl, rfl⟩
end Go.Gp
end
