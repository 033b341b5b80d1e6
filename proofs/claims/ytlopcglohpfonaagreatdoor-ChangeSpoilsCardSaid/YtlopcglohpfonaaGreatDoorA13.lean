/- A part of the proof: functions of the program and what they compute. -/
import Derived.Test.YtlopcglohpfonaaGreatDoorA5
import Derived.Test.YtlopcglohpfonaaGreatDoorA12
import Derived.Test.YtlopcglohpfonaaGreatDoorA8
import Derived.Test.YtlopcglohpfonaaGreatDoorA4
import Derived.Test.YtlopcglohpfonaaGreatDoorA10
import Derived.Test.YtlopcglohpfonaaGreatDoorA11
section
set_option linter.unusedVariables false
set_option linter.unusedSimpArgs false
set_option maxRecDepth 4000
set_option maxHeartbeats 4000000
namespace Go.Gp
open Go.Vd Go.RowKit Go.Proofs
def I9 : List (List Nat) := [[], [0], [], [1, 2], [3], [], [5], [], [6, 7], [8], [], [], [10, 4, 0, 1, 2, 3, 4, 10, 11], [11, 9, 12, 0, 1, 2, 3, 4, 5, 6, 7, 8, 9, 10, 11, 12]]
def I8 : List Ins := [ja 66 12 2, jl 67 1 66, jm 68 5, jx 69 3 67 68, jg 70 3 69, ja 71 12 3, jl 72 1 71, jm 73 5, jx 74 3 72 73, jg 75 3 74, jn 6 (.box 44 (.c (.agg [(j6 0), (.str []), .nl]))), jn 7 (.box 44 (.c (.agg [(j6 0), (.str []), .nl]))), js 3 6 70, js 3 7 75]
def qU : IC := (.seq (.seq (.reg [jm 97 8, ja 98 2 6, jl 99 1 98, jL 100 99, jb .lss 101 97 100]) (.cond (.t 101) .skip (.exit 2))) (.seq (.block 3 (.seq (.regd 11 [ja 104 2 6, jl 105 1 104, jm 106 8, jx 107 1 105 106, jl 108 1 107, ja 109 2 7, jl 110 1 109, jm 111 8, jx 112 1 110 111, jl 113 1 112, jb .neq 114 108 113]) (.cond (.t 114) (.seq (.reg [jc 4 (.bool false)]) .ret) .skip))) (.reg [jm 102 8, ju .add 103 102 1, jm 8 103])))
def qV : IC := (.seq (.seq (.reg [jm 59 5, ja 60 12 2, jl 61 1 60, jL 62 61, jb .lss 63 59 62]) (.cond (.t 63) .skip (.exit 0))) (.seq (.block 1 (.seq (.regf 12 [5, 6, 7, 8, 9] I9 I8) (.seq (.seq (.reg [ja 76 0 6, jl 77 1 76, ja 78 0 7, jl 79 1 78, jb .neq 80 77 79, jm 81 80, jf 81 82 (.fda 1 (.t 6)), jf 81 83 (.load 1 false (.t 82)), jf 81 84 (.fda 1 (.t 7)), jf 81 85 (.load 1 false (.t 84)), jf 81 86 (.bin .neq (.t 83) (.t 85)), jo 87 81 86, jm 88 87, jf 88 89 (.fda 2 (.t 6)), jf 88 90 (.load 1 false (.t 89)), jf 88 91 (.len false (.t 90)), jf 88 92 (.fda 2 (.t 7)), jf 88 93 (.load 1 false (.t 92)), jf 88 94 (.len false (.t 93)), jf 88 95 (.bin .neq (.t 91) (.t 94)), jo 96 88 95]) (.cond (.t 96) (.seq (.reg [jc 4 (.bool false)]) .ret) .skip)) (.seq (.reg [jc 8 (j6 0)]) (.block 2 (.loop qU)))))) (.reg [jm 64 5, ju .add 65 64 1, jm 5 65])))
def k13 : IC := (.seq (.reg [jn 2 (.box 28 (.t 0)), jn 3 (.box 28 (.t 1)), jc 4 (.bool false)]) (.seq (.seq (.reg [ja 9 0 2, jg 10 3 9, ja 11 0 3, jg 12 3 11, jn 13 (.eqs true [(.i .i64), (.i .i64), (.i .i64)] (.t 10) (.t 12)), jm 14 13, jf 14 15 (.fda 3 (.t 2)), jf 14 16 (.load 1 false (.t 15)), jf 14 17 (.fda 3 (.t 3)), jf 14 18 (.load 1 false (.t 17)), jf 14 19 (.bin .neq (.t 16) (.t 18)), jo 20 14 19, jm 21 20, jf 21 22 (.fda 4 (.t 2)), jf 21 23 (.load 3 true (.t 22)), jf 21 24 (.fda 4 (.t 3)), jf 21 25 (.load 3 true (.t 24)), jf 21 26 (.eqs true [(.i .i64), (.i .i64), (.i .i64)] (.t 23) (.t 25)), jo 27 21 26, jm 28 27, jf 28 29 (.fda 7 (.t 2)), jf 28 30 (.load 3 true (.t 29)), jf 28 31 (.fda 7 (.t 3)), jf 28 32 (.load 3 true (.t 31)), jf 28 33 (.eqs true [(.i .i64), (.i .i64), (.i .i64)] (.t 30) (.t 32)), jo 34 28 33, jm 35 34, jf 35 36 (.fda 11 (.t 2)), jf 35 37 (.load 1 false (.t 36)), jf 35 38 (.fda 11 (.t 3)), jf 35 39 (.load 1 false (.t 38)), jf 35 40 (.beq true (.t 37) (.t 39)), jo 41 35 40, jm 42 41, jf 42 43 (.fda 10 (.t 2)), jf 42 44 (.load 1 false (.t 43)), jf 42 45 (.fda 10 (.t 3)), jf 42 46 (.load 1 false (.t 45)), jf 42 47 (.call 39 [(.t 44), (.t 46)]), jf 42 48 (.un .not (.t 47)), jo 49 42 48, jm 50 49, jf 50 51 (.fda 12 (.t 2)), jf 50 52 (.load 1 false (.t 51)), jf 50 53 (.len false (.t 52)), jf 50 54 (.fda 12 (.t 3)), jf 50 55 (.load 1 false (.t 54)), jf 50 56 (.len false (.t 55)), jf 50 57 (.bin .neq (.t 53) (.t 56)), jo 58 50 57]) (.cond (.t 58) (.seq (.reg [jc 4 (.bool false)]) .ret) .skip)) (.seq (.seq (.reg [jc 5 (j6 0)]) (.block 0 (.loop qV))) (.seq (.reg [jc 4 (.bool true)]) .ret))))
theorem Kc : C9 Tryz.prog Tryz.f13 = some ⟨115, k13, [(.tmp 4)]⟩ := by kernel_rfl
theorem OX (N : Nat) (a0 : AR) (a1 : AR) (v5l14 : Int) (x69 : BA) (O6 : BA) : ∀ (n : Nat) (x : Int) (y : Unit ⊕ Bool), FK N a0 a1 v5l14 x69 O6 n x = some y → WX Tryz.prog (fun _ => false) (.loop qU) ((fun (x : Int) => ⟨AX [(2, .ptr 20802 0 0), (3, .ptr 20803 0 0), (5, j6 v5l14), (6, .ptr 20806 0 0), (7, .ptr 20807 0 0), (8, j6 x)], AX [(20802, ⟨13, false, [AL a0]⟩), (20803, ⟨13, false, [AL a1]⟩), (20806, ⟨3, false, [AJ x69]⟩), (20807, ⟨3, false, [AJ O6]⟩)]⟩) x) ((Sum.elim (fun y e s => e = .exit 2 ∧ s = ⟨AX [(2, .ptr 20802 0 0), (3, .ptr 20803 0 0), (5, j6 v5l14)], AX [(20802, ⟨13, false, [AL a0]⟩), (20803, ⟨13, false, [AL a1]⟩)]⟩) (fun y e s => e = .ret ∧ s = ⟨AX [(4, .bool y)], AX []⟩) : (Unit ⊕ Bool) → Xt → St → Prop) y) := by
 refine FB _ _ (FK N a0 a1 v5l14 x69 O6) (J7 N a0 a1 v5l14 x69 O6) (fun _ => rfl) (fun _ _ => rfl) ?_
 rintro rec v8l36 y h
 iterate 2 refine AA ?_
 refine AB ?_
 iterate 3 refine wq rfl ?_
 refine AY rfl (CR rfl) ?_
 refine wq rfl ?_
 refine EN h rfl (fun c14 h => ?_) (fun c14 h => ?_)
 refine BH (AA (CS (AA (Q8 ?_))))
 iterate 3 refine dq rfl ?_
 obtain ⟨x107, hx107, h⟩ := AQ h
 refine LM rfl (EW (cs := [.str x107]) hx107 rfl rfl rfl) ?_
 iterate 4 refine dq rfl ?_
 obtain ⟨x112, hx112, h⟩ := AQ h
 refine LM rfl (EW (cs := [.str x112]) hx112 rfl rfl rfl) ?_
 iterate 2 refine dq rfl ?_
 refine EN h rfl (fun c15 h => ?_) (fun c15 h => ?_)
 refine AA (AB ?_)
 refine wq rfl ?_
 obtain rfl := AP h
 exact F4 (st1 := ⟨AX [(4, .bool false)], AX []⟩) (cq rfl) ⟨rfl, rfl⟩
 refine BH (AB ?_)
 refine wq rfl ?_
 refine AY (p := j6 (CE (v8l36 + (1 : Int)))) rfl rfl ?_
 refine wq rfl ?_
 exact ⟨(CE (v8l36 + (1 : Int))), (cq rfl), h⟩
 cases AP h
 exact ED (st1 := ⟨AX [(2, .ptr 20802 0 0), (3, .ptr 20803 0 0), (5, j6 v5l14)], AX [(20802, ⟨13, false, [AL a0]⟩), (20803, ⟨13, false, [AL a1]⟩)]⟩) (cq rfl) ⟨rfl, rfl⟩
theorem OY (N : Nat) (a0 : AR) (a1 : AR) : ∀ (n : Nat) (x : Int) (y : Unit ⊕ Bool), FL N a0 a1 n x = some y → WX Tryz.prog (fun _ => false) (.loop qV) ((fun (x : Int) => ⟨AX [(2, .ptr 20802 0 0), (3, .ptr 20803 0 0), (5, j6 x)], AX [(20802, ⟨13, false, [AL a0]⟩), (20803, ⟨13, false, [AL a1]⟩)]⟩) x) ((Sum.elim (fun y e s => e = .exit 0 ∧ s = ⟨AX [], AX []⟩) (fun y e s => e = .ret ∧ s = ⟨AX [(4, .bool y)], AX []⟩) : (Unit ⊕ Bool) → Xt → St → Prop) y) := by
 refine FB _ _ (FL N a0 a1) (J8 N a0 a1) (fun _ => rfl) (fun _ _ => rfl) ?_
 rintro rec v5l14 y h
 iterate 2 refine AA ?_
 refine AB ?_
 iterate 3 refine wq rfl ?_
 refine AY rfl (CR rfl) ?_
 refine wq rfl ?_
 refine EN h rfl (fun c9 h => ?_) (fun c9 h => ?_)
 refine BH (AA (CS (AA ?_)))
 obtain ⟨x69, hx69, h⟩ := AQ h
 obtain ⟨O6, Km, h⟩ := AQ h
 refine Ef ⟨AX [(2, .ptr 20802 0 0), (3, .ptr 20803 0 0), (5, j6 v5l14), (6, .ptr 20806 0 0), (7, .ptr 20807 0 0)], AX [(20802, ⟨13, false, [AL a0]⟩), (20803, ⟨13, false, [AL a1]⟩), (20806, ⟨3, false, [AJ x69]⟩), (20807, ⟨3, false, [AJ O6]⟩)]⟩ [[], [9], [8, 9], [7, 8, 9], [6, 8, 9], [6, 7, 8, 9], [5, 6, 8, 9], [5, 6, 7, 8, 9]] rfl ?_ ?_
 iterate 3 refine dq rfl ?_
 refine LM rfl (EW (cs := [j6 x69.Kind, .str x69.Attr, .sl 1 (List.map PV.str x69.Values)]) hx69 rfl rfl rfl) ?_
 refine LM (p := AJ x69) rfl rfl ?_
 iterate 3 refine dq rfl ?_
 refine LM rfl (EW (cs := [j6 O6.Kind, .str O6.Attr, .sl 1 (List.map PV.str O6.Values)]) Km rfl rfl rfl) ?_
 refine LM (p := AJ O6) rfl rfl ?_
 refine UO rfl (.box _ 20806 rfl (Nat.le_of_ble_eq_true rfl) (by decide) rfl) (PL rfl) ?_
 refine UO rfl (.box _ 20807 rfl (Nat.le_of_ble_eq_true rfl) (by decide) rfl) (PL rfl) ?_
 have Ma : AnyW Tryz.prog (fun _ => false) I9 I8 0 [0, 1, 2, 3, 4, 5, 6, 7, 8, 9, 10, 11, 12, 13] ⟨AX [(2, .ptr 20802 0 0), (3, .ptr 20803 0 0), (5, j6 v5l14), (6, .ptr 20806 0 0), (7, .ptr 20807 0 0)], AX [(20802, ⟨13, false, [AL a0]⟩), (20803, ⟨13, false, [AL a1]⟩), (20806, ⟨3, false, [AJ x69]⟩), (20807, ⟨3, false, [AJ O6]⟩)]⟩ ⟨AX [(2, .ptr 20802 0 0), (3, .ptr 20803 0 0), (5, j6 v5l14), (6, .ptr 20806 0 0), (7, .ptr 20807 0 0)], AX [(20802, ⟨13, false, [AL a0]⟩), (20803, ⟨13, false, [AL a1]⟩), (20806, ⟨3, false, [AJ x69]⟩), (20807, ⟨3, false, [AJ O6]⟩)]⟩ := by
  exact yend rfl (cq rfl)
 have zO : AnyW Tryz.prog (fun _ => false) I9 I8 1 [0, 1, 2, 3, 4, 5, 6, 7, 8, 9, 10, 11, 12] ⟨AX [(2, .ptr 20802 0 0), (3, .ptr 20803 0 0), (5, j6 v5l14), (6, .ptr 20806 0 0), (7, .ptr 20807 0 0), (75, AJ O6)], AX [(20802, ⟨13, false, [AL a0]⟩), (20803, ⟨13, false, [AL a1]⟩), (20806, ⟨3, false, [AJ x69]⟩), (20807, ⟨3, false, [.agg [j6 0, .str ([] : List UInt8), .nl]]⟩)]⟩ ⟨AX [(2, .ptr 20802 0 0), (3, .ptr 20803 0 0), (5, j6 v5l14), (6, .ptr 20806 0 0), (7, .ptr 20807 0 0)], AX [(20802, ⟨13, false, [AL a0]⟩), (20803, ⟨13, false, [AL a1]⟩), (20806, ⟨3, false, [AJ x69]⟩), (20807, ⟨3, false, [AJ O6]⟩)]⟩ := by
  refine yc (l := [13]) rfl nofun ⟨⟨_, rfl, ?_⟩, trivial⟩
  refine EC (e' := AJ O6) rfl rfl rfl rfl rfl rfl rfl rfl nofun rfl ?_
  exact AnyW.of Ma rfl (cq rfl)
 have Fg : AnyW Tryz.prog (fun _ => false) I9 I8 2 [0, 1, 2, 3, 4, 5, 6, 7, 8, 9, 10, 11] ⟨AX [(2, .ptr 20802 0 0), (3, .ptr 20803 0 0), (5, j6 v5l14), (6, .ptr 20806 0 0), (7, .ptr 20807 0 0), (70, AJ x69), (75, AJ O6)], AX [(20802, ⟨13, false, [AL a0]⟩), (20803, ⟨13, false, [AL a1]⟩), (20806, ⟨3, false, [.agg [j6 0, .str ([] : List UInt8), .nl]]⟩), (20807, ⟨3, false, [.agg [j6 0, .str ([] : List UInt8), .nl]]⟩)]⟩ ⟨AX [(2, .ptr 20802 0 0), (3, .ptr 20803 0 0), (5, j6 v5l14), (6, .ptr 20806 0 0), (7, .ptr 20807 0 0)], AX [(20802, ⟨13, false, [AL a0]⟩), (20803, ⟨13, false, [AL a1]⟩), (20806, ⟨3, false, [AJ x69]⟩), (20807, ⟨3, false, [AJ O6]⟩)]⟩ := by
  refine yc (l := [12]) rfl nofun ⟨⟨_, rfl, ?_⟩, trivial⟩
  refine EC (e' := AJ x69) rfl rfl rfl rfl rfl rfl rfl rfl nofun rfl ?_
  exact AnyW.of zO rfl (cq rfl)
 have zP : AnyW Tryz.prog (fun _ => false) I9 I8 2 [0, 1, 2, 3, 4, 5, 6, 7, 8, 10, 11, 12] ⟨AX [(2, .ptr 20802 0 0), (3, .ptr 20803 0 0), (5, j6 v5l14), (6, .ptr 20806 0 0), (7, .ptr 20807 0 0), (74, .ep [j6 O6.Kind, .str O6.Attr, .sl 1 (List.map PV.str O6.Values)])], AX [(20802, ⟨13, false, [AL a0]⟩), (20803, ⟨13, false, [AL a1]⟩), (20806, ⟨3, false, [AJ x69]⟩), (20807, ⟨3, false, [.agg [j6 0, .str ([] : List UInt8), .nl]]⟩)]⟩ ⟨AX [(2, .ptr 20802 0 0), (3, .ptr 20803 0 0), (5, j6 v5l14), (6, .ptr 20806 0 0), (7, .ptr 20807 0 0)], AX [(20802, ⟨13, false, [AL a0]⟩), (20803, ⟨13, false, [AL a1]⟩), (20806, ⟨3, false, [AJ x69]⟩), (20807, ⟨3, false, [AJ O6]⟩)]⟩ := by
  refine yc (l := [9]) rfl nofun ⟨⟨_, rfl, ?_⟩, trivial⟩
  refine AY (p := AJ O6) rfl rfl ?_
  exact AnyW.of zO rfl (cq rfl)
 have Fh : AnyW Tryz.prog (fun _ => false) I9 I8 3 [0, 1, 2, 3, 4, 5, 6, 7, 8, 10, 11] ⟨AX [(2, .ptr 20802 0 0), (3, .ptr 20803 0 0), (5, j6 v5l14), (6, .ptr 20806 0 0), (7, .ptr 20807 0 0), (70, AJ x69), (74, .ep [j6 O6.Kind, .str O6.Attr, .sl 1 (List.map PV.str O6.Values)])], AX [(20802, ⟨13, false, [AL a0]⟩), (20803, ⟨13, false, [AL a1]⟩), (20806, ⟨3, false, [.agg [j6 0, .str ([] : List UInt8), .nl]]⟩), (20807, ⟨3, false, [.agg [j6 0, .str ([] : List UInt8), .nl]]⟩)]⟩ ⟨AX [(2, .ptr 20802 0 0), (3, .ptr 20803 0 0), (5, j6 v5l14), (6, .ptr 20806 0 0), (7, .ptr 20807 0 0)], AX [(20802, ⟨13, false, [AL a0]⟩), (20803, ⟨13, false, [AL a1]⟩), (20806, ⟨3, false, [AJ x69]⟩), (20807, ⟨3, false, [AJ O6]⟩)]⟩ := by
  refine yc (l := [9, 12]) rfl nofun ⟨⟨_, rfl, ?_⟩, ⟨_, rfl, ?_⟩, trivial⟩
  refine AY (p := AJ O6) rfl rfl ?_
  exact AnyW.of Fg rfl (cq rfl)
  refine EC (e' := AJ x69) rfl rfl rfl rfl rfl rfl rfl rfl nofun rfl ?_
  exact AnyW.of zP rfl (cq rfl)
 have oM : AnyW Tryz.prog (fun _ => false) I9 I8 3 [0, 1, 2, 3, 4, 5, 6, 7, 10, 11, 12] ⟨AX [(2, .ptr 20802 0 0), (3, .ptr 20803 0 0), (5, j6 v5l14), (6, .ptr 20806 0 0), (7, .ptr 20807 0 0), (72, .sl 3 (List.map AJ a1.Mods)), (73, j6 v5l14)], AX [(20802, ⟨13, false, [AL a0]⟩), (20803, ⟨13, false, [AL a1]⟩), (20806, ⟨3, false, [AJ x69]⟩), (20807, ⟨3, false, [.agg [j6 0, .str ([] : List UInt8), .nl]]⟩)]⟩ ⟨AX [(2, .ptr 20802 0 0), (3, .ptr 20803 0 0), (5, j6 v5l14), (6, .ptr 20806 0 0), (7, .ptr 20807 0 0)], AX [(20802, ⟨13, false, [AL a0]⟩), (20803, ⟨13, false, [AL a1]⟩), (20806, ⟨3, false, [AJ x69]⟩), (20807, ⟨3, false, [AJ O6]⟩)]⟩ := by
  refine yc (l := [8]) rfl nofun ⟨⟨_, rfl, ?_⟩, trivial⟩
  refine AY rfl (EW (cs := [j6 O6.Kind, .str O6.Attr, .sl 1 (List.map PV.str O6.Values)]) Km rfl rfl rfl) ?_
  exact AnyW.of zP rfl (cq rfl)
 have zM : AnyW Tryz.prog (fun _ => false) I9 I8 4 [0, 1, 2, 3, 4, 5, 6, 7, 10, 11] ⟨AX [(2, .ptr 20802 0 0), (3, .ptr 20803 0 0), (5, j6 v5l14), (6, .ptr 20806 0 0), (7, .ptr 20807 0 0), (70, AJ x69), (72, .sl 3 (List.map AJ a1.Mods)), (73, j6 v5l14)], AX [(20802, ⟨13, false, [AL a0]⟩), (20803, ⟨13, false, [AL a1]⟩), (20806, ⟨3, false, [.agg [j6 0, .str ([] : List UInt8), .nl]]⟩), (20807, ⟨3, false, [.agg [j6 0, .str ([] : List UInt8), .nl]]⟩)]⟩ ⟨AX [(2, .ptr 20802 0 0), (3, .ptr 20803 0 0), (5, j6 v5l14), (6, .ptr 20806 0 0), (7, .ptr 20807 0 0)], AX [(20802, ⟨13, false, [AL a0]⟩), (20803, ⟨13, false, [AL a1]⟩), (20806, ⟨3, false, [AJ x69]⟩), (20807, ⟨3, false, [AJ O6]⟩)]⟩ := by
  refine yc (l := [8, 12]) rfl nofun ⟨⟨_, rfl, ?_⟩, ⟨_, rfl, ?_⟩, trivial⟩
  refine AY rfl (EW (cs := [j6 O6.Kind, .str O6.Attr, .sl 1 (List.map PV.str O6.Values)]) Km rfl rfl rfl) ?_
  exact AnyW.of Fh rfl (cq rfl)
  refine EC (e' := AJ x69) rfl rfl rfl rfl rfl rfl rfl rfl nofun rfl ?_
  exact AnyW.of oM rfl (cq rfl)
 have zQ : AnyW Tryz.prog (fun _ => false) I9 I8 4 [0, 1, 2, 3, 4, 5, 6, 10, 11, 12] ⟨AX [(2, .ptr 20802 0 0), (3, .ptr 20803 0 0), (5, j6 v5l14), (6, .ptr 20806 0 0), (7, .ptr 20807 0 0), (72, .sl 3 (List.map AJ a1.Mods))], AX [(20802, ⟨13, false, [AL a0]⟩), (20803, ⟨13, false, [AL a1]⟩), (20806, ⟨3, false, [AJ x69]⟩), (20807, ⟨3, false, [.agg [j6 0, .str ([] : List UInt8), .nl]]⟩)]⟩ ⟨AX [(2, .ptr 20802 0 0), (3, .ptr 20803 0 0), (5, j6 v5l14), (6, .ptr 20806 0 0), (7, .ptr 20807 0 0)], AX [(20802, ⟨13, false, [AL a0]⟩), (20803, ⟨13, false, [AL a1]⟩), (20806, ⟨3, false, [AJ x69]⟩), (20807, ⟨3, false, [AJ O6]⟩)]⟩ := by
  refine yc (l := [7]) rfl nofun ⟨⟨_, rfl, ?_⟩, trivial⟩
  refine wq rfl ?_
  exact AnyW.of oM rfl (cq rfl)
 have oN : AnyW Tryz.prog (fun _ => false) I9 I8 4 [0, 1, 2, 3, 4, 5, 7, 10, 11, 12] ⟨AX [(2, .ptr 20802 0 0), (3, .ptr 20803 0 0), (5, j6 v5l14), (6, .ptr 20806 0 0), (7, .ptr 20807 0 0), (71, .ptr 20803 0 12), (73, j6 v5l14)], AX [(20802, ⟨13, false, [AL a0]⟩), (20803, ⟨13, false, [AL a1]⟩), (20806, ⟨3, false, [AJ x69]⟩), (20807, ⟨3, false, [.agg [j6 0, .str ([] : List UInt8), .nl]]⟩)]⟩ ⟨AX [(2, .ptr 20802 0 0), (3, .ptr 20803 0 0), (5, j6 v5l14), (6, .ptr 20806 0 0), (7, .ptr 20807 0 0)], AX [(20802, ⟨13, false, [AL a0]⟩), (20803, ⟨13, false, [AL a1]⟩), (20806, ⟨3, false, [AJ x69]⟩), (20807, ⟨3, false, [AJ O6]⟩)]⟩ := by
  refine yc (l := [6]) rfl nofun ⟨⟨_, rfl, ?_⟩, trivial⟩
  refine wq rfl ?_
  exact AnyW.of oM rfl (cq rfl)
 have Fj : AnyW Tryz.prog (fun _ => false) I9 I8 5 [0, 1, 2, 3, 4, 5, 6, 10, 11] ⟨AX [(2, .ptr 20802 0 0), (3, .ptr 20803 0 0), (5, j6 v5l14), (6, .ptr 20806 0 0), (7, .ptr 20807 0 0), (70, AJ x69), (72, .sl 3 (List.map AJ a1.Mods))], AX [(20802, ⟨13, false, [AL a0]⟩), (20803, ⟨13, false, [AL a1]⟩), (20806, ⟨3, false, [.agg [j6 0, .str ([] : List UInt8), .nl]]⟩), (20807, ⟨3, false, [.agg [j6 0, .str ([] : List UInt8), .nl]]⟩)]⟩ ⟨AX [(2, .ptr 20802 0 0), (3, .ptr 20803 0 0), (5, j6 v5l14), (6, .ptr 20806 0 0), (7, .ptr 20807 0 0)], AX [(20802, ⟨13, false, [AL a0]⟩), (20803, ⟨13, false, [AL a1]⟩), (20806, ⟨3, false, [AJ x69]⟩), (20807, ⟨3, false, [AJ O6]⟩)]⟩ := by
  refine yc (l := [7, 12]) rfl nofun ⟨⟨_, rfl, ?_⟩, ⟨_, rfl, ?_⟩, trivial⟩
  refine wq rfl ?_
  exact AnyW.of zM rfl (cq rfl)
  refine EC (e' := AJ x69) rfl rfl rfl rfl rfl rfl rfl rfl nofun rfl ?_
  exact AnyW.of zQ rfl (cq rfl)
 have zN : AnyW Tryz.prog (fun _ => false) I9 I8 5 [0, 1, 2, 3, 4, 5, 7, 10, 11] ⟨AX [(2, .ptr 20802 0 0), (3, .ptr 20803 0 0), (5, j6 v5l14), (6, .ptr 20806 0 0), (7, .ptr 20807 0 0), (70, AJ x69), (71, .ptr 20803 0 12), (73, j6 v5l14)], AX [(20802, ⟨13, false, [AL a0]⟩), (20803, ⟨13, false, [AL a1]⟩), (20806, ⟨3, false, [.agg [j6 0, .str ([] : List UInt8), .nl]]⟩), (20807, ⟨3, false, [.agg [j6 0, .str ([] : List UInt8), .nl]]⟩)]⟩ ⟨AX [(2, .ptr 20802 0 0), (3, .ptr 20803 0 0), (5, j6 v5l14), (6, .ptr 20806 0 0), (7, .ptr 20807 0 0)], AX [(20802, ⟨13, false, [AL a0]⟩), (20803, ⟨13, false, [AL a1]⟩), (20806, ⟨3, false, [AJ x69]⟩), (20807, ⟨3, false, [AJ O6]⟩)]⟩ := by
  refine yc (l := [6, 12]) rfl nofun ⟨⟨_, rfl, ?_⟩, ⟨_, rfl, ?_⟩, trivial⟩
  refine wq rfl ?_
  exact AnyW.of zM rfl (cq rfl)
  refine EC (e' := AJ x69) rfl rfl rfl rfl rfl rfl rfl rfl nofun rfl ?_
  exact AnyW.of oN rfl (cq rfl)
 have Ff : AnyW Tryz.prog (fun _ => false) I9 I8 5 [0, 1, 2, 3, 4, 5, 10, 11, 12] ⟨AX [(2, .ptr 20802 0 0), (3, .ptr 20803 0 0), (5, j6 v5l14), (6, .ptr 20806 0 0), (7, .ptr 20807 0 0), (71, .ptr 20803 0 12)], AX [(20802, ⟨13, false, [AL a0]⟩), (20803, ⟨13, false, [AL a1]⟩), (20806, ⟨3, false, [AJ x69]⟩), (20807, ⟨3, false, [.agg [j6 0, .str ([] : List UInt8), .nl]]⟩)]⟩ ⟨AX [(2, .ptr 20802 0 0), (3, .ptr 20803 0 0), (5, j6 v5l14), (6, .ptr 20806 0 0), (7, .ptr 20807 0 0)], AX [(20802, ⟨13, false, [AL a0]⟩), (20803, ⟨13, false, [AL a1]⟩), (20806, ⟨3, false, [AJ x69]⟩), (20807, ⟨3, false, [AJ O6]⟩)]⟩ := by
  refine yc (l := [6, 7]) rfl nofun ⟨⟨_, rfl, ?_⟩, ⟨_, rfl, ?_⟩, trivial⟩
  refine wq rfl ?_
  exact AnyW.of zQ rfl (cq rfl)
  refine wq rfl ?_
  exact AnyW.of oN rfl (cq rfl)
 have zR : AnyW Tryz.prog (fun _ => false) I9 I8 5 [0, 1, 2, 3, 4, 7, 10, 11, 12] ⟨AX [(2, .ptr 20802 0 0), (3, .ptr 20803 0 0), (5, j6 v5l14), (6, .ptr 20806 0 0), (7, .ptr 20807 0 0), (73, j6 v5l14)], AX [(20802, ⟨13, false, [AL a0]⟩), (20803, ⟨13, false, [AL a1]⟩), (20806, ⟨3, false, [AJ x69]⟩), (20807, ⟨3, false, [.agg [j6 0, .str ([] : List UInt8), .nl]]⟩)]⟩ ⟨AX [(2, .ptr 20802 0 0), (3, .ptr 20803 0 0), (5, j6 v5l14), (6, .ptr 20806 0 0), (7, .ptr 20807 0 0)], AX [(20802, ⟨13, false, [AL a0]⟩), (20803, ⟨13, false, [AL a1]⟩), (20806, ⟨3, false, [AJ x69]⟩), (20807, ⟨3, false, [AJ O6]⟩)]⟩ := by
  refine yc (l := [5]) rfl nofun ⟨⟨_, rfl, ?_⟩, trivial⟩
  refine wq rfl ?_
  exact AnyW.of oN rfl (cq rfl)
 have Fq : AnyW Tryz.prog (fun _ => false) I9 I8 6 [0, 1, 2, 3, 4, 5, 10, 11] ⟨AX [(2, .ptr 20802 0 0), (3, .ptr 20803 0 0), (5, j6 v5l14), (6, .ptr 20806 0 0), (7, .ptr 20807 0 0), (70, AJ x69), (71, .ptr 20803 0 12)], AX [(20802, ⟨13, false, [AL a0]⟩), (20803, ⟨13, false, [AL a1]⟩), (20806, ⟨3, false, [.agg [j6 0, .str ([] : List UInt8), .nl]]⟩), (20807, ⟨3, false, [.agg [j6 0, .str ([] : List UInt8), .nl]]⟩)]⟩ ⟨AX [(2, .ptr 20802 0 0), (3, .ptr 20803 0 0), (5, j6 v5l14), (6, .ptr 20806 0 0), (7, .ptr 20807 0 0)], AX [(20802, ⟨13, false, [AL a0]⟩), (20803, ⟨13, false, [AL a1]⟩), (20806, ⟨3, false, [AJ x69]⟩), (20807, ⟨3, false, [AJ O6]⟩)]⟩ := by
  refine yc (l := [6, 7, 12]) rfl nofun ⟨⟨_, rfl, ?_⟩, ⟨_, rfl, ?_⟩, ⟨_, rfl, ?_⟩, trivial⟩
  refine wq rfl ?_
  exact AnyW.of Fj rfl (cq rfl)
  refine wq rfl ?_
  exact AnyW.of zN rfl (cq rfl)
  refine EC (e' := AJ x69) rfl rfl rfl rfl rfl rfl rfl rfl nofun rfl ?_
  exact AnyW.of Ff rfl (cq rfl)
 have Fp : AnyW Tryz.prog (fun _ => false) I9 I8 6 [0, 1, 2, 3, 4, 7, 10, 11] ⟨AX [(2, .ptr 20802 0 0), (3, .ptr 20803 0 0), (5, j6 v5l14), (6, .ptr 20806 0 0), (7, .ptr 20807 0 0), (70, AJ x69), (73, j6 v5l14)], AX [(20802, ⟨13, false, [AL a0]⟩), (20803, ⟨13, false, [AL a1]⟩), (20806, ⟨3, false, [.agg [j6 0, .str ([] : List UInt8), .nl]]⟩), (20807, ⟨3, false, [.agg [j6 0, .str ([] : List UInt8), .nl]]⟩)]⟩ ⟨AX [(2, .ptr 20802 0 0), (3, .ptr 20803 0 0), (5, j6 v5l14), (6, .ptr 20806 0 0), (7, .ptr 20807 0 0)], AX [(20802, ⟨13, false, [AL a0]⟩), (20803, ⟨13, false, [AL a1]⟩), (20806, ⟨3, false, [AJ x69]⟩), (20807, ⟨3, false, [AJ O6]⟩)]⟩ := by
  refine yc (l := [5, 12]) rfl nofun ⟨⟨_, rfl, ?_⟩, ⟨_, rfl, ?_⟩, trivial⟩
  refine wq rfl ?_
  exact AnyW.of zN rfl (cq rfl)
  refine EC (e' := AJ x69) rfl rfl rfl rfl rfl rfl rfl rfl nofun rfl ?_
  exact AnyW.of zR rfl (cq rfl)
 have a24_8 : AnyW Tryz.prog (fun _ => false) I9 I8 6 [0, 1, 2, 3, 4, 10, 11, 12] ⟨AX [(2, .ptr 20802 0 0), (3, .ptr 20803 0 0), (5, j6 v5l14), (6, .ptr 20806 0 0), (7, .ptr 20807 0 0)], AX [(20802, ⟨13, false, [AL a0]⟩), (20803, ⟨13, false, [AL a1]⟩), (20806, ⟨3, false, [AJ x69]⟩), (20807, ⟨3, false, [.agg [j6 0, .str ([] : List UInt8), .nl]]⟩)]⟩ ⟨AX [(2, .ptr 20802 0 0), (3, .ptr 20803 0 0), (5, j6 v5l14), (6, .ptr 20806 0 0), (7, .ptr 20807 0 0)], AX [(20802, ⟨13, false, [AL a0]⟩), (20803, ⟨13, false, [AL a1]⟩), (20806, ⟨3, false, [AJ x69]⟩), (20807, ⟨3, false, [AJ O6]⟩)]⟩ := by
  refine yc (l := [5, 7]) rfl nofun ⟨⟨_, rfl, ?_⟩, ⟨_, rfl, ?_⟩, trivial⟩
  refine wq rfl ?_
  exact AnyW.of Ff rfl (cq rfl)
  refine wq rfl ?_
  exact AnyW.of zR rfl (cq rfl)
 have a24_0 : AnyW Tryz.prog (fun _ => false) I9 I8 7 [0, 1, 2, 3, 4, 10, 11] ⟨AX [(2, .ptr 20802 0 0), (3, .ptr 20803 0 0), (5, j6 v5l14), (6, .ptr 20806 0 0), (7, .ptr 20807 0 0), (70, AJ x69)], AX [(20802, ⟨13, false, [AL a0]⟩), (20803, ⟨13, false, [AL a1]⟩), (20806, ⟨3, false, [.agg [j6 0, .str ([] : List UInt8), .nl]]⟩), (20807, ⟨3, false, [.agg [j6 0, .str ([] : List UInt8), .nl]]⟩)]⟩ ⟨AX [(2, .ptr 20802 0 0), (3, .ptr 20803 0 0), (5, j6 v5l14), (6, .ptr 20806 0 0), (7, .ptr 20807 0 0)], AX [(20802, ⟨13, false, [AL a0]⟩), (20803, ⟨13, false, [AL a1]⟩), (20806, ⟨3, false, [AJ x69]⟩), (20807, ⟨3, false, [AJ O6]⟩)]⟩ := by
  refine yc (l := [5, 7, 12]) rfl nofun ⟨⟨_, rfl, ?_⟩, ⟨_, rfl, ?_⟩, ⟨_, rfl, ?_⟩, trivial⟩
  refine wq rfl ?_
  exact AnyW.of Fq rfl (cq rfl)
  refine wq rfl ?_
  exact AnyW.of Fp rfl (cq rfl)
  refine EC (e' := AJ x69) rfl rfl rfl rfl rfl rfl rfl rfl nofun rfl ?_
  exact AnyW.of a24_8 rfl (cq rfl)
 exact ⟨⟨2, AnyW.of Fg rfl (cq rfl)⟩, ⟨3, AnyW.of Fh rfl (cq rfl)⟩, ⟨4, AnyW.of zM rfl (cq rfl)⟩, ⟨5, AnyW.of Fj rfl (cq rfl)⟩, ⟨5, AnyW.of zN rfl (cq rfl)⟩, ⟨6, AnyW.of Fq rfl (cq rfl)⟩, ⟨6, AnyW.of Fp rfl (cq rfl)⟩, ⟨7, AnyW.of a24_0 rfl (cq rfl)⟩, trivial⟩
 refine AA ?_
 obtain ⟨g10, lD, h⟩ := AQ h
 refine GV ⟨AX [(2, .ptr 20802 0 0), (3, .ptr 20803 0 0), (5, j6 v5l14), (6, .ptr 20806 0 0), (7, .ptr 20807 0 0), (96, .bool g10)], AX [(20802, ⟨13, false, [AL a0]⟩), (20803, ⟨13, false, [AL a1]⟩), (20806, ⟨3, false, [AJ x69]⟩), (20807, ⟨3, false, [AJ O6]⟩)]⟩ ?_ ?_
 have h := lD
 refine AB ?_
 iterate 6 refine wq rfl ?_
 rcases D7 h with ⟨c11, h⟩ | ⟨c11, h⟩
 iterate 5 refine D8 (gn rfl c11) ?_
 refine AY rfl (BF c11 rfl rfl) ?_
 refine wq rfl ?_
 iterate 7 refine D8 rfl ?_
 refine wq rfl ?_
 obtain rfl := AP h
 exact cq rfl
 iterate 5 refine AY (gy rfl c11) rfl ?_
 refine AY rfl (BD c11 rfl rfl) ?_
 refine wq rfl ?_
 rcases D7 h with ⟨c12, h⟩ | ⟨c12, h⟩
 iterate 7 refine D8 (gn rfl c12) ?_
 refine AY rfl (BF c12 rfl rfl) ?_
 obtain rfl := AP h
 exact cq rfl
 iterate 2 refine AY (gy rfl c12) rfl ?_
 refine AY (gy rfl c12) (CR rfl) ?_
 iterate 2 refine AY (gy rfl c12) rfl ?_
 refine AY (gy rfl c12) (CR rfl) ?_
 refine AY (gy rfl c12) rfl ?_
 refine AY rfl (BD c12 rfl rfl) ?_
 cases AP h
 exact cq rfl
 clear lD
 refine EN h rfl (fun c13 h => ?_) (fun c13 h => ?_)
 refine AA (AB ?_)
 refine wq rfl ?_
 obtain rfl := AP h
 exact F4 (st1 := ⟨AX [(4, .bool false)], AX []⟩) (cq rfl) ⟨rfl, rfl⟩
 refine BH (AA (AB ?_))
 refine wq rfl ?_
 refine CS ?_
 obtain ⟨Ed, hy16, h⟩ := AQ h
 refine R5 (OX N a0 a1 v5l14 x69 O6 N _ _ hy16) (cq rfl) ?_
 clear hy16
 rcases Ed with Ed | Ed
 rintro e s ⟨rfl, rfl⟩
 refine AB ?_
 refine wq rfl ?_
 refine AY (p := j6 (CE (v5l14 + (1 : Int)))) rfl rfl ?_
 refine wq rfl ?_
 exact ⟨(CE (v5l14 + (1 : Int))), (cq rfl), h⟩
 rintro e s ⟨rfl, rfl⟩
 obtain rfl := AP h
 exact ⟨rfl, rfl⟩
 cases AP h
 exact ED (st1 := ⟨AX [], AX []⟩) (cq rfl) ⟨rfl, rfl⟩
theorem PX (N : Nat) (a0 : AR) (a1 : AR) (r : Bool) (h : NC N a0 a1 = some r) : Sat Tryz.prog 13 AC [AL a0, AL a1] (.bool r) AC := by
 refine EO mixed Tryz.func13 Kc (rs := [.bool r]) rfl rfl ?_
 refine AA (AB ?_)
 refine CX rfl (FE 20802 rfl rfl rfl rfl rfl) ?_
 refine CX rfl (FE 20803 rfl rfl rfl rfl rfl) ?_
 refine wq rfl ?_
 refine AA ?_
 obtain ⟨g1, hg1, h⟩ := AQ h
 refine GV ⟨AX [(2, .ptr 20802 0 0), (3, .ptr 20803 0 0), (58, .bool g1)], AX [(20802, ⟨13, false, [AL a0]⟩), (20803, ⟨13, false, [AL a1]⟩)]⟩ ?_ ?_
 have h := hg1
 refine AB ?_
 refine wq rfl ?_
 refine AY (p := .agg [j6 a0.CSN.Time, j6 a0.CSN.Seq, j6 a0.CSN.Rep]) rfl rfl ?_
 refine wq rfl ?_
 refine AY (p := .agg [j6 a1.CSN.Time, j6 a1.CSN.Seq, j6 a1.CSN.Rep]) rfl rfl ?_
 refine AY (p := .bool (!(a0.CSN.Time == a1.CSN.Time && (a0.CSN.Seq == a1.CSN.Seq && (a0.CSN.Rep == a1.CSN.Rep && true))))) rfl rfl ?_
 refine wq rfl ?_
 rcases D7 h with ⟨c2, h⟩ | ⟨c2, h⟩
 iterate 5 refine D8 (gn rfl c2) ?_
 refine AY rfl (BF c2 rfl rfl) ?_
 refine wq rfl ?_
 iterate 5 refine D8 rfl ?_
 iterate 2 refine wq rfl ?_
 iterate 5 refine D8 rfl ?_
 iterate 2 refine wq rfl ?_
 iterate 5 refine D8 rfl ?_
 iterate 2 refine wq rfl ?_
 iterate 6 refine D8 rfl ?_
 iterate 2 refine wq rfl ?_
 iterate 7 refine D8 rfl ?_
 refine wq rfl ?_
 obtain rfl := AP h
 exact cq rfl
 iterate 5 refine AY (gy rfl c2) rfl ?_
 refine AY rfl (BD c2 rfl rfl) ?_
 refine wq rfl ?_
 rcases D7 h with ⟨c3, h⟩ | ⟨c3, h⟩
 iterate 5 refine D8 (gn rfl c3) ?_
 refine AY rfl (BF c3 rfl rfl) ?_
 refine wq rfl ?_
 iterate 5 refine D8 rfl ?_
 iterate 2 refine wq rfl ?_
 iterate 5 refine D8 rfl ?_
 iterate 2 refine wq rfl ?_
 iterate 6 refine D8 rfl ?_
 iterate 2 refine wq rfl ?_
 iterate 7 refine D8 rfl ?_
 refine wq rfl ?_
 obtain rfl := AP h
 exact cq rfl
 refine AY (gy rfl c3) rfl ?_
 refine AY (p := .agg [j6 a0.ID.Time, j6 a0.ID.Seq, j6 a0.ID.Rep]) (gy rfl c3) rfl ?_
 refine AY (gy rfl c3) rfl ?_
 refine AY (p := .agg [j6 a1.ID.Time, j6 a1.ID.Seq, j6 a1.ID.Rep]) (gy rfl c3) rfl ?_
 refine AY (p := .bool (!(a0.ID.Time == a1.ID.Time && (a0.ID.Seq == a1.ID.Seq && (a0.ID.Rep == a1.ID.Rep && true))))) (gy rfl c3) rfl ?_
 refine AY rfl (BD c3 rfl rfl) ?_
 refine wq rfl ?_
 rcases D7 h with ⟨c4, h⟩ | ⟨c4, h⟩
 iterate 5 refine D8 (gn rfl c4) ?_
 refine AY rfl (BF c4 rfl rfl) ?_
 refine wq rfl ?_
 iterate 5 refine D8 rfl ?_
 iterate 2 refine wq rfl ?_
 iterate 6 refine D8 rfl ?_
 iterate 2 refine wq rfl ?_
 iterate 7 refine D8 rfl ?_
 refine wq rfl ?_
 obtain rfl := AP h
 exact cq rfl
 refine AY (gy rfl c4) rfl ?_
 refine AY (p := .agg [j6 a0.Parent.Time, j6 a0.Parent.Seq, j6 a0.Parent.Rep]) (gy rfl c4) rfl ?_
 refine AY (gy rfl c4) rfl ?_
 refine AY (p := .agg [j6 a1.Parent.Time, j6 a1.Parent.Seq, j6 a1.Parent.Rep]) (gy rfl c4) rfl ?_
 refine AY (p := .bool (!(a0.Parent.Time == a1.Parent.Time && (a0.Parent.Seq == a1.Parent.Seq && (a0.Parent.Rep == a1.Parent.Rep && true))))) (gy rfl c4) rfl ?_
 refine AY rfl (BD c4 rfl rfl) ?_
 refine wq rfl ?_
 rcases D7 h with ⟨c5, h⟩ | ⟨c5, h⟩
 iterate 5 refine D8 (gn rfl c5) ?_
 refine AY rfl (BF c5 rfl rfl) ?_
 refine wq rfl ?_
 iterate 6 refine D8 rfl ?_
 iterate 2 refine wq rfl ?_
 iterate 7 refine D8 rfl ?_
 refine wq rfl ?_
 obtain rfl := AP h
 exact cq rfl
 iterate 5 refine AY (gy rfl c5) rfl ?_
 refine AY rfl (BD c5 rfl rfl) ?_
 refine wq rfl ?_
 rcases D7 h with ⟨c6, h⟩ | ⟨c6, h⟩
 iterate 6 refine D8 (gn rfl c6) ?_
 refine AY rfl (BF c6 rfl rfl) ?_
 refine wq rfl ?_
 iterate 7 refine D8 rfl ?_
 refine wq rfl ?_
 obtain rfl := AP h
 exact cq rfl
 iterate 4 refine AY (gy rfl c6) rfl ?_
 obtain ⟨YK, iZ, h⟩ := AQ h
 refine CX (gy rfl c6) (CZ (SY N _ _ _ iZ) rfl (.cons A8 (.cons A8 .nil)) rfl rfl rfl) ?_
 refine AY (gy rfl c6) rfl ?_
 refine AY rfl (BD c6 rfl rfl) ?_
 refine wq rfl ?_
 rcases D7 h with ⟨c7, h⟩ | ⟨c7, h⟩
 iterate 7 refine D8 (gn rfl c7) ?_
 refine AY rfl (BF c7 rfl rfl) ?_
 obtain rfl := AP h
 exact cq rfl
 iterate 2 refine AY (gy rfl c7) rfl ?_
 refine AY (gy rfl c7) (CR rfl) ?_
 iterate 2 refine AY (gy rfl c7) rfl ?_
 refine AY (gy rfl c7) (CR rfl) ?_
 refine AY (gy rfl c7) rfl ?_
 refine AY rfl (BD c7 rfl rfl) ?_
 cases AP h
 exact cq rfl
 clear hg1
 refine EN h rfl (fun c8 h => ?_) (fun c8 h => ?_)
 refine AA (AB ?_)
 refine wq rfl ?_
 obtain rfl := AP h
 refine BZ ?_
 exact ⟨nofun, rfl, rfl⟩
 refine BH ?_
 iterate 2 refine AA ?_
 refine AB ?_
 refine wq rfl ?_
 refine CS ?_
 obtain ⟨Ec, hy17, h⟩ := AQ h
 refine R5 (OY N a0 a1 N _ _ hy17) (cq rfl) ?_
 clear hy17
 rcases Ec with Ec | Ec
 rintro e s ⟨rfl, rfl⟩
 refine AA (AB ?_)
 refine wq rfl ?_
 obtain rfl := AP h
 refine BZ ?_
 exact ⟨nofun, rfl, rfl⟩
 rintro e s ⟨rfl, rfl⟩
 obtain rfl := AP h
 exact ⟨nofun, rfl, rfl⟩
end Go.Gp
end
section
set_option linter.unusedVariables false
namespace Go.Gp
open Go.Vd Go.RowKit Go.Proofs Go.Shelf Go.Lib
def ren40 : Ren := ⟨fun | 41 => 40 | n => n, fun | 22 => 25 | 23 => 41 | 4 => 4 | n => n, fun | n => n⟩
theorem Hd : SlLaysE0.n41 Tryz.prog ren40 := {
 mixed := by kernel_rfl
 f41 := ⟨Tryz.f40.name, by decide, Tryz.func40.trans (congrArg some (by kernel_rfl))⟩
 t4 := Tryz.underlying4
 a4 := Tryz.isAgg4
 z4 := Tryz.sizeOf4
 v4 := Tryz.zeroValue4
 t22 := Tryz.underlying25
 a22 := Tryz.isAgg25
 z22 := Tryz.sizeOf25
 v22 := Tryz.zeroValue25 }
def ren41 : Ren := ⟨fun | 41 => 41 | n => n, fun | 22 => 26 | 23 => 44 | 4 => 4 | n => n, fun | n => n⟩
theorem Ha : SlLaysE0.n41 Tryz.prog ren41 := {
 mixed := by kernel_rfl
 f41 := ⟨Tryz.f41.name, by decide, Tryz.func41.trans (congrArg some (by kernel_rfl))⟩
 t4 := Tryz.underlying4
 a4 := Tryz.isAgg4
 z4 := Tryz.sizeOf4
 v4 := Tryz.zeroValue4
 t22 := Tryz.underlying26
 a22 := Tryz.isAgg26
 z22 := Tryz.sizeOf26
 v22 := Tryz.zeroValue26 }
theorem i41 : (Tryz.prog.info? 41).map (fun i => (i.zero, i.size, i.bytes)) = some (some (Value.agg #[.string { data := #[] }, .string { data := #[] }]), 2, 32) := by kernel_rfl
theorem i44 : (Tryz.prog.info? 44).map (fun i => (i.zero, i.size, i.bytes)) = some (some (Value.agg #[.int .i64 0, .string { data := #[] }, .slice none 0 0]), 3, 48) := by kernel_rfl
theorem i9 : (Tryz.prog.info? 9).map (fun i => (i.zero, i.size, i.bytes)) = some (some (Value.string { data := #[] }), 1, 16) := by kernel_rfl
theorem ZR {α : Type} (f : α → PV) {l r : List α} (t : Nat) (hty : JC t = none) (h : SG 32 l = some r) : Sat Tryz.prog 40 AC [.sl 2 (List.map f l)] (.slr t 0 r.length) (AX [(t, ⟨2, true, List.map f r⟩)]) := by
 obtain ⟨rfl, h1, h2⟩ := XA h
 obtain ⟨i, e1, e2, e3, e4⟩ := info_parts i41
 have := YY Hd i _ 2 32 e1 e2 e3 e4 rfl (by decide) Tryz.sizeOf41 (t := t) hty (xs := List.map f r) (by simpa using h1) (by simpa using h2)
 rw [List.length_map] at this
 exact this
theorem ZQ {α : Type} (f : α → PV) {l r : List α} (t : Nat) (hty : JC t = none) (h : SG 48 l = some r) : Sat Tryz.prog 41 AC [.sl 3 (List.map f l)] (.slr t 0 r.length) (AX [(t, ⟨3, true, List.map f r⟩)]) := by
 obtain ⟨rfl, h1, h2⟩ := XA h
 obtain ⟨i, e1, e2, e3, e4⟩ := info_parts i44
 have := YY Ha i _ 3 48 e1 e2 e3 e4 rfl (by decide) Tryz.sizeOf44 (t := t) hty (xs := List.map f r) (by simpa using h1) (by simpa using h2)
 rw [List.length_map] at this
 exact this
theorem kD {α : Type} (f : α → PV) {l r : List α} (t : Nat) (hty : JC t = none) (h : SG 16 l = some r) : Sat Tryz.prog 42 AC [.sl 1 (List.map f l)] (.slr t 0 r.length) (AX [(t, ⟨1, true, List.map f r⟩)]) := by
 obtain ⟨rfl, h1, h2⟩ := XA h
 obtain ⟨i, e1, e2, e3, e4⟩ := info_parts i9
 have := YY Tryz.laysSlE041_f42 i _ 1 16 e1 e2 e3 e4 rfl (by decide) Tryz.sizeOf9 (t := t) hty (xs := List.map f r) (by simpa using h1) (by simpa using h2)
 rw [List.length_map] at this
 exact this
end Go.Gp
end
section
set_option linter.unusedVariables false
set_option linter.unusedSimpArgs false
set_option maxRecDepth 4000
set_option maxHeartbeats 4000000
namespace Go.Gp
open Go.Vd Go.RowKit Go.Proofs
def qR : IC := (.seq (.reg [jb .lss 17 16 15]) (.seq (.cond (.t 17) .skip (.exit 0)) (.seq (.block 1 (.seq (.reg [jm 18 16, jx 19 3 14 16, jg 20 3 19, jn 4 (.box 44 (.c (.agg [(j6 0), (.str []), .nl]))), jm 3 18, js 3 4 20]) (.regd 8 [ja 21 12 1, jl 22 1 21, jm 23 3, ja 24 2 4, jl 25 1 24, jn 26 (.call 42 [(.t 25)]), jx 27 3 22 23, ja 28 2 27, js 1 28 26]))) (.reg [ju .add 29 16 1, jm 16 29]))))
def k15 : IC := (.seq (.reg [jn 1 (.box 28 (.t 0)), jn 2 (.box 28 (.c (.agg [(j6 0), (j6 0), (j6 0), (j6 0), (j6 0), (j6 0), (j6 0), (j6 0), (j6 0), (j6 0), .nl, (.bool false), .nl])))]) (.seq (.reg [ja 5 10 1, jl 6 1 5, jn 7 (.call 40 [(.t 6)]), ja 8 10 1, js 1 8 7]) (.seq (.reg [ja 9 12 1, jl 10 1 9, jn 11 (.call 41 [(.t 10)]), ja 12 12 1, js 1 12 11]) (.seq (.seq (.reg [ja 13 12 1, jl 14 1 13, jL 15 14, jc 16 (j6 0)]) (.block 0 (.loop qR))) (.seq (.reg [jg 30 13 1, js 13 2 30]) .ret)))))
theorem xB : C9 Tryz.prog Tryz.f15 = some ⟨31, k15, [(.cell 13 true 2)]⟩ := by kernel_rfl
theorem R7 (N : Nat) (PG : List BA) : ∀ (n : Nat) (x : Int × Int × Int × Int × Int × Int × Int × Int × Int × Int × Int × Bool × List AU × List BA) (y : Int × Int × Int × Int × Int × Int × Int × Int × Int × Int × Bool × List AU × List BA), GU N PG n x = some y → WX Tryz.prog (fun _ => false) (.loop qR) ((fun (x : Int × Int × Int × Int × Int × Int × Int × Int × Int × Int × Int × Bool × List AU × List BA) => ⟨AX [(1, .ptr 24001 0 0), (2, .ptr 24002 0 0), (14, .slr 24011 0 x.2.2.2.2.2.2.2.2.2.2.2.2.2.length), (15, j6 (PG.length : Int)), (16, j6 x.1)], AX [(24001, ⟨13, false, [.agg [j6 x.2.1, j6 x.2.2.1, j6 x.2.2.2.1, j6 x.2.2.2.2.1, j6 x.2.2.2.2.2.1, j6 x.2.2.2.2.2.2.1, j6 x.2.2.2.2.2.2.2.1, j6 x.2.2.2.2.2.2.2.2.1, j6 x.2.2.2.2.2.2.2.2.2.1, j6 x.2.2.2.2.2.2.2.2.2.2.1, .slr 24007 0 x.2.2.2.2.2.2.2.2.2.2.2.2.1.length, .bool x.2.2.2.2.2.2.2.2.2.2.2.1, .slr 24011 0 x.2.2.2.2.2.2.2.2.2.2.2.2.2.length]]⟩), (24002, ⟨13, false, [.agg [j6 0, j6 0, j6 0, j6 0, j6 0, j6 0, j6 0, j6 0, j6 0, j6 0, .nl, .bool false, .nl]]⟩), (24007, ⟨2, true, List.map AV x.2.2.2.2.2.2.2.2.2.2.2.2.1⟩), (24011, ⟨3, true, List.map AJ x.2.2.2.2.2.2.2.2.2.2.2.2.2⟩)]⟩) x) ((fun y e s => e = .exit 0 ∧ s = ⟨AX [(1, .ptr 24001 0 0), (2, .ptr 24002 0 0)], AX [(24001, ⟨13, false, [.agg [j6 y.1, j6 y.2.1, j6 y.2.2.1, j6 y.2.2.2.1, j6 y.2.2.2.2.1, j6 y.2.2.2.2.2.1, j6 y.2.2.2.2.2.2.1, j6 y.2.2.2.2.2.2.2.1, j6 y.2.2.2.2.2.2.2.2.1, j6 y.2.2.2.2.2.2.2.2.2.1, .slr 24007 0 y.2.2.2.2.2.2.2.2.2.2.2.1.length, .bool y.2.2.2.2.2.2.2.2.2.2.1, .slr 24011 0 y.2.2.2.2.2.2.2.2.2.2.2.2.length]]⟩), (24002, ⟨13, false, [.agg [j6 0, j6 0, j6 0, j6 0, j6 0, j6 0, j6 0, j6 0, j6 0, j6 0, .nl, .bool false, .nl]]⟩), (24007, ⟨2, true, List.map AV y.2.2.2.2.2.2.2.2.2.2.2.1⟩), (24011, ⟨3, true, List.map AJ y.2.2.2.2.2.2.2.2.2.2.2.2⟩)]⟩ : (Int × Int × Int × Int × Int × Int × Int × Int × Int × Int × Bool × List AU × List BA) → Xt → St → Prop) y) := by
 refine FB _ _ (GU N PG) (K9 N PG) (fun _ => rfl) (fun _ _ => rfl) ?_
 rintro rec ⟨WQ, KP, KO, KN, KM, KL, KJ, KI, KH, KG, KF, JE, NA, FQ⟩ y h
 refine AA (AB ?_)
 refine wq rfl ?_
 refine AA ?_
 refine EN h rfl (fun c1 h => ?_) (fun c1 h => ?_)
 refine BH (AA (CS (AA (AB ?_))))
 refine wq rfl ?_
 obtain ⟨BQ, Z8, h⟩ := AQ h
 refine AY rfl (QJ Z8 rfl rfl rfl rfl) ?_
 obtain ⟨x20, dD, h⟩ := AQ h
 refine AY rfl (V3 (f := AJ) (v := AJ x20) dD rfl rfl rfl) ?_
 refine CX rfl (FE 24004 rfl rfl rfl rfl rfl) ?_
 refine wq rfl ?_
 refine EC (e' := AJ x20) rfl rfl rfl rfl rfl rfl rfl rfl nofun rfl ?_
 refine Q8 ?_
 iterate 5 refine dq rfl ?_
 obtain ⟨J2, j3, h⟩ := AQ h
 refine UO rfl (Ej [(24026, ⟨1, true, List.map PV.str J2⟩)] (kD PV.str 24026 rfl j3) rfl (.cons A8 .nil) rfl rfl rfl rfl) (Lc rfl) ?_
 obtain ⟨x27, hx27, h⟩ := AQ h
 refine LM rfl (QJ hx27 rfl rfl rfl rfl) ?_
 refine dq rfl ?_
 refine wn (BX.trans (Vd.freeze 24026 _ rfl rfl rfl) (KS 26 (GG (congrArg (PV.sl 1) (BP (f := PV.str) (l := J2)))) rfl)) ?_
 obtain ⟨SK, Ki, h⟩ := AQ h
 refine Ar (f := AJ) (e' := (⟨SK.Kind, SK.Attr, J2⟩ : BA)) Ki rfl rfl rfl rfl rfl rfl rfl rfl (fun _ => rfl) rfl ?_
 refine AB ?_
 refine AY (p := j6 (CE (WQ + (1 : Int)))) rfl rfl ?_
 refine wq rfl ?_
 exact ⟨((CE (WQ + (1 : Int))), KP, KO, KN, KM, KL, KJ, KI, KH, KG, KF, JE, NA, (FQ.set x27 (⟨SK.Kind, SK.Attr, J2⟩ : BA))), (BX.trans (KS 14 (GG (congrArg (PV.slr 24011 0) (by simp only [List.length_set, List.length_replicate] : FQ.length = (FQ.set x27 (⟨SK.Kind, SK.Attr, J2⟩ : BA)).length))) rfl) (BX.trans (nC 24001 (x := .agg [j6 KP, j6 KO, j6 KN, j6 KM, j6 KL, j6 KJ, j6 KI, j6 KH, j6 KG, j6 KF, .slr 24007 0 NA.length, .bool JE, .slr 24011 0 FQ.length]) (y := .agg [j6 KP, j6 KO, j6 KN, j6 KM, j6 KL, j6 KJ, j6 KI, j6 KH, j6 KG, j6 KF, .slr 24007 0 NA.length, .bool JE, .slr 24011 0 ((FQ.set x27 (⟨SK.Kind, SK.Attr, J2⟩ : BA)).length)]) (.cons A8 (.cons A8 (.cons A8 (.cons A8 (.cons A8 (.cons A8 (.cons A8 (.cons A8 (.cons A8 (.cons A8 (.cons A8 (.cons A8 (.cons (GG (congrArg (PV.slr 24011 0) (by simp only [List.length_set, List.length_replicate] : FQ.length = (FQ.set x27 (⟨SK.Kind, SK.Attr, J2⟩ : BA)).length))) .nil))))))))))))) rfl rfl) (cq rfl))), h⟩
 cases AP h
 exact ED (st1 := ⟨AX [(1, .ptr 24001 0 0), (2, .ptr 24002 0 0)], AX [(24001, ⟨13, false, [.agg [j6 KP, j6 KO, j6 KN, j6 KM, j6 KL, j6 KJ, j6 KI, j6 KH, j6 KG, j6 KF, .slr 24007 0 NA.length, .bool JE, .slr 24011 0 FQ.length]]⟩), (24002, ⟨13, false, [.agg [j6 0, j6 0, j6 0, j6 0, j6 0, j6 0, j6 0, j6 0, j6 0, j6 0, .nl, .bool false, .nl]]⟩), (24007, ⟨2, true, List.map AV NA⟩), (24011, ⟨3, true, List.map AJ FQ⟩)]⟩) (cq rfl) ⟨rfl, rfl⟩
theorem aK (N : Nat) (a0 : AR) (r : AR) (h : NG N a0 = some r) : Sat Tryz.prog 15 AC [AL a0] (AL r) AC := by
 refine EO mixed Tryz.func15 xB (rs := [AL r]) rfl rfl ?_
 refine AA (AB ?_)
 refine CX rfl (FE 24001 rfl rfl rfl rfl rfl) ?_
 refine CX rfl (FE 24002 rfl rfl rfl rfl rfl) ?_
 refine AA (AB ?_)
 iterate 2 refine wq rfl ?_
 obtain ⟨x7, hx7, h⟩ := AQ h
 refine CX rfl (kN [(24007, ⟨2, true, List.map AV x7⟩)] (ZR AV 24007 rfl hx7) rfl (.cons A8 .nil) rfl rfl rfl rfl rfl) ?_
 refine wq rfl ?_
 refine EC (e' := .agg [j6 a0.CSN.Time, j6 a0.CSN.Seq, j6 a0.CSN.Rep, j6 a0.Kind, j6 a0.ID.Time, j6 a0.ID.Seq, j6 a0.ID.Rep, j6 a0.Parent.Time, j6 a0.Parent.Seq, j6 a0.Parent.Rep, .slr 24007 0 x7.length, .bool a0.DelOld, .sl 3 (List.map AJ a0.Mods)]) rfl rfl rfl rfl rfl rfl rfl rfl nofun rfl ?_
 refine AA (AB ?_)
 iterate 2 refine wq rfl ?_
 obtain ⟨PG, WZ, h⟩ := AQ h
 refine CX rfl (kN [(24011, ⟨3, true, List.map AJ PG⟩)] (ZQ AJ 24011 rfl WZ) rfl (.cons A8 .nil) rfl rfl rfl rfl rfl) ?_
 refine wq rfl ?_
 refine EC (e' := .agg [j6 a0.CSN.Time, j6 a0.CSN.Seq, j6 a0.CSN.Rep, j6 a0.Kind, j6 a0.ID.Time, j6 a0.ID.Seq, j6 a0.ID.Rep, j6 a0.Parent.Time, j6 a0.Parent.Seq, j6 a0.Parent.Rep, .slr 24007 0 x7.length, .bool a0.DelOld, .slr 24011 0 PG.length]) rfl rfl rfl rfl rfl rfl rfl rfl nofun rfl ?_
 iterate 2 refine AA ?_
 refine AB ?_
 iterate 4 refine wq rfl ?_
 refine CS ?_
 obtain ⟨y3, hy3, h⟩ := AQ h
 refine R5 (R7 N PG N _ _ hy3) (cq rfl) ?_
 rintro e s ⟨rfl, rfl⟩
 refine AA (AB ?_)
 refine AY (p := .agg [j6 y3.1, j6 y3.2.1, j6 y3.2.2.1, j6 y3.2.2.2.1, j6 y3.2.2.2.2.1, j6 y3.2.2.2.2.2.1, j6 y3.2.2.2.2.2.2.1, j6 y3.2.2.2.2.2.2.2.1, j6 y3.2.2.2.2.2.2.2.2.1, j6 y3.2.2.2.2.2.2.2.2.2.1, .slr 24007 0 y3.2.2.2.2.2.2.2.2.2.2.2.1.length, .bool y3.2.2.2.2.2.2.2.2.2.2.1, .slr 24011 0 y3.2.2.2.2.2.2.2.2.2.2.2.2.length]) rfl rfl ?_
 refine EC (e' := .agg [j6 y3.1, j6 y3.2.1, j6 y3.2.2.1, j6 y3.2.2.2.1, j6 y3.2.2.2.2.1, j6 y3.2.2.2.2.2.1, j6 y3.2.2.2.2.2.2.1, j6 y3.2.2.2.2.2.2.2.1, j6 y3.2.2.2.2.2.2.2.2.1, j6 y3.2.2.2.2.2.2.2.2.2.1, .slr 24007 0 y3.2.2.2.2.2.2.2.2.2.2.2.1.length, .bool y3.2.2.2.2.2.2.2.2.2.2.1, .slr 24011 0 y3.2.2.2.2.2.2.2.2.2.2.2.2.length]) rfl rfl rfl rfl rfl rfl rfl rfl nofun rfl ?_
 cases AP h
 refine F4 (st1 := ⟨AX [(2, .ptr 24002 0 0)], AX [(24002, ⟨13, false, [AL (⟨(⟨y3.1, y3.2.1, y3.2.2.1⟩ : AO), y3.2.2.2.1, (⟨y3.2.2.2.2.1, y3.2.2.2.2.2.1, y3.2.2.2.2.2.2.1⟩ : AO), (⟨y3.2.2.2.2.2.2.2.1, y3.2.2.2.2.2.2.2.2.1, y3.2.2.2.2.2.2.2.2.2.1⟩ : AO), y3.2.2.2.2.2.2.2.2.2.2.2.1, y3.2.2.2.2.2.2.2.2.2.2.1, y3.2.2.2.2.2.2.2.2.2.2.2.2⟩ : AR)]⟩)]⟩) (BX.trans (Vd.freeze 24007 _ rfl rfl rfl) (BX.trans (Vd.freeze 24011 _ rfl rfl rfl) (BX.trans (nC 24002 (x := .agg [j6 y3.1, j6 y3.2.1, j6 y3.2.2.1, j6 y3.2.2.2.1, j6 y3.2.2.2.2.1, j6 y3.2.2.2.2.2.1, j6 y3.2.2.2.2.2.2.1, j6 y3.2.2.2.2.2.2.2.1, j6 y3.2.2.2.2.2.2.2.2.1, j6 y3.2.2.2.2.2.2.2.2.2.1, .sl 2 (List.take y3.2.2.2.2.2.2.2.2.2.2.2.1.length (List.drop 0 (List.map AV y3.2.2.2.2.2.2.2.2.2.2.2.1))), .bool y3.2.2.2.2.2.2.2.2.2.2.1, .sl 3 (List.take y3.2.2.2.2.2.2.2.2.2.2.2.2.length (List.drop 0 (List.map AJ y3.2.2.2.2.2.2.2.2.2.2.2.2)))]) (y := .agg [j6 (((⟨(⟨y3.1, y3.2.1, y3.2.2.1⟩ : AO), y3.2.2.2.1, (⟨y3.2.2.2.2.1, y3.2.2.2.2.2.1, y3.2.2.2.2.2.2.1⟩ : AO), (⟨y3.2.2.2.2.2.2.2.1, y3.2.2.2.2.2.2.2.2.1, y3.2.2.2.2.2.2.2.2.2.1⟩ : AO), y3.2.2.2.2.2.2.2.2.2.2.2.1, y3.2.2.2.2.2.2.2.2.2.2.1, y3.2.2.2.2.2.2.2.2.2.2.2.2⟩ : AR).CSN).Time), j6 (((⟨(⟨y3.1, y3.2.1, y3.2.2.1⟩ : AO), y3.2.2.2.1, (⟨y3.2.2.2.2.1, y3.2.2.2.2.2.1, y3.2.2.2.2.2.2.1⟩ : AO), (⟨y3.2.2.2.2.2.2.2.1, y3.2.2.2.2.2.2.2.2.1, y3.2.2.2.2.2.2.2.2.2.1⟩ : AO), y3.2.2.2.2.2.2.2.2.2.2.2.1, y3.2.2.2.2.2.2.2.2.2.2.1, y3.2.2.2.2.2.2.2.2.2.2.2.2⟩ : AR).CSN).Seq), j6 (((⟨(⟨y3.1, y3.2.1, y3.2.2.1⟩ : AO), y3.2.2.2.1, (⟨y3.2.2.2.2.1, y3.2.2.2.2.2.1, y3.2.2.2.2.2.2.1⟩ : AO), (⟨y3.2.2.2.2.2.2.2.1, y3.2.2.2.2.2.2.2.2.1, y3.2.2.2.2.2.2.2.2.2.1⟩ : AO), y3.2.2.2.2.2.2.2.2.2.2.2.1, y3.2.2.2.2.2.2.2.2.2.2.1, y3.2.2.2.2.2.2.2.2.2.2.2.2⟩ : AR).CSN).Rep), j6 ((⟨(⟨y3.1, y3.2.1, y3.2.2.1⟩ : AO), y3.2.2.2.1, (⟨y3.2.2.2.2.1, y3.2.2.2.2.2.1, y3.2.2.2.2.2.2.1⟩ : AO), (⟨y3.2.2.2.2.2.2.2.1, y3.2.2.2.2.2.2.2.2.1, y3.2.2.2.2.2.2.2.2.2.1⟩ : AO), y3.2.2.2.2.2.2.2.2.2.2.2.1, y3.2.2.2.2.2.2.2.2.2.2.1, y3.2.2.2.2.2.2.2.2.2.2.2.2⟩ : AR).Kind), j6 (((⟨(⟨y3.1, y3.2.1, y3.2.2.1⟩ : AO), y3.2.2.2.1, (⟨y3.2.2.2.2.1, y3.2.2.2.2.2.1, y3.2.2.2.2.2.2.1⟩ : AO), (⟨y3.2.2.2.2.2.2.2.1, y3.2.2.2.2.2.2.2.2.1, y3.2.2.2.2.2.2.2.2.2.1⟩ : AO), y3.2.2.2.2.2.2.2.2.2.2.2.1, y3.2.2.2.2.2.2.2.2.2.2.1, y3.2.2.2.2.2.2.2.2.2.2.2.2⟩ : AR).ID).Time), j6 (((⟨(⟨y3.1, y3.2.1, y3.2.2.1⟩ : AO), y3.2.2.2.1, (⟨y3.2.2.2.2.1, y3.2.2.2.2.2.1, y3.2.2.2.2.2.2.1⟩ : AO), (⟨y3.2.2.2.2.2.2.2.1, y3.2.2.2.2.2.2.2.2.1, y3.2.2.2.2.2.2.2.2.2.1⟩ : AO), y3.2.2.2.2.2.2.2.2.2.2.2.1, y3.2.2.2.2.2.2.2.2.2.2.1, y3.2.2.2.2.2.2.2.2.2.2.2.2⟩ : AR).ID).Seq), j6 (((⟨(⟨y3.1, y3.2.1, y3.2.2.1⟩ : AO), y3.2.2.2.1, (⟨y3.2.2.2.2.1, y3.2.2.2.2.2.1, y3.2.2.2.2.2.2.1⟩ : AO), (⟨y3.2.2.2.2.2.2.2.1, y3.2.2.2.2.2.2.2.2.1, y3.2.2.2.2.2.2.2.2.2.1⟩ : AO), y3.2.2.2.2.2.2.2.2.2.2.2.1, y3.2.2.2.2.2.2.2.2.2.2.1, y3.2.2.2.2.2.2.2.2.2.2.2.2⟩ : AR).ID).Rep), j6 (((⟨(⟨y3.1, y3.2.1, y3.2.2.1⟩ : AO), y3.2.2.2.1, (⟨y3.2.2.2.2.1, y3.2.2.2.2.2.1, y3.2.2.2.2.2.2.1⟩ : AO), (⟨y3.2.2.2.2.2.2.2.1, y3.2.2.2.2.2.2.2.2.1, y3.2.2.2.2.2.2.2.2.2.1⟩ : AO), y3.2.2.2.2.2.2.2.2.2.2.2.1, y3.2.2.2.2.2.2.2.2.2.2.1, y3.2.2.2.2.2.2.2.2.2.2.2.2⟩ : AR).Parent).Time), j6 (((⟨(⟨y3.1, y3.2.1, y3.2.2.1⟩ : AO), y3.2.2.2.1, (⟨y3.2.2.2.2.1, y3.2.2.2.2.2.1, y3.2.2.2.2.2.2.1⟩ : AO), (⟨y3.2.2.2.2.2.2.2.1, y3.2.2.2.2.2.2.2.2.1, y3.2.2.2.2.2.2.2.2.2.1⟩ : AO), y3.2.2.2.2.2.2.2.2.2.2.2.1, y3.2.2.2.2.2.2.2.2.2.2.1, y3.2.2.2.2.2.2.2.2.2.2.2.2⟩ : AR).Parent).Seq), j6 (((⟨(⟨y3.1, y3.2.1, y3.2.2.1⟩ : AO), y3.2.2.2.1, (⟨y3.2.2.2.2.1, y3.2.2.2.2.2.1, y3.2.2.2.2.2.2.1⟩ : AO), (⟨y3.2.2.2.2.2.2.2.1, y3.2.2.2.2.2.2.2.2.1, y3.2.2.2.2.2.2.2.2.2.1⟩ : AO), y3.2.2.2.2.2.2.2.2.2.2.2.1, y3.2.2.2.2.2.2.2.2.2.2.1, y3.2.2.2.2.2.2.2.2.2.2.2.2⟩ : AR).Parent).Rep), .sl 2 (List.map AV ((⟨(⟨y3.1, y3.2.1, y3.2.2.1⟩ : AO), y3.2.2.2.1, (⟨y3.2.2.2.2.1, y3.2.2.2.2.2.1, y3.2.2.2.2.2.2.1⟩ : AO), (⟨y3.2.2.2.2.2.2.2.1, y3.2.2.2.2.2.2.2.2.1, y3.2.2.2.2.2.2.2.2.2.1⟩ : AO), y3.2.2.2.2.2.2.2.2.2.2.2.1, y3.2.2.2.2.2.2.2.2.2.2.1, y3.2.2.2.2.2.2.2.2.2.2.2.2⟩ : AR).RDN)), .bool ((⟨(⟨y3.1, y3.2.1, y3.2.2.1⟩ : AO), y3.2.2.2.1, (⟨y3.2.2.2.2.1, y3.2.2.2.2.2.1, y3.2.2.2.2.2.2.1⟩ : AO), (⟨y3.2.2.2.2.2.2.2.1, y3.2.2.2.2.2.2.2.2.1, y3.2.2.2.2.2.2.2.2.2.1⟩ : AO), y3.2.2.2.2.2.2.2.2.2.2.2.1, y3.2.2.2.2.2.2.2.2.2.2.1, y3.2.2.2.2.2.2.2.2.2.2.2.2⟩ : AR).DelOld), .sl 3 (List.map AJ ((⟨(⟨y3.1, y3.2.1, y3.2.2.1⟩ : AO), y3.2.2.2.1, (⟨y3.2.2.2.2.1, y3.2.2.2.2.2.1, y3.2.2.2.2.2.2.1⟩ : AO), (⟨y3.2.2.2.2.2.2.2.1, y3.2.2.2.2.2.2.2.2.1, y3.2.2.2.2.2.2.2.2.2.1⟩ : AO), y3.2.2.2.2.2.2.2.2.2.2.2.1, y3.2.2.2.2.2.2.2.2.2.2.1, y3.2.2.2.2.2.2.2.2.2.2.2.2⟩ : AR).Mods))]) (.cons A8 (.cons A8 (.cons A8 (.cons A8 (.cons A8 (.cons A8 (.cons A8 (.cons A8 (.cons A8 (.cons A8 (.cons (GG (congrArg (PV.sl 2) (BP (f := AV) (l := y3.2.2.2.2.2.2.2.2.2.2.2.1)))) (.cons A8 (.cons (GG (congrArg (PV.sl 3) (BP (f := AJ) (l := y3.2.2.2.2.2.2.2.2.2.2.2.2)))) .nil))))))))))))) rfl rfl) (cq rfl)))) ?_
 exact ⟨nofun, rfl, rfl⟩
def qL : IC := (.seq (.reg [jb .lss 14 13 12]) (.seq (.cond (.t 14) .skip (.exit 0)) (.seq (.block 1 (.seq (.reg [jm 15 13, jm 5 15]) (.seq (.regd 9 [jm 16 0, jm 17 5, jx 18 1 16 17, jl 19 1 18, jm 20 1, jm 21 5, jx 22 1 20 21, jl 23 1 22, jb .neq 24 19 23]) (.cond (.t 24) (.seq (.reg [jc 4 (.bool false)]) .ret) .skip)))) (.reg [ju .add 25 13 1, jm 13 25]))))
def k37 : IC := (.seq (.reg [jc 4 (.bool false)]) (.seq (.seq (.reg [jm 6 0, jL 7 6, jm 8 1, jL 9 8, jb .neq 10 7 9]) (.cond (.t 10) (.seq (.reg [jc 4 (.bool false)]) .ret) .skip)) (.seq (.seq (.reg [jm 11 0, jL 12 11, jc 13 (j6 0)]) (.block 0 (.loop qL))) (.seq (.reg [jc 4 (.bool true)]) .ret))))
theorem Jk : C9 Tryz.prog Tryz.f37 = some ⟨26, k37, [(.tmp 4)]⟩ := by kernel_rfl
theorem NI (N : Nat) (a0 : List (List UInt8)) (a1 : List (List UInt8)) : ∀ (n : Nat) (x : Int) (y : Unit ⊕ Bool), CU N a0 a1 n x = some y → WX Tryz.prog (fun _ => false) (.loop qL) ((fun (x : Int) => ⟨AX [(0, .sl 1 (List.map PV.str a0)), (1, .sl 1 (List.map PV.str a1)), (12, j6 (a0.length : Int)), (13, j6 x)], AX []⟩) x) ((Sum.elim (fun y e s => e = .exit 0 ∧ s = ⟨AX [], AX []⟩) (fun y e s => e = .ret ∧ s = ⟨AX [(4, .bool y)], AX []⟩) : (Unit ⊕ Bool) → Xt → St → Prop) y) := by
 refine FB _ _ (CU N a0 a1) (EU N a0 a1) (fun _ => rfl) (fun _ _ => rfl) ?_
 rintro rec v13l14 y h
 refine AA (AB ?_)
 refine wq rfl ?_
 refine AA ?_
 refine EN h rfl (fun c2 h => ?_) (fun c2 h => ?_)
 refine BH (AA (CS (AA (AB ?_))))
 iterate 2 refine wq rfl ?_
 refine AA (Q8 ?_)
 iterate 2 refine dq rfl ?_
 obtain ⟨aB, j4, h⟩ := AQ h
 refine LM rfl (EW (cs := [.str aB]) j4 rfl rfl rfl) ?_
 iterate 3 refine dq rfl ?_
 obtain ⟨ZK, dB, h⟩ := AQ h
 refine LM rfl (EW (cs := [.str ZK]) dB rfl rfl rfl) ?_
 iterate 2 refine dq rfl ?_
 refine EN h rfl (fun c3 h => ?_) (fun c3 h => ?_)
 refine AA (AB ?_)
 refine wq rfl ?_
 obtain rfl := AP h
 exact F4 (st1 := ⟨AX [(4, .bool false)], AX []⟩) (cq rfl) ⟨rfl, rfl⟩
 refine BH (AB ?_)
 refine AY (p := j6 (CE (v13l14 + (1 : Int)))) rfl rfl ?_
 refine wq rfl ?_
 exact ⟨(CE (v13l14 + (1 : Int))), (cq rfl), h⟩
 cases AP h
 exact ED (st1 := ⟨AX [], AX []⟩) (cq rfl) ⟨rfl, rfl⟩
theorem OC (N : Nat) (a0 : List (List UInt8)) (a1 : List (List UInt8)) (r : Bool) (h : FN N a0 a1 = some r) : Sat Tryz.prog 37 AC [.sl 1 (List.map PV.str a0), .sl 1 (List.map PV.str a1)] (.bool r) AC := by
 refine EO mixed Tryz.func37 Jk (rs := [.bool r]) rfl rfl ?_
 refine AA (AB ?_)
 refine wq rfl ?_
 iterate 2 refine AA ?_
 refine AB ?_
 refine wq rfl ?_
 refine AY rfl (CR rfl) ?_
 refine wq rfl ?_
 refine AY rfl (CR rfl) ?_
 refine wq rfl ?_
 refine EN h rfl (fun c1 h => ?_) (fun c1 h => ?_)
 refine AA (AB ?_)
 refine wq rfl ?_
 obtain rfl := AP h
 refine BZ ?_
 exact ⟨nofun, rfl, rfl⟩
 refine BH ?_
 iterate 2 refine AA ?_
 refine AB ?_
 refine wq rfl ?_
 refine AY rfl (CR rfl) ?_
 refine wq rfl ?_
 refine CS ?_
 obtain ⟨y4, hy4, h⟩ := AQ h
 refine R5 (NI N a0 a1 N _ _ hy4) (cq rfl) ?_
 clear hy4
 rcases y4 with y4 | y4
 rintro e s ⟨rfl, rfl⟩
 refine AA (AB ?_)
 refine wq rfl ?_
 obtain rfl := AP h
 refine BZ ?_
 exact ⟨nofun, rfl, rfl⟩
 rintro e s ⟨rfl, rfl⟩
 obtain rfl := AP h
 exact ⟨nofun, rfl, rfl⟩
def k36 : IC := (.seq (.reg [jn 2 (.box 44 (.t 0)), jn 3 (.box 44 (.t 1)), jc 4 (.bool false)]) (.seq (.reg [ja 5 0 2, jl 6 1 5, ja 7 0 3, jl 8 1 7, jb .eql 9 6 8, jm 10 9, jt 10 11 (.fda 1 (.t 2)), jt 10 12 (.load 1 false (.t 11)), jt 10 13 (.fda 1 (.t 3)), jt 10 14 (.load 1 false (.t 13)), jt 10 15 (.bin .eql (.t 12) (.t 14)), jp 16 10 15, jm 17 16, jt 17 18 (.fda 2 (.t 2)), jt 17 19 (.load 1 false (.t 18)), jt 17 20 (.fda 2 (.t 3)), jt 17 21 (.load 1 false (.t 20)), jt 17 22 (.call 37 [(.t 19), (.t 21)]), jp 23 17 22, jm 4 23]) .ret))
theorem Jl : C9 Tryz.prog Tryz.f36 = some ⟨24, k36, [(.tmp 4)]⟩ := by kernel_rfl
theorem XY (N : Nat) (a0 : BA) (a1 : BA) (r : Bool) (h : OU N a0 a1 = some r) : Sat Tryz.prog 36 AC [AJ a0, AJ a1] (.bool r) AC := by
 refine EO mixed Tryz.func36 Jl (rs := [.bool r]) rfl rfl ?_
 refine AA (AB ?_)
 refine CX rfl (FE 57602 rfl rfl rfl rfl rfl) ?_
 refine CX rfl (FE 57603 rfl rfl rfl rfl rfl) ?_
 refine wq rfl ?_
 obtain ⟨g1, hg1, h⟩ := AQ h
 refine GV ⟨AX [(4, .bool g1)], AX []⟩ ?_ ?_
 have h := hg1
 refine AB ?_
 iterate 6 refine wq rfl ?_
 rcases D7 h with ⟨c2, h⟩ | ⟨c2, h⟩
 iterate 5 refine AY (gy rfl c2) rfl ?_
 refine AY rfl (BF c2 rfl rfl) ?_
 refine wq rfl ?_
 rcases D7 h with ⟨c3, h⟩ | ⟨c3, h⟩
 iterate 4 refine AY (gy rfl c3) rfl ?_
 obtain ⟨ZK, dB, h⟩ := AQ h
 refine CX (gy rfl c3) (CZ (OC N _ _ _ dB) rfl (.cons A8 (.cons A8 .nil)) rfl rfl rfl) ?_
 refine AY rfl (BF c3 rfl rfl) ?_
 refine wq rfl ?_
 obtain rfl := AP h
 exact cq rfl
 iterate 5 refine D8 (gn rfl c3) ?_
 refine AY rfl (BD c3 rfl rfl) ?_
 refine wq rfl ?_
 obtain rfl := AP h
 exact cq rfl
 iterate 5 refine D8 (gn rfl c2) ?_
 refine AY rfl (BD c2 rfl rfl) ?_
 refine wq rfl ?_
 iterate 5 refine D8 rfl ?_
 iterate 2 refine wq rfl ?_
 obtain rfl := AP h
 exact cq rfl
 clear hg1
 obtain rfl := AP h
 refine BZ ?_
 exact ⟨nofun, rfl, rfl⟩
def cK : IC := (.seq (.reg [jb .lss 18 17 16]) (.seq (.cond (.t 18) .skip (.exit 0)) (.seq (.block 1 (.seq (.reg [jm 19 17, jx 20 3 15 17, jg 21 3 20, jn 8 (.box 44 (.c (.agg [(j6 0), (.str []), .nl]))), jm 7 19, js 3 8 21]) (.seq (.reg [jm 22 1, jm 23 7, jx 24 3 22 23, jg 25 3 24, jn 9 (.box 44 (.c (.agg [(j6 0), (.str []), .nl]))), js 3 9 25]) (.seq (.reg [jm 26 2, jg 27 3 8, jg 28 3 9, jn 29 (.calv (.t 26) [(.t 27), (.t 28)]), jn 30 (.un .not (.t 29))]) (.cond (.t 30) (.seq (.reg [jc 6 (.bool false)]) .ret) .skip))))) (.reg [ju .add 31 17 1, jm 17 31]))))
def Jm : IC := (.seq (.reg [jc 6 (.bool false)]) (.seq (.seq (.reg [jm 10 0, jL 11 10, jm 12 1, jL 13 12, jb .neq 14 11 13]) (.cond (.t 14) (.seq (.reg [jc 6 (.bool false)]) .ret) .skip)) (.seq (.seq (.reg [jm 15 0, jL 16 15, jc 17 (j6 0)]) (.block 0 (.loop cK))) (.seq (.reg [jc 6 (.bool true)]) .ret))))
theorem sP : C9 Tryz.prog Tryz.f35 = some ⟨32, Jm, [(.tmp 6)]⟩ := by kernel_rfl
theorem F7 (N : Nat) (a0 : List BA) (a1 : List BA) : ∀ (n : Nat) (x : Int) (y : Unit ⊕ Bool), BB N a0 a1 n x = some y → WX Tryz.prog (fun _ => false) (.loop cK) ((fun (x : Int) => ⟨AX [(1, .sl 3 (List.map AJ a1)), (2, .clo 36 []), (15, .sl 3 (List.map AJ a0)), (16, j6 (a0.length : Int)), (17, j6 x)], AX []⟩) x) ((Sum.elim (fun y e s => e = .exit 0 ∧ s = ⟨AX [], AX []⟩) (fun y e s => e = .ret ∧ s = ⟨AX [(6, .bool y)], AX []⟩) : (Unit ⊕ Bool) → Xt → St → Prop) y) := by
 refine FB _ _ (BB N a0 a1) (BO N a0 a1) (fun _ => rfl) (fun _ _ => rfl) ?_
 rintro rec v17l14 y h
 refine AA (AB ?_)
 refine wq rfl ?_
 refine AA ?_
 refine EN h rfl (fun c2 h => ?_) (fun c2 h => ?_)
 refine BH (AA (CS (AA (AB ?_))))
 refine wq rfl ?_
 obtain ⟨x20, dD, h⟩ := AQ h
 refine AY rfl (EW (cs := [j6 x20.Kind, .str x20.Attr, .sl 1 (List.map PV.str x20.Values)]) dD rfl rfl rfl) ?_
 refine AY (p := AJ x20) rfl rfl ?_
 refine CX rfl (FE 56008 rfl rfl rfl rfl rfl) ?_
 refine wq rfl ?_
 refine EC (e' := AJ x20) rfl rfl rfl rfl rfl rfl rfl rfl nofun rfl ?_
 refine AA (AB ?_)
 iterate 2 refine wq rfl ?_
 obtain ⟨x24, hx24, h⟩ := AQ h
 refine AY rfl (EW (cs := [j6 x24.Kind, .str x24.Attr, .sl 1 (List.map PV.str x24.Values)]) hx24 rfl rfl rfl) ?_
 refine AY (p := AJ x24) rfl rfl ?_
 refine CX rfl (FE 56009 rfl rfl rfl rfl rfl) ?_
 refine EC (e' := AJ x24) rfl rfl rfl rfl rfl rfl rfl rfl nofun rfl ?_
 refine AA (AB ?_)
 refine wq rfl ?_
 refine AY (p := AJ x20) rfl rfl ?_
 refine AY (p := AJ x24) rfl rfl ?_
 obtain ⟨x29, hx29, h⟩ := AQ h
 refine CX rfl (WI (XY N _ _ _ hx29) rfl rfl rfl (.cons A8 (.cons A8 .nil)) rfl rfl rfl) ?_
 refine wq rfl ?_
 refine EN h rfl (fun c3 h => ?_) (fun c3 h => ?_)
 refine AA (AB ?_)
 refine wq rfl ?_
 obtain rfl := AP h
 exact F4 (st1 := ⟨AX [(6, .bool false)], AX []⟩) (cq rfl) ⟨rfl, rfl⟩
 refine BH (AB ?_)
 refine AY (p := j6 (CE (v17l14 + (1 : Int)))) rfl rfl ?_
 refine wq rfl ?_
 exact ⟨(CE (v17l14 + (1 : Int))), (cq rfl), h⟩
 cases AP h
 exact ED (st1 := ⟨AX [], AX []⟩) (cq rfl) ⟨rfl, rfl⟩
theorem FC (N : Nat) (a0 : List BA) (a1 : List BA) (r : Bool) (h : BR N a0 a1 = some r) : Sat Tryz.prog 35 AC [.sl 3 (List.map AJ a0), .sl 3 (List.map AJ a1), .clo 36 []] (.bool r) AC := by
 refine EO mixed Tryz.func35 sP (rs := [.bool r]) rfl rfl ?_
 refine AA (AB ?_)
 refine wq rfl ?_
 iterate 2 refine AA ?_
 refine AB ?_
 refine wq rfl ?_
 refine AY rfl (CR rfl) ?_
 refine wq rfl ?_
 refine AY rfl (CR rfl) ?_
 refine wq rfl ?_
 refine EN h rfl (fun c1 h => ?_) (fun c1 h => ?_)
 refine AA (AB ?_)
 refine wq rfl ?_
 obtain rfl := AP h
 refine BZ ?_
 exact ⟨nofun, rfl, rfl⟩
 refine BH ?_
 iterate 2 refine AA ?_
 refine AB ?_
 refine wq rfl ?_
 refine AY rfl (CR rfl) ?_
 refine wq rfl ?_
 refine CS ?_
 obtain ⟨y4, hy4, h⟩ := AQ h
 refine R5 (F7 N a0 a1 N _ _ hy4) (cq rfl) ?_
 clear hy4
 rcases y4 with y4 | y4
 rintro e s ⟨rfl, rfl⟩
 refine AA (AB ?_)
 refine wq rfl ?_
 obtain rfl := AP h
 refine BZ ?_
 exact ⟨nofun, rfl, rfl⟩
 rintro e s ⟨rfl, rfl⟩
 obtain rfl := AP h
 exact ⟨nofun, rfl, rfl⟩
def qK : IC := (.seq (.reg [jb .lss 14 13 12]) (.seq (.cond (.t 14) .skip (.exit 0)) (.seq (.block 1 (.seq (.reg [jm 15 13, jm 5 15]) (.seq (.regd 9 [jm 16 0, jm 17 5, jx 18 2 16 17, jg 19 2 18, jm 20 1, jm 21 5, jx 22 2 20 21, jg 23 2 22, jn 24 (.eqs true [.s, .s] (.t 19) (.t 23))]) (.cond (.t 24) (.seq (.reg [jc 4 (.bool false)]) .ret) .skip)))) (.reg [ju .add 25 13 1, jm 13 25]))))
def k38 : IC := (.seq (.reg [jc 4 (.bool false)]) (.seq (.seq (.reg [jm 6 0, jL 7 6, jm 8 1, jL 9 8, jb .neq 10 7 9]) (.cond (.t 10) (.seq (.reg [jc 4 (.bool false)]) .ret) .skip)) (.seq (.seq (.reg [jm 11 0, jL 12 11, jc 13 (j6 0)]) (.block 0 (.loop qK))) (.seq (.reg [jc 4 (.bool true)]) .ret))))
theorem Jj : C9 Tryz.prog Tryz.f38 = some ⟨26, k38, [(.tmp 4)]⟩ := by kernel_rfl
theorem M8 (N : Nat) (a0 : List AU) (a1 : List AU) : ∀ (n : Nat) (x : Int) (y : Unit ⊕ Bool), CP N a0 a1 n x = some y → WX Tryz.prog (fun _ => false) (.loop qK) ((fun (x : Int) => ⟨AX [(0, .sl 2 (List.map AV a0)), (1, .sl 2 (List.map AV a1)), (12, j6 (a0.length : Int)), (13, j6 x)], AX []⟩) x) ((Sum.elim (fun y e s => e = .exit 0 ∧ s = ⟨AX [], AX []⟩) (fun y e s => e = .ret ∧ s = ⟨AX [(4, .bool y)], AX []⟩) : (Unit ⊕ Bool) → Xt → St → Prop) y) := by
 refine FB _ _ (CP N a0 a1) (EQ N a0 a1) (fun _ => rfl) (fun _ _ => rfl) ?_
 rintro rec v13l14 y h
 refine AA (AB ?_)
 refine wq rfl ?_
 refine AA ?_
 refine EN h rfl (fun c2 h => ?_) (fun c2 h => ?_)
 refine BH (AA (CS (AA (AB ?_))))
 iterate 2 refine wq rfl ?_
 refine AA (Q8 ?_)
 iterate 2 refine dq rfl ?_
 obtain ⟨aB, j4, h⟩ := AQ h
 refine LM rfl (EW (cs := [.str aB.Attr, .str aB.Value]) j4 rfl rfl rfl) ?_
 refine LM (p := AV aB) rfl rfl ?_
 iterate 2 refine dq rfl ?_
 obtain ⟨ZK, dB, h⟩ := AQ h
 refine LM rfl (EW (cs := [.str ZK.Attr, .str ZK.Value]) dB rfl rfl rfl) ?_
 refine LM (p := AV ZK) rfl rfl ?_
 refine LM (p := .bool (!(aB.Attr == ZK.Attr && (aB.Value == ZK.Value && true)))) rfl rfl ?_
 refine EN h rfl (fun c3 h => ?_) (fun c3 h => ?_)
 refine AA (AB ?_)
 refine wq rfl ?_
 obtain rfl := AP h
 exact F4 (st1 := ⟨AX [(4, .bool false)], AX []⟩) (cq rfl) ⟨rfl, rfl⟩
 refine BH (AB ?_)
 refine AY (p := j6 (CE (v13l14 + (1 : Int)))) rfl rfl ?_
 refine wq rfl ?_
 exact ⟨(CE (v13l14 + (1 : Int))), (cq rfl), h⟩
 cases AP h
 exact ED (st1 := ⟨AX [], AX []⟩) (cq rfl) ⟨rfl, rfl⟩
theorem NR (N : Nat) (a0 : List AU) (a1 : List AU) (r : Bool) (h : FD N a0 a1 = some r) : Sat Tryz.prog 38 AC [.sl 2 (List.map AV a0), .sl 2 (List.map AV a1)] (.bool r) AC := by
 refine EO mixed Tryz.func38 Jj (rs := [.bool r]) rfl rfl ?_
 refine AA (AB ?_)
 refine wq rfl ?_
 iterate 2 refine AA ?_
 refine AB ?_
 refine wq rfl ?_
 refine AY rfl (CR rfl) ?_
 refine wq rfl ?_
 refine AY rfl (CR rfl) ?_
 refine wq rfl ?_
 refine EN h rfl (fun c1 h => ?_) (fun c1 h => ?_)
 refine AA (AB ?_)
 refine wq rfl ?_
 obtain rfl := AP h
 refine BZ ?_
 exact ⟨nofun, rfl, rfl⟩
 refine BH ?_
 iterate 2 refine AA ?_
 refine AB ?_
 refine wq rfl ?_
 refine AY rfl (CR rfl) ?_
 refine wq rfl ?_
 refine CS ?_
 obtain ⟨y4, hy4, h⟩ := AQ h
 refine R5 (M8 N a0 a1 N _ _ hy4) (cq rfl) ?_
 clear hy4
 rcases y4 with y4 | y4
 rintro e s ⟨rfl, rfl⟩
 refine AA (AB ?_)
 refine wq rfl ?_
 obtain rfl := AP h
 refine BZ ?_
 exact ⟨nofun, rfl, rfl⟩
 rintro e s ⟨rfl, rfl⟩
 obtain rfl := AP h
 exact ⟨nofun, rfl, rfl⟩
def k12 : IC := (.seq (.reg [jn 2 (.box 28 (.t 0)), jn 3 (.box 28 (.t 1)), jc 4 (.bool false)]) (.seq (.reg [ja 6 12 2, jl 7 1 6, ja 8 12 3, jl 9 1 8, jn 10 (.call 35 [(.t 7), (.t 9), (.c (.clo 36 []))]), jm 5 10]) (.seq (.reg [ja 11 0 2, jg 12 3 11, ja 13 0 3, jg 14 3 13, jn 15 (.eqs false [(.i .i64), (.i .i64), (.i .i64)] (.t 12) (.t 14)), jm 16 15, jt 16 17 (.fda 3 (.t 2)), jt 16 18 (.load 1 false (.t 17)), jt 16 19 (.fda 3 (.t 3)), jt 16 20 (.load 1 false (.t 19)), jt 16 21 (.bin .eql (.t 18) (.t 20)), jp 22 16 21, jm 23 22, jt 23 24 (.fda 4 (.t 2)), jt 23 25 (.load 3 true (.t 24)), jt 23 26 (.fda 4 (.t 3)), jt 23 27 (.load 3 true (.t 26)), jt 23 28 (.eqs false [(.i .i64), (.i .i64), (.i .i64)] (.t 25) (.t 27)), jp 29 23 28, jm 30 29, jt 30 31 (.fda 7 (.t 2)), jt 30 32 (.load 3 true (.t 31)), jt 30 33 (.fda 7 (.t 3)), jt 30 34 (.load 3 true (.t 33)), jt 30 35 (.eqs false [(.i .i64), (.i .i64), (.i .i64)] (.t 32) (.t 34)), jp 36 30 35, jm 37 36, jt 37 38 (.fda 10 (.t 2)), jt 37 39 (.load 1 false (.t 38)), jt 37 40 (.fda 10 (.t 3)), jt 37 41 (.load 1 false (.t 40)), jt 37 42 (.call 38 [(.t 39), (.t 41)]), jp 43 37 42, jm 44 43, jt 44 45 (.fda 11 (.t 2)), jt 44 46 (.load 1 false (.t 45)), jt 44 47 (.fda 11 (.t 3)), jt 44 48 (.load 1 false (.t 47)), jt 44 49 (.beq false (.t 46) (.t 48)), jp 50 44 49, jm 51 50, jt 51 52 (.mov (.t 5)), jp 53 51 52, jm 4 53]) .ret)))
theorem Ke : C9 Tryz.prog Tryz.f12 = some ⟨54, k12, [(.tmp 4)]⟩ := by kernel_rfl
theorem UE (N : Nat) (a0 : AR) (a1 : AR) (r : Bool) (h : P9 N a0 a1 = some r) : Sat Tryz.prog 12 AC [AL a0, AL a1] (.bool r) AC := by
 refine EO mixed Tryz.func12 Ke (rs := [.bool r]) rfl rfl ?_
 refine AA (AB ?_)
 refine CX rfl (FE 19202 rfl rfl rfl rfl rfl) ?_
 refine CX rfl (FE 19203 rfl rfl rfl rfl rfl) ?_
 refine wq rfl ?_
 refine AA (AB ?_)
 iterate 4 refine wq rfl ?_
 obtain ⟨PI, U4, h⟩ := AQ h
 refine CX rfl (CZ (FC N _ _ _ U4) rfl (.cons A8 (.cons A8 (.cons A8 .nil))) rfl rfl rfl) ?_
 refine wq rfl ?_
 obtain ⟨g1, hg1, h⟩ := AQ h
 refine GV ⟨AX [(4, .bool g1)], AX []⟩ ?_ ?_
 have h := hg1
 refine AB ?_
 refine wq rfl ?_
 refine AY (p := .agg [j6 a0.CSN.Time, j6 a0.CSN.Seq, j6 a0.CSN.Rep]) rfl rfl ?_
 refine wq rfl ?_
 refine AY (p := .agg [j6 a1.CSN.Time, j6 a1.CSN.Seq, j6 a1.CSN.Rep]) rfl rfl ?_
 refine AY (p := .bool (a0.CSN.Time == a1.CSN.Time && (a0.CSN.Seq == a1.CSN.Seq && (a0.CSN.Rep == a1.CSN.Rep && true)))) rfl rfl ?_
 refine wq rfl ?_
 rcases D7 h with ⟨c2, h⟩ | ⟨c2, h⟩
 iterate 5 refine AY (gy rfl c2) rfl ?_
 refine AY rfl (BF c2 rfl rfl) ?_
 refine wq rfl ?_
 rcases D7 h with ⟨c3, h⟩ | ⟨c3, h⟩
 refine AY (gy rfl c3) rfl ?_
 refine AY (p := .agg [j6 a0.ID.Time, j6 a0.ID.Seq, j6 a0.ID.Rep]) (gy rfl c3) rfl ?_
 refine AY (gy rfl c3) rfl ?_
 refine AY (p := .agg [j6 a1.ID.Time, j6 a1.ID.Seq, j6 a1.ID.Rep]) (gy rfl c3) rfl ?_
 refine AY (p := .bool (a0.ID.Time == a1.ID.Time && (a0.ID.Seq == a1.ID.Seq && (a0.ID.Rep == a1.ID.Rep && true)))) (gy rfl c3) rfl ?_
 refine AY rfl (BF c3 rfl rfl) ?_
 refine wq rfl ?_
 rcases D7 h with ⟨c4, h⟩ | ⟨c4, h⟩
 refine AY (gy rfl c4) rfl ?_
 refine AY (p := .agg [j6 a0.Parent.Time, j6 a0.Parent.Seq, j6 a0.Parent.Rep]) (gy rfl c4) rfl ?_
 refine AY (gy rfl c4) rfl ?_
 refine AY (p := .agg [j6 a1.Parent.Time, j6 a1.Parent.Seq, j6 a1.Parent.Rep]) (gy rfl c4) rfl ?_
 refine AY (p := .bool (a0.Parent.Time == a1.Parent.Time && (a0.Parent.Seq == a1.Parent.Seq && (a0.Parent.Rep == a1.Parent.Rep && true)))) (gy rfl c4) rfl ?_
 refine AY rfl (BF c4 rfl rfl) ?_
 refine wq rfl ?_
 rcases D7 h with ⟨c5, h⟩ | ⟨c5, h⟩
 iterate 4 refine AY (gy rfl c5) rfl ?_
 obtain ⟨uG, tC, h⟩ := AQ h
 refine CX (gy rfl c5) (CZ (NR N _ _ _ tC) rfl (.cons A8 (.cons A8 .nil)) rfl rfl rfl) ?_
 refine AY rfl (BF c5 rfl rfl) ?_
 refine wq rfl ?_
 rcases D7 h with ⟨c6, h⟩ | ⟨c6, h⟩
 iterate 5 refine AY (gy rfl c6) rfl ?_
 refine AY rfl (BF c6 rfl rfl) ?_
 refine wq rfl ?_
 rcases D7 h with ⟨c7, h⟩ | ⟨c7, h⟩
 refine AY (gy rfl c7) rfl ?_
 refine AY rfl (BF c7 rfl rfl) ?_
 refine wq rfl ?_
 obtain rfl := AP h
 exact cq rfl
 refine D8 (gn rfl c7) ?_
 refine AY rfl (BD c7 rfl rfl) ?_
 refine wq rfl ?_
 obtain rfl := AP h
 exact cq rfl
 iterate 5 refine D8 (gn rfl c6) ?_
 refine AY rfl (BD c6 rfl rfl) ?_
 refine wq rfl ?_
 refine D8 rfl ?_
 iterate 2 refine wq rfl ?_
 obtain rfl := AP h
 exact cq rfl
 iterate 5 refine D8 (gn rfl c5) ?_
 refine AY rfl (BD c5 rfl rfl) ?_
 refine wq rfl ?_
 iterate 5 refine D8 rfl ?_
 iterate 2 refine wq rfl ?_
 refine D8 rfl ?_
 iterate 2 refine wq rfl ?_
 obtain rfl := AP h
 exact cq rfl
 iterate 5 refine D8 (gn rfl c4) ?_
 refine AY rfl (BD c4 rfl rfl) ?_
 refine wq rfl ?_
 iterate 5 refine D8 rfl ?_
 iterate 2 refine wq rfl ?_
 iterate 5 refine D8 rfl ?_
 iterate 2 refine wq rfl ?_
 refine D8 rfl ?_
 iterate 2 refine wq rfl ?_
 obtain rfl := AP h
 exact cq rfl
 iterate 5 refine D8 (gn rfl c3) ?_
 refine AY rfl (BD c3 rfl rfl) ?_
 refine wq rfl ?_
 iterate 5 refine D8 rfl ?_
 iterate 2 refine wq rfl ?_
 iterate 5 refine D8 rfl ?_
 iterate 2 refine wq rfl ?_
 iterate 5 refine D8 rfl ?_
 iterate 2 refine wq rfl ?_
 refine D8 rfl ?_
 iterate 2 refine wq rfl ?_
 obtain rfl := AP h
 exact cq rfl
 iterate 5 refine D8 (gn rfl c2) ?_
 refine AY rfl (BD c2 rfl rfl) ?_
 refine wq rfl ?_
 iterate 5 refine D8 rfl ?_
 iterate 2 refine wq rfl ?_
 iterate 5 refine D8 rfl ?_
 iterate 2 refine wq rfl ?_
 iterate 5 refine D8 rfl ?_
 iterate 2 refine wq rfl ?_
 iterate 5 refine D8 rfl ?_
 iterate 2 refine wq rfl ?_
 refine D8 rfl ?_
 iterate 2 refine wq rfl ?_
 obtain rfl := AP h
 exact cq rfl
 clear hg1
 obtain rfl := AP h
 refine BZ ?_
 exact ⟨nofun, rfl, rfl⟩
def k7 : IC := (.seq (.reg [jc 0 (.bool false)]) (.seq (.reg [jn 10 (.build [(j6 0), (j6 0), (j6 0)] [(0, (1, (ji 2)))]), jn 11 (.build [(j6 0), (j6 0), (j6 0)] [(0, (1, (ji 1)))]), jn 12 (.build [(j6 0), (j6 0), (j6 0), (j6 0), (j6 0), (j6 0), (j6 0), (j6 0), (j6 0), (j6 0), .nl, (.bool false), .nl] [(0, (3, (.t 10))), (3, (1, (ji 2))), (4, (3, (.t 11)))]), jn 1 (.box 28 (.c (.agg [(j6 0), (j6 0), (j6 0), (j6 0), (j6 0), (j6 0), (j6 0), (j6 0), (j6 0), (j6 0), .nl, (.bool false), .nl]))), js 13 1 12]) (.seq (.reg [jg 14 13 1, jn 15 (.call 9 [(.t 14)]), jm 13 15, je 16 0 13, je 17 1 13, jm 2 16, jm 3 17]) (.seq (.reg [jm 19 2, jn 20 (.call 16 [(.t 19)]), jm 18 20, je 21 0 18, je 22 1 18, jn 4 (.box 28 (.c (.agg [(j6 0), (j6 0), (j6 0), (j6 0), (j6 0), (j6 0), (j6 0), (j6 0), (j6 0), (j6 0), .nl, (.bool false), .nl]))), js 13 4 21, jm 5 22]) (.seq (.reg [jn 24 (.build [(j6 0), (j6 0), (j6 0), (j6 0), (j6 0), (j6 0), (j6 0), (j6 0), (j6 0), (j6 0), .nl, (.bool false), .nl] []), jn 25 (.call 9 [(.t 24)]), jm 23 25, je 26 0 23, je 27 1 23, jm 6 26, jm 7 27]) (.seq (.reg [jn 29 (.call 16 [(.c (.str []))]), jm 28 29, je 30 0 28, je 31 1 28, jn 8 (.box 28 (.c (.agg [(j6 0), (j6 0), (j6 0), (j6 0), (j6 0), (j6 0), (j6 0), (j6 0), (j6 0), (j6 0), .nl, (.bool false), .nl]))), js 13 8 30, jm 9 31]) (.seq (.regd 35 [jm 32 3, ju .eql 33 32 0, jm 34 33, jt 34 35 (.mov (.t 5)), jt 34 36 (.bin .eql (.t 35) (ji 0)), jp 37 34 36, jm 38 37, jt 38 39 (.load 13 true (.t 1)), jt 38 40 (.load 13 true (.t 4)), jt 38 41 (.call 13 [(.t 39), (.t 40)]), jp 42 38 41, jm 43 42, jt 43 44 (.mov (.t 7)), jt 43 45 (.bin .eql (.t 44) (ji 14)), jp 46 43 45, jm 47 46, jt 47 48 (.mov (.t 9)), jt 47 49 (.bin .eql (.t 48) (ji 14)), jp 50 47 49, jm 51 50, jt 51 52 (.load 13 true (.t 1)), jt 51 53 (.call 10 [(.t 52)]), jp 54 51 53, jm 55 54, jt 55 56 (.build [(j6 0), (j6 0), (j6 0), (j6 0), (j6 0), (j6 0), (j6 0), (j6 0), (j6 0), (j6 0), .nl, (.bool false), .nl] []), jt 55 57 (.call 10 [(.t 56)]), jt 55 58 (.un .not (.t 57)), jp 59 55 58, jm 60 59, jt 60 61 (.load 13 true (.t 1)), jt 60 62 (.load 13 true (.t 1)), jt 60 63 (.call 15 [(.t 62)]), jt 60 64 (.call 12 [(.t 61), (.t 63)]), jp 65 60 64, jm 0 65]) .ret)))))))
theorem k7_cf : C9 Tryz.prog Tryz.f7 = some ⟨66, k7, [(.tmp 0)]⟩ := by kernel_rfl
theorem TT (N : Nat)  (r : Bool) (h : MM N  = some r) : Sat Tryz.prog 7 AC [] (.bool r) AC := by
 refine EO mixed Tryz.func7 k7_cf (rs := [.bool r]) rfl rfl ?_
 refine AA (AB ?_)
 refine wq rfl ?_
 refine AA (AB ?_)
 refine AY (p := .agg [j6 2, j6 0, j6 0]) rfl rfl ?_
 refine AY (p := .agg [j6 1, j6 0, j6 0]) rfl rfl ?_
 refine AY (p := .agg [j6 2, j6 0, j6 0, j6 2, j6 1, j6 0, j6 0, j6 0, j6 0, j6 0, .nl, .bool false, .nl]) rfl rfl ?_
 refine uH (KS 12 (I6 (.cons A8 (.cons A8 (.cons A8 (.cons A8 (.cons A8 (.cons A8 (.cons A8 (.cons A8 (.cons A8 (.cons A8 (.cons (FM 2) (.cons A8 (.cons (FM 3) .nil))))))))))))) rfl) rfl) ?_
 refine CX rfl (FE 11201 rfl rfl rfl rfl rfl) ?_
 refine EC (e' := .agg [j6 2, j6 0, j6 0, j6 2, j6 1, j6 0, j6 0, j6 0, j6 0, j6 0, .sl 2 (List.map AV []), .bool false, .sl 3 (List.map AJ [])]) rfl rfl rfl rfl rfl rfl rfl rfl nofun rfl ?_
 refine AA (AB ?_)
 refine AY (p := .agg [j6 2, j6 0, j6 0, j6 2, j6 1, j6 0, j6 0, j6 0, j6 0, j6 0, .sl 2 (List.map AV []), .bool false, .sl 3 (List.map AJ [])]) rfl rfl ?_
 obtain ⟨W9, WY, h⟩ := AQ h
 refine CX rfl (CZ (L9 N _ _ WY) rfl (.cons A8 .nil) rfl rfl rfl) ?_
 iterate 5 refine wq rfl ?_
 refine AA (AB ?_)
 refine wq rfl ?_
 obtain ⟨x20, dD, h⟩ := AQ h
 refine CX rfl (CZ (UF N _ _ dD) rfl (.cons A8 .nil) rfl rfl rfl) ?_
 iterate 3 refine wq rfl ?_
 refine CX rfl (FE 11204 rfl rfl rfl rfl rfl) ?_
 refine EC (e' := AL x20.1) rfl rfl rfl rfl rfl rfl rfl rfl nofun rfl ?_
 refine wq rfl ?_
 refine AA (AB ?_)
 refine AY (p := .agg [j6 0, j6 0, j6 0, j6 0, j6 0, j6 0, j6 0, j6 0, j6 0, j6 0, .nl, .bool false, .nl]) rfl rfl ?_
 refine uH (KS 24 (I6 (.cons A8 (.cons A8 (.cons A8 (.cons A8 (.cons A8 (.cons A8 (.cons A8 (.cons A8 (.cons A8 (.cons A8 (.cons (FM 2) (.cons A8 (.cons (FM 3) .nil))))))))))))) rfl) rfl) ?_
 obtain ⟨x25, hx25, h⟩ := AQ h
 refine CX rfl (CZ (L9 N _ _ hx25) rfl (.cons A8 .nil) rfl rfl rfl) ?_
 iterate 5 refine wq rfl ?_
 refine AA ?_
 refine SI (cn (st := _) (l := [(1, .ptr 11201 0 0), (3, j6 W9.2), (4, .ptr 11204 0 0), (5, j6 x20.2), (7, j6 x25.2)]) (m := [(11201, ⟨13, false, [.agg [j6 2, j6 0, j6 0, j6 2, j6 1, j6 0, j6 0, j6 0, j6 0, j6 0, .sl 2 (List.map AV []), .bool false, .sl 3 (List.map AJ [])]]⟩), (11204, ⟨13, false, [AL x20.1]⟩)]) rfl rfl rfl rfl) ?_
 refine AB ?_
 obtain ⟨x29, hx29, h⟩ := AQ h
 refine CX rfl (CZ (UF N _ _ hx29) rfl (.cons A8 .nil) rfl rfl rfl) ?_
 iterate 3 refine wq rfl ?_
 refine CX rfl (FE 11208 rfl rfl rfl rfl rfl) ?_
 refine EC (e' := AL x29.1) rfl rfl rfl rfl rfl rfl rfl rfl nofun rfl ?_
 refine wq rfl ?_
 obtain ⟨g1, hg1, h⟩ := AQ h
 refine GV ⟨AX [(0, .bool g1)], AX []⟩ ?_ ?_
 have h := hg1
 refine Q8 ?_
 iterate 3 refine dq rfl ?_
 rcases D7 h with ⟨c2, h⟩ | ⟨c2, h⟩
 iterate 2 refine LM (gy rfl c2) rfl ?_
 refine LM rfl (BF c2 rfl rfl) ?_
 refine dq rfl ?_
 rcases D7 h with ⟨c3, h⟩ | ⟨c3, h⟩
 refine LM (p := .agg [j6 2, j6 0, j6 0, j6 2, j6 1, j6 0, j6 0, j6 0, j6 0, j6 0, .sl 2 (List.map AV []), .bool false, .sl 3 (List.map AJ [])]) (gy rfl c3) rfl ?_
 refine LM (p := AL x20.1) (gy rfl c3) rfl ?_
 obtain ⟨x41, nW, h⟩ := AQ h
 refine UO (gy rfl c3) (OG (PX N _ _ _ nW) rfl (.cons A8 (.cons A8 .nil)) rfl rfl rfl) DD ?_
 refine LM rfl (BF c3 rfl rfl) ?_
 refine dq rfl ?_
 rcases D7 h with ⟨c4, h⟩ | ⟨c4, h⟩
 iterate 2 refine LM (gy rfl c4) rfl ?_
 refine LM rfl (BF c4 rfl rfl) ?_
 refine dq rfl ?_
 rcases D7 h with ⟨c5, h⟩ | ⟨c5, h⟩
 iterate 2 refine LM (gy rfl c5) rfl ?_
 refine LM rfl (BF c5 rfl rfl) ?_
 refine dq rfl ?_
 rcases D7 h with ⟨c6, h⟩ | ⟨c6, h⟩
 refine LM (p := .agg [j6 2, j6 0, j6 0, j6 2, j6 1, j6 0, j6 0, j6 0, j6 0, j6 0, .sl 2 (List.map AV []), .bool false, .sl 3 (List.map AJ [])]) (gy rfl c6) rfl ?_
 obtain ⟨x53, hx53, h⟩ := AQ h
 refine UO (gy rfl c6) (OG (LU N _ _ hx53) rfl (.cons A8 .nil) rfl rfl rfl) DD ?_
 refine LM rfl (BF c6 rfl rfl) ?_
 refine dq rfl ?_
 rcases D7 h with ⟨c7, h⟩ | ⟨c7, h⟩
 refine LM (p := .agg [j6 0, j6 0, j6 0, j6 0, j6 0, j6 0, j6 0, j6 0, j6 0, j6 0, .nl, .bool false, .nl]) (gy rfl c7) rfl ?_
 obtain ⟨x57, hx57, h⟩ := AQ h
 refine UO (gy rfl c7) (OG (LU N _ _ hx57) rfl (.cons (I6 (.cons A8 (.cons A8 (.cons A8 (.cons A8 (.cons A8 (.cons A8 (.cons A8 (.cons A8 (.cons A8 (.cons A8 (.cons (FM 2) (.cons A8 (.cons (FM 3) .nil))))))))))))) rfl) .nil) rfl rfl rfl) DD ?_
 refine LM (gy rfl c7) rfl ?_
 refine LM rfl (BF c7 rfl rfl) ?_
 refine dq rfl ?_
 rcases D7 h with ⟨c8, h⟩ | ⟨c8, h⟩
 iterate 2 refine LM (p := .agg [j6 2, j6 0, j6 0, j6 2, j6 1, j6 0, j6 0, j6 0, j6 0, j6 0, .sl 2 (List.map AV []), .bool false, .sl 3 (List.map AJ [])]) (gy rfl c8) rfl ?_
 obtain ⟨x63, Kq, h⟩ := AQ h
 refine UO (gy rfl c8) (OG (aK N _ _ Kq) rfl (.cons A8 .nil) rfl rfl rfl) DD ?_
 obtain ⟨x64, Ko, h⟩ := AQ h
 refine UO (gy rfl c8) (OG (UE N _ _ _ Ko) rfl (.cons A8 (.cons A8 .nil)) rfl rfl rfl) DD ?_
 refine LM rfl (BF c8 rfl rfl) ?_
 refine dq rfl ?_
 obtain rfl := AP h
 exact cq rfl
 iterate 4 refine YL (gn rfl c8) ?_
 refine LM rfl (BD c8 rfl rfl) ?_
 refine dq rfl ?_
 obtain rfl := AP h
 exact cq rfl
 iterate 3 refine YL (gn rfl c7) ?_
 refine LM rfl (BD c7 rfl rfl) ?_
 refine dq rfl ?_
 iterate 4 refine YL rfl ?_
 iterate 2 refine dq rfl ?_
 obtain rfl := AP h
 exact cq rfl
 iterate 2 refine YL (gn rfl c6) ?_
 refine LM rfl (BD c6 rfl rfl) ?_
 refine dq rfl ?_
 iterate 3 refine YL rfl ?_
 iterate 2 refine dq rfl ?_
 iterate 4 refine YL rfl ?_
 iterate 2 refine dq rfl ?_
 obtain rfl := AP h
 exact cq rfl
 iterate 2 refine YL (gn rfl c5) ?_
 refine LM rfl (BD c5 rfl rfl) ?_
 refine dq rfl ?_
 iterate 2 refine YL rfl ?_
 iterate 2 refine dq rfl ?_
 iterate 3 refine YL rfl ?_
 iterate 2 refine dq rfl ?_
 iterate 4 refine YL rfl ?_
 iterate 2 refine dq rfl ?_
 obtain rfl := AP h
 exact cq rfl
 iterate 2 refine YL (gn rfl c4) ?_
 refine LM rfl (BD c4 rfl rfl) ?_
 refine dq rfl ?_
 iterate 2 refine YL rfl ?_
 iterate 2 refine dq rfl ?_
 iterate 2 refine YL rfl ?_
 iterate 2 refine dq rfl ?_
 iterate 3 refine YL rfl ?_
 iterate 2 refine dq rfl ?_
 iterate 4 refine YL rfl ?_
 iterate 2 refine dq rfl ?_
 obtain rfl := AP h
 exact cq rfl
 iterate 3 refine YL (gn rfl c3) ?_
 refine LM rfl (BD c3 rfl rfl) ?_
 refine dq rfl ?_
 iterate 2 refine YL rfl ?_
 iterate 2 refine dq rfl ?_
 iterate 2 refine YL rfl ?_
 iterate 2 refine dq rfl ?_
 iterate 2 refine YL rfl ?_
 iterate 2 refine dq rfl ?_
 iterate 3 refine YL rfl ?_
 iterate 2 refine dq rfl ?_
 iterate 4 refine YL rfl ?_
 iterate 2 refine dq rfl ?_
 obtain rfl := AP h
 exact cq rfl
 iterate 2 refine YL (gn rfl c2) ?_
 refine LM rfl (BD c2 rfl rfl) ?_
 refine dq rfl ?_
 iterate 3 refine YL rfl ?_
 iterate 2 refine dq rfl ?_
 iterate 2 refine YL rfl ?_
 iterate 2 refine dq rfl ?_
 iterate 2 refine YL rfl ?_
 iterate 2 refine dq rfl ?_
 iterate 2 refine YL rfl ?_
 iterate 2 refine dq rfl ?_
 iterate 3 refine YL rfl ?_
 iterate 2 refine dq rfl ?_
 iterate 4 refine YL rfl ?_
 iterate 2 refine dq rfl ?_
 obtain rfl := AP h
 exact cq rfl
 clear hg1
 obtain rfl := AP h
 refine BZ ?_
 exact ⟨nofun, rfl, rfl⟩
def qM : IC := (.seq (.seq (.reg [jm 27 4, jm 28 0, jm 29 3, jx 30 3 28 29, ja 31 2 30, jl 32 1 31, jL 33 32, jb .lss 34 27 33]) (.cond (.t 34) .skip (.exit 2))) (.seq (.block 3 (.seq (.reg [jm 37 0, jm 38 3, jx 39 3 37 38, ja 40 2 39, jl 41 1 40, jm 42 4, jx 43 1 41 42, jl 44 1 43, jS 45 44, ju .gtr 46 45 80]) (.cond (.t 46) (.seq (.reg [jc 2 (.bool false)]) .ret) .skip))) (.reg [jm 35 4, ju .add 36 35 1, jm 4 36])))
def xA : IC := (.seq (.seq (.reg [jm 5 3, jm 6 0, jL 7 6, jb .lss 8 5 7]) (.cond (.t 8) .skip (.exit 0))) (.seq (.block 1 (.seq (.seq (.reg [jm 11 0, jm 12 3, jx 13 3 11 12, ja 14 1 13, jl 15 1 14, jS 16 15, ju .gtr 17 16 30, jm 18 17, jf 18 19 (.mov (.t 0)), jf 18 20 (.mov (.t 3)), jf 18 21 (.ixp 3 (.t 19) (.t 20)), jf 18 22 (.fda 2 (.t 21)), jf 18 23 (.load 1 false (.t 22)), jf 18 24 (.len false (.t 23)), jf 18 25 (.bin .gtr (.t 24) (ji 20)), jo 26 18 25]) (.cond (.t 26) (.seq (.reg [jc 2 (.bool false)]) .ret) .skip)) (.seq (.reg [jc 4 (j6 0)]) (.block 2 (.loop qM))))) (.reg [jm 9 3, ju .add 10 9 1, jm 3 10])))
def k17 : IC := (.seq (.reg [jc 2 (.bool false)]) (.seq (.seq (.reg [jc 3 (j6 0)]) (.block 0 (.loop xA))) (.seq (.reg [jm 47 0, jL 48 47, ju .leq 49 48 14, jm 2 49]) .ret)))
theorem Ka : C9 Tryz.prog Tryz.f17 = some ⟨50, k17, [(.tmp 2)]⟩ := by kernel_rfl
theorem QA (N : Nat) (a0 : List BA) (v3l6 : Int) : ∀ (n : Nat) (x : Int) (y : Unit ⊕ Bool), EE N a0 v3l6 n x = some y → WX Tryz.prog (fun _ => false) (.loop qM) ((fun (x : Int) => ⟨AX [(0, .sl 3 (List.map AJ a0)), (3, j6 v3l6), (4, j6 x)], AX []⟩) x) ((Sum.elim (fun y e s => e = .exit 2 ∧ s = ⟨AX [(0, .sl 3 (List.map AJ a0)), (3, j6 v3l6)], AX []⟩) (fun y e s => e = .ret ∧ s = ⟨AX [(2, .bool y)], AX []⟩) : (Unit ⊕ Bool) → Xt → St → Prop) y) := by
 refine FB _ _ (EE N a0 v3l6) (FP N a0 v3l6) (fun _ => rfl) (fun _ _ => rfl) ?_
 rintro rec v4l26 y h
 iterate 2 refine AA ?_
 refine AB ?_
 iterate 3 refine wq rfl ?_
 obtain ⟨x30, xS, h⟩ := AQ h
 refine AY rfl (EW (cs := [j6 x30.Kind, .str x30.Attr, .sl 1 (List.map PV.str x30.Values)]) xS rfl rfl rfl) ?_
 refine AY (p := .ep [.sl 1 (List.map PV.str x30.Values)]) rfl rfl ?_
 refine wq rfl ?_
 refine AY rfl (CR rfl) ?_
 refine wq rfl ?_
 refine EN h rfl (fun c5 h => ?_) (fun c5 h => ?_)
 refine BH (AA (CS (AA (AB ?_))))
 iterate 2 refine wq rfl ?_
 obtain ⟨x39, hx39, h⟩ := AQ h
 refine AY rfl (EW (cs := [j6 x39.Kind, .str x39.Attr, .sl 1 (List.map PV.str x39.Values)]) hx39 rfl rfl rfl) ?_
 refine AY (p := .ep [.sl 1 (List.map PV.str x39.Values)]) rfl rfl ?_
 iterate 2 refine wq rfl ?_
 obtain ⟨x43, Ky, h⟩ := AQ h
 refine AY rfl (EW (cs := [.str x43]) Ky rfl rfl rfl) ?_
 iterate 3 refine wq rfl ?_
 refine EN h rfl (fun c6 h => ?_) (fun c6 h => ?_)
 refine AA (AB ?_)
 refine wq rfl ?_
 obtain rfl := AP h
 exact F4 (st1 := ⟨AX [(2, .bool false)], AX []⟩) (cq rfl) ⟨rfl, rfl⟩
 refine BH (AB ?_)
 refine wq rfl ?_
 refine AY (p := j6 (CE (v4l26 + (1 : Int)))) rfl rfl ?_
 refine wq rfl ?_
 exact ⟨(CE (v4l26 + (1 : Int))), (cq rfl), h⟩
 cases AP h
 exact ED (st1 := ⟨AX [(0, .sl 3 (List.map AJ a0)), (3, j6 v3l6)], AX []⟩) (cq rfl) ⟨rfl, rfl⟩
theorem R3 (N : Nat) (a0 : List BA) : ∀ (n : Nat) (x : Int) (y : Unit ⊕ Bool), EK N a0 n x = some y → WX Tryz.prog (fun _ => false) (.loop xA) ((fun (x : Int) => ⟨AX [(0, .sl 3 (List.map AJ a0)), (3, j6 x)], AX []⟩) x) ((Sum.elim (fun y e s => e = .exit 0 ∧ s = ⟨AX [(0, .sl 3 (List.map AJ a0))], AX []⟩) (fun y e s => e = .ret ∧ s = ⟨AX [(2, .bool y)], AX []⟩) : (Unit ⊕ Bool) → Xt → St → Prop) y) := by
 refine FB _ _ (EK N a0) (FY N a0) (fun _ => rfl) (fun _ _ => rfl) ?_
 rintro rec v3l6 y h
 iterate 2 refine AA ?_
 refine AB ?_
 iterate 2 refine wq rfl ?_
 refine AY rfl (CR rfl) ?_
 refine wq rfl ?_
 refine EN h rfl (fun c1 h => ?_) (fun c1 h => ?_)
 refine BH (AA (CS (AA ?_)))
 obtain ⟨g2, hg2, h⟩ := AQ h
 refine GV ⟨AX [(0, .sl 3 (List.map AJ a0)), (3, j6 v3l6), (26, .bool g2)], AX []⟩ ?_ ?_
 have h := hg2
 refine AB ?_
 iterate 2 refine wq rfl ?_
 obtain ⟨K5, Z9, h⟩ := AQ h
 refine AY rfl (EW (cs := [j6 K5.Kind, .str K5.Attr, .sl 1 (List.map PV.str K5.Values)]) Z9 rfl rfl rfl) ?_
 refine AY (p := .ep [.str K5.Attr, .sl 1 (List.map PV.str K5.Values)]) rfl rfl ?_
 iterate 4 refine wq rfl ?_
 rcases D7 h with ⟨c3, h⟩ | ⟨c3, h⟩
 iterate 7 refine D8 (gn rfl c3) ?_
 refine AY rfl (BF c3 rfl rfl) ?_
 obtain rfl := AP h
 exact cq rfl
 iterate 2 refine AY (gy rfl c3) rfl ?_
 obtain ⟨XF, dC, h⟩ := AQ h
 refine AY (gy rfl c3) (EW (cs := [j6 XF.Kind, .str XF.Attr, .sl 1 (List.map PV.str XF.Values)]) dC rfl rfl rfl) ?_
 refine AY (p := .ep [.sl 1 (List.map PV.str XF.Values)]) (gy rfl c3) rfl ?_
 refine AY (gy rfl c3) rfl ?_
 refine AY (gy rfl c3) (CR rfl) ?_
 refine AY (gy rfl c3) rfl ?_
 refine AY rfl (BD c3 rfl rfl) ?_
 cases AP h
 exact cq rfl
 clear hg2
 refine EN h rfl (fun c4 h => ?_) (fun c4 h => ?_)
 refine AA (AB ?_)
 refine wq rfl ?_
 obtain rfl := AP h
 exact F4 (st1 := ⟨AX [(2, .bool false)], AX []⟩) (cq rfl) ⟨rfl, rfl⟩
 refine BH (AA (AB ?_))
 refine wq rfl ?_
 refine CS ?_
 obtain ⟨y7, hy7, h⟩ := AQ h
 refine R5 (QA N a0 v3l6 N _ _ hy7) (cq rfl) ?_
 clear hy7
 rcases y7 with y7 | y7
 rintro e s ⟨rfl, rfl⟩
 refine AB ?_
 refine wq rfl ?_
 refine AY (p := j6 (CE (v3l6 + (1 : Int)))) rfl rfl ?_
 refine wq rfl ?_
 exact ⟨(CE (v3l6 + (1 : Int))), (cq rfl), h⟩
 rintro e s ⟨rfl, rfl⟩
 obtain rfl := AP h
 exact ⟨rfl, rfl⟩
 cases AP h
 exact ED (st1 := ⟨AX [(0, .sl 3 (List.map AJ a0))], AX []⟩) (cq rfl) ⟨rfl, rfl⟩
theorem RZ (N : Nat) (a0 : List BA) (r : Bool) (h : KR N a0 = some r) : Sat Tryz.prog 17 AC [.sl 3 (List.map AJ a0)] (.bool r) AC := by
 refine EO mixed Tryz.func17 Ka (rs := [.bool r]) rfl rfl ?_
 refine AA (AB ?_)
 refine wq rfl ?_
 iterate 2 refine AA ?_
 refine AB ?_
 refine wq rfl ?_
 refine CS ?_
 obtain ⟨y8, Al, h⟩ := AQ h
 refine R5 (R3 N a0 N _ _ Al) (cq rfl) ?_
 clear Al
 rcases y8 with y8 | y8
 rintro e s ⟨rfl, rfl⟩
 refine AA (AB ?_)
 refine wq rfl ?_
 refine AY rfl (CR rfl) ?_
 iterate 2 refine wq rfl ?_
 cases AP h
 refine BZ ?_
 exact ⟨nofun, rfl, rfl⟩
 rintro e s ⟨rfl, rfl⟩
 obtain rfl := AP h
 exact ⟨nofun, rfl, rfl⟩
def wZ : IC := (.seq (.seq (.reg [jm 4 3, jm 5 0, jL 6 5, jb .lss 7 4 6]) (.cond (.t 7) .skip (.exit 0))) (.seq (.block 1 (.seq (.reg [jm 10 0, jm 11 3, jx 12 2 10 11, ja 13 0 12, jl 14 1 13, jS 15 14, ju .gtr 16 15 30, jm 17 16, jf 17 18 (.mov (.t 0)), jf 17 19 (.mov (.t 3)), jf 17 20 (.ixp 2 (.t 18) (.t 19)), jf 17 21 (.fda 1 (.t 20)), jf 17 22 (.load 1 false (.t 21)), jf 17 23 (.len true (.t 22)), jf 17 24 (.bin .gtr (.t 23) (ji 80)), jo 25 17 24]) (.cond (.t 25) (.seq (.reg [jc 2 (.bool false)]) .ret) .skip))) (.reg [jm 8 3, ju .add 9 8 1, jm 3 9])))
def k18 : IC := (.seq (.reg [jc 2 (.bool false)]) (.seq (.seq (.reg [jc 3 (j6 0)]) (.block 0 (.loop wZ))) (.seq (.reg [jm 26 0, jL 27 26, ju .leq 28 27 6, jm 2 28]) .ret)))
theorem Jz : C9 Tryz.prog Tryz.f18 = some ⟨29, k18, [(.tmp 2)]⟩ := by kernel_rfl
theorem RQ (N : Nat) (a0 : List AU) : ∀ (n : Nat) (x : Int) (y : Unit ⊕ Bool), ER N a0 n x = some y → WX Tryz.prog (fun _ => false) (.loop wZ) ((fun (x : Int) => ⟨AX [(0, .sl 2 (List.map AV a0)), (3, j6 x)], AX []⟩) x) ((Sum.elim (fun y e s => e = .exit 0 ∧ s = ⟨AX [(0, .sl 2 (List.map AV a0))], AX []⟩) (fun y e s => e = .ret ∧ s = ⟨AX [(2, .bool y)], AX []⟩) : (Unit ⊕ Bool) → Xt → St → Prop) y) := by
 refine FB _ _ (ER N a0) (GD N a0) (fun _ => rfl) (fun _ _ => rfl) ?_
 rintro rec v3l6 y h
 iterate 2 refine AA ?_
 refine AB ?_
 iterate 2 refine wq rfl ?_
 refine AY rfl (CR rfl) ?_
 refine wq rfl ?_
 refine EN h rfl (fun c1 h => ?_) (fun c1 h => ?_)
 refine BH (AA (CS ?_))
 obtain ⟨g2, hg2, h⟩ := AQ h
 refine GV ⟨AX [(0, .sl 2 (List.map AV a0)), (3, j6 v3l6), (25, .bool g2)], AX []⟩ ?_ ?_
 have h := hg2
 refine AB ?_
 iterate 2 refine wq rfl ?_
 obtain ⟨LF, ZA, h⟩ := AQ h
 refine AY rfl (EW (cs := [.str LF.Attr, .str LF.Value]) ZA rfl rfl rfl) ?_
 refine AY (p := .ep [.str LF.Attr, .str LF.Value]) rfl rfl ?_
 iterate 4 refine wq rfl ?_
 rcases D7 h with ⟨c3, h⟩ | ⟨c3, h⟩
 iterate 7 refine D8 (gn rfl c3) ?_
 refine AY rfl (BF c3 rfl rfl) ?_
 obtain rfl := AP h
 exact cq rfl
 iterate 2 refine AY (gy rfl c3) rfl ?_
 obtain ⟨x20, dD, h⟩ := AQ h
 refine AY (gy rfl c3) (EW (cs := [.str x20.Attr, .str x20.Value]) dD rfl rfl rfl) ?_
 refine AY (p := .ep [.str x20.Value]) (gy rfl c3) rfl ?_
 iterate 3 refine AY (gy rfl c3) rfl ?_
 refine AY rfl (BD c3 rfl rfl) ?_
 cases AP h
 exact cq rfl
 clear hg2
 refine EN h rfl (fun c4 h => ?_) (fun c4 h => ?_)
 refine AA (AB ?_)
 refine wq rfl ?_
 obtain rfl := AP h
 exact F4 (st1 := ⟨AX [(2, .bool false)], AX []⟩) (cq rfl) ⟨rfl, rfl⟩
 refine BH (AB ?_)
 refine wq rfl ?_
 refine AY (p := j6 (CE (v3l6 + (1 : Int)))) rfl rfl ?_
 refine wq rfl ?_
 exact ⟨(CE (v3l6 + (1 : Int))), (cq rfl), h⟩
 cases AP h
 exact ED (st1 := ⟨AX [(0, .sl 2 (List.map AV a0))], AX []⟩) (cq rfl) ⟨rfl, rfl⟩
theorem T9 (N : Nat) (a0 : List AU) (r : Bool) (h : LK N a0 = some r) : Sat Tryz.prog 18 AC [.sl 2 (List.map AV a0)] (.bool r) AC := by
 refine EO mixed Tryz.func18 Jz (rs := [.bool r]) rfl rfl ?_
 refine AA (AB ?_)
 refine wq rfl ?_
 iterate 2 refine AA ?_
 refine AB ?_
 refine wq rfl ?_
 refine CS ?_
 obtain ⟨y5, Eo, h⟩ := AQ h
 refine R5 (RQ N a0 N _ _ Eo) (cq rfl) ?_
 clear Eo
 rcases y5 with y5 | y5
 rintro e s ⟨rfl, rfl⟩
 refine AA (AB ?_)
 refine wq rfl ?_
 refine AY rfl (CR rfl) ?_
 iterate 2 refine wq rfl ?_
 cases AP h
 refine BZ ?_
 exact ⟨nofun, rfl, rfl⟩
 rintro e s ⟨rfl, rfl⟩
 obtain rfl := AP h
 exact ⟨nofun, rfl, rfl⟩
def k8 : IC := (.seq (.reg [jn 1 (.box 28 (.t 0)), jc 2 (.bool false)]) (.seq (.reg [ja 3 12 1, jl 4 1 3, jn 5 (.call 17 [(.t 4)]), jm 6 5, jt 6 7 (.fda 10 (.t 1)), jt 6 8 (.load 1 false (.t 7)), jt 6 9 (.call 18 [(.t 8)]), jp 10 6 9, jm 2 10]) .ret))
theorem k8_cf : C9 Tryz.prog Tryz.f8 = some ⟨11, k8, [(.tmp 2)]⟩ := by kernel_rfl
theorem UZ (N : Nat) (a0 : AR) (r : Bool) (h : J4 N a0 = some r) : Sat Tryz.prog 8 AC [AL a0] (.bool r) AC := by
 refine EO mixed Tryz.func8 k8_cf (rs := [.bool r]) rfl rfl ?_
 refine AA (AB ?_)
 refine CX rfl (FE 12801 rfl rfl rfl rfl rfl) ?_
 refine wq rfl ?_
 obtain ⟨g1, hg1, h⟩ := AQ h
 refine GV ⟨AX [(2, .bool g1)], AX []⟩ ?_ ?_
 have h := hg1
 refine AB ?_
 iterate 2 refine wq rfl ?_
 obtain ⟨x5, hx5, h⟩ := AQ h
 refine CX rfl (CZ (RZ N _ _ hx5) rfl (.cons A8 .nil) rfl rfl rfl) ?_
 refine wq rfl ?_
 rcases D7 h with ⟨c2, h⟩ | ⟨c2, h⟩
 iterate 2 refine AY (gy rfl c2) rfl ?_
 obtain ⟨x9, Dc, h⟩ := AQ h
 refine CX (gy rfl c2) (CZ (T9 N _ _ Dc) rfl (.cons A8 .nil) rfl rfl rfl) ?_
 refine AY rfl (BF c2 rfl rfl) ?_
 refine wq rfl ?_
 obtain rfl := AP h
 exact cq rfl
 iterate 3 refine D8 (gn rfl c2) ?_
 refine AY rfl (BD c2 rfl rfl) ?_
 refine wq rfl ?_
 obtain rfl := AP h
 exact cq rfl
 clear hg1
 obtain rfl := AP h
 refine BZ ?_
 exact ⟨nofun, rfl, rfl⟩
abbrev chR (r : AR) : PV := .agg [.int .i64 r.CSN.Time, .int .i64 r.CSN.Seq, .int .i64 r.CSN.Rep, .int .i64 r.Kind, .int .i64 r.ID.Time, .int .i64 r.ID.Seq, .int .i64 r.ID.Rep, .int .i64 r.Parent.Time, .int .i64 r.Parent.Seq, .int .i64 r.Parent.Rep, .slr 24007 0 r.RDN.length, .bool r.DelOld, .slr 24011 0 r.Mods.length]
theorem YZ (N : Nat) (a0 : AR) (r : AR) (h : NG N a0 = some r) : Sat Tryz.prog 15 AC [AL a0] (chR r) (AX [(24007, ⟨2, true, List.map AV r.RDN⟩), (24011, ⟨3, true, List.map AJ r.Mods⟩)]) := by
 refine xsatR (m := [(24007, ⟨2, true, List.map AV r.RDN⟩), (24011, ⟨3, true, List.map AJ r.Mods⟩)]) mixed Tryz.func15 xB (rs := [chR r]) rfl rfl ?_
 refine AA (AB ?_)
 refine CX rfl (FE 24001 rfl rfl rfl rfl rfl) ?_
 refine CX rfl (FE 24002 rfl rfl rfl rfl rfl) ?_
 refine AA (AB ?_)
 iterate 2 refine AY rfl rfl ?_
 obtain ⟨x7, hx7, h⟩ := AQ h
 refine CX rfl (kN [(24007, ⟨2, true, List.map AV x7⟩)] (ZR AV 24007 rfl hx7) rfl (.cons A8 .nil) rfl rfl rfl rfl rfl) ?_
 refine AY rfl rfl ?_
 refine EC (e' := .agg [.int .i64 a0.CSN.Time, .int .i64 a0.CSN.Seq, .int .i64 a0.CSN.Rep, .int .i64 a0.Kind, .int .i64 a0.ID.Time, .int .i64 a0.ID.Seq, .int .i64 a0.ID.Rep, .int .i64 a0.Parent.Time, .int .i64 a0.Parent.Seq, .int .i64 a0.Parent.Rep, .slr 24007 0 x7.length, .bool a0.DelOld, .sl 3 (List.map AJ a0.Mods)]) rfl rfl rfl rfl rfl rfl rfl rfl nofun rfl ?_
 refine AA (AB ?_)
 iterate 2 refine AY rfl rfl ?_
 obtain ⟨PG, WZ, h⟩ := AQ h
 refine CX rfl (kN [(24011, ⟨3, true, List.map AJ PG⟩)] (ZQ AJ 24011 rfl WZ) rfl (.cons A8 .nil) rfl rfl rfl rfl rfl) ?_
 refine AY rfl rfl ?_
 refine EC (e' := .agg [.int .i64 a0.CSN.Time, .int .i64 a0.CSN.Seq, .int .i64 a0.CSN.Rep, .int .i64 a0.Kind, .int .i64 a0.ID.Time, .int .i64 a0.ID.Seq, .int .i64 a0.ID.Rep, .int .i64 a0.Parent.Time, .int .i64 a0.Parent.Seq, .int .i64 a0.Parent.Rep, .slr 24007 0 x7.length, .bool a0.DelOld, .slr 24011 0 PG.length]) rfl rfl rfl rfl rfl rfl rfl rfl nofun rfl ?_
 iterate 2 refine AA ?_
 refine AB ?_
 iterate 4 refine AY rfl rfl ?_
 refine CS ?_
 obtain ⟨y3, hy3, h⟩ := AQ h
 refine R5 (R7 N PG N _ _ hy3) (cn rfl rfl rfl rfl) ?_
 rintro e s ⟨rfl, rfl⟩
 refine AA (AB ?_)
 refine AY (p := .agg [.int .i64 y3.1, .int .i64 y3.2.1, .int .i64 y3.2.2.1, .int .i64 y3.2.2.2.1, .int .i64 y3.2.2.2.2.1, .int .i64 y3.2.2.2.2.2.1, .int .i64 y3.2.2.2.2.2.2.1, .int .i64 y3.2.2.2.2.2.2.2.1, .int .i64 y3.2.2.2.2.2.2.2.2.1, .int .i64 y3.2.2.2.2.2.2.2.2.2.1, .slr 24007 0 y3.2.2.2.2.2.2.2.2.2.2.2.1.length, .bool y3.2.2.2.2.2.2.2.2.2.2.1, .slr 24011 0 y3.2.2.2.2.2.2.2.2.2.2.2.2.length]) rfl rfl ?_
 refine EC (e' := .agg [.int .i64 y3.1, .int .i64 y3.2.1, .int .i64 y3.2.2.1, .int .i64 y3.2.2.2.1, .int .i64 y3.2.2.2.2.1, .int .i64 y3.2.2.2.2.2.1, .int .i64 y3.2.2.2.2.2.2.1, .int .i64 y3.2.2.2.2.2.2.2.1, .int .i64 y3.2.2.2.2.2.2.2.2.1, .int .i64 y3.2.2.2.2.2.2.2.2.2.1, .slr 24007 0 y3.2.2.2.2.2.2.2.2.2.2.2.1.length, .bool y3.2.2.2.2.2.2.2.2.2.2.1, .slr 24011 0 y3.2.2.2.2.2.2.2.2.2.2.2.2.length]) rfl rfl rfl rfl rfl rfl rfl rfl nofun rfl ?_
 cases AP h
 refine BZ ?_
 exact ⟨nofun, rfl, rfl, ⟨rfl, rfl, trivial⟩, rfl⟩
def k6 : IC := (.seq (.reg [jn 2 (.box 28 (.t 0)), jc 4 (.bool false)]) (.seq (.seq (.reg [jn 8 (.call 7 []), jn 9 (.un .not (.t 8))]) (.cond (.t 9) (.seq (.reg [jc 4 (.bool false)]) .ret) .skip)) (.seq (.seq (.reg [jg 10 13 2, jn 11 (.call 8 [(.t 10)]), jn 12 (.un .not (.t 11)), jm 13 12, jf 13 14 (.load 13 true (.t 2)), jf 13 15 (.call 10 [(.t 14)]), jf 13 16 (.un .not (.t 15)), jo 17 13 16]) (.cond (.t 17) (.seq (.reg [jc 4 (.bool true)]) .ret) .skip)) (.seq (.reg [jg 18 13 2, jn 19 (.call 15 [(.t 18)]), jn 5 (.box 28 (.c (.agg [(j6 0), (j6 0), (j6 0), (j6 0), (j6 0), (j6 0), (j6 0), (j6 0), (j6 0), (j6 0), .nl, (.bool false), .nl]))), js 13 5 19]) (.seq (.seq (.reg [jm 20 1, jn 21 (.bin .rem (.t 20) (.c (.int .u8 7)))]) (.block 0 (.seq (.reg [jn 25 (.bin .eql (.t 21) (.c (.int .u8 0))), jm 24 25]) (.cond (.t 24) (.reg [ja 26 3 5, ⟨none, (.store 1 (.t 26) (.c (.int .i64 0))), none⟩]) (.seq (.reg [jn 28 (.bin .eql (.t 21) (.c (.int .u8 1))), jm 27 28]) (.cond (.t 27) (.reg [ja 29 0 5, ja 30 2 29, ⟨none, (.store 1 (.t 30) (.c (.int .i64 6))), none⟩]) (.seq (.reg [jn 32 (.bin .eql (.t 21) (.c (.int .u8 2))), jm 31 32]) (.cond (.t 31) (.reg [ja 33 0 5, ja 34 0 33, ⟨none, (.store 1 (.t 34) (.c (.int .i64 (-1)))), none⟩]) (.seq (.reg [jn 36 (.bin .eql (.t 21) (.c (.int .u8 3))), jm 35 36]) (.cond (.t 35) (.reg [ja 37 12 5, jl 38 1 37, jn 39 (.bsl 1 [(.c (.str [120]))]), jn 40 (.build [(j6 0), (.str []), .nl] [(0, (1, (ji 1))), (1, (1, (.c (.str [110, 111, 115, 117, 99, 104])))), (2, (1, (.t 39)))]), jn 41 (.bsl 3 [(.t 40)]), jn 42 (.app 44 3 48 (.t 38) (.t 41)), ja 43 12 5, js 1 43 42]) (.seq (.reg [jn 45 (.bin .eql (.t 21) (.c (.int .u8 4))), jm 44 45]) (.cond (.t 44) (.reg [ja 46 12 5, jl 47 1 46, jn 48 (.bsl 1 [(.c (.str [120]))]), jn 49 (.build [(j6 0), (.str []), .nl] [(0, (1, (ji 1))), (1, (1, (.c (.str [101, 110, 116, 114, 121, 105, 100])))), (2, (1, (.t 48)))]), jn 50 (.bsl 3 [(.t 49)]), jn 51 (.app 44 3 48 (.t 47) (.t 50)), ja 52 12 5, js 1 52 51]) (.seq (.reg [jn 54 (.bin .eql (.t 21) (.c (.int .u8 5))), jm 53 54]) (.cond (.t 53) (.reg [ja 55 10 5, jl 56 1 55, jn 57 (.build [(.str []), (.str [])] [(0, (1, (.c (.str [101, 110, 116, 114, 121, 105, 100])))), (1, (1, (.c (.str [120]))))]), jn 58 (.bsl 2 [(.t 57)]), jn 59 (.app 41 2 32 (.t 56) (.t 58)), ja 60 10 5, js 1 60 59]) (.reg [ja 22 7 5, ja 23 1 22, ⟨none, (.store 1 (.t 23) (.c (.int .i64 (-1)))), none⟩]))))))))))))))) (.seq (.reg [jg 62 13 5, jn 63 (.call 9 [(.t 62)]), jm 61 63, je 64 0 61, je 65 1 61, jm 6 64, jm 7 65]) (.seq (.reg [jg 66 13 5, jn 67 (.call 10 [(.t 66)]), jn 68 (.un .not (.t 67)), jm 69 68, jt 69 70 (.mov (.t 7)), jt 69 71 (.bin .eql (.t 70) (ji 14)), jp 72 69 71, jm 73 72, jt 73 74 (.load 13 true (.t 2)), jt 73 75 (.load 13 true (.t 5)), jt 73 76 (.call 12 [(.t 74), (.t 75)]), jt 73 77 (.un .not (.t 76)), jp 78 73 77, jm 4 78]) .ret)))))))
theorem k6_cf : C9 Tryz.prog Tryz.f6 = some ⟨79, k6, [(.tmp 4)]⟩ := by kernel_rfl
theorem P5 (N : Nat) (a0 : AR) (a1 : UInt8) (r : Bool) (h : IG N a0 a1 = some r) : Sat Tryz.prog 6 AC [AL a0, eb a1] (.bool r) AC := by
 refine EO mixed Tryz.func6 k6_cf (rs := [.bool r]) rfl rfl ?_
 refine AA (AB ?_)
 refine CX rfl (FE 9602 rfl rfl rfl rfl rfl) ?_
 refine wq rfl ?_
 iterate 2 refine AA ?_
 refine AB ?_
 obtain ⟨x8, De, h⟩ := AQ h
 refine CX rfl (CZ (TT N _ De) rfl .nil rfl rfl rfl) ?_
 refine wq rfl ?_
 refine EN h rfl (fun c1 h => ?_) (fun c1 h => ?_)
 refine AA (AB ?_)
 refine wq rfl ?_
 obtain rfl := AP h
 refine BZ ?_
 exact ⟨nofun, rfl, rfl⟩
 refine BH (AA ?_)
 obtain ⟨g2, hg2, h⟩ := AQ h
 refine GV ⟨AX [(1, eb a1), (2, .ptr 9602 0 0), (17, .bool g2)], AX [(9602, ⟨13, false, [AL a0]⟩)]⟩ ?_ ?_
 have h := hg2
 refine AB ?_
 refine AY (p := AL a0) rfl rfl ?_
 obtain ⟨PG, WZ, h⟩ := AQ h
 refine CX rfl (CZ (UZ N _ _ WZ) rfl (.cons A8 .nil) rfl rfl rfl) ?_
 iterate 2 refine wq rfl ?_
 rcases D7 h with ⟨c3, h⟩ | ⟨c3, h⟩
 iterate 3 refine D8 (gn rfl c3) ?_
 refine AY rfl (BF c3 rfl rfl) ?_
 obtain rfl := AP h
 exact cq rfl
 refine AY (p := AL a0) (gy rfl c3) rfl ?_
 obtain ⟨W9, WY, h⟩ := AQ h
 refine CX (gy rfl c3) (CZ (LU N _ _ WY) rfl (.cons A8 .nil) rfl rfl rfl) ?_
 refine AY (gy rfl c3) rfl ?_
 refine AY rfl (BD c3 rfl rfl) ?_
 cases AP h
 exact cq rfl
 clear hg2
 refine EN h rfl (fun c4 h => ?_) (fun c4 h => ?_)
 refine AA (AB ?_)
 refine wq rfl ?_
 obtain rfl := AP h
 refine BZ ?_
 exact ⟨nofun, rfl, rfl⟩
 refine BH (AA (AB ?_))
 refine AY (p := AL a0) rfl rfl ?_
 obtain ⟨BQ, Z8, h⟩ := AQ h
 refine CX rfl (kN [(24007, ⟨2, true, List.map AV BQ.RDN⟩), (24011, ⟨3, true, List.map AJ BQ.Mods⟩)] (YZ N _ _ Z8) rfl (.cons A8 .nil) rfl rfl rfl rfl rfl) ?_
 refine CX rfl (FE 9605 rfl rfl rfl rfl rfl) ?_
 refine EC (e' := .agg [j6 BQ.CSN.Time, j6 BQ.CSN.Seq, j6 BQ.CSN.Rep, j6 BQ.Kind, j6 BQ.ID.Time, j6 BQ.ID.Seq, j6 BQ.ID.Rep, j6 BQ.Parent.Time, j6 BQ.Parent.Seq, j6 BQ.Parent.Rep, .slr 24007 0 BQ.RDN.length, .bool BQ.DelOld, .slr 24011 0 BQ.Mods.length]) rfl rfl rfl rfl rfl rfl rfl rfl nofun rfl ?_
 refine R6 (fun (x : Int × Int × Int × Int × Int × Int × Int × Int × Int × Int × Bool × List AU × List BA) => ⟨AX [(2, .ptr 9602 0 0), (5, .ptr 9605 0 0)], AX [(9602, ⟨13, false, [AL a0]⟩), (9605, ⟨13, false, [.agg [j6 x.1, j6 x.2.1, j6 x.2.2.1, j6 x.2.2.2.1, j6 x.2.2.2.2.1, j6 x.2.2.2.2.2.1, j6 x.2.2.2.2.2.2.1, j6 x.2.2.2.2.2.2.2.1, j6 x.2.2.2.2.2.2.2.2.1, j6 x.2.2.2.2.2.2.2.2.2.1, .slr 596060 0 x.2.2.2.2.2.2.2.2.2.2.2.1.length, .bool x.2.2.2.2.2.2.2.2.2.2.1, .slr 596062 0 x.2.2.2.2.2.2.2.2.2.2.2.2.length]]⟩), (596060, ⟨2, true, List.map AV x.2.2.2.2.2.2.2.2.2.2.2.1⟩), (596062, ⟨3, true, List.map AJ x.2.2.2.2.2.2.2.2.2.2.2.2⟩)]⟩) (fun x => BS a0 N x.1 x.2.1 x.2.2.1 x.2.2.2.1 x.2.2.2.2.1 x.2.2.2.2.2.1 x.2.2.2.2.2.2.1 x.2.2.2.2.2.2.2.1 x.2.2.2.2.2.2.2.2.1 x.2.2.2.2.2.2.2.2.2.1 x.2.2.2.2.2.2.2.2.2.2.1 x.2.2.2.2.2.2.2.2.2.2.2.1 x.2.2.2.2.2.2.2.2.2.2.2.2 = some r) ?_ ?_
 rintro ⟨ML, MK, MJ, MI, MH, MG, MF, ME, MC, MB, KE, IW, IV⟩ h
 refine AA (AB ?_)
 refine AY (p := .agg [j6 ML, j6 MK, j6 MJ, j6 MI, j6 MH, j6 MG, j6 MF, j6 ME, j6 MC, j6 MB, .slr 596060 0 IW.length, .bool KE, .slr 596062 0 IV.length]) rfl rfl ?_
 obtain ⟨x63, Kq, h⟩ := AQ h
 refine CX rfl (CZ (L9 N _ _ Kq) rfl (.cons (I6 (.cons A8 (.cons A8 (.cons A8 (.cons A8 (.cons A8 (.cons A8 (.cons A8 (.cons A8 (.cons A8 (.cons A8 (.cons (OV rfl (BP (f := AV) (l := IW))) (.cons A8 (.cons (OV rfl (BP (f := AJ) (l := IV))) .nil))))))))))))) rfl) .nil) rfl rfl rfl) ?_
 iterate 5 refine wq rfl ?_
 obtain ⟨g5, hg5, h⟩ := AQ h
 refine GV ⟨AX [(4, .bool g5)], AX []⟩ ?_ ?_
 have h := hg5
 refine AB ?_
 refine AY (p := .agg [j6 ML, j6 MK, j6 MJ, j6 MI, j6 MH, j6 MG, j6 MF, j6 ME, j6 MC, j6 MB, .slr 596060 0 IW.length, .bool KE, .slr 596062 0 IV.length]) rfl rfl ?_
 obtain ⟨x67, Kn, h⟩ := AQ h
 refine CX rfl (CZ (LU N _ _ Kn) rfl (.cons (I6 (.cons A8 (.cons A8 (.cons A8 (.cons A8 (.cons A8 (.cons A8 (.cons A8 (.cons A8 (.cons A8 (.cons A8 (.cons (OV rfl (BP (f := AV) (l := IW))) (.cons A8 (.cons (OV rfl (BP (f := AJ) (l := IV))) .nil))))))))))))) rfl) .nil) rfl rfl rfl) ?_
 iterate 2 refine wq rfl ?_
 rcases D7 h with ⟨c6, h⟩ | ⟨c6, h⟩
 iterate 2 refine AY (gy rfl c6) rfl ?_
 refine AY rfl (BF c6 rfl rfl) ?_
 refine wq rfl ?_
 rcases D7 h with ⟨c7, h⟩ | ⟨c7, h⟩
 refine AY (p := AL a0) (gy rfl c7) rfl ?_
 refine AY (p := .agg [j6 ML, j6 MK, j6 MJ, j6 MI, j6 MH, j6 MG, j6 MF, j6 ME, j6 MC, j6 MB, .slr 596060 0 IW.length, .bool KE, .slr 596062 0 IV.length]) (gy rfl c7) rfl ?_
 obtain ⟨x76, hx76, h⟩ := AQ h
 refine CX (gy rfl c7) (CZ (UE N _ _ _ hx76) rfl (.cons A8 (.cons (I6 (.cons A8 (.cons A8 (.cons A8 (.cons A8 (.cons A8 (.cons A8 (.cons A8 (.cons A8 (.cons A8 (.cons A8 (.cons (OV rfl (BP (f := AV) (l := IW))) (.cons A8 (.cons (OV rfl (BP (f := AJ) (l := IV))) .nil))))))))))))) rfl) .nil)) rfl rfl rfl) ?_
 refine AY (gy rfl c7) rfl ?_
 refine AY rfl (BF c7 rfl rfl) ?_
 refine wq rfl ?_
 cases AP h
 exact cq rfl
 iterate 4 refine D8 (gn rfl c7) ?_
 refine AY rfl (BD c7 rfl rfl) ?_
 refine wq rfl ?_
 obtain rfl := AP h
 exact cq rfl
 iterate 2 refine D8 (gn rfl c6) ?_
 refine AY rfl (BD c6 rfl rfl) ?_
 refine wq rfl ?_
 iterate 4 refine D8 rfl ?_
 iterate 2 refine wq rfl ?_
 obtain rfl := AP h
 exact cq rfl
 clear hg5
 obtain rfl := AP h
 refine BZ ?_
 exact ⟨nofun, rfl, rfl⟩
 refine AA (AB ?_)
 refine wq rfl ?_
 refine AY rfl (Bo (a := a1) (b := (7 : UInt8)) (u := ()) rfl rfl rfl) ?_
 refine CS (AA (AB ?_))
 refine AY (p := .bool ((((a1 % (7 : UInt8))).toNat : Int) == (0 : Int))) rfl rfl ?_
 refine wq rfl ?_
 refine EN h rfl (fun c8 h => ?_) (fun c8 h => ?_)
 refine AB ?_
 refine wq rfl ?_
 refine EC (e' := .agg [j6 BQ.CSN.Time, j6 BQ.CSN.Seq, j6 BQ.CSN.Rep, j6 0, j6 BQ.ID.Time, j6 BQ.ID.Seq, j6 BQ.ID.Rep, j6 BQ.Parent.Time, j6 BQ.Parent.Seq, j6 BQ.Parent.Rep, .slr 24007 0 BQ.RDN.length, .bool BQ.DelOld, .slr 24011 0 BQ.Mods.length]) rfl rfl rfl rfl rfl rfl rfl rfl nofun rfl ?_
 exact ⟨(BQ.CSN.Time, BQ.CSN.Seq, BQ.CSN.Rep, 0, BQ.ID.Time, BQ.ID.Seq, BQ.ID.Rep, BQ.Parent.Time, BQ.Parent.Seq, BQ.Parent.Rep, BQ.DelOld, BQ.RDN, BQ.Mods), (BX.trans (rename 24007 596060 rfl rfl) (BX.trans (rename 24011 596062 rfl rfl) (cq rfl))), h⟩
 refine AA (AB ?_)
 refine AY (p := .bool ((((a1 % (7 : UInt8))).toNat : Int) == (1 : Int))) rfl rfl ?_
 refine wq rfl ?_
 refine EN h rfl (fun c9 h => ?_) (fun c9 h => ?_)
 refine AB ?_
 iterate 2 refine wq rfl ?_
 refine EC (e' := .agg [j6 BQ.CSN.Time, j6 BQ.CSN.Seq, j6 6, j6 BQ.Kind, j6 BQ.ID.Time, j6 BQ.ID.Seq, j6 BQ.ID.Rep, j6 BQ.Parent.Time, j6 BQ.Parent.Seq, j6 BQ.Parent.Rep, .slr 24007 0 BQ.RDN.length, .bool BQ.DelOld, .slr 24011 0 BQ.Mods.length]) rfl rfl rfl rfl rfl rfl rfl rfl nofun rfl ?_
 exact ⟨(BQ.CSN.Time, BQ.CSN.Seq, 6, BQ.Kind, BQ.ID.Time, BQ.ID.Seq, BQ.ID.Rep, BQ.Parent.Time, BQ.Parent.Seq, BQ.Parent.Rep, BQ.DelOld, BQ.RDN, BQ.Mods), (BX.trans (rename 24007 596060 rfl rfl) (BX.trans (rename 24011 596062 rfl rfl) (cq rfl))), h⟩
 refine AA (AB ?_)
 refine AY (p := .bool ((((a1 % (7 : UInt8))).toNat : Int) == (2 : Int))) rfl rfl ?_
 refine wq rfl ?_
 refine EN h rfl (fun c10 h => ?_) (fun c10 h => ?_)
 refine AB ?_
 iterate 2 refine wq rfl ?_
 refine EC (e' := .agg [j6 (-1), j6 BQ.CSN.Seq, j6 BQ.CSN.Rep, j6 BQ.Kind, j6 BQ.ID.Time, j6 BQ.ID.Seq, j6 BQ.ID.Rep, j6 BQ.Parent.Time, j6 BQ.Parent.Seq, j6 BQ.Parent.Rep, .slr 24007 0 BQ.RDN.length, .bool BQ.DelOld, .slr 24011 0 BQ.Mods.length]) rfl rfl rfl rfl rfl rfl rfl rfl nofun rfl ?_
 exact ⟨((-1), BQ.CSN.Seq, BQ.CSN.Rep, BQ.Kind, BQ.ID.Time, BQ.ID.Seq, BQ.ID.Rep, BQ.Parent.Time, BQ.Parent.Seq, BQ.Parent.Rep, BQ.DelOld, BQ.RDN, BQ.Mods), (BX.trans (rename 24007 596060 rfl rfl) (BX.trans (rename 24011 596062 rfl rfl) (cq rfl))), h⟩
 refine AA (AB ?_)
 refine AY (p := .bool ((((a1 % (7 : UInt8))).toNat : Int) == (3 : Int))) rfl rfl ?_
 refine wq rfl ?_
 refine EN h rfl (fun c11 h => ?_) (fun c11 h => ?_)
 refine AB ?_
 iterate 2 refine wq rfl ?_
 refine CX rfl (QK 9639 rfl rfl rfl) ?_
 refine wn (BX.trans (Vd.freeze 9639 _ rfl rfl rfl) (KS 39 (GG (congrArg (PV.sl 1) (BP (f := PV.str) (l := [([120] : List UInt8)])))) rfl)) ?_
 refine AY (p := .agg [j6 1, .str ([110, 111, 115, 117, 99, 104] : List UInt8), .sl 1 (List.map PV.str [([120] : List UInt8)])]) rfl rfl ?_
 refine CX rfl (QK 9641 rfl rfl rfl) ?_
 obtain ⟨uG, tC, h⟩ := AQ h
 refine UQ (f := AJ) 9642 tC rfl rfl rfl rfl rfl (JZ rfl (BP (f := AJ) (l := [(⟨1, ([110, 111, 115, 117, 99, 104] : List UInt8), [([120] : List UInt8)]⟩ : BA)]))) rfl rfl rfl rfl ?_
 refine wq rfl ?_
 refine EC (e' := .agg [j6 BQ.CSN.Time, j6 BQ.CSN.Seq, j6 BQ.CSN.Rep, j6 BQ.Kind, j6 BQ.ID.Time, j6 BQ.ID.Seq, j6 BQ.ID.Rep, j6 BQ.Parent.Time, j6 BQ.Parent.Seq, j6 BQ.Parent.Rep, .slr 24007 0 BQ.RDN.length, .bool BQ.DelOld, .slr 9642 0 uG.length]) rfl rfl rfl rfl rfl rfl rfl rfl nofun rfl ?_
 exact ⟨(BQ.CSN.Time, BQ.CSN.Seq, BQ.CSN.Rep, BQ.Kind, BQ.ID.Time, BQ.ID.Seq, BQ.ID.Rep, BQ.Parent.Time, BQ.Parent.Seq, BQ.Parent.Rep, BQ.DelOld, BQ.RDN, uG), (BX.trans (rename 9642 596062 rfl rfl) (BX.trans (rename 24007 596060 rfl rfl) (cq rfl))), h⟩
 refine AA (AB ?_)
 refine AY (p := .bool ((((a1 % (7 : UInt8))).toNat : Int) == (4 : Int))) rfl rfl ?_
 refine wq rfl ?_
 refine EN h rfl (fun c12 h => ?_) (fun c12 h => ?_)
 refine AB ?_
 iterate 2 refine wq rfl ?_
 refine CX rfl (QK 9648 rfl rfl rfl) ?_
 refine wn (BX.trans (Vd.freeze 9648 _ rfl rfl rfl) (KS 48 (GG (congrArg (PV.sl 1) (BP (f := PV.str) (l := [([120] : List UInt8)])))) rfl)) ?_
 refine AY (p := .agg [j6 1, .str ([101, 110, 116, 114, 121, 105, 100] : List UInt8), .sl 1 (List.map PV.str [([120] : List UInt8)])]) rfl rfl ?_
 refine CX rfl (QK 9650 rfl rfl rfl) ?_
 obtain ⟨Gc, Kv, h⟩ := AQ h
 refine UQ (f := AJ) 9651 Kv rfl rfl rfl rfl rfl (JZ rfl (BP (f := AJ) (l := [(⟨1, ([101, 110, 116, 114, 121, 105, 100] : List UInt8), [([120] : List UInt8)]⟩ : BA)]))) rfl rfl rfl rfl ?_
 refine wq rfl ?_
 refine EC (e' := .agg [j6 BQ.CSN.Time, j6 BQ.CSN.Seq, j6 BQ.CSN.Rep, j6 BQ.Kind, j6 BQ.ID.Time, j6 BQ.ID.Seq, j6 BQ.ID.Rep, j6 BQ.Parent.Time, j6 BQ.Parent.Seq, j6 BQ.Parent.Rep, .slr 24007 0 BQ.RDN.length, .bool BQ.DelOld, .slr 9651 0 Gc.length]) rfl rfl rfl rfl rfl rfl rfl rfl nofun rfl ?_
 exact ⟨(BQ.CSN.Time, BQ.CSN.Seq, BQ.CSN.Rep, BQ.Kind, BQ.ID.Time, BQ.ID.Seq, BQ.ID.Rep, BQ.Parent.Time, BQ.Parent.Seq, BQ.Parent.Rep, BQ.DelOld, BQ.RDN, Gc), (BX.trans (rename 9651 596062 rfl rfl) (BX.trans (rename 24007 596060 rfl rfl) (cq rfl))), h⟩
 refine AA (AB ?_)
 refine AY (p := .bool ((((a1 % (7 : UInt8))).toNat : Int) == (5 : Int))) rfl rfl ?_
 refine wq rfl ?_
 refine EN h rfl (fun c13 h => ?_) (fun c13 h => ?_)
 refine AB ?_
 iterate 2 refine wq rfl ?_
 refine AY (p := .agg [.str ([101, 110, 116, 114, 121, 105, 100] : List UInt8), .str ([120] : List UInt8)]) rfl rfl ?_
 refine CX rfl (QK 9658 rfl rfl rfl) ?_
 obtain ⟨uO, xO, h⟩ := AQ h
 refine UQ (f := AV) 9659 xO rfl rfl rfl rfl rfl (JZ rfl (BP (f := AV) (l := [(⟨([101, 110, 116, 114, 121, 105, 100] : List UInt8), ([120] : List UInt8)⟩ : AU)]))) rfl rfl rfl rfl ?_
 refine wq rfl ?_
 refine EC (e' := .agg [j6 BQ.CSN.Time, j6 BQ.CSN.Seq, j6 BQ.CSN.Rep, j6 BQ.Kind, j6 BQ.ID.Time, j6 BQ.ID.Seq, j6 BQ.ID.Rep, j6 BQ.Parent.Time, j6 BQ.Parent.Seq, j6 BQ.Parent.Rep, .slr 9659 0 uO.length, .bool BQ.DelOld, .slr 24011 0 BQ.Mods.length]) rfl rfl rfl rfl rfl rfl rfl rfl nofun rfl ?_
 exact ⟨(BQ.CSN.Time, BQ.CSN.Seq, BQ.CSN.Rep, BQ.Kind, BQ.ID.Time, BQ.ID.Seq, BQ.ID.Rep, BQ.Parent.Time, BQ.Parent.Seq, BQ.Parent.Rep, BQ.DelOld, uO, BQ.Mods), (BX.trans (rename 9659 596060 rfl rfl) (BX.trans (rename 24011 596062 rfl rfl) (cq rfl))), h⟩
 refine AB ?_
 iterate 2 refine wq rfl ?_
 refine EC (e' := .agg [j6 BQ.CSN.Time, j6 BQ.CSN.Seq, j6 BQ.CSN.Rep, j6 BQ.Kind, j6 BQ.ID.Time, j6 BQ.ID.Seq, j6 BQ.ID.Rep, j6 BQ.Parent.Time, j6 (-1), j6 BQ.Parent.Rep, .slr 24007 0 BQ.RDN.length, .bool BQ.DelOld, .slr 24011 0 BQ.Mods.length]) rfl rfl rfl rfl rfl rfl rfl rfl nofun rfl ?_
 exact ⟨(BQ.CSN.Time, BQ.CSN.Seq, BQ.CSN.Rep, BQ.Kind, BQ.ID.Time, BQ.ID.Seq, BQ.ID.Rep, BQ.Parent.Time, (-1), BQ.Parent.Rep, BQ.DelOld, BQ.RDN, BQ.Mods), (BX.trans (rename 24007 596060 rfl rfl) (BX.trans (rename 24011 596062 rfl rfl) (cq rfl))), h⟩
end Go.Gp
end
