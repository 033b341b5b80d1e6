/- A part of the proof: functions of the program and what they compute. -/
import Derived.Test.YtlopcglohpfonaaGreatDoorA5
import Derived.Test.YtlopcglohpfonaaGreatDoorA8
section
set_option linter.unusedVariables false
set_option linter.unusedSimpArgs false
set_option maxRecDepth 4000
set_option maxHeartbeats 4000000
namespace Go.Gp
open Go.Vd Go.RowKit Go.Proofs
def k24 : IC := (.seq (.reg [jn 1 (.box 23 (.t 0)), jc 2 (.bool false)]) (.seq (.reg [ja 3 0 1, jl 4 1 3, ju .geq 5 4 0, jm 6 5, jt 6 7 (.fda 0 (.t 1)), jt 6 8 (.load 1 false (.t 7)), jt 6 9 (.bin .leq (.t 8) (ji 1099511627776)), jp 10 6 9, jm 11 10, jt 11 12 (.fda 1 (.t 1)), jt 11 13 (.load 1 false (.t 12)), jt 11 14 (.bin .geq (.t 13) (ji 0)), jp 15 11 14, jm 16 15, jt 16 17 (.fda 1 (.t 1)), jt 16 18 (.load 1 false (.t 17)), jt 16 19 (.bin .leq (.t 18) (ji 65535)), jp 20 16 19, jm 21 20, jt 21 22 (.fda 2 (.t 1)), jt 21 23 (.load 1 false (.t 22)), jt 21 24 (.bin .geq (.t 23) (ji 0)), jp 25 21 24, jm 26 25, jt 26 27 (.fda 2 (.t 1)), jt 26 28 (.load 1 false (.t 27)), jt 26 29 (.bin .lss (.t 28) (ji 6)), jp 30 26 29, jm 2 30]) .ret))
theorem Js : C9 Tryz.prog Tryz.f24 = some ⟨31, k24, [(.tmp 2)]⟩ := by kernel_rfl
theorem TV (N : Nat) (a0 : AO) (r : Bool) (h : X9 N a0 = some r) : Sat Tryz.prog 24 AC [GM a0] (.bool r) AC := by
 refine EO mixed Tryz.func24 Js (rs := [.bool r]) rfl rfl ?_
 refine AA (AB ?_)
 refine CX rfl (FE 38401 rfl rfl rfl rfl rfl) ?_
 refine wq rfl ?_
 obtain ⟨g1, hg1, h⟩ := AQ h
 refine GV ⟨AX [(2, .bool g1)], AX []⟩ ?_ ?_
 have h := hg1
 refine AB ?_
 iterate 4 refine wq rfl ?_
 rcases D7 h with ⟨c2, h⟩ | ⟨c2, h⟩
 iterate 3 refine AY (gy rfl c2) rfl ?_
 refine AY rfl (BF c2 rfl rfl) ?_
 refine wq rfl ?_
 rcases D7 h with ⟨c3, h⟩ | ⟨c3, h⟩
 iterate 3 refine AY (gy rfl c3) rfl ?_
 refine AY rfl (BF c3 rfl rfl) ?_
 refine wq rfl ?_
 rcases D7 h with ⟨c4, h⟩ | ⟨c4, h⟩
 iterate 3 refine AY (gy rfl c4) rfl ?_
 refine AY rfl (BF c4 rfl rfl) ?_
 refine wq rfl ?_
 rcases D7 h with ⟨c5, h⟩ | ⟨c5, h⟩
 iterate 3 refine AY (gy rfl c5) rfl ?_
 refine AY rfl (BF c5 rfl rfl) ?_
 refine wq rfl ?_
 rcases D7 h with ⟨c6, h⟩ | ⟨c6, h⟩
 iterate 3 refine AY (gy rfl c6) rfl ?_
 refine AY rfl (BF c6 rfl rfl) ?_
 refine wq rfl ?_
 cases AP h
 exact cq rfl
 iterate 3 refine D8 (gn rfl c6) ?_
 refine AY rfl (BD c6 rfl rfl) ?_
 refine wq rfl ?_
 obtain rfl := AP h
 exact cq rfl
 iterate 3 refine D8 (gn rfl c5) ?_
 refine AY rfl (BD c5 rfl rfl) ?_
 refine wq rfl ?_
 iterate 3 refine D8 rfl ?_
 iterate 2 refine wq rfl ?_
 obtain rfl := AP h
 exact cq rfl
 iterate 3 refine D8 (gn rfl c4) ?_
 refine AY rfl (BD c4 rfl rfl) ?_
 refine wq rfl ?_
 iterate 3 refine D8 rfl ?_
 iterate 2 refine wq rfl ?_
 iterate 3 refine D8 rfl ?_
 iterate 2 refine wq rfl ?_
 obtain rfl := AP h
 exact cq rfl
 iterate 3 refine D8 (gn rfl c3) ?_
 refine AY rfl (BD c3 rfl rfl) ?_
 refine wq rfl ?_
 iterate 3 refine D8 rfl ?_
 iterate 2 refine wq rfl ?_
 iterate 3 refine D8 rfl ?_
 iterate 2 refine wq rfl ?_
 iterate 3 refine D8 rfl ?_
 iterate 2 refine wq rfl ?_
 obtain rfl := AP h
 exact cq rfl
 iterate 3 refine D8 (gn rfl c2) ?_
 refine AY rfl (BD c2 rfl rfl) ?_
 refine wq rfl ?_
 iterate 3 refine D8 rfl ?_
 iterate 2 refine wq rfl ?_
 iterate 3 refine D8 rfl ?_
 iterate 2 refine wq rfl ?_
 iterate 3 refine D8 rfl ?_
 iterate 2 refine wq rfl ?_
 iterate 3 refine D8 rfl ?_
 iterate 2 refine wq rfl ?_
 obtain rfl := AP h
 exact cq rfl
 clear hg1
 obtain rfl := AP h
 refine BZ ?_
 exact ⟨nofun, rfl, rfl⟩
def k25 : IC := (.seq (.reg [jn 1 (.box 23 (.t 0)), jc 2 (.bool false)]) (.seq (.reg [jg 3 3 1, jn 4 (.build [(j6 0), (j6 0), (j6 0)] []), jn 5 (.eqs false [(.i .i64), (.i .i64), (.i .i64)] (.t 3) (.t 4)), jm 2 5]) .ret))
theorem Jr : C9 Tryz.prog Tryz.f25 = some ⟨6, k25, [(.tmp 2)]⟩ := by kernel_rfl
theorem PY (N : Nat) (a0 : AO) (r : Bool) (h : QQ N a0 = some r) : Sat Tryz.prog 25 AC [GM a0] (.bool r) AC := by
 refine EO mixed Tryz.func25 Jr (rs := [.bool r]) rfl rfl ?_
 refine AA (AB ?_)
 refine CX rfl (FE 40001 rfl rfl rfl rfl rfl) ?_
 refine wq rfl ?_
 refine AA (AB ?_)
 refine AY (p := GM a0) rfl rfl ?_
 refine AY (p := .agg [j6 0, j6 0, j6 0]) rfl rfl ?_
 refine AY (p := .bool (a0.Time == (0 : Int) && (a0.Seq == (0 : Int) && (a0.Rep == (0 : Int) && true)))) rfl rfl ?_
 refine wq rfl ?_
 cases AP h
 refine BZ ?_
 exact ⟨nofun, rfl, rfl⟩
def k72 : IC := (.seq (.reg [jc 2 (.bool false)]) (.seq (.reg [jm 3 0, jm 4 0, jb .neq 5 3 4, jm 2 5]) .ret))
theorem Ie : C9 Tryz.prog Tryz.f72 = some ⟨6, k72, [(.tmp 2)]⟩ := by kernel_rfl
theorem PR (N : Nat) (a0 : Int) (r : Bool) (h : LZ N a0 = some r) : Sat Tryz.prog 72 AC [j6 a0] (.bool r) AC := by
 refine EO mixed Tryz.func72 Ie (rs := [.bool r]) rfl rfl ?_
 refine AA (AB ?_)
 refine wq rfl ?_
 refine AA (AB ?_)
 iterate 4 refine wq rfl ?_
 cases AP h
 refine BZ ?_
 exact ⟨nofun, rfl, rfl⟩
def k52 : IC := (.seq (.reg [jc 4 (j6 0)]) (.seq (.reg [jm 7 0, jn 8 (.call 72 [(.t 7)]), jm 5 8]) (.seq (.reg [jm 9 1, jn 10 (.call 72 [(.t 9)]), jm 6 10]) (.seq (.seq (.reg [jm 11 5]) (.cond (.t 11) (.seq (.seq (.reg [jm 12 6]) (.cond (.t 12) (.seq (.reg [jc 4 (j6 0)]) .ret) .skip)) (.seq (.reg [jc 4 (j6 (-1))]) .ret)) .skip)) (.seq (.seq (.reg [jm 13 6]) (.cond (.t 13) (.seq (.reg [jc 4 (j6 1)]) .ret) .skip)) (.seq (.seq (.reg [jm 14 0, jm 15 1, jb .lss 16 14 15]) (.cond (.t 16) (.seq (.reg [jc 4 (j6 (-1))]) .ret) .skip)) (.seq (.seq (.reg [jm 17 0, jm 18 1, jb .gtr 19 17 18]) (.cond (.t 19) (.seq (.reg [jc 4 (j6 1)]) .ret) .skip)) (.seq (.reg [jc 4 (j6 0)]) .ret))))))))
theorem Iy : C9 Tryz.prog Tryz.f52 = some ⟨20, k52, [(.tmp 4)]⟩ := by kernel_rfl
theorem UU (N : Nat) (a0 : Int) (a1 : Int) (r : Int) (h : K8 N a0 a1 = some r) : Sat Tryz.prog 52 AC [j6 a0, j6 a1] (j6 r) AC := by
 refine EO mixed Tryz.func52 Iy (rs := [j6 r]) rfl rfl ?_
 refine AA (AB ?_)
 refine wq rfl ?_
 refine AA (AB ?_)
 refine wq rfl ?_
 obtain ⟨x8, De, h⟩ := AQ h
 refine CX rfl (CZ (PR N _ _ De) rfl (.cons A8 .nil) rfl rfl rfl) ?_
 refine wq rfl ?_
 refine AA (AB ?_)
 refine wq rfl ?_
 obtain ⟨PI, U4, h⟩ := AQ h
 refine CX rfl (CZ (PR N _ _ U4) rfl (.cons A8 .nil) rfl rfl rfl) ?_
 refine wq rfl ?_
 iterate 2 refine AA ?_
 refine AB ?_
 refine wq rfl ?_
 refine EN h rfl (fun c1 h => ?_) (fun c1 h => ?_)
 iterate 2 refine AA ?_
 refine AB ?_
 refine wq rfl ?_
 refine EN h rfl (fun c2 h => ?_) (fun c2 h => ?_)
 refine AA (AB ?_)
 refine wq rfl ?_
 obtain rfl := AP h
 refine BZ ?_
 exact ⟨nofun, rfl, rfl⟩
 refine BH (AA (AB ?_))
 refine wq rfl ?_
 cases AP h
 refine BZ ?_
 exact ⟨nofun, rfl, rfl⟩
 refine BH ?_
 iterate 2 refine AA ?_
 refine AB ?_
 refine wq rfl ?_
 refine EN h rfl (fun c3 h => ?_) (fun c3 h => ?_)
 refine AA (AB ?_)
 refine wq rfl ?_
 obtain rfl := AP h
 refine BZ ?_
 exact ⟨nofun, rfl, rfl⟩
 refine BH ?_
 iterate 2 refine AA ?_
 refine AB ?_
 iterate 3 refine wq rfl ?_
 refine EN h rfl (fun c4 h => ?_) (fun c4 h => ?_)
 refine AA (AB ?_)
 refine wq rfl ?_
 cases AP h
 refine BZ ?_
 exact ⟨nofun, rfl, rfl⟩
 refine BH ?_
 iterate 2 refine AA ?_
 refine AB ?_
 iterate 3 refine wq rfl ?_
 refine EN h rfl (fun c5 h => ?_) (fun c5 h => ?_)
 refine AA (AB ?_)
 refine wq rfl ?_
 obtain rfl := AP h
 refine BZ ?_
 exact ⟨nofun, rfl, rfl⟩
 refine BH (AA (AB ?_))
 refine wq rfl ?_
 obtain rfl := AP h
 refine BZ ?_
 exact ⟨nofun, rfl, rfl⟩
def k73 : IC := (.seq (.reg [jc 2 (.bool false)]) (.seq (.reg [jm 3 0, jm 4 0, jb .neq 5 3 4, jm 2 5]) .ret))
theorem Ic : C9 Tryz.prog Tryz.f73 = some ⟨6, k73, [(.tmp 2)]⟩ := by kernel_rfl
theorem RB (N : Nat) (a0 : Int) (r : Bool) (h : cmp_isNaN_int N a0 = some r) : Sat Tryz.prog 73 AC [j6 a0] (.bool r) AC := by
 refine EO mixed Tryz.func73 Ic (rs := [.bool r]) rfl rfl ?_
 refine AA (AB ?_)
 refine wq rfl ?_
 refine AA (AB ?_)
 iterate 4 refine wq rfl ?_
 cases AP h
 refine BZ ?_
 exact ⟨nofun, rfl, rfl⟩
def k53 : IC := (.seq (.reg [jc 4 (j6 0)]) (.seq (.reg [jm 7 0, jn 8 (.call 73 [(.t 7)]), jm 5 8]) (.seq (.reg [jm 9 1, jn 10 (.call 73 [(.t 9)]), jm 6 10]) (.seq (.seq (.reg [jm 11 5]) (.cond (.t 11) (.seq (.seq (.reg [jm 12 6]) (.cond (.t 12) (.seq (.reg [jc 4 (j6 0)]) .ret) .skip)) (.seq (.reg [jc 4 (j6 (-1))]) .ret)) .skip)) (.seq (.seq (.reg [jm 13 6]) (.cond (.t 13) (.seq (.reg [jc 4 (j6 1)]) .ret) .skip)) (.seq (.seq (.reg [jm 14 0, jm 15 1, jb .lss 16 14 15]) (.cond (.t 16) (.seq (.reg [jc 4 (j6 (-1))]) .ret) .skip)) (.seq (.seq (.reg [jm 17 0, jm 18 1, jb .gtr 19 17 18]) (.cond (.t 19) (.seq (.reg [jc 4 (j6 1)]) .ret) .skip)) (.seq (.reg [jc 4 (j6 0)]) .ret))))))))
theorem Iw : C9 Tryz.prog Tryz.f53 = some ⟨20, k53, [(.tmp 4)]⟩ := by kernel_rfl
theorem PS (N : Nat) (a0 : Int) (a1 : Int) (r : Int) (h : cmp_Compare_int N a0 a1 = some r) : Sat Tryz.prog 53 AC [j6 a0, j6 a1] (j6 r) AC := by
 refine EO mixed Tryz.func53 Iw (rs := [j6 r]) rfl rfl ?_
 refine AA (AB ?_)
 refine wq rfl ?_
 refine AA (AB ?_)
 refine wq rfl ?_
 obtain ⟨x8, De, h⟩ := AQ h
 refine CX rfl (CZ (RB N _ _ De) rfl (.cons A8 .nil) rfl rfl rfl) ?_
 refine wq rfl ?_
 refine AA (AB ?_)
 refine wq rfl ?_
 obtain ⟨PI, U4, h⟩ := AQ h
 refine CX rfl (CZ (RB N _ _ U4) rfl (.cons A8 .nil) rfl rfl rfl) ?_
 refine wq rfl ?_
 iterate 2 refine AA ?_
 refine AB ?_
 refine wq rfl ?_
 refine EN h rfl (fun c1 h => ?_) (fun c1 h => ?_)
 iterate 2 refine AA ?_
 refine AB ?_
 refine wq rfl ?_
 refine EN h rfl (fun c2 h => ?_) (fun c2 h => ?_)
 refine AA (AB ?_)
 refine wq rfl ?_
 obtain rfl := AP h
 refine BZ ?_
 exact ⟨nofun, rfl, rfl⟩
 refine BH (AA (AB ?_))
 refine wq rfl ?_
 cases AP h
 refine BZ ?_
 exact ⟨nofun, rfl, rfl⟩
 refine BH ?_
 iterate 2 refine AA ?_
 refine AB ?_
 refine wq rfl ?_
 refine EN h rfl (fun c3 h => ?_) (fun c3 h => ?_)
 refine AA (AB ?_)
 refine wq rfl ?_
 obtain rfl := AP h
 refine BZ ?_
 exact ⟨nofun, rfl, rfl⟩
 refine BH ?_
 iterate 2 refine AA ?_
 refine AB ?_
 iterate 3 refine wq rfl ?_
 refine EN h rfl (fun c4 h => ?_) (fun c4 h => ?_)
 refine AA (AB ?_)
 refine wq rfl ?_
 cases AP h
 refine BZ ?_
 exact ⟨nofun, rfl, rfl⟩
 refine BH ?_
 iterate 2 refine AA ?_
 refine AB ?_
 iterate 3 refine wq rfl ?_
 refine EN h rfl (fun c5 h => ?_) (fun c5 h => ?_)
 refine AA (AB ?_)
 refine wq rfl ?_
 obtain rfl := AP h
 refine BZ ?_
 exact ⟨nofun, rfl, rfl⟩
 refine BH (AA (AB ?_))
 refine wq rfl ?_
 obtain rfl := AP h
 refine BZ ?_
 exact ⟨nofun, rfl, rfl⟩
def wU : IC := (.seq (.reg [jb .lss 9 8 7]) (.seq (.cond (.t 9) .skip (.exit 0)) (.seq (.block 1 (.seq (.reg [jx 10 1 6 8, jl 11 1 10, jm 5 11]) (.seq (.reg [jm 12 5, jm 13 3, jb .neq 14 12 13]) (.cond (.t 14) (.seq (.reg [jm 15 5, jm 2 15]) .ret) .skip)))) (.reg [ju .add 16 8 1, jm 8 16]))))
def k51 : IC := (.seq (.reg [jc 2 (j6 0)]) (.seq (.reg [jc 3 (j6 0)]) (.seq (.seq (.reg [jm 6 0, jL 7 6, jc 8 (j6 0)]) (.block 0 (.loop wU))) (.seq (.reg [jm 17 3, jm 2 17]) .ret))))
theorem Iz : C9 Tryz.prog Tryz.f51 = some ⟨18, k51, [(.tmp 2)]⟩ := by kernel_rfl
theorem aG (N : Nat) (a0 : List Int) : ∀ (n : Nat) (x : Int) (y : Unit ⊕ Int), LV N a0 n x = some y → WX Tryz.prog (fun _ => false) (.loop wU) ((fun (x : Int) => ⟨AX [(3, j6 0), (6, .sl 1 (List.map ei a0)), (7, j6 (a0.length : Int)), (8, j6 x)], AX []⟩) x) ((Sum.elim (fun y e s => e = .exit 0 ∧ s = ⟨AX [(3, j6 0)], AX []⟩) (fun y e s => e = .ret ∧ s = ⟨AX [(2, j6 y)], AX []⟩) : (Unit ⊕ Int) → Xt → St → Prop) y) := by
 refine FB _ _ (LV N a0) (PM N a0) (fun _ => rfl) (fun _ _ => rfl) ?_
 rintro rec v8l8 y h
 refine AA (AB ?_)
 refine wq rfl ?_
 refine AA ?_
 refine EN h rfl (fun c1 h => ?_) (fun c1 h => ?_)
 refine BH (AA (CS (AA (AB ?_))))
 obtain ⟨PI, U4, h⟩ := AQ h
 refine AY rfl (EW (cs := [j6 PI]) U4 rfl rfl rfl) ?_
 iterate 2 refine wq rfl ?_
 refine AA (AB ?_)
 iterate 3 refine wq rfl ?_
 refine EN h rfl (fun c2 h => ?_) (fun c2 h => ?_)
 refine AA (AB ?_)
 iterate 2 refine wq rfl ?_
 obtain rfl := AP h
 exact F4 (st1 := ⟨AX [(2, j6 PI)], AX []⟩) (cq rfl) ⟨rfl, rfl⟩
 refine BH (AB ?_)
 refine AY (p := j6 (CE (v8l8 + (1 : Int)))) rfl rfl ?_
 refine wq rfl ?_
 exact ⟨(CE (v8l8 + (1 : Int))), (cq rfl), h⟩
 cases AP h
 exact ED (st1 := ⟨AX [(3, j6 0)], AX []⟩) (cq rfl) ⟨rfl, rfl⟩
theorem bM (N : Nat) (a0 : List Int) (r : Int) (h : U5 N a0 = some r) : Sat Tryz.prog 51 AC [.sl 1 (List.map ei a0)] (j6 r) AC := by
 refine EO mixed Tryz.func51 Iz (rs := [j6 r]) rfl rfl ?_
 refine AA (AB ?_)
 refine wq rfl ?_
 refine AA (AB ?_)
 refine wq rfl ?_
 iterate 2 refine AA ?_
 refine AB ?_
 refine wq rfl ?_
 refine AY rfl (CR rfl) ?_
 refine wq rfl ?_
 refine CS ?_
 obtain ⟨y3, hy3, h⟩ := AQ h
 refine R5 (aG N a0 N _ _ hy3) (cq rfl) ?_
 clear hy3
 rcases y3 with y3 | y3
 rintro e s ⟨rfl, rfl⟩
 refine AA (AB ?_)
 iterate 2 refine wq rfl ?_
 obtain rfl := AP h
 refine BZ ?_
 exact ⟨nofun, rfl, rfl⟩
 rintro e s ⟨rfl, rfl⟩
 obtain rfl := AP h
 exact ⟨nofun, rfl, rfl⟩
def k27 : IC := (.seq (.reg [jn 2 (.box 23 (.t 0)), jn 3 (.box 23 (.t 1)), jc 4 (j6 0)]) (.seq (.regd 18 [ja 5 0 2, jl 6 1 5, ja 7 0 3, jl 8 1 7, jn 9 (.call 52 [(.t 6), (.t 8)]), ja 10 1 2, jl 11 1 10, ja 12 1 3, jl 13 1 12, jn 14 (.call 53 [(.t 11), (.t 13)]), ja 15 2 2, jl 16 1 15, ja 17 2 3, jl 18 1 17, jn 19 (.call 53 [(.t 16), (.t 18)]), jn 20 (.bsl 1 [(.t 9), (.t 14), (.t 19)]), jn 21 (.call 51 [(.t 20)]), jm 4 21]) .ret))
theorem Jp : C9 Tryz.prog Tryz.f27 = some ⟨22, k27, [(.tmp 4)]⟩ := by kernel_rfl
theorem kC (N : Nat) (a0 : AO) (a1 : AO) (r : Int) (h : aW N a0 a1 = some r) : Sat Tryz.prog 27 AC [GM a0, GM a1] (j6 r) AC := by
 refine EO mixed Tryz.func27 Jp (rs := [j6 r]) rfl rfl ?_
 refine AA (AB ?_)
 refine CX rfl (FE 43202 rfl rfl rfl rfl rfl) ?_
 refine CX rfl (FE 43203 rfl rfl rfl rfl rfl) ?_
 refine wq rfl ?_
 refine AA (Q8 ?_)
 iterate 4 refine dq rfl ?_
 obtain ⟨x9, Dc, h⟩ := AQ h
 refine UO rfl (OG (UU N _ _ _ Dc) rfl (.cons A8 (.cons A8 .nil)) rfl rfl rfl) DD ?_
 iterate 4 refine dq rfl ?_
 obtain ⟨M7, QL, h⟩ := AQ h
 refine UO rfl (OG (PS N _ _ _ QL) rfl (.cons A8 (.cons A8 .nil)) rfl rfl rfl) DD ?_
 iterate 4 refine dq rfl ?_
 obtain ⟨BQ, Z8, h⟩ := AQ h
 refine UO rfl (OG (PS N _ _ _ Z8) rfl (.cons A8 (.cons A8 .nil)) rfl rfl rfl) DD ?_
 refine UO rfl (.bsl _ 43220 rfl (ND rfl) rfl) (PL rfl) ?_
 obtain ⟨XF, dC, h⟩ := AQ h
 refine UO rfl (OG (bM N _ _ dC) rfl (.cons (OV rfl (BP (f := ei) (l := [x9, M7, BQ]))) .nil) rfl rfl rfl) DD ?_
 refine dq rfl ?_
 obtain rfl := AP h
 refine BZ ?_
 exact ⟨nofun, rfl, rfl⟩
def k26 : IC := (.seq (.reg [jn 2 (.box 23 (.t 0)), jc 3 (.bool false)]) (.seq (.reg [jg 4 3 2, ja 5 0 1, jg 6 3 5, jn 7 (.call 27 [(.t 4), (.t 6)]), ju .lss 8 7 0, jm 3 8]) .ret))
theorem Jq : C9 Tryz.prog Tryz.f26 = some ⟨9, k26, [(.tmp 3)]⟩ := by kernel_rfl
theorem JS (N : Nat) (a0 : AO) (c0 : AR) (r : Bool) (h : KV N a0 c0 = some r) : Sat Tryz.prog 26 AC [GM a0, .ep [j6 c0.CSN.Time, j6 c0.CSN.Seq, j6 c0.CSN.Rep, j6 c0.Kind, j6 c0.ID.Time, j6 c0.ID.Seq, j6 c0.ID.Rep, j6 c0.Parent.Time, j6 c0.Parent.Seq, j6 c0.Parent.Rep, .sl 2 (List.map AV c0.RDN), .bool c0.DelOld, .sl 3 (List.map AJ c0.Mods)]] (.bool r) AC := by
 refine EO mixed Tryz.func26 Jq (rs := [.bool r]) rfl rfl ?_
 refine AA (AB ?_)
 refine CX rfl (FE 41602 rfl rfl rfl rfl rfl) ?_
 refine wq rfl ?_
 refine AA (AB ?_)
 refine AY (p := GM a0) rfl rfl ?_
 refine AY (p := .ep [j6 c0.CSN.Time, j6 c0.CSN.Seq, j6 c0.CSN.Rep, j6 c0.Kind, j6 c0.ID.Time, j6 c0.ID.Seq, j6 c0.ID.Rep, j6 c0.Parent.Time, j6 c0.Parent.Seq, j6 c0.Parent.Rep, .sl 2 (List.map AV c0.RDN), .bool c0.DelOld, .sl 3 (List.map AJ c0.Mods)]) rfl rfl ?_
 refine AY (p := .agg [j6 c0.CSN.Time, j6 c0.CSN.Seq, j6 c0.CSN.Rep]) rfl rfl ?_
 obtain ⟨x7, hx7, h⟩ := AQ h
 refine CX rfl (CZ (kC N _ _ _ hx7) rfl (.cons A8 (.cons A8 .nil)) rfl rfl rfl) ?_
 iterate 2 refine wq rfl ?_
 cases AP h
 refine BZ ?_
 exact ⟨nofun, rfl, rfl⟩
def qG : IC := (.seq (.reg [jb .lss 26 25 24]) (.seq (.cond (.t 26) .skip (.exit 0)) (.seq (.block 1 (.seq (.reg [jx 27 1 23 25, jl 28 1 27, jm 4 28]) (.block 2 (.seq (.block 5 (.seq (.block 4 (.block 3 (.seq (.seq (.seq (.reg [jm 30 4, jn 31 (.bin .geq (.t 30) (.c (.int .u8 97))), jm 32 31, jt 32 33 (.mov (.t 4)), jt 32 34 (.bin .leq (.t 33) (.c (.int .u8 122))), jp 35 32 34, jm 29 35]) (.cond (.t 29) (.exit 3) .skip)) (.seq (.seq (.reg [jm 37 4, jn 38 (.bin .geq (.t 37) (.c (.int .u8 48))), jm 39 38, jt 39 40 (.mov (.t 4)), jt 39 41 (.bin .leq (.t 40) (.c (.int .u8 57))), jp 42 39 41, jm 36 42]) (.cond (.t 36) .skip (.reg [jm 43 4, jn 44 (.bin .eql (.t 43) (.c (.int .u8 45))), jm 36 44]))) (.cond (.t 36) (.exit 4) .skip))) (.exit 5)))) (.exit 2))) (.seq (.seq (.reg [jc 2 (.bool false)]) .ret) (.exit 2)))))) (.reg [ju .add 45 25 1, jm 25 45]))))
def k74 : IC := (.seq (.reg [jc 2 (.bool false)]) (.seq (.seq (.reg [jm 5 0, jn 6 (.bin .eql (.t 5) (.c (.str []))), jm 7 6, jf 7 8 (.mov (.t 0)), jf 7 9 (.len true (.t 8)), jf 7 10 (.bin .gtr (.t 9) (ji 16)), jo 11 7 10, jm 12 11, jf 12 13 (.mov (.t 0)), jf 12 14 (.idxs (.t 13) (ji 0)), jf 12 15 (.bin .lss (.t 14) (.c (.int .u8 97))), jo 16 12 15, jm 17 16, jf 17 18 (.mov (.t 0)), jf 17 19 (.idxs (.t 18) (ji 0)), jf 17 20 (.bin .gtr (.t 19) (.c (.int .u8 122))), jo 21 17 20]) (.cond (.t 21) (.seq (.reg [jc 2 (.bool false)]) .ret) .skip)) (.seq (.seq (.reg [jm 22 0, jn 23 (.cvs (.t 22)), jL 24 23, jc 25 (j6 0)]) (.block 0 (.loop qG))) (.seq (.reg [jc 2 (.bool true)]) .ret))))
theorem Ib : C9 Tryz.prog Tryz.f74 = some ⟨46, k74, [(.tmp 2)]⟩ := by kernel_rfl
theorem aD (N : Nat) (a0 : List UInt8) : ∀ (n : Nat) (x : Int) (y : Unit ⊕ Bool), IY N a0 n x = some y → WX Tryz.prog (fun _ => false) (.loop qG) ((fun (x : Int) => ⟨AX [(23, .slr 118423 0 a0.length), (24, j6 (a0.length : Int)), (25, j6 x)], AX [(118423, ⟨1, true, List.map eb a0⟩)]⟩) x) ((Sum.elim (fun y e s => e = .exit 0 ∧ s = ⟨AX [], AX []⟩) (fun y e s => e = .ret ∧ s = ⟨AX [(2, .bool y)], AX []⟩) : (Unit ⊕ Bool) → Xt → St → Prop) y) := by
 refine FB _ _ (IY N a0) (LY N a0) (fun _ => rfl) (fun _ _ => rfl) ?_
 rintro rec v25l14 y h
 refine AA (AB ?_)
 refine wq rfl ?_
 refine AA ?_
 refine EN h rfl (fun c6 h => ?_) (fun c6 h => ?_)
 refine BH (AA (CS (AA (AB ?_))))
 obtain ⟨x27, hx27, h⟩ := AQ h
 refine AY rfl (QJ hx27 rfl rfl rfl rfl) ?_
 obtain ⟨x28, hx28, h⟩ := AQ h
 refine AY rfl (V3 (f := eb) (v := eb x28) hx28 rfl rfl rfl) ?_
 refine wq rfl ?_
 refine CS (AA (CS ?_))
 refine R6 (fun (x : Unit) => ⟨AX [(23, .slr 118423 0 a0.length), (24, j6 (a0.length : Int)), (25, j6 v25l14)], AX [(118423, ⟨1, true, List.map eb a0⟩)]⟩) (fun x => OP v25l14 rec = some y) ?_ ?_
 rintro ⟨⟩ h
 refine O7 ?_
 refine AB ?_
 refine AY (p := j6 (CE (v25l14 + (1 : Int)))) rfl rfl ?_
 refine wq rfl ?_
 exact ⟨(CE (v25l14 + (1 : Int))), (cq rfl), h⟩
 iterate 2 refine CS ?_
 iterate 2 refine AA ?_
 obtain ⟨g7, Ep, h⟩ := AQ h
 refine GV ⟨AX [(4, eb x28), (23, .slr 118423 0 a0.length), (24, j6 (a0.length : Int)), (25, j6 v25l14), (29, .bool g7)], AX [(118423, ⟨1, true, List.map eb a0⟩)]⟩ ?_ ?_
 have h := Ep
 refine AB ?_
 refine wq rfl ?_
 refine AY (p := .bool (decide (((x28).toNat : Int) ≥ (97 : Int)))) rfl rfl ?_
 refine wq rfl ?_
 rcases D7 h with ⟨c8, h⟩ | ⟨c8, h⟩
 refine AY (gy rfl c8) rfl ?_
 refine AY (p := .bool (decide (((x28).toNat : Int) ≤ (122 : Int)))) (gy rfl c8) rfl ?_
 refine AY rfl (BF c8 rfl rfl) ?_
 refine wq rfl ?_
 cases AP h
 exact cq rfl
 iterate 2 refine D8 (gn rfl c8) ?_
 refine AY rfl (BD c8 rfl rfl) ?_
 refine wq rfl ?_
 obtain rfl := AP h
 exact cq rfl
 clear Ep
 refine EN h rfl (fun c9 h => ?_) (fun c9 h => ?_)
 refine O7 ?_
 exact ⟨(), (cq rfl), h⟩
 refine BH ?_
 refine R6 (fun (x : Bool) => ⟨AX [(23, .slr 118423 0 a0.length), (24, j6 (a0.length : Int)), (25, j6 v25l14), (36, .bool x)], AX [(118423, ⟨1, true, List.map eb a0⟩)]⟩) (fun x => OO v25l14 rec x = some y) ?_ ?_
 rintro uV h
 refine EN h rfl (fun c10 h => ?_) (fun c10 h => ?_)
 refine O7 ?_
 exact ⟨(), (cq rfl), h⟩
 refine BH ?_
 refine O7 ?_
 iterate 2 refine AA ?_
 refine AB ?_
 refine wq rfl ?_
 obtain rfl := AP h
 exact F4 (st1 := ⟨AX [(2, .bool false)], AX []⟩) (cq rfl) ⟨rfl, rfl⟩
 obtain ⟨g11, hg11, h⟩ := AQ h
 refine GV ⟨AX [(4, eb x28), (23, .slr 118423 0 a0.length), (24, j6 (a0.length : Int)), (25, j6 v25l14), (36, .bool g11)], AX [(118423, ⟨1, true, List.map eb a0⟩)]⟩ ?_ ?_
 have h := hg11
 refine AB ?_
 refine wq rfl ?_
 refine AY (p := .bool (decide (((x28).toNat : Int) ≥ (48 : Int)))) rfl rfl ?_
 refine wq rfl ?_
 rcases D7 h with ⟨c12, h⟩ | ⟨c12, h⟩
 refine AY (gy rfl c12) rfl ?_
 refine AY (p := .bool (decide (((x28).toNat : Int) ≤ (57 : Int)))) (gy rfl c12) rfl ?_
 refine AY rfl (BF c12 rfl rfl) ?_
 refine wq rfl ?_
 cases AP h
 exact cq rfl
 iterate 2 refine D8 (gn rfl c12) ?_
 refine AY rfl (BD c12 rfl rfl) ?_
 refine wq rfl ?_
 obtain rfl := AP h
 exact cq rfl
 clear hg11
 refine EN h rfl (fun c13 h => ?_) (fun c13 h => ?_)
 refine BH ?_
 exact ⟨g11, (cq rfl), h⟩
 refine AB ?_
 refine wq rfl ?_
 refine AY (p := .bool (((x28).toNat : Int) == (45 : Int))) rfl rfl ?_
 refine wq rfl ?_
 exact ⟨(((x28).toNat : Int) == (45 : Int)), (cq rfl), h⟩
 cases AP h
 exact ED (st1 := ⟨AX [], AX []⟩) (cq rfl) ⟨rfl, rfl⟩
theorem eO (N : Nat) (a0 : List UInt8) (r : Bool) (h : VT N a0 = some r) : Sat Tryz.prog 74 AC [.str a0] (.bool r) AC := by
 refine EO mixed Tryz.func74 Ib (rs := [.bool r]) rfl rfl ?_
 refine AA (AB ?_)
 refine wq rfl ?_
 refine AA ?_
 obtain ⟨g1, hg1, h⟩ := AQ h
 refine GV ⟨AX [(0, .str a0), (21, .bool g1)], AX []⟩ ?_ ?_
 have h := hg1
 refine AB ?_
 iterate 3 refine wq rfl ?_
 rcases D7 h with ⟨c2, h⟩ | ⟨c2, h⟩
 iterate 3 refine D8 (gn rfl c2) ?_
 refine AY rfl (BF c2 rfl rfl) ?_
 refine wq rfl ?_
 iterate 3 refine D8 rfl ?_
 iterate 2 refine wq rfl ?_
 iterate 3 refine D8 rfl ?_
 refine wq rfl ?_
 obtain rfl := AP h
 exact cq rfl
 iterate 3 refine AY (gy rfl c2) rfl ?_
 refine AY rfl (BD c2 rfl rfl) ?_
 refine wq rfl ?_
 rcases D7 h with ⟨c3, h⟩ | ⟨c3, h⟩
 iterate 3 refine D8 (gn rfl c3) ?_
 refine AY rfl (BF c3 rfl rfl) ?_
 refine wq rfl ?_
 iterate 3 refine D8 rfl ?_
 refine wq rfl ?_
 obtain rfl := AP h
 exact cq rfl
 refine AY (gy rfl c3) rfl ?_
 obtain ⟨M7, QL, h⟩ := AQ h
 refine AY (gy rfl c3) (P6 QL rfl rfl) ?_
 refine AY (p := .bool (decide (((M7).toNat : Int) < (97 : Int)))) (gy rfl c3) rfl ?_
 refine AY rfl (BD c3 rfl rfl) ?_
 refine wq rfl ?_
 rcases D7 h with ⟨c4, h⟩ | ⟨c4, h⟩
 iterate 3 refine D8 (gn rfl c4) ?_
 refine AY rfl (BF c4 rfl rfl) ?_
 obtain rfl := AP h
 exact cq rfl
 refine AY (gy rfl c4) rfl ?_
 obtain ⟨BQ, Z8, h⟩ := AQ h
 refine AY (gy rfl c4) (P6 Z8 rfl rfl) ?_
 refine AY (p := .bool (decide (((BQ).toNat : Int) > (122 : Int)))) (gy rfl c4) rfl ?_
 refine AY rfl (BD c4 rfl rfl) ?_
 cases AP h
 exact cq rfl
 clear hg1
 refine EN h rfl (fun c5 h => ?_) (fun c5 h => ?_)
 refine AA (AB ?_)
 refine wq rfl ?_
 obtain rfl := AP h
 refine BZ ?_
 exact ⟨nofun, rfl, rfl⟩
 refine BH ?_
 iterate 2 refine AA ?_
 refine AB ?_
 refine wq rfl ?_
 refine CX rfl (nH 118423 rfl rfl) ?_
 iterate 2 refine wq rfl ?_
 refine CS ?_
 obtain ⟨YJ, Da, h⟩ := AQ h
 refine R5 (aD N a0 N _ _ Da) (cq rfl) ?_
 clear Da
 rcases YJ with YJ | YJ
 rintro e s ⟨rfl, rfl⟩
 refine AA (AB ?_)
 refine wq rfl ?_
 obtain rfl := AP h
 refine BZ ?_
 exact ⟨nofun, rfl, rfl⟩
 rintro e s ⟨rfl, rfl⟩
 obtain rfl := AP h
 exact ⟨nofun, rfl, rfl⟩
def k75 : IC := (.seq (.reg [jn 2 (.box 41 (.t 0)), jc 3 (.bool false)]) (.seq (.reg [ja 4 0 2, jl 5 1 4, ja 6 0 1, jl 7 1 6, jb .eql 8 5 7, jm 3 8]) .ret))
theorem Ia : C9 Tryz.prog Tryz.f75 = some ⟨9, k75, [(.tmp 3)]⟩ := by kernel_rfl
theorem bL (N : Nat) (a0 : AU) (c0 : AU) (r : Bool) (h : X5 N a0 c0 = some r) : Sat Tryz.prog 75 AC [AV a0, .ep [.str c0.Attr, .str c0.Value]] (.bool r) AC := by
 refine EO mixed Tryz.func75 Ia (rs := [.bool r]) rfl rfl ?_
 refine AA (AB ?_)
 refine CX rfl (FE 120002 rfl rfl rfl rfl rfl) ?_
 refine wq rfl ?_
 refine AA (AB ?_)
 iterate 2 refine wq rfl ?_
 refine AY (p := .ep [.str c0.Attr, .str c0.Value]) rfl rfl ?_
 iterate 3 refine wq rfl ?_
 cases AP h
 refine BZ ?_
 exact ⟨nofun, rfl, rfl⟩
def gG : IC := (.seq (.reg [jb .lss 9 8 7]) (.seq (.cond (.t 9) .skip (.exit 0)) (.seq (.block 1 (.seq (.reg [jm 10 8, jm 5 10]) (.seq (.reg [jm 11 1, jm 12 0, jm 13 5, jx 14 2 12 13, jg 15 2 14, jn 16 (.calv (.t 11) [(.t 15)])]) (.cond (.t 16) (.seq (.reg [jm 17 5, jm 4 17]) .ret) .skip)))) (.reg [ju .add 18 8 1, jm 8 18]))))
def Hy : IC := (.seq (.reg [jc 4 (j6 0)]) (.seq (.seq (.reg [jm 6 0, jL 7 6, jc 8 (j6 0)]) (.block 0 (.loop gG))) (.seq (.reg [jc 4 (j6 (-1))]) .ret)))
theorem sI : C9 Tryz.prog Tryz.f76 = some ⟨19, Hy, [(.tmp 4)]⟩ := by kernel_rfl
theorem H9 (N : Nat) (a0 : List AU) (GZ : AU) : ∀ (n : Nat) (x : Int) (y : Unit ⊕ Int), BN N a0 GZ n x = some y → WX Tryz.prog (fun _ => false) (.loop gG) ((fun (x : Int) => ⟨AX [(0, .sl 2 (List.map AV a0)), (1, .clo 75 [.ep [.str GZ.Attr, .str GZ.Value]]), (7, j6 (a0.length : Int)), (8, j6 x)], AX []⟩) x) ((Sum.elim (fun y e s => e = .exit 0 ∧ s = ⟨AX [], AX []⟩) (fun y e s => e = .ret ∧ s = ⟨AX [(4, j6 y)], AX []⟩) : (Unit ⊕ Int) → Xt → St → Prop) y) := by
 refine FB _ _ (BN N a0 GZ) (CO N a0 GZ) (fun _ => rfl) (fun _ _ => rfl) ?_
 rintro rec v8l6 y h
 refine AA (AB ?_)
 refine wq rfl ?_
 refine AA ?_
 refine EN h rfl (fun c1 h => ?_) (fun c1 h => ?_)
 refine BH (AA (CS (AA (AB ?_))))
 iterate 2 refine wq rfl ?_
 refine AA (AB ?_)
 iterate 3 refine wq rfl ?_
 obtain ⟨M7, QL, h⟩ := AQ h
 refine AY rfl (EW (cs := [.str M7.Attr, .str M7.Value]) QL rfl rfl rfl) ?_
 refine AY (p := AV M7) rfl rfl ?_
 obtain ⟨YM, hx16, h⟩ := AQ h
 refine CX rfl (WI (bL N _ _ _ hx16) rfl rfl rfl (.cons A8 (.cons A8 .nil)) rfl rfl rfl) ?_
 refine EN h rfl (fun c2 h => ?_) (fun c2 h => ?_)
 refine AA (AB ?_)
 iterate 2 refine wq rfl ?_
 obtain rfl := AP h
 exact F4 (st1 := ⟨AX [(4, j6 v8l6)], AX []⟩) (cq rfl) ⟨rfl, rfl⟩
 refine BH (AB ?_)
 refine AY (p := j6 (CE (v8l6 + (1 : Int)))) rfl rfl ?_
 refine wq rfl ?_
 exact ⟨(CE (v8l6 + (1 : Int))), (cq rfl), h⟩
 cases AP h
 exact ED (st1 := ⟨AX [], AX []⟩) (cq rfl) ⟨rfl, rfl⟩
theorem IA (N : Nat) (a0 : List AU) (GZ : AU) (r : Int) (h : EH N a0 GZ = some r) : Sat Tryz.prog 76 AC [.sl 2 (List.map AV a0), .clo 75 [.ep [.str GZ.Attr, .str GZ.Value]]] (j6 r) AC := by
 refine EO mixed Tryz.func76 sI (rs := [j6 r]) rfl rfl ?_
 refine AA (AB ?_)
 refine wq rfl ?_
 iterate 2 refine AA ?_
 refine AB ?_
 refine wq rfl ?_
 refine AY rfl (CR rfl) ?_
 refine wq rfl ?_
 refine CS ?_
 obtain ⟨y3, hy3, h⟩ := AQ h
 refine R5 (H9 N a0 GZ N _ _ hy3) (cq rfl) ?_
 clear hy3
 rcases y3 with y3 | y3
 rintro e s ⟨rfl, rfl⟩
 refine AA (AB ?_)
 refine wq rfl ?_
 cases AP h
 refine BZ ?_
 exact ⟨nofun, rfl, rfl⟩
 rintro e s ⟨rfl, rfl⟩
 obtain rfl := AP h
 exact ⟨nofun, rfl, rfl⟩
def Iq : IC := (.seq (.reg [jc 4 (.bool false)]) (.seq (.reg [jm 5 0, jm 6 1, jn 7 (.call 76 [(.t 5), (.t 6)]), ju .geq 8 7 0, jm 4 8]) .ret))
theorem sN : C9 Tryz.prog Tryz.f55 = some ⟨9, Iq, [(.tmp 4)]⟩ := by kernel_rfl
theorem H6 (N : Nat) (a0 : List AU) (GZ : AU) (r : Bool) (h : CQ N a0 GZ = some r) : Sat Tryz.prog 55 AC [.sl 2 (List.map AV a0), .clo 75 [.ep [.str GZ.Attr, .str GZ.Value]]] (.bool r) AC := by
 refine EO mixed Tryz.func55 sN (rs := [.bool r]) rfl rfl ?_
 refine AA (AB ?_)
 refine wq rfl ?_
 refine AA (AB ?_)
 iterate 2 refine wq rfl ?_
 obtain ⟨x7, hx7, h⟩ := AQ h
 refine CX rfl (CZ (IA N _ _ _ hx7) rfl (.cons A8 (.cons A8 .nil)) rfl rfl rfl) ?_
 iterate 2 refine wq rfl ?_
 cases AP h
 refine BZ ?_
 exact ⟨nofun, rfl, rfl⟩
def wT : IC := (.seq (.reg [jb .lss 8 7 6]) (.seq (.cond (.t 8) .skip (.exit 0)) (.seq (.block 1 (.seq (.reg [jm 9 7, jx 10 2 5 7, jg 11 2 10, jn 4 (.box 41 (.c (.agg [(.str []), (.str [])]))), jm 3 9, js 2 4 11]) (.seq (.seq (.reg [jm 12 3, ju .geq 13 12 4, jm 14 13, jf 14 15 (.fda 0 (.t 4)), jf 14 16 (.load 1 false (.t 15)), jf 14 17 (.call 74 [(.t 16)]), jf 14 18 (.un .not (.t 17)), jo 19 14 18, jm 20 19, jf 20 21 (.fda 1 (.t 4)), jf 20 22 (.load 1 false (.t 21)), jf 20 23 (.bin .eql (.t 22) (.c (.str []))), jo 24 20 23, jm 25 24, jf 25 26 (.fda 1 (.t 4)), jf 25 27 (.load 1 false (.t 26)), jf 25 28 (.len true (.t 27)), jf 25 29 (.bin .gtr (.t 28) (ji 60)), jo 30 25 29]) (.cond (.t 30) (.seq (.reg [jc 2 (.bool false)]) .ret) .skip)) (.seq (.reg [jm 31 0, jm 32 3, jn 33 (.slcl 2 (.t 31) none (some (.t 32))), jn 34 (.mkf 75 [(.t 4)]), jn 35 (.call 55 [(.t 33), (.t 34)])]) (.cond (.t 35) (.seq (.reg [jc 2 (.bool false)]) .ret) .skip))))) (.reg [ju .add 36 7 1, jm 7 36]))))
def k54 : IC := (.seq (.reg [jc 2 (.bool false)]) (.seq (.seq (.reg [jm 5 0, jL 6 5, jc 7 (j6 0)]) (.block 0 (.loop wT))) (.seq (.reg [jm 37 0, jL 38 37, ju .gtr 39 38 0, jm 2 39]) .ret)))
theorem Iu : C9 Tryz.prog Tryz.f54 = some ⟨40, k54, [(.tmp 2)]⟩ := by kernel_rfl
theorem eG (N : Nat) (a0 : List AU) : ∀ (n : Nat) (x : Int) (y : Unit ⊕ Bool), KT N a0 n x = some y → WX Tryz.prog (fun _ => false) (.loop wT) ((fun (x : Int) => ⟨AX [(0, .sl 2 (List.map AV a0)), (5, .sl 2 (List.map AV a0)), (6, j6 (a0.length : Int)), (7, j6 x)], AX []⟩) x) ((Sum.elim (fun y e s => e = .exit 0 ∧ s = ⟨AX [(0, .sl 2 (List.map AV a0))], AX []⟩) (fun y e s => e = .ret ∧ s = ⟨AX [(2, .bool y)], AX []⟩) : (Unit ⊕ Bool) → Xt → St → Prop) y) := by
 refine FB _ _ (KT N a0) (OQ N a0) (fun _ => rfl) (fun _ _ => rfl) ?_
 rintro rec v7l6 y h
 refine AA (AB ?_)
 refine wq rfl ?_
 refine AA ?_
 refine EN h rfl (fun c1 h => ?_) (fun c1 h => ?_)
 refine BH (AA (CS (AA (AB ?_))))
 refine wq rfl ?_
 obtain ⟨PI, U4, h⟩ := AQ h
 refine AY rfl (EW (cs := [.str PI.Attr, .str PI.Value]) U4 rfl rfl rfl) ?_
 refine AY (p := AV PI) rfl rfl ?_
 refine CX rfl (FE 86404 rfl rfl rfl rfl rfl) ?_
 refine wq rfl ?_
 refine EC (e' := AV PI) rfl rfl rfl rfl rfl rfl rfl rfl nofun rfl ?_
 refine AA ?_
 obtain ⟨g2, hg2, h⟩ := AQ h
 refine GV ⟨AX [(0, .sl 2 (List.map AV a0)), (3, j6 v7l6), (4, .ptr 86404 0 0), (5, .sl 2 (List.map AV a0)), (6, j6 (a0.length : Int)), (7, j6 v7l6), (30, .bool g2)], AX [(86404, ⟨2, false, [AV PI]⟩)]⟩ ?_ ?_
 have h := hg2
 refine AB ?_
 iterate 3 refine wq rfl ?_
 rcases D7 h with ⟨c3, h⟩ | ⟨c3, h⟩
 iterate 4 refine D8 (gn rfl c3) ?_
 refine AY rfl (BF c3 rfl rfl) ?_
 refine wq rfl ?_
 iterate 3 refine D8 rfl ?_
 iterate 2 refine wq rfl ?_
 iterate 4 refine D8 rfl ?_
 refine wq rfl ?_
 obtain rfl := AP h
 exact cq rfl
 iterate 2 refine AY (gy rfl c3) rfl ?_
 obtain ⟨EA, U3, h⟩ := AQ h
 refine CX (gy rfl c3) (CZ (eO N _ _ U3) rfl (.cons A8 .nil) rfl rfl rfl) ?_
 refine AY (gy rfl c3) rfl ?_
 refine AY rfl (BD c3 rfl rfl) ?_
 refine wq rfl ?_
 rcases D7 h with ⟨c4, h⟩ | ⟨c4, h⟩
 iterate 3 refine D8 (gn rfl c4) ?_
 refine AY rfl (BF c4 rfl rfl) ?_
 refine wq rfl ?_
 iterate 4 refine D8 rfl ?_
 refine wq rfl ?_
 obtain rfl := AP h
 exact cq rfl
 iterate 3 refine AY (gy rfl c4) rfl ?_
 refine AY rfl (BD c4 rfl rfl) ?_
 refine wq rfl ?_
 rcases D7 h with ⟨c5, h⟩ | ⟨c5, h⟩
 iterate 4 refine D8 (gn rfl c5) ?_
 refine AY rfl (BF c5 rfl rfl) ?_
 obtain rfl := AP h
 exact cq rfl
 iterate 4 refine AY (gy rfl c5) rfl ?_
 refine AY rfl (BD c5 rfl rfl) ?_
 cases AP h
 exact cq rfl
 clear hg2
 refine EN h rfl (fun c6 h => ?_) (fun c6 h => ?_)
 refine AA (AB ?_)
 refine wq rfl ?_
 obtain rfl := AP h
 exact F4 (st1 := ⟨AX [(2, .bool false)], AX []⟩) (cq rfl) ⟨rfl, rfl⟩
 refine BH (AA (AB ?_))
 iterate 2 refine wq rfl ?_
 obtain ⟨x33, Lb, h⟩ := AQ h
 refine AY rfl (Br Lb rfl rfl) ?_
 refine wq rfl ?_
 refine wn (RO 86404 rfl rfl rfl) ?_
 obtain ⟨K4, La, h⟩ := AQ h
 refine CX rfl (CZ (H6 N _ _ _ La) rfl (.cons A8 (.cons A8 .nil)) rfl rfl rfl) ?_
 refine EN h rfl (fun c7 h => ?_) (fun c7 h => ?_)
 refine AA (AB ?_)
 refine wq rfl ?_
 obtain rfl := AP h
 exact F4 (st1 := ⟨AX [(2, .bool false)], AX []⟩) (cq rfl) ⟨rfl, rfl⟩
 refine BH (AB ?_)
 refine AY (p := j6 (CE (v7l6 + (1 : Int)))) rfl rfl ?_
 refine wq rfl ?_
 exact ⟨(CE (v7l6 + (1 : Int))), (cq rfl), h⟩
 cases AP h
 exact ED (st1 := ⟨AX [(0, .sl 2 (List.map AV a0))], AX []⟩) (cq rfl) ⟨rfl, rfl⟩
theorem XW (N : Nat) (a0 : List AU) (r : Bool) (h : VB N a0 = some r) : Sat Tryz.prog 54 AC [.sl 2 (List.map AV a0)] (.bool r) AC := by
 refine EO mixed Tryz.func54 Iu (rs := [.bool r]) rfl rfl ?_
 refine AA (AB ?_)
 refine wq rfl ?_
 iterate 2 refine AA ?_
 refine AB ?_
 refine wq rfl ?_
 refine AY rfl (CR rfl) ?_
 refine wq rfl ?_
 refine CS ?_
 obtain ⟨y8, Al, h⟩ := AQ h
 refine R5 (eG N a0 N _ _ Al) (cq rfl) ?_
 clear Al
 rcases y8 with y8 | y8
 rintro e s ⟨rfl, rfl⟩
 refine AA (AB ?_)
 refine wq rfl ?_
 refine AY rfl (CR rfl) ?_
 iterate 2 refine wq rfl ?_
 cases AP h
 refine BZ ?_
 exact ⟨nofun, rfl, rfl⟩
 rintro e s ⟨rfl, rfl⟩
 obtain rfl := AP h
 exact ⟨nofun, rfl, rfl⟩
def wQ : IC := (.seq (.reg [jb .lss 11 10 9]) (.seq (.cond (.t 11) .skip (.exit 0)) (.seq (.block 1 (.seq (.reg [jm 12 10, jx 13 1 8 10, jl 14 1 13, jm 4 12, jm 5 14]) (.seq (.reg [jm 15 5, jn 16 (.bin .geq (.t 15) (.c (.int .u8 65))), jm 17 16, jt 17 18 (.mov (.t 5)), jt 17 19 (.bin .leq (.t 18) (.c (.int .u8 90))), jp 20 17 19]) (.cond (.t 20) (.reg [jm 21 3, jm 22 4, jm 23 5, jn 24 (.bin .add (.t 23) (.c (.int .u8 32))), jx 25 1 21 22, js 1 25 24]) .skip)))) (.reg [ju .add 26 10 1, jm 10 26]))))
def k78 : IC := (.seq (.reg [jc 2 (.str [])]) (.seq (.reg [jm 6 0, jn 7 (.cvs (.t 6)), jm 3 7]) (.seq (.seq (.reg [jm 8 3, jL 9 8, jc 10 (j6 0)]) (.block 0 (.loop wQ))) (.seq (.reg [jm 27 3, jn 28 (.cvb (.t 27)), jm 2 28]) .ret))))
theorem Hu : C9 Tryz.prog Tryz.f78 = some ⟨29, k78, [(.tmp 2)]⟩ := by kernel_rfl
theorem eF (N : Nat) (a0 : List UInt8) : ∀ (n : Nat) (x : Int × List UInt8) (y : List UInt8), J9 N a0 n x = some y → WX Tryz.prog (fun _ => false) (.loop wQ) ((fun (x : Int × List UInt8) => ⟨AX [(3, .slr 124807 0 x.2.length), (8, .slr 124807 0 x.2.length), (9, j6 (a0.length : Int)), (10, j6 x.1)], AX [(124807, ⟨1, true, List.map eb x.2⟩)]⟩) x) ((fun y e s => e = .exit 0 ∧ s = ⟨AX [(3, .slr 124807 0 y.length)], AX [(124807, ⟨1, true, List.map eb y⟩)]⟩ : (List UInt8) → Xt → St → Prop) y) := by
 refine FB _ _ (J9 N a0) (OM N a0) (fun _ => rfl) (fun _ _ => rfl) ?_
 rintro rec ⟨v10l8, F6⟩ y h
 refine AA (AB ?_)
 refine wq rfl ?_
 refine AA ?_
 refine EN h rfl (fun c1 h => ?_) (fun c1 h => ?_)
 refine BH ?_
 refine R6 (fun (x : List UInt8) => ⟨AX [(3, .slr 124807 0 x.length), (8, .slr 124807 0 x.length), (9, j6 (a0.length : Int)), (10, j6 v10l8)], AX [(124807, ⟨1, true, List.map eb x⟩)]⟩) (fun x => Q3 v10l8 rec x = some y) ?_ ?_
 rintro WV h
 refine AB ?_
 refine AY (p := j6 (CE (v10l8 + (1 : Int)))) rfl rfl ?_
 refine wq rfl ?_
 exact ⟨((CE (v10l8 + (1 : Int))), WV), (cq rfl), h⟩
 refine CS (AA (AB ?_))
 refine wq rfl ?_
 obtain ⟨K5, Z9, h⟩ := AQ h
 refine AY rfl (QJ Z9 rfl rfl rfl rfl) ?_
 obtain ⟨M7, QL, h⟩ := AQ h
 refine AY rfl (V3 (f := eb) (v := eb M7) QL rfl rfl rfl) ?_
 iterate 2 refine wq rfl ?_
 obtain ⟨g2, hg2, h⟩ := AQ h
 refine GV ⟨AX [(3, .slr 124807 0 F6.length), (4, j6 v10l8), (5, eb M7), (8, .slr 124807 0 F6.length), (9, j6 (a0.length : Int)), (10, j6 v10l8), (20, .bool g2)], AX [(124807, ⟨1, true, List.map eb F6⟩)]⟩ ?_ ?_
 have h := hg2
 refine AB ?_
 refine wq rfl ?_
 refine AY (p := .bool (decide (((M7).toNat : Int) ≥ (65 : Int)))) rfl rfl ?_
 refine wq rfl ?_
 rcases D7 h with ⟨c3, h⟩ | ⟨c3, h⟩
 refine AY (gy rfl c3) rfl ?_
 refine AY (p := .bool (decide (((M7).toNat : Int) ≤ (90 : Int)))) (gy rfl c3) rfl ?_
 refine AY rfl (BF c3 rfl rfl) ?_
 cases AP h
 exact cq rfl
 iterate 2 refine D8 (gn rfl c3) ?_
 refine AY rfl (BD c3 rfl rfl) ?_
 obtain rfl := AP h
 exact cq rfl
 clear hg2
 refine EN h rfl (fun c4 h => ?_) (fun c4 h => ?_)
 refine AB ?_
 iterate 3 refine wq rfl ?_
 refine AY rfl (Bp (a := M7) (b := (32 : UInt8)) rfl rfl) ?_
 obtain ⟨x25, hx25, h⟩ := AQ h
 refine AY rfl (QJ hx25 rfl rfl rfl rfl) ?_
 obtain ⟨uN, nU, h⟩ := AQ h
 refine Ar (f := eb) (e' := (M7 + (32 : UInt8))) nU rfl rfl rfl rfl rfl rfl rfl rfl (fun _ => rfl) rfl ?_
 exact ⟨(F6.set x25 (M7 + (32 : UInt8))), (BX.trans (KS 3 (GG (congrArg (PV.slr 124807 0) (by simp only [List.length_set, List.length_replicate] : F6.length = (F6.set x25 (M7 + (32 : UInt8))).length))) rfl) (BX.trans (KS 8 (GG (congrArg (PV.slr 124807 0) (by simp only [List.length_set, List.length_replicate] : F6.length = (F6.set x25 (M7 + (32 : UInt8))).length))) rfl) (cq rfl))), h⟩
 refine BH ?_
 exact ⟨F6, (cq rfl), h⟩
 obtain rfl := AP h
 exact ED (st1 := ⟨AX [(3, .slr 124807 0 F6.length)], AX [(124807, ⟨1, true, List.map eb F6⟩)]⟩) (cq rfl) ⟨rfl, rfl⟩
theorem TU (N : Nat) (a0 : List UInt8) (r : List UInt8) (h : TE N a0 = some r) : Sat Tryz.prog 78 AC [.str a0] (.str r) AC := by
 refine EO mixed Tryz.func78 Hu (rs := [.str r]) rfl rfl ?_
 refine AA (AB ?_)
 refine wq rfl ?_
 refine AA (AB ?_)
 refine wq rfl ?_
 refine CX rfl (nH 124807 rfl rfl) ?_
 refine wq rfl ?_
 iterate 2 refine AA ?_
 refine AB ?_
 iterate 3 refine wq rfl ?_
 refine CS ?_
 obtain ⟨y6, rA, h⟩ := AQ h
 refine R5 (eF N a0 N _ _ rA) (cq rfl) ?_
 rintro e s ⟨rfl, rfl⟩
 refine AA (AB ?_)
 refine wq rfl ?_
 refine AY rfl (V4 (l := y6) rfl rfl (BP (f := eb) (l := y6))) ?_
 refine wq rfl ?_
 obtain rfl := AP h
 refine BZ ?_
 exact ⟨nofun, rfl, rfl⟩
def k79 : IC := (.seq (.reg [jc 0 .nl]) (.seq (.reg [jn 1 (.build [(.str []), (j6 0), (.bool false)] [(0, (1, (.c (.str [97, 99, 105])))), (1, (1, (ji 2)))]), jn 2 (.build [(.str []), (j6 0), (.bool false)] [(0, (1, (.c (.str [99])))), (1, (1, (ji 1))), (2, (1, jB))]), jn 3 (.build [(.str []), (j6 0), (.bool false)] [(0, (1, (.c (.str [99, 110])))), (1, (1, (ji 1)))]), jn 4 (.build [(.str []), (j6 0), (.bool false)] [(0, (1, (.c (.str [100, 99])))), (1, (1, (ji 1)))]), jn 5 (.build [(.str []), (j6 0), (.bool false)] [(0, (1, (.c (.str [100, 101, 115, 99, 114, 105, 112, 116, 105, 111, 110])))), (1, (1, (ji 1)))]), jn 6 (.build [(.str []), (j6 0), (.bool false)] [(0, (1, (.c (.str [101, 110, 116, 114, 121, 105, 100])))), (1, (1, (ji 2))), (2, (1, jB))]), jn 7 (.build [(.str []), (j6 0), (.bool false)] [(0, (1, (.c (.str [109, 97, 105, 108])))), (1, (1, (ji 2)))]), jn 8 (.build [(.str []), (j6 0), (.bool false)] [(0, (1, (.c (.str [109, 101, 109, 98, 101, 114])))), (1, (1, (ji 5)))]), jn 9 (.build [(.str []), (j6 0), (.bool false)] [(0, (1, (.c (.str [111])))), (1, (1, (ji 1)))]), jn 10 (.build [(.str []), (j6 0), (.bool false)] [(0, (1, (.c (.str [111, 117])))), (1, (1, (ji 1)))]), jn 11 (.build [(.str []), (j6 0), (.bool false)] [(0, (1, (.c (.str [115, 110])))), (1, (1, (ji 1)))]), jn 12 (.build [(.str []), (j6 0), (.bool false)] [(0, (1, (.c (.str [116, 105, 116, 108, 101])))), (1, (1, (ji 1))), (2, (1, jB))]), jn 13 (.build [(.str []), (j6 0), (.bool false)] [(0, (1, (.c (.str [117, 105, 100])))), (1, (1, (ji 1)))]), jn 14 (.build [(.str []), (j6 0), (.bool false)] [(0, (1, (.c (.str [117, 105, 100, 110, 117, 109, 98, 101, 114])))), (1, (1, (ji 3))), (2, (1, jB))]), jn 15 (.build [(.str []), (j6 0), (.bool false)] [(0, (1, (.c (.str [117, 115, 101, 114, 112, 97, 115, 115, 119, 111, 114, 100])))), (1, (1, (ji 4)))]), jn 16 (.bsl 3 [(.t 1), (.t 2), (.t 3), (.t 4), (.t 5), (.t 6), (.t 7), (.t 8), (.t 9), (.t 10), (.t 11), (.t 12), (.t 13), (.t 14), (.t 15)]), jm 0 16]) .ret))
theorem Ht : C9 Tryz.prog Tryz.f79 = some ⟨17, k79, [(.tmp 0)]⟩ := by kernel_rfl
theorem bH (N : Nat)  (r : List BJ) (h : TQ N  = some r) : Sat Tryz.prog 79 AC [] (.sl 3 (List.map FI r)) AC := by
 refine EO mixed Tryz.func79 Ht (rs := [.sl 3 (List.map FI r)]) rfl rfl ?_
 refine AA (AB ?_)
 refine wq rfl ?_
 refine AA (AB ?_)
 refine AY (p := .agg [.str ([97, 99, 105] : List UInt8), j6 2, .bool false]) rfl rfl ?_
 refine AY (p := .agg [.str ([99] : List UInt8), j6 1, .bool true]) rfl rfl ?_
 refine AY (p := .agg [.str ([99, 110] : List UInt8), j6 1, .bool false]) rfl rfl ?_
 refine AY (p := .agg [.str ([100, 99] : List UInt8), j6 1, .bool false]) rfl rfl ?_
 refine AY (p := .agg [.str ([100, 101, 115, 99, 114, 105, 112, 116, 105, 111, 110] : List UInt8), j6 1, .bool false]) rfl rfl ?_
 refine AY (p := .agg [.str ([101, 110, 116, 114, 121, 105, 100] : List UInt8), j6 2, .bool true]) rfl rfl ?_
 refine AY (p := .agg [.str ([109, 97, 105, 108] : List UInt8), j6 2, .bool false]) rfl rfl ?_
 refine AY (p := .agg [.str ([109, 101, 109, 98, 101, 114] : List UInt8), j6 5, .bool false]) rfl rfl ?_
 refine AY (p := .agg [.str ([111] : List UInt8), j6 1, .bool false]) rfl rfl ?_
 refine AY (p := .agg [.str ([111, 117] : List UInt8), j6 1, .bool false]) rfl rfl ?_
 refine AY (p := .agg [.str ([115, 110] : List UInt8), j6 1, .bool false]) rfl rfl ?_
 refine AY (p := .agg [.str ([116, 105, 116, 108, 101] : List UInt8), j6 1, .bool true]) rfl rfl ?_
 refine AY (p := .agg [.str ([117, 105, 100] : List UInt8), j6 1, .bool false]) rfl rfl ?_
 refine AY (p := .agg [.str ([117, 105, 100, 110, 117, 109, 98, 101, 114] : List UInt8), j6 3, .bool true]) rfl rfl ?_
 refine AY (p := .agg [.str ([117, 115, 101, 114, 112, 97, 115, 115, 119, 111, 114, 100] : List UInt8), j6 4, .bool false]) rfl rfl ?_
 refine CX rfl (QK 126416 rfl rfl rfl) ?_
 refine wq rfl ?_
 cases AP h
 refine F4 (st1 := ⟨AX [(0, .sl 3 (List.map FI [(⟨([97, 99, 105] : List UInt8), 2, false⟩ : BJ), (⟨([99] : List UInt8), 1, true⟩ : BJ), (⟨([99, 110] : List UInt8), 1, false⟩ : BJ), (⟨([100, 99] : List UInt8), 1, false⟩ : BJ), (⟨([100, 101, 115, 99, 114, 105, 112, 116, 105, 111, 110] : List UInt8), 1, false⟩ : BJ), (⟨([101, 110, 116, 114, 121, 105, 100] : List UInt8), 2, true⟩ : BJ), (⟨([109, 97, 105, 108] : List UInt8), 2, false⟩ : BJ), (⟨([109, 101, 109, 98, 101, 114] : List UInt8), 5, false⟩ : BJ), (⟨([111] : List UInt8), 1, false⟩ : BJ), (⟨([111, 117] : List UInt8), 1, false⟩ : BJ), (⟨([115, 110] : List UInt8), 1, false⟩ : BJ), (⟨([116, 105, 116, 108, 101] : List UInt8), 1, true⟩ : BJ), (⟨([117, 105, 100] : List UInt8), 1, false⟩ : BJ), (⟨([117, 105, 100, 110, 117, 109, 98, 101, 114] : List UInt8), 3, true⟩ : BJ), (⟨([117, 115, 101, 114, 112, 97, 115, 115, 119, 111, 114, 100] : List UInt8), 4, false⟩ : BJ)]))], AX []⟩) (BX.trans (Vd.freeze 126416 _ rfl rfl rfl) (BX.trans (KS 0 (GG (congrArg (PV.sl 3) (BP (f := FI) (l := [(⟨([97, 99, 105] : List UInt8), 2, false⟩ : BJ), (⟨([99] : List UInt8), 1, true⟩ : BJ), (⟨([99, 110] : List UInt8), 1, false⟩ : BJ), (⟨([100, 99] : List UInt8), 1, false⟩ : BJ), (⟨([100, 101, 115, 99, 114, 105, 112, 116, 105, 111, 110] : List UInt8), 1, false⟩ : BJ), (⟨([101, 110, 116, 114, 121, 105, 100] : List UInt8), 2, true⟩ : BJ), (⟨([109, 97, 105, 108] : List UInt8), 2, false⟩ : BJ), (⟨([109, 101, 109, 98, 101, 114] : List UInt8), 5, false⟩ : BJ), (⟨([111] : List UInt8), 1, false⟩ : BJ), (⟨([111, 117] : List UInt8), 1, false⟩ : BJ), (⟨([115, 110] : List UInt8), 1, false⟩ : BJ), (⟨([116, 105, 116, 108, 101] : List UInt8), 1, true⟩ : BJ), (⟨([117, 105, 100] : List UInt8), 1, false⟩ : BJ), (⟨([117, 105, 100, 110, 117, 109, 98, 101, 114] : List UInt8), 3, true⟩ : BJ), (⟨([117, 115, 101, 114, 112, 97, 115, 115, 119, 111, 114, 100] : List UInt8), 4, false⟩ : BJ)])))) rfl) (cq rfl))) ?_
 exact ⟨nofun, rfl, rfl⟩
def wS : IC := (.seq (.reg [jb .lss 11 10 9]) (.seq (.cond (.t 11) .skip (.exit 0)) (.seq (.block 1 (.seq (.reg [jx 12 3 8 10, jg 13 3 12, jn 5 (.box 90 (.c (.agg [(.str []), (j6 0), (.bool false)]))), js 3 5 13]) (.seq (.reg [ja 14 0 5, jl 15 1 14, jm 16 0, jb .eql 17 15 16]) (.cond (.t 17) (.seq (.reg [jg 18 3 5, js 3 2 18, jc 3 (.bool true)]) .ret) .skip)))) (.reg [ju .add 19 10 1, jm 10 19]))))
def k58 : IC := (.seq (.reg [jn 2 (.box 90 (.c (.agg [(.str []), (j6 0), (.bool false)]))), jc 3 (.bool false)]) (.seq (.reg [jm 6 0, jn 7 (.call 78 [(.t 6)]), jm 0 7]) (.seq (.seq (.reg [jn 8 (.call 79 []), jL 9 8, jc 10 (j6 0)]) (.block 0 (.loop wS))) (.seq (.reg [jn 20 (.build [(.str []), (j6 0), (.bool false)] []), js 3 2 20, jc 3 (.bool false)]) .ret))))
theorem Im : C9 Tryz.prog Tryz.f58 = some ⟨21, k58, [(.cell 3 true 2), (.tmp 3)]⟩ := by kernel_rfl
theorem YN (N : Nat) (x7 : List UInt8) (x8 : List BJ) : ∀ (n : Nat) (x : Int) (y : Unit ⊕ (BJ × Bool)), HY N x7 x8 n x = some y → WX Tryz.prog (fun _ => false) (.loop wS) ((fun (x : Int) => ⟨AX [(0, .str x7), (2, .ptr 92802 0 0), (8, .sl 3 (List.map FI x8)), (9, j6 (x8.length : Int)), (10, j6 x)], AX [(92802, ⟨3, false, [.agg [.str ([] : List UInt8), j6 0, .bool false]]⟩)]⟩) x) ((Sum.elim (fun y e s => e = .exit 0 ∧ s = ⟨AX [(2, .ptr 92802 0 0)], AX [(92802, ⟨3, false, [.agg [.str ([] : List UInt8), j6 0, .bool false]]⟩)]⟩) (fun y e s => e = .ret ∧ s = ⟨AX [(2, .ptr 92802 0 0), (3, .bool y.2)], AX [(92802, ⟨3, false, [FI y.1]⟩)]⟩) : (Unit ⊕ (BJ × Bool)) → Xt → St → Prop) y) := by
 refine FB _ _ (HY N x7 x8) (L8 N x7 x8) (fun _ => rfl) (fun _ _ => rfl) ?_
 rintro rec v10l8 y h
 refine AA (AB ?_)
 refine wq rfl ?_
 refine AA ?_
 refine EN h rfl (fun c1 h => ?_) (fun c1 h => ?_)
 refine BH (AA (CS (AA (AB ?_))))
 obtain ⟨LF, ZA, h⟩ := AQ h
 refine AY rfl (EW (cs := [.str LF.Name, j6 LF.Syntax, .bool LF.Single]) ZA rfl rfl rfl) ?_
 refine AY (p := FI LF) rfl rfl ?_
 refine CX rfl (FE 92805 rfl rfl rfl rfl rfl) ?_
 refine EC (e' := FI LF) rfl rfl rfl rfl rfl rfl rfl rfl nofun rfl ?_
 refine AA (AB ?_)
 iterate 4 refine wq rfl ?_
 refine EN h rfl (fun c2 h => ?_) (fun c2 h => ?_)
 refine AA (AB ?_)
 refine AY (p := FI LF) rfl rfl ?_
 refine EC (e' := FI LF) rfl rfl rfl rfl rfl rfl rfl rfl nofun rfl ?_
 refine wq rfl ?_
 cases AP h
 exact F4 (st1 := ⟨AX [(2, .ptr 92802 0 0), (3, .bool true)], AX [(92802, ⟨3, false, [FI LF]⟩)]⟩) (cq rfl) ⟨rfl, rfl⟩
 refine BH (AB ?_)
 refine AY (p := j6 (CE (v10l8 + (1 : Int)))) rfl rfl ?_
 refine wq rfl ?_
 exact ⟨(CE (v10l8 + (1 : Int))), (cq rfl), h⟩
 cases AP h
 exact ED (st1 := ⟨AX [(2, .ptr 92802 0 0)], AX [(92802, ⟨3, false, [.agg [.str ([] : List UInt8), j6 0, .bool false]]⟩)]⟩) (cq rfl) ⟨rfl, rfl⟩
theorem UD (N : Nat) (a0 : List UInt8) (r : BJ × Bool) (h : OZ N a0 = some r) : Sat Tryz.prog 58 AC [.str a0] (.tup [FI r.1, .bool r.2]) AC := by
 refine EO mixed Tryz.func58 Im (rs := [FI r.1, .bool r.2]) rfl rfl ?_
 refine AA (AB ?_)
 refine CX rfl (FE 92802 rfl rfl rfl rfl rfl) ?_
 refine wq rfl ?_
 refine AA (AB ?_)
 refine wq rfl ?_
 obtain ⟨x7, hx7, h⟩ := AQ h
 refine CX rfl (CZ (TU N _ _ hx7) rfl (.cons A8 .nil) rfl rfl rfl) ?_
 refine wq rfl ?_
 iterate 2 refine AA ?_
 refine AB ?_
 obtain ⟨x8, De, h⟩ := AQ h
 refine CX rfl (CZ (bH N _ De) rfl .nil rfl rfl rfl) ?_
 refine AY rfl (CR rfl) ?_
 refine wq rfl ?_
 refine CS ?_
 obtain ⟨y3, hy3, h⟩ := AQ h
 refine R5 (YN N x7 x8 N _ _ hy3) (cq rfl) ?_
 clear hy3
 rcases y3 with y3 | y3
 rintro e s ⟨rfl, rfl⟩
 refine AA (AB ?_)
 refine AY (p := .agg [.str ([] : List UInt8), j6 0, .bool false]) rfl rfl ?_
 refine EC (e' := .agg [.str ([] : List UInt8), j6 0, .bool false]) rfl rfl rfl rfl rfl rfl rfl rfl nofun rfl ?_
 refine wq rfl ?_
 cases AP h
 refine BZ ?_
 exact ⟨nofun, rfl, rfl⟩
 rintro e s ⟨rfl, rfl⟩
 cases AP h
 exact ⟨nofun, rfl, rfl⟩
def qX : IC := (.seq (.seq (.reg [jm 5 0, jS 6 5, ju .gtr 7 6 0, jm 8 7, jt 8 9 (.mov (.t 0)), jt 8 10 (.mov (.t 0)), jt 8 11 (.len true (.t 10)), jt 8 12 (.bin .sub (.t 11) (ji 1)), jt 8 13 (.idxs (.t 9) (.t 12)), jt 8 14 (.mov (.t 1)), jt 8 15 (.bin .eql (.t 13) (.t 14)), jp 16 8 15]) (.cond (.t 16) .skip (.exit 0))) (.block 1 (.reg [jm 17 0, jm 18 0, jS 19 18, ju .sub 20 19 1, jn 21 (.slcs (.t 17) none (some (.t 20))), jm 0 21])))
def k113 : IC := (.seq (.reg [jc 4 (.str [])]) (.seq (.block 0 (.loop qX)) (.seq (.reg [jm 22 0, jm 4 22]) .ret)))
theorem Cu : C9 Tryz.prog Tryz.f113 = some ⟨23, k113, [(.tmp 4)]⟩ := by kernel_rfl
theorem Q9 (N : Nat) (a1 : UInt8) : ∀ (n : Nat) (x : List UInt8) (y : List UInt8), ES N a1 n x = some y → WX Tryz.prog (fun _ => false) (.loop qX) ((fun (x : List UInt8) => ⟨AX [(0, .str x), (1, eb a1)], AX []⟩) x) ((fun y e s => e = .exit 0 ∧ s = ⟨AX [(0, .str y)], AX []⟩ : (List UInt8) → Xt → St → Prop) y) := by
 refine FB _ _ (ES N a1) (HV N a1) (fun _ => rfl) (fun _ _ => rfl) ?_
 rintro rec v0l4 y h
 refine AA ?_
 obtain ⟨g1, hg1, h⟩ := AQ h
 refine GV ⟨AX [(0, .str v0l4), (1, eb a1), (16, .bool g1)], AX []⟩ ?_ ?_
 have h := hg1
 refine AB ?_
 iterate 4 refine wq rfl ?_
 rcases D7 h with ⟨c2, h⟩ | ⟨c2, h⟩
 iterate 3 refine AY (gy rfl c2) rfl ?_
 refine AY (p := j6 (CE ((v0l4.length : Int) - (1 : Int)))) (gy rfl c2) rfl ?_
 obtain ⟨K5, Z9, h⟩ := AQ h
 refine AY (gy rfl c2) (P6 Z9 rfl rfl) ?_
 refine AY (gy rfl c2) rfl ?_
 refine AY (p := .bool (((K5).toNat : Int) == ((a1).toNat : Int))) (gy rfl c2) rfl ?_
 refine AY rfl (BF c2 rfl rfl) ?_
 cases AP h
 exact cq rfl
 iterate 7 refine D8 (gn rfl c2) ?_
 refine AY rfl (BD c2 rfl rfl) ?_
 obtain rfl := AP h
 exact cq rfl
 clear hg1
 refine EN h rfl (fun c3 h => ?_) (fun c3 h => ?_)
 refine BH (CS (AB ?_))
 iterate 3 refine wq rfl ?_
 refine AY (p := j6 (CE ((v0l4.length : Int) - (1 : Int)))) rfl rfl ?_
 obtain ⟨XF, dC, h⟩ := AQ h
 refine AY rfl (iP dC rfl rfl) ?_
 refine wq rfl ?_
 exact ⟨XF, (cq rfl), h⟩
 obtain rfl := AP h
 exact ED (st1 := ⟨AX [(0, .str v0l4)], AX []⟩) (cq rfl) ⟨rfl, rfl⟩
theorem R4 (N : Nat) (a0 : List UInt8) (a1 : UInt8) (r : List UInt8) (h : strings_trimRightByte N a0 a1 = some r) : Sat Tryz.prog 113 AC [.str a0, eb a1] (.str r) AC := by
 refine EO mixed Tryz.func113 Cu (rs := [.str r]) rfl rfl ?_
 refine AA (AB ?_)
 refine wq rfl ?_
 refine AA (CS ?_)
 obtain ⟨y4, hy4, h⟩ := AQ h
 refine R5 (Q9 N a1 N _ _ hy4) (cq rfl) ?_
 rintro e s ⟨rfl, rfl⟩
 refine AA (AB ?_)
 iterate 2 refine wq rfl ?_
 obtain rfl := AP h
 refine BZ ?_
 exact ⟨nofun, rfl, rfl⟩
def qY : IC := (.seq (.seq (.reg [jm 5 0, jS 6 5, ju .gtr 7 6 0, jm 8 7, jt 8 9 (.mov (.t 0)), jt 8 10 (.idxs (.t 9) (ji 0)), jt 8 11 (.mov (.t 1)), jt 8 12 (.bin .eql (.t 10) (.t 11)), jp 13 8 12]) (.cond (.t 13) .skip (.exit 0))) (.block 1 (.reg [jm 14 0, jn 15 (.slcs (.t 14) (some (ji 1)) none), jm 0 15])))
def k112 : IC := (.seq (.reg [jc 4 (.str [])]) (.seq (.block 0 (.loop qY)) (.seq (.reg [jm 16 0, jm 4 16]) .ret)))
theorem Cv : C9 Tryz.prog Tryz.f112 = some ⟨17, k112, [(.tmp 4)]⟩ := by kernel_rfl
theorem QY (N : Nat) (a1 : UInt8) : ∀ (n : Nat) (x : List UInt8) (y : List UInt8), EY N a1 n x = some y → WX Tryz.prog (fun _ => false) (.loop qY) ((fun (x : List UInt8) => ⟨AX [(0, .str x), (1, eb a1)], AX []⟩) x) ((fun y e s => e = .exit 0 ∧ s = ⟨AX [(0, .str y)], AX []⟩ : (List UInt8) → Xt → St → Prop) y) := by
 refine FB _ _ (EY N a1) (IE N a1) (fun _ => rfl) (fun _ _ => rfl) ?_
 rintro rec v0l4 y h
 refine AA ?_
 obtain ⟨g1, hg1, h⟩ := AQ h
 refine GV ⟨AX [(0, .str v0l4), (1, eb a1), (13, .bool g1)], AX []⟩ ?_ ?_
 have h := hg1
 refine AB ?_
 iterate 4 refine wq rfl ?_
 rcases D7 h with ⟨c2, h⟩ | ⟨c2, h⟩
 refine AY (gy rfl c2) rfl ?_
 obtain ⟨PI, U4, h⟩ := AQ h
 refine AY (gy rfl c2) (P6 U4 rfl rfl) ?_
 refine AY (gy rfl c2) rfl ?_
 refine AY (p := .bool (((PI).toNat : Int) == ((a1).toNat : Int))) (gy rfl c2) rfl ?_
 refine AY rfl (BF c2 rfl rfl) ?_
 cases AP h
 exact cq rfl
 iterate 4 refine D8 (gn rfl c2) ?_
 refine AY rfl (BD c2 rfl rfl) ?_
 obtain rfl := AP h
 exact cq rfl
 clear hg1
 refine EN h rfl (fun c3 h => ?_) (fun c3 h => ?_)
 refine BH (CS (AB ?_))
 refine wq rfl ?_
 obtain ⟨W9, WY, h⟩ := AQ h
 refine AY rfl (bW WY rfl rfl) ?_
 refine wq rfl ?_
 exact ⟨W9, (cq rfl), h⟩
 obtain rfl := AP h
 exact ED (st1 := ⟨AX [(0, .str v0l4)], AX []⟩) (cq rfl) ⟨rfl, rfl⟩
theorem RY (N : Nat) (a0 : List UInt8) (a1 : UInt8) (r : List UInt8) (h : strings_trimLeftByte N a0 a1 = some r) : Sat Tryz.prog 112 AC [.str a0, eb a1] (.str r) AC := by
 refine EO mixed Tryz.func112 Cv (rs := [.str r]) rfl rfl ?_
 refine AA (AB ?_)
 refine wq rfl ?_
 refine AA (CS ?_)
 obtain ⟨y4, hy4, h⟩ := AQ h
 refine R5 (QY N a1 N _ _ hy4) (cq rfl) ?_
 rintro e s ⟨rfl, rfl⟩
 refine AA (AB ?_)
 iterate 2 refine wq rfl ?_
 obtain rfl := AP h
 refine BZ ?_
 exact ⟨nofun, rfl, rfl⟩
def k93 : IC := (.seq (.reg [jc 4 (.str [])]) (.seq (.seq (.reg [jm 7 0, jn 8 (.bin .eql (.t 7) (.c (.str []))), jm 9 8, jf 9 10 (.mov (.t 1)), jf 9 11 (.bin .eql (.t 10) (.c (.str []))), jo 12 9 11]) (.cond (.t 12) (.seq (.reg [jm 13 0, jm 4 13]) .ret) .skip)) (.seq (.seq (.reg [jm 14 1, jS 15 14, ju .eql 16 15 1, jm 17 16, jt 17 18 (.mov (.t 1)), jt 17 19 (.idxs (.t 18) (ji 0)), jt 17 20 (.bin .lss (.t 19) (.c (.int .u8 128))), jp 21 17 20]) (.cond (.t 21) (.seq (.regd 8 [jm 22 0, jm 23 1, jn 24 (.idxs (.t 23) (ji 0)), jn 25 (.call 113 [(.t 22), (.t 24)]), jm 26 1, jn 27 (.idxs (.t 26) (ji 0)), jn 28 (.call 112 [(.t 25), (.t 27)]), jm 4 28]) .ret) .skip)) (.seq (.seq (.reg [jm 30 1, jn 31 (.call 114 [(.t 30)]), jm 29 31, je 32 0 29, je 33 1 29, jn 5 (.box 150 (.c (.agg [(.bool false), (.bool false), (.bool false), (.bool false), (.bool false), (.bool false), (.bool false), (.bool false), (.bool false), (.bool false), (.bool false), (.bool false), (.bool false), (.bool false), (.bool false), (.bool false), (.bool false), (.bool false), (.bool false), (.bool false), (.bool false), (.bool false), (.bool false), (.bool false), (.bool false), (.bool false), (.bool false), (.bool false), (.bool false), (.bool false), (.bool false), (.bool false), (.bool false), (.bool false), (.bool false), (.bool false), (.bool false), (.bool false), (.bool false), (.bool false), (.bool false), (.bool false), (.bool false), (.bool false), (.bool false), (.bool false), (.bool false), (.bool false), (.bool false), (.bool false), (.bool false), (.bool false), (.bool false), (.bool false), (.bool false), (.bool false), (.bool false), (.bool false), (.bool false), (.bool false), (.bool false), (.bool false), (.bool false), (.bool false), (.bool false), (.bool false), (.bool false), (.bool false), (.bool false), (.bool false), (.bool false), (.bool false), (.bool false), (.bool false), (.bool false), (.bool false), (.bool false), (.bool false), (.bool false), (.bool false), (.bool false), (.bool false), (.bool false), (.bool false), (.bool false), (.bool false), (.bool false), (.bool false), (.bool false), (.bool false), (.bool false), (.bool false), (.bool false), (.bool false), (.bool false), (.bool false), (.bool false), (.bool false), (.bool false), (.bool false), (.bool false), (.bool false), (.bool false), (.bool false), (.bool false), (.bool false), (.bool false), (.bool false), (.bool false), (.bool false), (.bool false), (.bool false), (.bool false), (.bool false), (.bool false), (.bool false), (.bool false), (.bool false), (.bool false), (.bool false), (.bool false), (.bool false), (.bool false), (.bool false), (.bool false), (.bool false), (.bool false), (.bool false), (.bool false), (.bool false), (.bool false), (.bool false), (.bool false), (.bool false), (.bool false), (.bool false), (.bool false), (.bool false), (.bool false), (.bool false), (.bool false), (.bool false), (.bool false), (.bool false), (.bool false), (.bool false), (.bool false), (.bool false), (.bool false), (.bool false), (.bool false), (.bool false), (.bool false), (.bool false), (.bool false), (.bool false), (.bool false), (.bool false), (.bool false), (.bool false), (.bool false), (.bool false), (.bool false), (.bool false), (.bool false), (.bool false), (.bool false), (.bool false), (.bool false), (.bool false), (.bool false), (.bool false), (.bool false), (.bool false), (.bool false), (.bool false), (.bool false), (.bool false), (.bool false), (.bool false), (.bool false), (.bool false), (.bool false), (.bool false), (.bool false), (.bool false), (.bool false), (.bool false), (.bool false), (.bool false), (.bool false), (.bool false), (.bool false), (.bool false), (.bool false), (.bool false), (.bool false), (.bool false), (.bool false), (.bool false), (.bool false), (.bool false), (.bool false), (.bool false), (.bool false), (.bool false), (.bool false), (.bool false), (.bool false), (.bool false), (.bool false), (.bool false), (.bool false), (.bool false), (.bool false), (.bool false), (.bool false), (.bool false), (.bool false), (.bool false), (.bool false), (.bool false), (.bool false), (.bool false), (.bool false), (.bool false), (.bool false), (.bool false), (.bool false), (.bool false), (.bool false), (.bool false), (.bool false), (.bool false), (.bool false), (.bool false), (.bool false), (.bool false), (.bool false), (.bool false), (.bool false), (.bool false), (.bool false), (.bool false), (.bool false), (.bool false), (.bool false), (.bool false), (.bool false), (.bool false), (.bool false), (.bool false), (.bool false), (.bool false), (.bool false), (.bool false)]))), js 256 5 32, jm 6 33]) (.seq (.reg [jm 34 6]) (.cond (.t 34) (.seq (.reg [jm 35 0, jn 36 (.call 116 [(.t 35), (.t 5)]), jn 37 (.call 115 [(.t 36), (.t 5)]), jm 4 37]) .ret) .skip))) (.seq (.reg [jm 38 0, jm 39 1, jn 40 (.call 118 [(.t 38), (.t 39)]), jm 41 1, jn 42 (.call 117 [(.t 40), (.t 41)]), jm 4 42]) .ret)))))
theorem Hl : C9 Tryz.prog Tryz.f93 = some ⟨43, k93, [(.tmp 4)]⟩ := by kernel_rfl
theorem YV (N : Nat) (a0 : List UInt8) (a1 : List UInt8) (r : List UInt8) (h : PT N a0 a1 = some r) : Sat Tryz.prog 93 AC [.str a0, .str a1] (.str r) AC := by
 refine EO mixed Tryz.func93 Hl (rs := [.str r]) rfl rfl ?_
 refine AA (AB ?_)
 refine wq rfl ?_
 refine AA ?_
 obtain ⟨g1, hg1, h⟩ := AQ h
 refine GV ⟨AX [(0, .str a0), (1, .str a1), (12, .bool g1)], AX []⟩ ?_ ?_
 have h := hg1
 refine AB ?_
 iterate 3 refine wq rfl ?_
 rcases D7 h with ⟨c2, h⟩ | ⟨c2, h⟩
 iterate 2 refine D8 (gn rfl c2) ?_
 refine AY rfl (BF c2 rfl rfl) ?_
 obtain rfl := AP h
 exact cq rfl
 iterate 2 refine AY (gy rfl c2) rfl ?_
 refine AY rfl (BD c2 rfl rfl) ?_
 cases AP h
 exact cq rfl
 clear hg1
 refine EN h rfl (fun c3 h => ?_) (fun c3 h => ?_)
 refine AA (AB ?_)
 iterate 2 refine wq rfl ?_
 obtain rfl := AP h
 refine BZ ?_
 exact ⟨nofun, rfl, rfl⟩
 refine BH (AA ?_)
 obtain ⟨g4, hg4, h⟩ := AQ h
 refine GV ⟨AX [(0, .str a0), (1, .str a1), (21, .bool g4)], AX []⟩ ?_ ?_
 have h := hg4
 refine AB ?_
 iterate 4 refine wq rfl ?_
 rcases D7 h with ⟨c5, h⟩ | ⟨c5, h⟩
 refine AY (gy rfl c5) rfl ?_
 obtain ⟨BQ, Z8, h⟩ := AQ h
 refine AY (gy rfl c5) (P6 Z8 rfl rfl) ?_
 refine AY (p := .bool (decide (((BQ).toNat : Int) < (128 : Int)))) (gy rfl c5) rfl ?_
 refine AY rfl (BF c5 rfl rfl) ?_
 cases AP h
 exact cq rfl
 iterate 3 refine D8 (gn rfl c5) ?_
 refine AY rfl (BD c5 rfl rfl) ?_
 obtain rfl := AP h
 exact cq rfl
 clear hg4
 refine EN h rfl (fun c6 h => ?_) (fun c6 h => ?_)
 refine AA (Q8 ?_)
 iterate 2 refine dq rfl ?_
 obtain ⟨x24, hx24, h⟩ := AQ h
 refine LM rfl (P6 hx24 rfl rfl) ?_
 obtain ⟨x25, hx25, h⟩ := AQ h
 refine UO rfl (OG (R4 N _ _ _ hx25) rfl (.cons A8 (.cons A8 .nil)) rfl rfl rfl) DD ?_
 refine dq rfl ?_
 obtain ⟨x27, hx27, h⟩ := AQ h
 refine LM rfl (P6 hx27 rfl rfl) ?_
 obtain ⟨x28, hx28, h⟩ := AQ h
 refine UO rfl (OG (RY N _ _ _ hx28) rfl (.cons A8 (.cons A8 .nil)) rfl rfl rfl) DD ?_
 refine dq rfl ?_
 obtain rfl := AP h
 refine BZ ?_
 exact ⟨nofun, rfl, rfl⟩
 refine BH ?_
 iterate 2 refine AA ?_
 refine AB ?_
 refine wq rfl ?_
 cases h
def wP : IC := (.seq (.reg [jb .lss 9 8 7]) (.seq (.cond (.t 9) .skip (.exit 0)) (.seq (.block 1 (.seq (.reg [jx 10 1 6 8, jl 11 1 10, jm 4 11]) (.seq (.reg [jm 12 4, jn 13 (.bin .lss (.t 12) (.c (.int .u8 32))), jm 14 13, jf 14 15 (.mov (.t 4)), jf 14 16 (.bin .gtr (.t 15) (.c (.int .u8 126))), jo 17 14 16]) (.cond (.t 17) (.seq (.reg [jc 2 (.bool false)]) .ret) .skip)))) (.reg [ju .add 18 8 1, jm 8 18]))))
def k94 : IC := (.seq (.reg [jc 2 (.bool false)]) (.seq (.seq (.reg [jm 5 0, jn 6 (.cvs (.t 5)), jL 7 6, jc 8 (j6 0)]) (.block 0 (.loop wP))) (.seq (.reg [jc 2 (.bool true)]) .ret)))
theorem Hg : C9 Tryz.prog Tryz.f94 = some ⟨19, k94, [(.tmp 2)]⟩ := by kernel_rfl
theorem XG (N : Nat) (a0 : List UInt8) : ∀ (n : Nat) (x : Int) (y : Unit ⊕ Bool), GR N a0 n x = some y → WX Tryz.prog (fun _ => false) (.loop wP) ((fun (x : Int) => ⟨AX [(6, .slr 150406 0 a0.length), (7, j6 (a0.length : Int)), (8, j6 x)], AX [(150406, ⟨1, true, List.map eb a0⟩)]⟩) x) ((Sum.elim (fun y e s => e = .exit 0 ∧ s = ⟨AX [], AX []⟩) (fun y e s => e = .ret ∧ s = ⟨AX [(2, .bool y)], AX []⟩) : (Unit ⊕ Bool) → Xt → St → Prop) y) := by
 refine FB _ _ (GR N a0) (K7 N a0) (fun _ => rfl) (fun _ _ => rfl) ?_
 rintro rec v8l6 y h
 refine AA (AB ?_)
 refine wq rfl ?_
 refine AA ?_
 refine EN h rfl (fun c1 h => ?_) (fun c1 h => ?_)
 refine BH (AA (CS (AA (AB ?_))))
 obtain ⟨PI, U4, h⟩ := AQ h
 refine AY rfl (QJ U4 rfl rfl rfl rfl) ?_
 obtain ⟨PG, WZ, h⟩ := AQ h
 refine AY rfl (V3 (f := eb) (v := eb PG) WZ rfl rfl rfl) ?_
 refine wq rfl ?_
 obtain ⟨g2, hg2, h⟩ := AQ h
 refine GV ⟨AX [(6, .slr 150406 0 a0.length), (7, j6 (a0.length : Int)), (8, j6 v8l6), (17, .bool g2)], AX [(150406, ⟨1, true, List.map eb a0⟩)]⟩ ?_ ?_
 have h := hg2
 refine AB ?_
 refine wq rfl ?_
 refine AY (p := .bool (decide (((PG).toNat : Int) < (32 : Int)))) rfl rfl ?_
 refine wq rfl ?_
 rcases D7 h with ⟨c3, h⟩ | ⟨c3, h⟩
 iterate 2 refine D8 (gn rfl c3) ?_
 refine AY rfl (BF c3 rfl rfl) ?_
 obtain rfl := AP h
 exact cq rfl
 refine AY (gy rfl c3) rfl ?_
 refine AY (p := .bool (decide (((PG).toNat : Int) > (126 : Int)))) (gy rfl c3) rfl ?_
 refine AY rfl (BD c3 rfl rfl) ?_
 cases AP h
 exact cq rfl
 clear hg2
 refine EN h rfl (fun c4 h => ?_) (fun c4 h => ?_)
 refine AA (AB ?_)
 refine wq rfl ?_
 obtain rfl := AP h
 exact F4 (st1 := ⟨AX [(2, .bool false)], AX []⟩) (cq rfl) ⟨rfl, rfl⟩
 refine BH (AB ?_)
 refine AY (p := j6 (CE (v8l6 + (1 : Int)))) rfl rfl ?_
 refine wq rfl ?_
 exact ⟨(CE (v8l6 + (1 : Int))), (cq rfl), h⟩
 cases AP h
 exact ED (st1 := ⟨AX [], AX []⟩) (cq rfl) ⟨rfl, rfl⟩
theorem YW (N : Nat) (a0 : List UInt8) (r : Bool) (h : PU N a0 = some r) : Sat Tryz.prog 94 AC [.str a0] (.bool r) AC := by
 refine EO mixed Tryz.func94 Hg (rs := [.bool r]) rfl rfl ?_
 refine AA (AB ?_)
 refine wq rfl ?_
 iterate 2 refine AA ?_
 refine AB ?_
 refine wq rfl ?_
 refine CX rfl (nH 150406 rfl rfl) ?_
 iterate 2 refine wq rfl ?_
 refine CS ?_
 obtain ⟨y5, Eo, h⟩ := AQ h
 refine R5 (XG N a0 N _ _ Eo) (cq rfl) ?_
 clear Eo
 rcases y5 with y5 | y5
 rintro e s ⟨rfl, rfl⟩
 refine AA (AB ?_)
 refine wq rfl ?_
 obtain rfl := AP h
 refine BZ ?_
 exact ⟨nofun, rfl, rfl⟩
 rintro e s ⟨rfl, rfl⟩
 obtain rfl := AP h
 exact ⟨nofun, rfl, rfl⟩
def k153 : IC := (.seq (.reg [jc 4 (.bool false)]) (.seq (.reg [jm 5 0, jS 6 5, jm 7 1, jS 8 7, jb .geq 9 6 8, jm 10 9, jt 10 11 (.mov (.t 0)), jt 10 12 (.mov (.t 1)), jt 10 13 (.len true (.t 12)), jt 10 14 (.slcs (.t 11) none (some (.t 13))), jt 10 15 (.mov (.t 1)), jt 10 16 (.bin .eql (.t 14) (.t 15)), jp 17 10 16, jm 4 17]) .ret))
theorem Ck : C9 Tryz.prog Tryz.f153 = some ⟨18, k153, [(.tmp 4)]⟩ := by kernel_rfl
theorem HZ (N : Nat) (a0 : List UInt8) (a1 : List UInt8) (r : Bool) (h : EL N a0 a1 = some r) : Sat Tryz.prog 153 AC [.str a0, .str a1] (.bool r) AC := by
 refine EO mixed Tryz.func153 Ck (rs := [.bool r]) rfl rfl ?_
 refine AA (AB ?_)
 refine wq rfl ?_
 obtain ⟨g1, hg1, h⟩ := AQ h
 refine GV ⟨AX [(4, .bool g1)], AX []⟩ ?_ ?_
 have h := hg1
 refine AB ?_
 iterate 6 refine wq rfl ?_
 rcases D7 h with ⟨c2, h⟩ | ⟨c2, h⟩
 iterate 3 refine AY (gy rfl c2) rfl ?_
 obtain ⟨M7, QL, h⟩ := AQ h
 refine AY (gy rfl c2) (iP QL rfl rfl) ?_
 iterate 2 refine AY (gy rfl c2) rfl ?_
 refine AY rfl (BF c2 rfl rfl) ?_
 refine wq rfl ?_
 cases AP h
 exact cq rfl
 iterate 6 refine D8 (gn rfl c2) ?_
 refine AY rfl (BD c2 rfl rfl) ?_
 refine wq rfl ?_
 obtain rfl := AP h
 exact cq rfl
 clear hg1
 obtain rfl := AP h
 refine BZ ?_
 exact ⟨nofun, rfl, rfl⟩
def k139 : IC := (.seq (.reg [jc 4 (.str [])]) (.seq (.seq (.reg [jm 5 0, jm 6 1, jn 7 (.call 153 [(.t 5), (.t 6)])]) (.cond (.t 7) (.seq (.reg [jm 8 0, jm 9 1, jS 10 9, jn 11 (.slcs (.t 8) (some (.t 10)) none), jm 4 11]) .ret) .skip)) (.seq (.reg [jm 12 0, jm 4 12]) .ret)))
theorem Co : C9 Tryz.prog Tryz.f139 = some ⟨13, k139, [(.tmp 4)]⟩ := by kernel_rfl
theorem LQ (N : Nat) (a0 : List UInt8) (a1 : List UInt8) (r : List UInt8) (h : FV N a0 a1 = some r) : Sat Tryz.prog 139 AC [.str a0, .str a1] (.str r) AC := by
 refine EO mixed Tryz.func139 Co (rs := [.str r]) rfl rfl ?_
 refine AA (AB ?_)
 refine wq rfl ?_
 iterate 2 refine AA ?_
 refine AB ?_
 iterate 2 refine wq rfl ?_
 obtain ⟨x7, hx7, h⟩ := AQ h
 refine CX rfl (CZ (HZ N _ _ _ hx7) rfl (.cons A8 (.cons A8 .nil)) rfl rfl rfl) ?_
 refine EN h rfl (fun c1 h => ?_) (fun c1 h => ?_)
 refine AA (AB ?_)
 iterate 3 refine wq rfl ?_
 obtain ⟨PG, WZ, h⟩ := AQ h
 refine AY rfl (bW WZ rfl rfl) ?_
 refine wq rfl ?_
 obtain rfl := AP h
 refine BZ ?_
 exact ⟨nofun, rfl, rfl⟩
 refine BH (AA (AB ?_))
 iterate 2 refine wq rfl ?_
 obtain rfl := AP h
 refine BZ ?_
 exact ⟨nofun, rfl, rfl⟩
def k119 : IC := (.seq (.reg [jc 4 (.str [])]) (.seq (.reg [jm 5 0, jm 6 1, jn 7 (.call 139 [(.t 5), (.t 6)]), jm 4 7]) .ret))
theorem Ct : C9 Tryz.prog Tryz.f119 = some ⟨8, k119, [(.tmp 4)]⟩ := by kernel_rfl
theorem TS (N : Nat) (a0 : List UInt8) (a1 : List UInt8) (r : List UInt8) (h : strings_TrimPrefix N a0 a1 = some r) : Sat Tryz.prog 119 AC [.str a0, .str a1] (.str r) AC := by
 refine EO mixed Tryz.func119 Ct (rs := [.str r]) rfl rfl ?_
 refine AA (AB ?_)
 refine wq rfl ?_
 refine AA (AB ?_)
 iterate 2 refine wq rfl ?_
 obtain ⟨x7, hx7, h⟩ := AQ h
 refine CX rfl (CZ (LQ N _ _ _ hx7) rfl (.cons A8 (.cons A8 .nil)) rfl rfl rfl) ?_
 refine wq rfl ?_
 obtain rfl := AP h
 refine BZ ?_
 exact ⟨nofun, rfl, rfl⟩
def qD : IC := (.seq (.reg [jb .lss 28 27 26]) (.seq (.cond (.t 28) .skip (.exit 0)) (.seq (.block 1 (.seq (.reg [jx 29 1 25 27, jl 30 1 29, jm 5 30]) (.seq (.reg [jm 31 5, jn 32 (.bin .lss (.t 31) (.c (.int .u8 48))), jm 33 32, jf 33 34 (.mov (.t 5)), jf 33 35 (.bin .gtr (.t 34) (.c (.int .u8 57))), jo 36 33 35]) (.cond (.t 36) (.seq (.reg [jc 2 (.bool false)]) .ret) .skip)))) (.reg [ju .add 37 27 1, jm 27 37]))))
def k95 : IC := (.seq (.reg [jc 2 (.bool false)]) (.seq (.reg [jm 6 0, jn 7 (.call 119 [(.t 6), (.c (.str [45]))]), jm 3 7]) (.seq (.seq (.reg [jm 8 3, jn 9 (.bin .eql (.t 8) (.c (.str []))), jm 10 9, jf 10 11 (.mov (.t 3)), jf 10 12 (.len true (.t 11)), jf 10 13 (.bin .gtr (.t 12) (ji 15)), jo 14 10 13, jm 15 14, jf 15 16 (.mov (.t 3)), jf 15 17 (.idxs (.t 16) (ji 0)), jf 15 18 (.bin .eql (.t 17) (.c (.int .u8 48))), jf 15 19 (.mov (.t 18)), jt 19 20 (.mov (.t 0)), jt 19 21 (.bin .neq (.t 20) (.c (.str [48]))), jf 15 22 (.pick (.t 19) (.t 21) jA), jo 23 15 22]) (.cond (.t 23) (.seq (.reg [jc 2 (.bool false)]) .ret) .skip)) (.seq (.seq (.reg [jm 24 3, jn 25 (.cvs (.t 24)), jL 26 25, jc 27 (j6 0)]) (.block 0 (.loop qD))) (.seq (.reg [jc 2 (.bool true)]) .ret)))))
theorem Hf : C9 Tryz.prog Tryz.f95 = some ⟨38, k95, [(.tmp 2)]⟩ := by kernel_rfl
theorem WL (N : Nat) (x7 : List UInt8) : ∀ (n : Nat) (x : Int) (y : Unit ⊕ Bool), FJ N x7 n x = some y → WX Tryz.prog (fun _ => false) (.loop qD) ((fun (x : Int) => ⟨AX [(25, .slr 152025 0 x7.length), (26, j6 (x7.length : Int)), (27, j6 x)], AX [(152025, ⟨1, true, List.map eb x7⟩)]⟩) x) ((Sum.elim (fun y e s => e = .exit 0 ∧ s = ⟨AX [], AX []⟩) (fun y e s => e = .ret ∧ s = ⟨AX [(2, .bool y)], AX []⟩) : (Unit ⊕ Bool) → Xt → St → Prop) y) := by
 refine FB _ _ (FJ N x7) (JD N x7) (fun _ => rfl) (fun _ _ => rfl) ?_
 rintro rec v27l16 y h
 refine AA (AB ?_)
 refine wq rfl ?_
 refine AA ?_
 refine EN h rfl (fun c6 h => ?_) (fun c6 h => ?_)
 refine BH (AA (CS (AA (AB ?_))))
 obtain ⟨x29, hx29, h⟩ := AQ h
 refine AY rfl (QJ hx29 rfl rfl rfl rfl) ?_
 obtain ⟨x30, xS, h⟩ := AQ h
 refine AY rfl (V3 (f := eb) (v := eb x30) xS rfl rfl rfl) ?_
 refine wq rfl ?_
 obtain ⟨g7, Ep, h⟩ := AQ h
 refine GV ⟨AX [(25, .slr 152025 0 x7.length), (26, j6 (x7.length : Int)), (27, j6 v27l16), (36, .bool g7)], AX [(152025, ⟨1, true, List.map eb x7⟩)]⟩ ?_ ?_
 have h := Ep
 refine AB ?_
 refine wq rfl ?_
 refine AY (p := .bool (decide (((x30).toNat : Int) < (48 : Int)))) rfl rfl ?_
 refine wq rfl ?_
 rcases D7 h with ⟨c8, h⟩ | ⟨c8, h⟩
 iterate 2 refine D8 (gn rfl c8) ?_
 refine AY rfl (BF c8 rfl rfl) ?_
 obtain rfl := AP h
 exact cq rfl
 refine AY (gy rfl c8) rfl ?_
 refine AY (p := .bool (decide (((x30).toNat : Int) > (57 : Int)))) (gy rfl c8) rfl ?_
 refine AY rfl (BD c8 rfl rfl) ?_
 cases AP h
 exact cq rfl
 clear Ep
 refine EN h rfl (fun c9 h => ?_) (fun c9 h => ?_)
 refine AA (AB ?_)
 refine wq rfl ?_
 obtain rfl := AP h
 exact F4 (st1 := ⟨AX [(2, .bool false)], AX []⟩) (cq rfl) ⟨rfl, rfl⟩
 refine BH (AB ?_)
 refine AY (p := j6 (CE (v27l16 + (1 : Int)))) rfl rfl ?_
 refine wq rfl ?_
 exact ⟨(CE (v27l16 + (1 : Int))), (cq rfl), h⟩
 cases AP h
 exact ED (st1 := ⟨AX [], AX []⟩) (cq rfl) ⟨rfl, rfl⟩
theorem YX (N : Nat) (a0 : List UInt8) (r : Bool) (h : PW N a0 = some r) : Sat Tryz.prog 95 AC [.str a0] (.bool r) AC := by
 refine EO mixed Tryz.func95 Hf (rs := [.bool r]) rfl rfl ?_
 refine AA (AB ?_)
 refine wq rfl ?_
 refine AA (AB ?_)
 refine wq rfl ?_
 obtain ⟨x7, hx7, h⟩ := AQ h
 refine CX rfl (CZ (TS N _ _ _ hx7) rfl (.cons A8 (.cons A8 .nil)) rfl rfl rfl) ?_
 refine wq rfl ?_
 refine AA ?_
 obtain ⟨g1, hg1, h⟩ := AQ h
 refine GV ⟨AX [(3, .str x7), (23, .bool g1)], AX []⟩ ?_ ?_
 have h := hg1
 refine AB ?_
 iterate 3 refine wq rfl ?_
 rcases D7 h with ⟨c2, h⟩ | ⟨c2, h⟩
 iterate 3 refine D8 (gn rfl c2) ?_
 refine AY rfl (BF c2 rfl rfl) ?_
 refine wq rfl ?_
 iterate 4 refine D8 rfl ?_
 iterate 2 refine D8 (gu rfl) ?_
 refine D8 rfl ?_
 refine wq rfl ?_
 obtain rfl := AP h
 exact cq rfl
 iterate 3 refine AY (gy rfl c2) rfl ?_
 refine AY rfl (BD c2 rfl rfl) ?_
 refine wq rfl ?_
 rcases D7 h with ⟨c3, h⟩ | ⟨c3, h⟩
 iterate 4 refine D8 (gn rfl c3) ?_
 iterate 2 refine D8 (gu rfl) ?_
 refine D8 (gn rfl c3) ?_
 refine AY rfl (BF c3 rfl rfl) ?_
 obtain rfl := AP h
 exact cq rfl
 refine AY (gy rfl c3) rfl ?_
 obtain ⟨EA, U3, h⟩ := AQ h
 refine AY (gy rfl c3) (P6 U3 rfl rfl) ?_
 refine AY (p := .bool (((EA).toNat : Int) == (48 : Int))) (gy rfl c3) rfl ?_
 refine AY (gy rfl c3) rfl ?_
 rcases D7 h with ⟨c4, h⟩ | ⟨c4, h⟩
 iterate 2 refine AY (gy rfl c4) rfl ?_
 refine AY (gy rfl c3) (BF c4 rfl rfl) ?_
 refine AY rfl (BD c3 rfl rfl) ?_
 cases AP h
 exact cq rfl
 iterate 2 refine D8 (gn rfl c4) ?_
 refine AY (gy rfl c3) (BD c4 rfl rfl) ?_
 refine AY rfl (BD c3 rfl rfl) ?_
 obtain rfl := AP h
 exact cq rfl
 clear hg1
 refine EN h rfl (fun c5 h => ?_) (fun c5 h => ?_)
 refine AA (AB ?_)
 refine wq rfl ?_
 obtain rfl := AP h
 refine BZ ?_
 exact ⟨nofun, rfl, rfl⟩
 refine BH ?_
 iterate 2 refine AA ?_
 refine AB ?_
 refine wq rfl ?_
 refine CX rfl (nH 152025 rfl rfl) ?_
 iterate 2 refine wq rfl ?_
 refine CS ?_
 obtain ⟨PH, Db, h⟩ := AQ h
 refine R5 (WL N x7 N _ _ Db) (cq rfl) ?_
 clear Db
 rcases PH with PH | PH
 rintro e s ⟨rfl, rfl⟩
 refine AA (AB ?_)
 refine wq rfl ?_
 obtain rfl := AP h
 refine BZ ?_
 exact ⟨nofun, rfl, rfl⟩
 rintro e s ⟨rfl, rfl⟩
 obtain rfl := AP h
 exact ⟨nofun, rfl, rfl⟩
def kY : IC := (.seq (.seq (.reg [jm 8 7, jm 9 0, jS 10 9, jb .lss 11 8 10]) (.cond (.t 11) .skip (.exit 0))) (.seq (.block 1 (.seq (.reg [jm 14 0, jm 15 7, jn 16 (.idxs (.t 14) (.t 15))]) (.block 2 (.seq (.reg [jn 18 (.bin .eql (.t 16) (.c (.int .u8 92))), jm 17 18]) (.cond (.t 17) (.reg [jm 19 7, ju .add 20 19 1, jm 7 20]) (.seq (.reg [jm 22 1, jb .eql 23 16 22, jm 21 23]) (.cond (.t 21) (.seq (.reg [jm 24 5, jm 25 0, jm 26 6, jm 27 7, jn 28 (.slcs (.t 25) (some (.t 26)) (some (.t 27))), jn 29 (.bsl 1 [(.t 28)]), jn 30 (.app 9 1 16 (.t 24) (.t 29)), jm 5 30]) (.reg [jm 31 7, ju .add 32 31 1, jm 6 32])) .skip))))))) (.reg [jm 12 7, ju .add 13 12 1, jm 7 13])))
def k120 : IC := (.seq (.reg [jc 4 .nl]) (.seq (.reg [jc 5 .nl]) (.seq (.reg [jc 6 (j6 0)]) (.seq (.seq (.reg [jc 7 (j6 0)]) (.block 0 (.loop kY))) (.seq (.reg [jm 33 5, jm 34 0, jm 35 6, jn 36 (.slcs (.t 34) (some (.t 35)) none), jn 37 (.bsl 1 [(.t 36)]), jn 38 (.app 9 1 16 (.t 33) (.t 37)), jm 4 38]) .ret)))))
theorem Cr : C9 Tryz.prog Tryz.f120 = some ⟨39, k120, [(.tmp 4)]⟩ := by kernel_rfl
theorem iF (N : Nat) (a0 : List UInt8) (a1 : UInt8) : ∀ (n : Nat) (x : Int × Int × List (List UInt8)) (y : Int × List (List UInt8)), JI N a0 a1 n x = some y → WX Tryz.prog (fun _ => false) (.loop kY) ((fun (x : Int × Int × List (List UInt8)) => ⟨AX [(0, .str a0), (1, eb a1), (5, .slr 192805 0 x.2.2.length), (6, j6 x.1), (7, j6 x.2.1)], AX [(192805, ⟨1, true, List.map PV.str x.2.2⟩)]⟩) x) ((fun y e s => e = .exit 0 ∧ s = ⟨AX [(0, .str a0), (5, .slr 192805 0 y.2.length), (6, j6 y.1)], AX [(192805, ⟨1, true, List.map PV.str y.2⟩)]⟩ : (Int × List (List UInt8)) → Xt → St → Prop) y) := by
 refine FB _ _ (JI N a0 a1) (LC N a0 a1) (fun _ => rfl) (fun _ _ => rfl) ?_
 rintro rec ⟨ZL, R8, JF⟩ y h
 iterate 2 refine AA ?_
 refine AB ?_
 iterate 4 refine wq rfl ?_
 refine EN h rfl (fun c1 h => ?_) (fun c1 h => ?_)
 refine BH ?_
 refine R6 (fun (x : Int × Int × List (List UInt8)) => ⟨AX [(0, .str a0), (1, eb a1), (5, .slr 192805 0 x.2.2.length), (6, j6 x.1), (7, j6 x.2.1)], AX [(192805, ⟨1, true, List.map PV.str x.2.2⟩)]⟩) (fun x => QN rec x.1 x.2.1 x.2.2 = some y) ?_ ?_
 rintro ⟨uR, pF, WU⟩ h
 refine AB ?_
 refine wq rfl ?_
 refine AY (p := j6 (CE (pF + (1 : Int)))) rfl rfl ?_
 refine wq rfl ?_
 exact ⟨(uR, (CE (pF + (1 : Int))), WU), (cq rfl), h⟩
 refine CS (AA (AB ?_))
 iterate 2 refine wq rfl ?_
 obtain ⟨YM, hx16, h⟩ := AQ h
 refine AY rfl (P6 hx16 rfl rfl) ?_
 refine CS (AA (AB ?_))
 refine AY (p := .bool (((YM).toNat : Int) == (92 : Int))) rfl rfl ?_
 refine wq rfl ?_
 refine EN h rfl (fun c2 h => ?_) (fun c2 h => ?_)
 refine AB ?_
 refine wq rfl ?_
 refine AY (p := j6 (CE (R8 + (1 : Int)))) rfl rfl ?_
 refine wq rfl ?_
 exact ⟨(ZL, (CE (R8 + (1 : Int))), JF), (cq rfl), h⟩
 refine AA (AB ?_)
 refine wq rfl ?_
 refine AY (p := .bool (((YM).toNat : Int) == ((a1).toNat : Int))) rfl rfl ?_
 refine wq rfl ?_
 refine EN h rfl (fun c3 h => ?_) (fun c3 h => ?_)
 refine AA (AB ?_)
 iterate 4 refine wq rfl ?_
 obtain ⟨x28, hx28, h⟩ := AQ h
 refine AY rfl (kK hx28 rfl rfl rfl) ?_
 refine CX rfl (QK 192029 rfl rfl rfl) ?_
 obtain ⟨x30, xS, h⟩ := AQ h
 refine UQ (f := PV.str) 192030 xS rfl rfl rfl rfl rfl (JZ rfl (BP (f := PV.str) (l := [x28]))) rfl rfl rfl rfl ?_
 refine wq rfl ?_
 refine AB ?_
 refine wq rfl ?_
 refine AY (p := j6 (CE (R8 + (1 : Int)))) rfl rfl ?_
 refine wq rfl ?_
 exact ⟨((CE (R8 + (1 : Int))), R8, x30), (BX.trans (rename 192030 192805 rfl rfl) (cq rfl)), h⟩
 refine BH ?_
 exact ⟨(ZL, R8, JF), (cq rfl), h⟩
 cases AP h
 exact ED (st1 := ⟨AX [(0, .str a0), (5, .slr 192805 0 JF.length), (6, j6 ZL)], AX [(192805, ⟨1, true, List.map PV.str JF⟩)]⟩) (cq rfl) ⟨rfl, rfl⟩
theorem bK (N : Nat) (a0 : List UInt8) (a1 : UInt8) (r : List (List UInt8)) (h : dK N a0 a1 = some r) : Sat Tryz.prog 120 AC [.str a0, eb a1] (.sl 1 (List.map PV.str r)) AC := by
 refine EO mixed Tryz.func120 Cr (rs := [.sl 1 (List.map PV.str r)]) rfl rfl ?_
 refine AA (AB ?_)
 refine wq rfl ?_
 refine AA (AB ?_)
 refine wq rfl ?_
 refine AA (AB ?_)
 refine wq rfl ?_
 iterate 2 refine AA ?_
 refine AB ?_
 refine wq rfl ?_
 refine CS ?_
 obtain ⟨y4, hy4, h⟩ := AQ h
 refine R5 (iF N a0 a1 N _ _ hy4) (BX.trans (fT 5 192805 1 true rfl rfl rfl) (cq rfl)) ?_
 rintro e s ⟨rfl, rfl⟩
 refine AA (AB ?_)
 iterate 3 refine wq rfl ?_
 obtain ⟨Gd, Kz, h⟩ := AQ h
 refine AY rfl (bW Kz rfl rfl) ?_
 refine CX rfl (QK 192037 rfl rfl rfl) ?_
 obtain ⟨x38, hx38, h⟩ := AQ h
 refine UQ (f := PV.str) 192038 hx38 rfl rfl rfl rfl rfl (JZ rfl (BP (f := PV.str) (l := [Gd]))) rfl rfl rfl rfl ?_
 refine wq rfl ?_
 obtain rfl := AP h
 refine F4 (st1 := ⟨AX [(4, .sl 1 (List.map PV.str x38))], AX []⟩) (BX.trans (Vd.freeze 192038 _ rfl rfl rfl) (BX.trans (KS 4 (GG (congrArg (PV.sl 1) (BP (f := PV.str) (l := x38)))) rfl) (cq rfl))) ?_
 exact ⟨nofun, rfl, rfl⟩
end Go.Gp
end
