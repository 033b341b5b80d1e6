/- A part of the proof: functions of the program and what they compute. -/
import Derived.Test.YtlopcglohpfonaaGreatDoorA5
import Derived.Test.YtlopcglohpfonaaGreatDoorA6
import Derived.Test.YtlopcglohpfonaaGreatDoorA12
import Derived.Test.YtlopcglohpfonaaGreatDoorA9
import Derived.Test.YtlopcglohpfonaaGreatDoorA11
import Derived.Test.YtlopcglohpfonaaGreatDoorA10
section
set_option linter.unusedVariables false
set_option linter.unusedSimpArgs false
set_option maxRecDepth 4000
set_option maxHeartbeats 4000000
namespace Go.Gp
open Go.Vd Go.RowKit Go.Proofs
def EW : List (List Nat) := [[], [], [1], [2], [3], [], [0, 0], [6, 0, 6], [4, 7, 0, 1, 2, 3, 4, 6, 7], [5, 8, 0, 1, 2, 3, 4, 5, 6, 7, 8]]
def EU : List Ins := [jn 23 (.build [(.int .u8 0), (.str []), .nl] []), jm 24 6, jn 25 (.nck (.t 24)), ja 26 1 25, jl 27 1 26, jm 28 9, js 3 2 23, jc 3 (j6 0), jm 4 27, jm 5 28]
def k43 : IC := (.seq (.reg [jn 2 (.box 52 (.c (.agg [(.int .u8 0), (.str []), .nl]))), jc 3 (j6 0), jc 4 (j6 0), jc 5 (j6 0)]) (.seq (.reg [jm 10 0, jn 11 (.build [(.str []), (j6 0)] [(0, (1, (.t 10)))]), jn 12 (.box 97 (.t 11)), jm 6 12]) (.seq (.reg [jm 14 6, jm 15 0, jS 16 15, jn 17 (.call 64 [(.t 14), (ji 0), (.t 16), (ji 1)]), jm 13 17, je 18 0 13, je 19 1 13, je 20 2 13, jn 7 (.box 52 (.c (.agg [(.int .u8 0), (.str []), .nl]))), js 3 7 18, jm 8 19, jm 9 20]) (.seq (.seq (.reg [jm 21 9, ju .neq 22 21 0]) (.cond (.t 22) (.seq (.regf 6 [1, 2, 3, 4, 5] EW EU) .ret) .skip)) (.seq (.reg [jg 29 3 7, jm 30 8, js 3 2 29, jm 3 30, jc 4 (j6 0), jc 5 (j6 0)]) .ret)))))
theorem Tn : BX Tryz.prog Tryz.f43 = some ⟨31, k43, [(.cell 3 true 2), (.tmp 3), (.tmp 4), (.tmp 5)]⟩ := by kernel_rfl
theorem nX (N : Nat) (a0 : List UInt8) (r : A8 × Int × Int × Int) (h : sS N a0 = some r) : Sat Tryz.prog 43 AO [.str a0] (.tup [AA r.1, .int .i64 r.2.1, .int .i64 r.2.2.1, .int .i64 r.2.2.2]) AO := by
 refine DT mixed Tryz.func43 Tn (rs := [AA r.1, .int .i64 r.2.1, .int .i64 r.2.2.1, .int .i64 r.2.2.2]) rfl rfl ?_
 refine AJ ?_
 refine AC ?_
 refine CS rfl (FZ 68802 rfl rfl rfl rfl rfl) ?_
 iterate 3 refine A7 rfl rfl ?_
 refine AJ ?_
 refine AC ?_
 refine A7 rfl rfl ?_
 refine A7 (p := .agg [.str a0, .int .i64 0]) rfl rfl ?_
 refine CS rfl (FZ 700970 rfl rfl rfl rfl rfl) ?_
 refine A7 rfl rfl ?_
 refine AJ ?_
 refine AC ?_
 iterate 3 refine A7 rfl rfl ?_
 obtain ⟨EC, VJ, h⟩ := AL h
 refine CS rfl (Ea [(700970, ⟨2, false, [BI (⟨a0, 0⟩ : BH)]⟩)] [(700970, ⟨2, false, [BI EC.2.2.2]⟩)] (X9 N _ _ _ _ _ VJ) rfl (.cons A9 (.cons A9 (.cons A9 (.cons A9 .nil)))) ⟨rfl, trivial⟩ rfl rfl rfl) ?_
 iterate 4 refine A7 rfl rfl ?_
 refine CS rfl (FZ 68807 rfl rfl rfl rfl rfl) ?_
 refine F3 (e' := AA EC.1) rfl rfl rfl rfl rfl rfl rfl rfl nofun rfl ?_
 iterate 2 refine A7 rfl rfl ?_
 iterate 2 refine AJ ?_
 refine AC ?_
 iterate 2 refine A7 rfl rfl ?_
 refine D8 h rfl (fun c1 h => ?_) (fun c1 h => ?_)
 refine AJ ?_
 refine Oj ⟨AY [(2, .ptr 68802 0 0), (3, .int .i64 0), (4, .int .i64 EC.2.2.2.at_), (5, .int .i64 EC.2.2.1)], AY [(68802, ⟨3, false, [.agg [eb (0 : UInt8), .str ([] : List UInt8), .nl]]⟩)]⟩ [[], [5], [4], [4, 5], [3, 4], [3, 4, 5], [2, 3, 4], [2, 3, 4, 5], [1, 2, 3, 4], [1, 2, 3, 4, 5]] rfl ?_ ?_
 refine DL (p := .agg [eb (0 : UInt8), .str ([] : List UInt8), .nl]) rfl rfl ?_
 iterate 5 refine DL rfl rfl ?_
 have Ws : AnyW Tryz.prog (fun _ => false) EW EU 0 [0, 1, 2, 3, 4, 5, 6, 7, 8, 9] ⟨AY [(2, .ptr 68802 0 0), (3, .int .i64 0), (4, .int .i64 EC.2.2.2.at_), (5, .int .i64 EC.2.2.1)], AY [(68802, ⟨3, false, [.agg [eb (0 : UInt8), .str ([] : List UInt8), .nl]]⟩)]⟩ ⟨AY [(2, .ptr 68802 0 0), (3, .int .i64 0), (4, .int .i64 EC.2.2.2.at_), (5, .int .i64 EC.2.2.1)], AY [(68802, ⟨3, false, [.agg [eb (0 : UInt8), .str ([] : List UInt8), .nl]]⟩)]⟩ := by
  exact yend rfl (cn rfl rfl rfl rfl)
 have Ji : AnyW Tryz.prog (fun _ => false) EW EU 1 [0, 1, 2, 3, 4, 5, 6, 7, 8] ⟨AY [(2, .ptr 68802 0 0), (3, .int .i64 0), (4, .int .i64 EC.2.2.2.at_), (5, .int .i64 0), (28, .int .i64 EC.2.2.1)], AY [(68802, ⟨3, false, [.agg [eb (0 : UInt8), .str ([] : List UInt8), .nl]]⟩)]⟩ ⟨AY [(2, .ptr 68802 0 0), (3, .int .i64 0), (4, .int .i64 EC.2.2.2.at_), (5, .int .i64 EC.2.2.1)], AY [(68802, ⟨3, false, [.agg [eb (0 : UInt8), .str ([] : List UInt8), .nl]]⟩)]⟩ := by
  refine yc (l := [9]) rfl nofun ⟨⟨_, rfl, ?_⟩, trivial⟩
  refine A7 rfl rfl ?_
  exact AnyW.of Ws rfl (cn rfl rfl rfl rfl)
 have vS : AnyW Tryz.prog (fun _ => false) EW EU 2 [0, 1, 2, 3, 4, 5, 6, 7] ⟨AY [(2, .ptr 68802 0 0), (3, .int .i64 0), (4, .int .i64 0), (5, .int .i64 0), (27, .int .i64 EC.2.2.2.at_), (28, .int .i64 EC.2.2.1)], AY [(68802, ⟨3, false, [.agg [eb (0 : UInt8), .str ([] : List UInt8), .nl]]⟩)]⟩ ⟨AY [(2, .ptr 68802 0 0), (3, .int .i64 0), (4, .int .i64 EC.2.2.2.at_), (5, .int .i64 EC.2.2.1)], AY [(68802, ⟨3, false, [.agg [eb (0 : UInt8), .str ([] : List UInt8), .nl]]⟩)]⟩ := by
  refine yc (l := [8]) rfl nofun ⟨⟨_, rfl, ?_⟩, trivial⟩
  refine A7 rfl rfl ?_
  exact AnyW.of Ji rfl (cn rfl rfl rfl rfl)
 have Wt : AnyW Tryz.prog (fun _ => false) EW EU 2 [0, 1, 2, 3, 4, 6, 7, 8] ⟨AY [(2, .ptr 68802 0 0), (3, .int .i64 0), (4, .int .i64 EC.2.2.2.at_), (5, .int .i64 0), (9, .int .i64 EC.2.2.1)], AY [(68802, ⟨3, false, [.agg [eb (0 : UInt8), .str ([] : List UInt8), .nl]]⟩)]⟩ ⟨AY [(2, .ptr 68802 0 0), (3, .int .i64 0), (4, .int .i64 EC.2.2.2.at_), (5, .int .i64 EC.2.2.1)], AY [(68802, ⟨3, false, [.agg [eb (0 : UInt8), .str ([] : List UInt8), .nl]]⟩)]⟩ := by
  refine yc (l := [5]) rfl nofun ⟨⟨_, rfl, ?_⟩, trivial⟩
  refine A7 rfl rfl ?_
  exact AnyW.of Ji rfl (cn rfl rfl rfl rfl)
 have vW : AnyW Tryz.prog (fun _ => false) EW EU 3 [0, 1, 2, 3, 4, 5, 6] ⟨AY [(2, .ptr 68802 0 0), (3, .int .i64 0), (4, .int .i64 0), (5, .int .i64 0), (27, .int .i64 EC.2.2.2.at_), (28, .int .i64 EC.2.2.1)], AY [(68802, ⟨3, false, [.agg [eb (0 : UInt8), .str ([] : List UInt8), .nl]]⟩)]⟩ ⟨AY [(2, .ptr 68802 0 0), (3, .int .i64 0), (4, .int .i64 EC.2.2.2.at_), (5, .int .i64 EC.2.2.1)], AY [(68802, ⟨3, false, [.agg [eb (0 : UInt8), .str ([] : List UInt8), .nl]]⟩)]⟩ := by
  refine yc (l := [7]) rfl nofun ⟨⟨_, rfl, ?_⟩, trivial⟩
  refine A7 rfl rfl ?_
  exact AnyW.of vS rfl (cn rfl rfl rfl rfl)
 have Jj : AnyW Tryz.prog (fun _ => false) EW EU 3 [0, 1, 2, 3, 4, 6, 7] ⟨AY [(2, .ptr 68802 0 0), (3, .int .i64 0), (4, .int .i64 0), (5, .int .i64 0), (9, .int .i64 EC.2.2.1), (27, .int .i64 EC.2.2.2.at_)], AY [(68802, ⟨3, false, [.agg [eb (0 : UInt8), .str ([] : List UInt8), .nl]]⟩)]⟩ ⟨AY [(2, .ptr 68802 0 0), (3, .int .i64 0), (4, .int .i64 EC.2.2.2.at_), (5, .int .i64 EC.2.2.1)], AY [(68802, ⟨3, false, [.agg [eb (0 : UInt8), .str ([] : List UInt8), .nl]]⟩)]⟩ := by
  refine yc (l := [5, 8]) rfl nofun ⟨⟨_, rfl, ?_⟩, ⟨_, rfl, ?_⟩, trivial⟩
  refine A7 rfl rfl ?_
  exact AnyW.of vS rfl (cn rfl rfl rfl rfl)
  refine A7 rfl rfl ?_
  exact AnyW.of Wt rfl (cn rfl rfl rfl rfl)
 have vT : AnyW Tryz.prog (fun _ => false) EW EU 3 [0, 1, 2, 3, 5, 6, 7] ⟨AY [(2, .ptr 68802 0 0), (3, .int .i64 0), (4, .int .i64 0), (5, .int .i64 0), (26, .ptr 700970 0 1), (28, .int .i64 EC.2.2.1)], AY [(68802, ⟨3, false, [.agg [eb (0 : UInt8), .str ([] : List UInt8), .nl]]⟩), (700970, ⟨2, false, [BI EC.2.2.2]⟩)]⟩ ⟨AY [(2, .ptr 68802 0 0), (3, .int .i64 0), (4, .int .i64 EC.2.2.2.at_), (5, .int .i64 EC.2.2.1)], AY [(68802, ⟨3, false, [.agg [eb (0 : UInt8), .str ([] : List UInt8), .nl]]⟩)]⟩ := by
  refine yc (l := [4]) rfl nofun ⟨⟨_, rfl, ?_⟩, trivial⟩
  refine A7 rfl rfl ?_
  exact AnyW.of vS rfl (cn rfl rfl rfl rfl)
 have Je : AnyW Tryz.prog (fun _ => false) EW EU 4 [0, 1, 2, 3, 4, 5] ⟨AY [(2, .ptr 68802 0 0), (3, .int .i64 0), (4, .int .i64 0), (5, .int .i64 0), (23, .agg [eb (0 : UInt8), .str ([] : List UInt8), .nl]), (27, .int .i64 EC.2.2.2.at_), (28, .int .i64 EC.2.2.1)], AY [(68802, ⟨3, false, [.agg [eb (0 : UInt8), .str ([] : List UInt8), .nl]]⟩)]⟩ ⟨AY [(2, .ptr 68802 0 0), (3, .int .i64 0), (4, .int .i64 EC.2.2.2.at_), (5, .int .i64 EC.2.2.1)], AY [(68802, ⟨3, false, [.agg [eb (0 : UInt8), .str ([] : List UInt8), .nl]]⟩)]⟩ := by
  refine yc (l := [6]) rfl nofun ⟨⟨_, rfl, ?_⟩, trivial⟩
  refine F3 (e' := .agg [eb (0 : UInt8), .str ([] : List UInt8), .nl]) rfl rfl rfl rfl rfl rfl rfl rfl nofun rfl ?_
  exact AnyW.of vW rfl (cn rfl rfl rfl rfl)
 have Jo : AnyW Tryz.prog (fun _ => false) EW EU 4 [0, 1, 2, 3, 4, 6] ⟨AY [(2, .ptr 68802 0 0), (3, .int .i64 0), (4, .int .i64 0), (5, .int .i64 0), (9, .int .i64 EC.2.2.1), (27, .int .i64 EC.2.2.2.at_)], AY [(68802, ⟨3, false, [.agg [eb (0 : UInt8), .str ([] : List UInt8), .nl]]⟩)]⟩ ⟨AY [(2, .ptr 68802 0 0), (3, .int .i64 0), (4, .int .i64 EC.2.2.2.at_), (5, .int .i64 EC.2.2.1)], AY [(68802, ⟨3, false, [.agg [eb (0 : UInt8), .str ([] : List UInt8), .nl]]⟩)]⟩ := by
  refine yc (l := [5, 7]) rfl nofun ⟨⟨_, rfl, ?_⟩, ⟨_, rfl, ?_⟩, trivial⟩
  refine A7 rfl rfl ?_
  exact AnyW.of vW rfl (cn rfl rfl rfl rfl)
  refine A7 rfl rfl ?_
  exact AnyW.of Jj rfl (cn rfl rfl rfl rfl)
 have vX : AnyW Tryz.prog (fun _ => false) EW EU 4 [0, 1, 2, 3, 5, 6] ⟨AY [(2, .ptr 68802 0 0), (3, .int .i64 0), (4, .int .i64 0), (5, .int .i64 0), (26, .ptr 700970 0 1), (28, .int .i64 EC.2.2.1)], AY [(68802, ⟨3, false, [.agg [eb (0 : UInt8), .str ([] : List UInt8), .nl]]⟩), (700970, ⟨2, false, [BI EC.2.2.2]⟩)]⟩ ⟨AY [(2, .ptr 68802 0 0), (3, .int .i64 0), (4, .int .i64 EC.2.2.2.at_), (5, .int .i64 EC.2.2.1)], AY [(68802, ⟨3, false, [.agg [eb (0 : UInt8), .str ([] : List UInt8), .nl]]⟩)]⟩ := by
  refine yc (l := [4, 7]) rfl nofun ⟨⟨_, rfl, ?_⟩, ⟨_, rfl, ?_⟩, trivial⟩
  refine A7 rfl rfl ?_
  exact AnyW.of vW rfl (cn rfl rfl rfl rfl)
  refine A7 rfl rfl ?_
  exact AnyW.of vT rfl (cn rfl rfl rfl rfl)
 have Jk : AnyW Tryz.prog (fun _ => false) EW EU 4 [0, 1, 2, 3, 6, 7] ⟨AY [(2, .ptr 68802 0 0), (3, .int .i64 0), (4, .int .i64 0), (5, .int .i64 0), (9, .int .i64 EC.2.2.1), (26, .ptr 700970 0 1)], AY [(68802, ⟨3, false, [.agg [eb (0 : UInt8), .str ([] : List UInt8), .nl]]⟩), (700970, ⟨2, false, [BI EC.2.2.2]⟩)]⟩ ⟨AY [(2, .ptr 68802 0 0), (3, .int .i64 0), (4, .int .i64 EC.2.2.2.at_), (5, .int .i64 EC.2.2.1)], AY [(68802, ⟨3, false, [.agg [eb (0 : UInt8), .str ([] : List UInt8), .nl]]⟩)]⟩ := by
  refine yc (l := [4, 5]) rfl nofun ⟨⟨_, rfl, ?_⟩, ⟨_, rfl, ?_⟩, trivial⟩
  refine A7 rfl rfl ?_
  exact AnyW.of Jj rfl (cn rfl rfl rfl rfl)
  refine A7 rfl rfl ?_
  exact AnyW.of vT rfl (cn rfl rfl rfl rfl)
 have vU : AnyW Tryz.prog (fun _ => false) EW EU 4 [0, 1, 2, 5, 6, 7] ⟨AY [(2, .ptr 68802 0 0), (3, .int .i64 0), (4, .int .i64 0), (5, .int .i64 0), (25, .ptr 700970 0 0), (28, .int .i64 EC.2.2.1)], AY [(68802, ⟨3, false, [.agg [eb (0 : UInt8), .str ([] : List UInt8), .nl]]⟩), (700970, ⟨2, false, [BI EC.2.2.2]⟩)]⟩ ⟨AY [(2, .ptr 68802 0 0), (3, .int .i64 0), (4, .int .i64 EC.2.2.2.at_), (5, .int .i64 EC.2.2.1)], AY [(68802, ⟨3, false, [.agg [eb (0 : UInt8), .str ([] : List UInt8), .nl]]⟩)]⟩ := by
  refine yc (l := [3]) rfl nofun ⟨⟨_, rfl, ?_⟩, trivial⟩
  refine A7 rfl rfl ?_
  exact AnyW.of vT rfl (cn rfl rfl rfl rfl)
 have Pv : AnyW Tryz.prog (fun _ => false) EW EU 5 [0, 1, 2, 3, 4] ⟨AY [(2, .ptr 68802 0 0), (3, .int .i64 0), (4, .int .i64 0), (5, .int .i64 0), (9, .int .i64 EC.2.2.1), (23, .agg [eb (0 : UInt8), .str ([] : List UInt8), .nl]), (27, .int .i64 EC.2.2.2.at_)], AY [(68802, ⟨3, false, [.agg [eb (0 : UInt8), .str ([] : List UInt8), .nl]]⟩)]⟩ ⟨AY [(2, .ptr 68802 0 0), (3, .int .i64 0), (4, .int .i64 EC.2.2.2.at_), (5, .int .i64 EC.2.2.1)], AY [(68802, ⟨3, false, [.agg [eb (0 : UInt8), .str ([] : List UInt8), .nl]]⟩)]⟩ := by
  refine yc (l := [5, 6]) rfl nofun ⟨⟨_, rfl, ?_⟩, ⟨_, rfl, ?_⟩, trivial⟩
  refine A7 rfl rfl ?_
  exact AnyW.of Je rfl (cn rfl rfl rfl rfl)
  refine F3 (e' := .agg [eb (0 : UInt8), .str ([] : List UInt8), .nl]) rfl rfl rfl rfl rfl rfl rfl rfl nofun rfl ?_
  exact AnyW.of Jo rfl (cn rfl rfl rfl rfl)
 have Jf : AnyW Tryz.prog (fun _ => false) EW EU 5 [0, 1, 2, 3, 5] ⟨AY [(2, .ptr 68802 0 0), (3, .int .i64 0), (4, .int .i64 0), (5, .int .i64 0), (23, .agg [eb (0 : UInt8), .str ([] : List UInt8), .nl]), (26, .ptr 700970 0 1), (28, .int .i64 EC.2.2.1)], AY [(68802, ⟨3, false, [.agg [eb (0 : UInt8), .str ([] : List UInt8), .nl]]⟩), (700970, ⟨2, false, [BI EC.2.2.2]⟩)]⟩ ⟨AY [(2, .ptr 68802 0 0), (3, .int .i64 0), (4, .int .i64 EC.2.2.2.at_), (5, .int .i64 EC.2.2.1)], AY [(68802, ⟨3, false, [.agg [eb (0 : UInt8), .str ([] : List UInt8), .nl]]⟩)]⟩ := by
  refine yc (l := [4, 6]) rfl nofun ⟨⟨_, rfl, ?_⟩, ⟨_, rfl, ?_⟩, trivial⟩
  refine A7 rfl rfl ?_
  exact AnyW.of Je rfl (cn rfl rfl rfl rfl)
  refine F3 (e' := .agg [eb (0 : UInt8), .str ([] : List UInt8), .nl]) rfl rfl rfl rfl rfl rfl rfl rfl nofun rfl ?_
  exact AnyW.of vX rfl (cn rfl rfl rfl rfl)
 have Jp : AnyW Tryz.prog (fun _ => false) EW EU 5 [0, 1, 2, 3, 6] ⟨AY [(2, .ptr 68802 0 0), (3, .int .i64 0), (4, .int .i64 0), (5, .int .i64 0), (9, .int .i64 EC.2.2.1), (26, .ptr 700970 0 1)], AY [(68802, ⟨3, false, [.agg [eb (0 : UInt8), .str ([] : List UInt8), .nl]]⟩), (700970, ⟨2, false, [BI EC.2.2.2]⟩)]⟩ ⟨AY [(2, .ptr 68802 0 0), (3, .int .i64 0), (4, .int .i64 EC.2.2.2.at_), (5, .int .i64 EC.2.2.1)], AY [(68802, ⟨3, false, [.agg [eb (0 : UInt8), .str ([] : List UInt8), .nl]]⟩)]⟩ := by
  refine yc (l := [4, 5, 7]) rfl nofun ⟨⟨_, rfl, ?_⟩, ⟨_, rfl, ?_⟩, ⟨_, rfl, ?_⟩, trivial⟩
  refine A7 rfl rfl ?_
  exact AnyW.of Jo rfl (cn rfl rfl rfl rfl)
  refine A7 rfl rfl ?_
  exact AnyW.of vX rfl (cn rfl rfl rfl rfl)
  refine A7 rfl rfl ?_
  exact AnyW.of Jk rfl (cn rfl rfl rfl rfl)
 have vY : AnyW Tryz.prog (fun _ => false) EW EU 5 [0, 1, 2, 5, 6] ⟨AY [(2, .ptr 68802 0 0), (3, .int .i64 0), (4, .int .i64 0), (5, .int .i64 0), (25, .ptr 700970 0 0), (28, .int .i64 EC.2.2.1)], AY [(68802, ⟨3, false, [.agg [eb (0 : UInt8), .str ([] : List UInt8), .nl]]⟩), (700970, ⟨2, false, [BI EC.2.2.2]⟩)]⟩ ⟨AY [(2, .ptr 68802 0 0), (3, .int .i64 0), (4, .int .i64 EC.2.2.2.at_), (5, .int .i64 EC.2.2.1)], AY [(68802, ⟨3, false, [.agg [eb (0 : UInt8), .str ([] : List UInt8), .nl]]⟩)]⟩ := by
  refine yc (l := [3, 7]) rfl nofun ⟨⟨_, rfl, ?_⟩, ⟨_, rfl, ?_⟩, trivial⟩
  refine A7 rfl rfl ?_
  exact AnyW.of vX rfl (cn rfl rfl rfl rfl)
  refine A7 rfl rfl ?_
  exact AnyW.of vU rfl (cn rfl rfl rfl rfl)
 have Jl : AnyW Tryz.prog (fun _ => false) EW EU 5 [0, 1, 2, 6, 7] ⟨AY [(2, .ptr 68802 0 0), (3, .int .i64 0), (4, .int .i64 0), (5, .int .i64 0), (9, .int .i64 EC.2.2.1), (25, .ptr 700970 0 0)], AY [(68802, ⟨3, false, [.agg [eb (0 : UInt8), .str ([] : List UInt8), .nl]]⟩), (700970, ⟨2, false, [BI EC.2.2.2]⟩)]⟩ ⟨AY [(2, .ptr 68802 0 0), (3, .int .i64 0), (4, .int .i64 EC.2.2.2.at_), (5, .int .i64 EC.2.2.1)], AY [(68802, ⟨3, false, [.agg [eb (0 : UInt8), .str ([] : List UInt8), .nl]]⟩)]⟩ := by
  refine yc (l := [3, 5]) rfl nofun ⟨⟨_, rfl, ?_⟩, ⟨_, rfl, ?_⟩, trivial⟩
  refine A7 rfl rfl ?_
  exact AnyW.of Jk rfl (cn rfl rfl rfl rfl)
  refine A7 rfl rfl ?_
  exact AnyW.of vU rfl (cn rfl rfl rfl rfl)
 have vV : AnyW Tryz.prog (fun _ => false) EW EU 5 [0, 1, 5, 6, 7] ⟨AY [(2, .ptr 68802 0 0), (3, .int .i64 0), (4, .int .i64 0), (5, .int .i64 0), (24, .ptr 700970 0 0), (28, .int .i64 EC.2.2.1)], AY [(68802, ⟨3, false, [.agg [eb (0 : UInt8), .str ([] : List UInt8), .nl]]⟩), (700970, ⟨2, false, [BI EC.2.2.2]⟩)]⟩ ⟨AY [(2, .ptr 68802 0 0), (3, .int .i64 0), (4, .int .i64 EC.2.2.2.at_), (5, .int .i64 EC.2.2.1)], AY [(68802, ⟨3, false, [.agg [eb (0 : UInt8), .str ([] : List UInt8), .nl]]⟩)]⟩ := by
  refine yc (l := [2]) rfl nofun ⟨⟨_, rfl, ?_⟩, trivial⟩
  refine A7 rfl rfl ?_
  exact AnyW.of vU rfl (cn rfl rfl rfl rfl)
 have Pw : AnyW Tryz.prog (fun _ => false) EW EU 6 [0, 1, 2, 3] ⟨AY [(2, .ptr 68802 0 0), (3, .int .i64 0), (4, .int .i64 0), (5, .int .i64 0), (9, .int .i64 EC.2.2.1), (23, .agg [eb (0 : UInt8), .str ([] : List UInt8), .nl]), (26, .ptr 700970 0 1)], AY [(68802, ⟨3, false, [.agg [eb (0 : UInt8), .str ([] : List UInt8), .nl]]⟩), (700970, ⟨2, false, [BI EC.2.2.2]⟩)]⟩ ⟨AY [(2, .ptr 68802 0 0), (3, .int .i64 0), (4, .int .i64 EC.2.2.2.at_), (5, .int .i64 EC.2.2.1)], AY [(68802, ⟨3, false, [.agg [eb (0 : UInt8), .str ([] : List UInt8), .nl]]⟩)]⟩ := by
  refine yc (l := [4, 5, 6]) rfl nofun ⟨⟨_, rfl, ?_⟩, ⟨_, rfl, ?_⟩, ⟨_, rfl, ?_⟩, trivial⟩
  refine A7 rfl rfl ?_
  exact AnyW.of Pv rfl (cn rfl rfl rfl rfl)
  refine A7 rfl rfl ?_
  exact AnyW.of Jf rfl (cn rfl rfl rfl rfl)
  refine F3 (e' := .agg [eb (0 : UInt8), .str ([] : List UInt8), .nl]) rfl rfl rfl rfl rfl rfl rfl rfl nofun rfl ?_
  exact AnyW.of Jp rfl (cn rfl rfl rfl rfl)
 have Jg : AnyW Tryz.prog (fun _ => false) EW EU 6 [0, 1, 2, 5] ⟨AY [(2, .ptr 68802 0 0), (3, .int .i64 0), (4, .int .i64 0), (5, .int .i64 0), (23, .agg [eb (0 : UInt8), .str ([] : List UInt8), .nl]), (25, .ptr 700970 0 0), (28, .int .i64 EC.2.2.1)], AY [(68802, ⟨3, false, [.agg [eb (0 : UInt8), .str ([] : List UInt8), .nl]]⟩), (700970, ⟨2, false, [BI EC.2.2.2]⟩)]⟩ ⟨AY [(2, .ptr 68802 0 0), (3, .int .i64 0), (4, .int .i64 EC.2.2.2.at_), (5, .int .i64 EC.2.2.1)], AY [(68802, ⟨3, false, [.agg [eb (0 : UInt8), .str ([] : List UInt8), .nl]]⟩)]⟩ := by
  refine yc (l := [3, 6]) rfl nofun ⟨⟨_, rfl, ?_⟩, ⟨_, rfl, ?_⟩, trivial⟩
  refine A7 rfl rfl ?_
  exact AnyW.of Jf rfl (cn rfl rfl rfl rfl)
  refine F3 (e' := .agg [eb (0 : UInt8), .str ([] : List UInt8), .nl]) rfl rfl rfl rfl rfl rfl rfl rfl nofun rfl ?_
  exact AnyW.of vY rfl (cn rfl rfl rfl rfl)
 have Jq : AnyW Tryz.prog (fun _ => false) EW EU 6 [0, 1, 2, 6] ⟨AY [(2, .ptr 68802 0 0), (3, .int .i64 0), (4, .int .i64 0), (5, .int .i64 0), (9, .int .i64 EC.2.2.1), (25, .ptr 700970 0 0)], AY [(68802, ⟨3, false, [.agg [eb (0 : UInt8), .str ([] : List UInt8), .nl]]⟩), (700970, ⟨2, false, [BI EC.2.2.2]⟩)]⟩ ⟨AY [(2, .ptr 68802 0 0), (3, .int .i64 0), (4, .int .i64 EC.2.2.2.at_), (5, .int .i64 EC.2.2.1)], AY [(68802, ⟨3, false, [.agg [eb (0 : UInt8), .str ([] : List UInt8), .nl]]⟩)]⟩ := by
  refine yc (l := [3, 5, 7]) rfl nofun ⟨⟨_, rfl, ?_⟩, ⟨_, rfl, ?_⟩, ⟨_, rfl, ?_⟩, trivial⟩
  refine A7 rfl rfl ?_
  exact AnyW.of Jp rfl (cn rfl rfl rfl rfl)
  refine A7 rfl rfl ?_
  exact AnyW.of vY rfl (cn rfl rfl rfl rfl)
  refine A7 rfl rfl ?_
  exact AnyW.of Jl rfl (cn rfl rfl rfl rfl)
 have vZ : AnyW Tryz.prog (fun _ => false) EW EU 6 [0, 1, 5, 6] ⟨AY [(2, .ptr 68802 0 0), (3, .int .i64 0), (4, .int .i64 0), (5, .int .i64 0), (24, .ptr 700970 0 0), (28, .int .i64 EC.2.2.1)], AY [(68802, ⟨3, false, [.agg [eb (0 : UInt8), .str ([] : List UInt8), .nl]]⟩), (700970, ⟨2, false, [BI EC.2.2.2]⟩)]⟩ ⟨AY [(2, .ptr 68802 0 0), (3, .int .i64 0), (4, .int .i64 EC.2.2.2.at_), (5, .int .i64 EC.2.2.1)], AY [(68802, ⟨3, false, [.agg [eb (0 : UInt8), .str ([] : List UInt8), .nl]]⟩)]⟩ := by
  refine yc (l := [2, 7]) rfl nofun ⟨⟨_, rfl, ?_⟩, ⟨_, rfl, ?_⟩, trivial⟩
  refine A7 rfl rfl ?_
  exact AnyW.of vY rfl (cn rfl rfl rfl rfl)
  refine A7 rfl rfl ?_
  exact AnyW.of vV rfl (cn rfl rfl rfl rfl)
 have Jn : AnyW Tryz.prog (fun _ => false) EW EU 6 [0, 1, 6, 7] ⟨AY [(2, .ptr 68802 0 0), (3, .int .i64 0), (4, .int .i64 0), (5, .int .i64 0), (9, .int .i64 EC.2.2.1), (24, .ptr 700970 0 0)], AY [(68802, ⟨3, false, [.agg [eb (0 : UInt8), .str ([] : List UInt8), .nl]]⟩), (700970, ⟨2, false, [BI EC.2.2.2]⟩)]⟩ ⟨AY [(2, .ptr 68802 0 0), (3, .int .i64 0), (4, .int .i64 EC.2.2.2.at_), (5, .int .i64 EC.2.2.1)], AY [(68802, ⟨3, false, [.agg [eb (0 : UInt8), .str ([] : List UInt8), .nl]]⟩)]⟩ := by
  refine yc (l := [2, 5]) rfl nofun ⟨⟨_, rfl, ?_⟩, ⟨_, rfl, ?_⟩, trivial⟩
  refine A7 rfl rfl ?_
  exact AnyW.of Jl rfl (cn rfl rfl rfl rfl)
  refine A7 rfl rfl ?_
  exact AnyW.of vV rfl (cn rfl rfl rfl rfl)
 have Jm : AnyW Tryz.prog (fun _ => false) EW EU 6 [0, 5, 6, 7] ⟨AY [(2, .ptr 68802 0 0), (3, .int .i64 0), (4, .int .i64 0), (5, .int .i64 0), (6, .ptr 700970 0 0), (28, .int .i64 EC.2.2.1)], AY [(68802, ⟨3, false, [.agg [eb (0 : UInt8), .str ([] : List UInt8), .nl]]⟩), (700970, ⟨2, false, [BI EC.2.2.2]⟩)]⟩ ⟨AY [(2, .ptr 68802 0 0), (3, .int .i64 0), (4, .int .i64 EC.2.2.2.at_), (5, .int .i64 EC.2.2.1)], AY [(68802, ⟨3, false, [.agg [eb (0 : UInt8), .str ([] : List UInt8), .nl]]⟩)]⟩ := by
  refine yc (l := [1]) rfl nofun ⟨⟨_, rfl, ?_⟩, trivial⟩
  refine A7 rfl rfl ?_
  exact AnyW.of vV rfl (cn rfl rfl rfl rfl)
 have Px : AnyW Tryz.prog (fun _ => false) EW EU 7 [0, 1, 2] ⟨AY [(2, .ptr 68802 0 0), (3, .int .i64 0), (4, .int .i64 0), (5, .int .i64 0), (9, .int .i64 EC.2.2.1), (23, .agg [eb (0 : UInt8), .str ([] : List UInt8), .nl]), (25, .ptr 700970 0 0)], AY [(68802, ⟨3, false, [.agg [eb (0 : UInt8), .str ([] : List UInt8), .nl]]⟩), (700970, ⟨2, false, [BI EC.2.2.2]⟩)]⟩ ⟨AY [(2, .ptr 68802 0 0), (3, .int .i64 0), (4, .int .i64 EC.2.2.2.at_), (5, .int .i64 EC.2.2.1)], AY [(68802, ⟨3, false, [.agg [eb (0 : UInt8), .str ([] : List UInt8), .nl]]⟩)]⟩ := by
  refine yc (l := [3, 5, 6]) rfl nofun ⟨⟨_, rfl, ?_⟩, ⟨_, rfl, ?_⟩, ⟨_, rfl, ?_⟩, trivial⟩
  refine A7 rfl rfl ?_
  exact AnyW.of Pw rfl (cn rfl rfl rfl rfl)
  refine A7 rfl rfl ?_
  exact AnyW.of Jg rfl (cn rfl rfl rfl rfl)
  refine F3 (e' := .agg [eb (0 : UInt8), .str ([] : List UInt8), .nl]) rfl rfl rfl rfl rfl rfl rfl rfl nofun rfl ?_
  exact AnyW.of Jq rfl (cn rfl rfl rfl rfl)
 have Jh : AnyW Tryz.prog (fun _ => false) EW EU 7 [0, 1, 5] ⟨AY [(2, .ptr 68802 0 0), (3, .int .i64 0), (4, .int .i64 0), (5, .int .i64 0), (23, .agg [eb (0 : UInt8), .str ([] : List UInt8), .nl]), (24, .ptr 700970 0 0), (28, .int .i64 EC.2.2.1)], AY [(68802, ⟨3, false, [.agg [eb (0 : UInt8), .str ([] : List UInt8), .nl]]⟩), (700970, ⟨2, false, [BI EC.2.2.2]⟩)]⟩ ⟨AY [(2, .ptr 68802 0 0), (3, .int .i64 0), (4, .int .i64 EC.2.2.2.at_), (5, .int .i64 EC.2.2.1)], AY [(68802, ⟨3, false, [.agg [eb (0 : UInt8), .str ([] : List UInt8), .nl]]⟩)]⟩ := by
  refine yc (l := [2, 6]) rfl nofun ⟨⟨_, rfl, ?_⟩, ⟨_, rfl, ?_⟩, trivial⟩
  refine A7 rfl rfl ?_
  exact AnyW.of Jg rfl (cn rfl rfl rfl rfl)
  refine F3 (e' := .agg [eb (0 : UInt8), .str ([] : List UInt8), .nl]) rfl rfl rfl rfl rfl rfl rfl rfl nofun rfl ?_
  exact AnyW.of vZ rfl (cn rfl rfl rfl rfl)
 have Js : AnyW Tryz.prog (fun _ => false) EW EU 7 [0, 1, 6] ⟨AY [(2, .ptr 68802 0 0), (3, .int .i64 0), (4, .int .i64 0), (5, .int .i64 0), (9, .int .i64 EC.2.2.1), (24, .ptr 700970 0 0)], AY [(68802, ⟨3, false, [.agg [eb (0 : UInt8), .str ([] : List UInt8), .nl]]⟩), (700970, ⟨2, false, [BI EC.2.2.2]⟩)]⟩ ⟨AY [(2, .ptr 68802 0 0), (3, .int .i64 0), (4, .int .i64 EC.2.2.2.at_), (5, .int .i64 EC.2.2.1)], AY [(68802, ⟨3, false, [.agg [eb (0 : UInt8), .str ([] : List UInt8), .nl]]⟩)]⟩ := by
  refine yc (l := [2, 5, 7]) rfl nofun ⟨⟨_, rfl, ?_⟩, ⟨_, rfl, ?_⟩, ⟨_, rfl, ?_⟩, trivial⟩
  refine A7 rfl rfl ?_
  exact AnyW.of Jq rfl (cn rfl rfl rfl rfl)
  refine A7 rfl rfl ?_
  exact AnyW.of vZ rfl (cn rfl rfl rfl rfl)
  refine A7 rfl rfl ?_
  exact AnyW.of Jn rfl (cn rfl rfl rfl rfl)
 have Jr : AnyW Tryz.prog (fun _ => false) EW EU 7 [0, 5, 6] ⟨AY [(2, .ptr 68802 0 0), (3, .int .i64 0), (4, .int .i64 0), (5, .int .i64 0), (6, .ptr 700970 0 0), (28, .int .i64 EC.2.2.1)], AY [(68802, ⟨3, false, [.agg [eb (0 : UInt8), .str ([] : List UInt8), .nl]]⟩), (700970, ⟨2, false, [BI EC.2.2.2]⟩)]⟩ ⟨AY [(2, .ptr 68802 0 0), (3, .int .i64 0), (4, .int .i64 EC.2.2.2.at_), (5, .int .i64 EC.2.2.1)], AY [(68802, ⟨3, false, [.agg [eb (0 : UInt8), .str ([] : List UInt8), .nl]]⟩)]⟩ := by
  refine yc (l := [1, 7]) rfl nofun ⟨⟨_, rfl, ?_⟩, ⟨_, rfl, ?_⟩, trivial⟩
  refine A7 rfl rfl ?_
  exact AnyW.of vZ rfl (cn rfl rfl rfl rfl)
  refine A7 rfl rfl ?_
  exact AnyW.of Jm rfl (cn rfl rfl rfl rfl)
 have Wu : AnyW Tryz.prog (fun _ => false) EW EU 7 [0, 6, 7] ⟨AY [(2, .ptr 68802 0 0), (3, .int .i64 0), (4, .int .i64 0), (5, .int .i64 0), (6, .ptr 700970 0 0), (9, .int .i64 EC.2.2.1)], AY [(68802, ⟨3, false, [.agg [eb (0 : UInt8), .str ([] : List UInt8), .nl]]⟩), (700970, ⟨2, false, [BI EC.2.2.2]⟩)]⟩ ⟨AY [(2, .ptr 68802 0 0), (3, .int .i64 0), (4, .int .i64 EC.2.2.2.at_), (5, .int .i64 EC.2.2.1)], AY [(68802, ⟨3, false, [.agg [eb (0 : UInt8), .str ([] : List UInt8), .nl]]⟩)]⟩ := by
  refine yc (l := [1, 5]) rfl nofun ⟨⟨_, rfl, ?_⟩, ⟨_, rfl, ?_⟩, trivial⟩
  refine A7 rfl rfl ?_
  exact AnyW.of Jn rfl (cn rfl rfl rfl rfl)
  refine A7 rfl rfl ?_
  exact AnyW.of Jm rfl (cn rfl rfl rfl rfl)
 have Pz : AnyW Tryz.prog (fun _ => false) EW EU 8 [0, 1] ⟨AY [(2, .ptr 68802 0 0), (3, .int .i64 0), (4, .int .i64 0), (5, .int .i64 0), (9, .int .i64 EC.2.2.1), (23, .agg [eb (0 : UInt8), .str ([] : List UInt8), .nl]), (24, .ptr 700970 0 0)], AY [(68802, ⟨3, false, [.agg [eb (0 : UInt8), .str ([] : List UInt8), .nl]]⟩), (700970, ⟨2, false, [BI EC.2.2.2]⟩)]⟩ ⟨AY [(2, .ptr 68802 0 0), (3, .int .i64 0), (4, .int .i64 EC.2.2.2.at_), (5, .int .i64 EC.2.2.1)], AY [(68802, ⟨3, false, [.agg [eb (0 : UInt8), .str ([] : List UInt8), .nl]]⟩)]⟩ := by
  refine yc (l := [2, 5, 6]) rfl nofun ⟨⟨_, rfl, ?_⟩, ⟨_, rfl, ?_⟩, ⟨_, rfl, ?_⟩, trivial⟩
  refine A7 rfl rfl ?_
  exact AnyW.of Px rfl (cn rfl rfl rfl rfl)
  refine A7 rfl rfl ?_
  exact AnyW.of Jh rfl (cn rfl rfl rfl rfl)
  refine F3 (e' := .agg [eb (0 : UInt8), .str ([] : List UInt8), .nl]) rfl rfl rfl rfl rfl rfl rfl rfl nofun rfl ?_
  exact AnyW.of Js rfl (cn rfl rfl rfl rfl)
 have Py : AnyW Tryz.prog (fun _ => false) EW EU 8 [0, 5] ⟨AY [(2, .ptr 68802 0 0), (3, .int .i64 0), (4, .int .i64 0), (5, .int .i64 0), (6, .ptr 700970 0 0), (23, .agg [eb (0 : UInt8), .str ([] : List UInt8), .nl]), (28, .int .i64 EC.2.2.1)], AY [(68802, ⟨3, false, [.agg [eb (0 : UInt8), .str ([] : List UInt8), .nl]]⟩), (700970, ⟨2, false, [BI EC.2.2.2]⟩)]⟩ ⟨AY [(2, .ptr 68802 0 0), (3, .int .i64 0), (4, .int .i64 EC.2.2.2.at_), (5, .int .i64 EC.2.2.1)], AY [(68802, ⟨3, false, [.agg [eb (0 : UInt8), .str ([] : List UInt8), .nl]]⟩)]⟩ := by
  refine yc (l := [1, 6]) rfl nofun ⟨⟨_, rfl, ?_⟩, ⟨_, rfl, ?_⟩, trivial⟩
  refine A7 rfl rfl ?_
  exact AnyW.of Jh rfl (cn rfl rfl rfl rfl)
  refine F3 (e' := .agg [eb (0 : UInt8), .str ([] : List UInt8), .nl]) rfl rfl rfl rfl rfl rfl rfl rfl nofun rfl ?_
  exact AnyW.of Jr rfl (cn rfl rfl rfl rfl)
 have Wv : AnyW Tryz.prog (fun _ => false) EW EU 8 [0, 6] ⟨AY [(2, .ptr 68802 0 0), (3, .int .i64 0), (4, .int .i64 0), (5, .int .i64 0), (6, .ptr 700970 0 0), (9, .int .i64 EC.2.2.1)], AY [(68802, ⟨3, false, [.agg [eb (0 : UInt8), .str ([] : List UInt8), .nl]]⟩), (700970, ⟨2, false, [BI EC.2.2.2]⟩)]⟩ ⟨AY [(2, .ptr 68802 0 0), (3, .int .i64 0), (4, .int .i64 EC.2.2.2.at_), (5, .int .i64 EC.2.2.1)], AY [(68802, ⟨3, false, [.agg [eb (0 : UInt8), .str ([] : List UInt8), .nl]]⟩)]⟩ := by
  refine yc (l := [1, 5, 7]) rfl nofun ⟨⟨_, rfl, ?_⟩, ⟨_, rfl, ?_⟩, ⟨_, rfl, ?_⟩, trivial⟩
  refine A7 rfl rfl ?_
  exact AnyW.of Js rfl (cn rfl rfl rfl rfl)
  refine A7 rfl rfl ?_
  exact AnyW.of Jr rfl (cn rfl rfl rfl rfl)
  refine A7 rfl rfl ?_
  exact AnyW.of Wu rfl (cn rfl rfl rfl rfl)
 have a11_0 : AnyW Tryz.prog (fun _ => false) EW EU 9 [0] ⟨AY [(2, .ptr 68802 0 0), (3, .int .i64 0), (4, .int .i64 0), (5, .int .i64 0), (6, .ptr 700970 0 0), (9, .int .i64 EC.2.2.1), (23, .agg [eb (0 : UInt8), .str ([] : List UInt8), .nl])], AY [(68802, ⟨3, false, [.agg [eb (0 : UInt8), .str ([] : List UInt8), .nl]]⟩), (700970, ⟨2, false, [BI EC.2.2.2]⟩)]⟩ ⟨AY [(2, .ptr 68802 0 0), (3, .int .i64 0), (4, .int .i64 EC.2.2.2.at_), (5, .int .i64 EC.2.2.1)], AY [(68802, ⟨3, false, [.agg [eb (0 : UInt8), .str ([] : List UInt8), .nl]]⟩)]⟩ := by
  refine yc (l := [1, 5, 6]) rfl nofun ⟨⟨_, rfl, ?_⟩, ⟨_, rfl, ?_⟩, ⟨_, rfl, ?_⟩, trivial⟩
  refine A7 rfl rfl ?_
  exact AnyW.of Pz rfl (cn rfl rfl rfl rfl)
  refine A7 rfl rfl ?_
  exact AnyW.of Py rfl (cn rfl rfl rfl rfl)
  refine F3 (e' := .agg [eb (0 : UInt8), .str ([] : List UInt8), .nl]) rfl rfl rfl rfl rfl rfl rfl rfl nofun rfl ?_
  exact AnyW.of Wv rfl (cn rfl rfl rfl rfl)
 exact ⟨⟨4, AnyW.of Je rfl (cn rfl rfl rfl rfl)⟩, ⟨5, AnyW.of Pv rfl (cn rfl rfl rfl rfl)⟩, ⟨5, AnyW.of Jf rfl (cn rfl rfl rfl rfl)⟩, ⟨6, AnyW.of Pw rfl (cn rfl rfl rfl rfl)⟩, ⟨6, AnyW.of Jg rfl (cn rfl rfl rfl rfl)⟩, ⟨7, AnyW.of Px rfl (cn rfl rfl rfl rfl)⟩, ⟨7, AnyW.of Jh rfl (cn rfl rfl rfl rfl)⟩, ⟨8, AnyW.of Pz rfl (cn rfl rfl rfl rfl)⟩, ⟨8, AnyW.of Py rfl (cn rfl rfl rfl rfl)⟩, ⟨9, AnyW.of a11_0 rfl (cn rfl rfl rfl rfl)⟩, trivial⟩
 cases AB h
 refine DU (st1 := ⟨AY [(2, .ptr 68802 0 0), (3, .int .i64 0), (4, .int .i64 EC.2.2.2.at_), (5, .int .i64 EC.2.2.1)], AY [(68802, ⟨3, false, [AA (⟨(0 : UInt8), ([] : List UInt8), []⟩ : A8)]⟩)]⟩) (CB.trans (uB 68802 (x := .agg [eb (0 : UInt8), .str ([] : List UInt8), .nl]) (y := .agg [eb ((⟨(0 : UInt8), ([] : List UInt8), []⟩ : A8).Tag), .str ((⟨(0 : UInt8), ([] : List UInt8), []⟩ : A8).Body), .sl 3 ((⟨(0 : UInt8), ([] : List UInt8), []⟩ : A8).Kids)]) (.cons A9 (.cons A9 (.cons (FV 3) .nil))) rfl rfl) (cn rfl rfl rfl rfl)) ?_
 exact ⟨nofun, rfl, rfl⟩
 refine BF ?_
 refine AJ ?_
 refine AC ?_
 refine A7 (p := AA EC.1) rfl rfl ?_
 refine A7 rfl rfl ?_
 refine F3 (e' := AA EC.1) rfl rfl rfl rfl rfl rfl rfl rfl nofun rfl ?_
 iterate 3 refine A7 rfl rfl ?_
 cases AB h
 refine BS ?_
 exact ⟨nofun, rfl, rfl⟩
end Go.Gp
end
section
set_option linter.unusedVariables false
set_option linter.unusedSimpArgs false
set_option maxRecDepth 4000
namespace Go.Gp
open Go.Vd Go.RowKit Go.Proofs
def xQ : IC := (.seq (.reg [jb .lss 24 23 22]) (.seq (.cond (.t 24) .skip (.exit 4)) (.seq (.block 5 (.seq (.reg [jx 25 1 21 23, jl 26 1 25, jm 6 26]) (.reg [jm 27 4, jn 28 (.bin .shl (.t 27) (.c (.int .u64 8))), jm 29 6, jn 30 (.cvi .i64 (.t 29)), jb .or 31 28 30, jm 4 31]))) (.reg [ju .add 32 23 1, jm 23 32]))))
def k44 : IC := (.seq (.reg [jc 2 (j6 0), jc 3 (.bool false)]) (.seq (.reg [jc 4 (j6 0)]) (.seq (.block 0 (.seq (.block 3 (.seq (.block 2 (.seq (.block 1 (.seq (.seq (.seq (.reg [jm 8 0, jn 9 (.bin .eql (.t 8) (.c (.str []))), jm 10 9, jf 10 11 (.mov (.t 0)), jf 10 12 (.len true (.t 11)), jf 10 13 (.bin .gtr (.t 12) (ji 8)), jo 14 10 13, jm 7 14]) (.cond (.t 7) (.exit 1) .skip)) (.seq (.reg [jm 16 0, jn 17 (.idxs (.t 16) (ji 0)), jn 18 (.bin .and (.t 17) (.c (.int .u8 128))), jn 19 (.bin .neq (.t 18) (.c (.int .u8 0))), jm 15 19]) (.cond (.t 15) (.exit 2) .skip))) (.exit 3))) (.seq (.seq (.reg [jc 2 (j6 0), jc 3 (.bool false)]) .ret) (.exit 0)))) (.reg [jc 4 (j6 (-1))]))) (.seq (.seq (.reg [jm 20 0, jn 21 (.cvs (.t 20)), jL 22 21, jc 23 (j6 0)]) (.block 4 (.loop xQ))) (.exit 0)))) (.seq (.seq (.reg [jm 33 4, jn 34 (.call 46 [(.t 33)]), jm 35 0, jb .neq 36 34 35]) (.cond (.t 36) (.seq (.reg [jc 2 (j6 0), jc 3 (.bool false)]) .ret) .skip)) (.seq (.reg [jm 37 4, jm 2 37, jc 3 (.bool true)]) .ret)))))
theorem Tm : BX Tryz.prog Tryz.f44 = some ⟨38, k44, [(.tmp 2), (.tmp 3)]⟩ := by kernel_rfl
theorem ZM (N : Nat) (a0 : List UInt8) : ∀ (n : Nat) (x : Int × Int) (y : Int), MR N a0 n x = some y → WX Tryz.prog (fun _ => false) (.loop xQ) ((fun (x : Int × Int) => ⟨AY [(0, .str a0), (4, .int .i64 x.1), (21, .slr 70421 0 a0.length), (22, .int .i64 (a0.length : Int)), (23, .int .i64 x.2)], AY [(70421, ⟨1, true, List.map eb a0⟩)]⟩) x) ((fun y e s => e = .exit 4 ∧ s = ⟨AY [(0, .str a0), (4, .int .i64 y)], AY []⟩ : Int → Xt → St → Prop) y) := by
 refine EQ _ _ (MR N a0) (SI N a0) (fun _ => rfl) (fun _ _ => rfl) ?_
 rintro rec ⟨lX, eB⟩ y h
 refine AJ ?_
 refine AC ?_
 refine A7 rfl rfl ?_
 refine AJ ?_
 refine D8 h rfl (fun c1 h => ?_) (fun c1 h => ?_)
 refine BF ?_
 refine AJ ?_
 refine C9 ?_
 refine AJ ?_
 refine AC ?_
 obtain ⟨x25, hx25, h⟩ := AL h
 refine A7 rfl (QA hx25 rfl rfl rfl rfl) ?_
 obtain ⟨KZ, oP, h⟩ := AL h
 refine A7 rfl (UM (f := eb) (v := eb KZ) oP rfl rfl rfl) ?_
 refine A7 rfl rfl ?_
 refine AC ?_
 refine A7 rfl rfl ?_
 refine A7 rfl (Ot (by decide) rfl rfl) ?_
 refine A7 rfl rfl ?_
 refine A7 rfl (fA (a := KZ) rfl) ?_
 refine A7 (p := .int .i64 (iop .or .i64 (tZ lX 8) ((KZ).toNat : Int))) rfl rfl ?_
 refine A7 rfl rfl ?_
 refine AC ?_
 refine A7 (p := .int .i64 (BQ (eB + (1 : Int)))) rfl rfl ?_
 refine A7 rfl rfl ?_
 exact ⟨((iop .or .i64 (tZ lX 8) ((KZ).toNat : Int)), (BQ (eB + (1 : Int)))), (cn rfl rfl rfl rfl), h⟩
 obtain rfl := AB h
 exact CW (st1 := ⟨AY [(0, .str a0), (4, .int .i64 lX)], AY []⟩) (cn rfl rfl rfl rfl) ⟨rfl, rfl⟩
theorem UJ (N : Nat) (a0 : List UInt8) (r : Int × Bool) (h : V7 N a0 = some r) : Sat Tryz.prog 44 AO [.str a0] (.tup [.int .i64 r.1, .bool r.2]) AO := by
 refine DT mixed Tryz.func44 Tm (rs := [.int .i64 r.1, .bool r.2]) rfl rfl ?_
 refine AJ ?_
 refine AC ?_
 iterate 2 refine A7 rfl rfl ?_
 refine AJ ?_
 refine AC ?_
 refine A7 rfl rfl ?_
 refine AJ ?_
 refine C9 ?_
 refine QO (fun (x : Int) => ⟨AY [(0, .str a0), (4, .int .i64 x)], AY []⟩) (fun x => QU a0 N x = some r) ?_ ?_
 rintro v4j6 h
 iterate 2 refine AJ ?_
 refine AC ?_
 refine A7 rfl rfl ?_
 refine CS rfl (qU 70421 rfl rfl) ?_
 iterate 2 refine A7 rfl rfl ?_
 refine C9 ?_
 obtain ⟨y2, hy2, h⟩ := AL h
 refine PT (ZM N a0 N _ _ hy2) (cn rfl rfl rfl rfl) ?_
 rintro e s ⟨rfl, rfl⟩
 refine PU ?_
 iterate 2 refine AJ ?_
 refine AC ?_
 refine A7 rfl rfl ?_
 obtain ⟨x34, hx34, h⟩ := AL h
 refine CS rfl (CG (ZV N _ _ hx34) rfl (.cons A9 .nil) rfl rfl rfl) ?_
 iterate 2 refine A7 rfl rfl ?_
 refine D8 h rfl (fun c3 h => ?_) (fun c3 h => ?_)
 refine AJ ?_
 refine AC ?_
 iterate 2 refine A7 rfl rfl ?_
 cases AB h
 refine BS ?_
 exact ⟨nofun, rfl, rfl⟩
 refine BF ?_
 refine AJ ?_
 refine AC ?_
 iterate 3 refine A7 rfl rfl ?_
 cases AB h
 refine BS ?_
 exact ⟨nofun, rfl, rfl⟩
 refine C9 ?_
 refine AJ ?_
 refine C9 ?_
 refine AJ ?_
 refine C9 ?_
 iterate 2 refine AJ ?_
 obtain ⟨g4, hg4, h⟩ := AL h
 refine F9 ⟨AY [(0, .str a0), (4, .int .i64 0), (7, .bool g4)], AY []⟩ ?_ ?_
 have h := hg4
 refine AC ?_
 iterate 3 refine A7 rfl rfl ?_
 rcases BO h with ⟨c5, h⟩ | ⟨c5, h⟩
 iterate 3 refine BK (gn rfl c5) ?_
 refine A7 rfl (BA c5 rfl rfl) ?_
 refine A7 rfl rfl ?_
 obtain rfl := AB h
 exact (cn rfl rfl rfl rfl)
 iterate 3 refine A7 (gy rfl c5) rfl ?_
 refine A7 rfl (AZ c5 rfl rfl) ?_
 refine A7 rfl rfl ?_
 cases AB h
 exact (cn rfl rfl rfl rfl)
 clear hg4
 refine D8 h rfl (fun c6 h => ?_) (fun c6 h => ?_)
 refine PU ?_
 iterate 2 refine AJ ?_
 refine AC ?_
 iterate 2 refine A7 rfl rfl ?_
 cases AB h
 refine BS ?_
 exact ⟨nofun, rfl, rfl⟩
 refine BF ?_
 refine AJ ?_
 refine AC ?_
 refine A7 rfl rfl ?_
 obtain ⟨EC, VJ, h⟩ := AL h
 refine A7 rfl (GN VJ rfl rfl) ?_
 refine A7 rfl (Z6 (a := EC) (b := (128 : UInt8)) rfl rfl) ?_
 refine A7 (p := .bool ((((EC &&& (128 : UInt8))).toNat : Int) != (0 : Int))) rfl rfl ?_
 refine A7 rfl rfl ?_
 refine D8 h rfl (fun c7 h => ?_) (fun c7 h => ?_)
 refine PU ?_
 refine AC ?_
 refine A7 rfl rfl ?_
 exact ⟨(-1), (cn rfl rfl rfl rfl), h⟩
 refine BF ?_
 refine PU ?_
 exact ⟨0, (cn rfl rfl rfl rfl), h⟩
def Fj : IC := (.seq (.seq (.reg [jm 22 7, jm 23 1, ju .sub 24 23 1, jb .lss 25 22 24]) (.cond (.t 25) .skip (.exit 0))) (.seq (.block 1 (.seq (.reg [jm 29 0, jn 30 (.call 124 [(.t 29)]), jm 28 30, je 31 0 28, je 32 1 28, jm 8 31, jm 9 32]) (.seq (.reg [jm 33 6, jm 34 7, jm 35 0, jm 36 9, jn 37 (.slcs (.t 35) none (some (.t 36))), jx 38 1 33 34, js 1 38 37]) (.reg [jm 39 0, jm 40 9, jn 41 (.slcs (.t 39) (some (.t 40)) none), jm 0 41])))) (.reg [jm 26 7, ju .add 27 26 1, jm 7 27])))
def k100 : IC := (.seq (.reg [jc 4 .nl]) (.seq (.reg [jm 10 0, jn 11 (.call 123 [(.t 10)]), jm 5 11]) (.seq (.seq (.reg [jm 12 1, ju .lss 13 12 0, jm 14 13, jf 14 15 (.mov (.t 1)), jf 14 16 (.mov (.t 5)), jf 14 17 (.bin .gtr (.t 15) (.t 16)), jo 18 14 17]) (.cond (.t 18) (.reg [jm 19 5, jm 1 19]) .skip)) (.seq (.reg [jm 20 1, jn 21 (.mks 1 16 (.str []) (.t 20)), jm 6 21]) (.seq (.seq (.reg [jc 7 (j6 0)]) (.block 0 (.loop Fj))) (.seq (.seq (.reg [jm 42 1, ju .gtr 43 42 0]) (.cond (.t 43) (.reg [jm 44 6, jm 45 1, ju .sub 46 45 1, jm 47 0, jx 48 1 44 46, js 1 48 47]) .skip)) (.seq (.reg [jm 49 6, jm 4 49]) .ret)))))))
theorem Ms : BX Tryz.prog Tryz.f100 = some ⟨50, k100, [(.tmp 4)]⟩ := by kernel_rfl
theorem ZN (N : Nat) (a0 : List UInt8) (a1 : Int) (r : List (List UInt8)) (h : XJ N a0 a1 = some r) : Sat Tryz.prog 100 AO [.str a0, .int .i64 a1] (.sl 1 (List.map PV.str r)) AO := by
 refine DT mixed Tryz.func100 Ms (rs := [.sl 1 (List.map PV.str r)]) rfl rfl ?_
 refine AJ ?_
 refine AC ?_
 refine A7 rfl rfl ?_
 refine AJ ?_
 refine AC ?_
 refine A7 rfl rfl ?_
 cases h
def k102 : IC := (.seq (.reg [jc 4 (j6 0)]) (.seq (.reg [jm 5 0, jm 6 1, jn 7 (.call 126 [(.t 5), (.t 6)]), jm 4 7]) .ret))
theorem Mr : BX Tryz.prog Tryz.f102 = some ⟨8, k102, [(.tmp 4)]⟩ := by kernel_rfl
theorem cB (N : Nat) (a0 : List UInt8) (a1 : List UInt8) (r : Int) (h : strings_Index N a0 a1 = some r) : Sat Tryz.prog 102 AO [.str a0, .str a1] (.int .i64 r) AO := by
 refine DT mixed Tryz.func102 Mr (rs := [.int .i64 r]) rfl rfl ?_
 refine AJ ?_
 refine AC ?_
 refine A7 rfl rfl ?_
 refine AJ ?_
 refine AC ?_
 iterate 2 refine A7 rfl rfl ?_
 obtain ⟨x7, hx7, h⟩ := AL h
 refine CS rfl (CG (QP N _ _ _ hx7) rfl (.cons A9 (.cons A9 .nil)) rfl rfl rfl) ?_
 refine A7 rfl rfl ?_
 obtain rfl := AB h
 refine BS ?_
 exact ⟨nofun, rfl, rfl⟩
def xG : IC := (.seq (.seq (.reg [jm 34 10, jm 35 3, jb .lss 36 34 35]) (.cond (.t 36) .skip (.exit 0))) (.block 1 (.seq (.reg [jm 37 0, jm 38 1, jn 39 (.call 102 [(.t 37), (.t 38)]), jm 11 39]) (.seq (.seq (.reg [jm 40 11, ju .lss 41 40 0]) (.cond (.t 41) (.exit 0) .skip)) (.seq (.reg [jm 42 9, jm 43 10, jm 44 0, jm 45 11, jm 46 2, jb .add 47 45 46, jn 48 (.slcs (.t 44) none (some (.t 47))), jx 49 1 42 43, js 1 49 48]) (.seq (.reg [jm 50 0, jm 51 11, jm 52 1, jS 53 52, jb .add 54 51 53, jn 55 (.slcs (.t 50) (some (.t 54)) none), jm 0 55]) (.reg [jm 56 10, ju .add 57 56 1, jm 10 57])))))))
def k87 : IC := (.seq (.reg [jc 8 .nl]) (.seq (.seq (.reg [jm 12 3, ju .eql 13 12 0]) (.cond (.t 13) (.seq (.reg [jc 8 .nl]) .ret) .skip)) (.seq (.seq (.reg [jm 14 1, jn 15 (.bin .eql (.t 14) (.c (.str [])))]) (.cond (.t 15) (.seq (.reg [jm 16 0, jm 17 3, jn 18 (.call 100 [(.t 16), (.t 17)]), jm 8 18]) .ret) .skip)) (.seq (.seq (.reg [jm 19 3, ju .lss 20 19 0]) (.cond (.t 20) (.reg [jm 21 0, jm 22 1, jn 23 (.call 101 [(.t 21), (.t 22)]), ju .add 24 23 1, jm 3 24]) .skip)) (.seq (.reg [jm 25 3, jm 26 0, jS 27 26, ju .add 28 27 1, jn 29 (.mm false (.t 25) [(.t 28)]), jm 3 29]) (.seq (.reg [jm 30 3, jn 31 (.mks 1 16 (.str []) (.t 30)), jm 9 31]) (.seq (.reg [jm 32 3, ju .sub 33 32 1, jm 3 33]) (.seq (.reg [jc 10 (j6 0)]) (.seq (.block 0 (.loop xG)) (.seq (.reg [jm 58 9, jm 59 10, jm 60 0, jx 61 1 58 59, js 1 61 60]) (.seq (.reg [jm 62 9, jm 63 10, ju .add 64 63 1, jn 65 (.slcl 1 (.t 62) none (some (.t 64))), jm 8 65]) .ret)))))))))))
theorem Rk : BX Tryz.prog Tryz.f87 = some ⟨66, k87, [(.tmp 8)]⟩ := by kernel_rfl
theorem WR (N : Nat) (a0 : List UInt8) (a1 : List UInt8) (a2 : Int) (SK : Int) : ∀ (n : Nat) (x : List UInt8 × Int × List (List UInt8)) (y : List UInt8 × Int × List (List UInt8)), KF N a0 a1 a2 SK n x = some y → WX Tryz.prog (fun _ => false) (.loop xG) ((fun (x : List UInt8 × Int × List (List UInt8)) => ⟨AY [(0, .str x.1), (1, .str a1), (2, .int .i64 a2), (3, .int .i64 (BQ ((mn SK (BQ ((a0.length : Int) + (1 : Int)))) - (1 : Int)))), (9, .slr 139231 0 x.2.2.length), (10, .int .i64 x.2.1)], AY [(139231, ⟨1, true, List.map PV.str x.2.2⟩)]⟩) x) ((fun y e s => e = .exit 0 ∧ s = ⟨AY [(0, .str y.1), (9, .slr 139231 0 y.2.2.length), (10, .int .i64 y.2.1)], AY [(139231, ⟨1, true, List.map PV.str y.2.2⟩)]⟩ : (List UInt8 × Int × List (List UInt8)) → Xt → St → Prop) y) := by
 refine EQ _ _ (KF N a0 a1 a2 SK) (PZ N a0 a1 a2 SK) (fun _ => rfl) (fun _ _ => rfl) ?_
 rintro rec ⟨fO, VA, I8⟩ y h
 iterate 2 refine AJ ?_
 refine AC ?_
 iterate 3 refine A7 rfl rfl ?_
 refine D8 h rfl (fun c3 h => ?_) (fun c3 h => ?_)
 refine BF ?_
 refine C9 ?_
 refine AJ ?_
 refine AC ?_
 iterate 2 refine A7 rfl rfl ?_
 obtain ⟨x39, hx39, h⟩ := AL h
 refine CS rfl (CG (cB N _ _ _ hx39) rfl (.cons A9 (.cons A9 .nil)) rfl rfl rfl) ?_
 refine A7 rfl rfl ?_
 iterate 2 refine AJ ?_
 refine AC ?_
 iterate 2 refine A7 rfl rfl ?_
 refine D8 h rfl (fun c4 h => ?_) (fun c4 h => ?_)
 cases AB h
 exact CW (st1 := ⟨AY [(0, .str fO), (9, .slr 139231 0 I8.length), (10, .int .i64 VA)], AY [(139231, ⟨1, true, List.map PV.str I8⟩)]⟩) (cn rfl rfl rfl rfl) ⟨rfl, rfl⟩
 refine BF ?_
 refine AJ ?_
 refine AC ?_
 iterate 5 refine A7 rfl rfl ?_
 refine A7 (p := .int .i64 (BQ (x39 + a2))) rfl rfl ?_
 obtain ⟨iF, kC, h⟩ := AL h
 refine A7 rfl (jJ kC rfl rfl) ?_
 obtain ⟨bL, uX, h⟩ := AL h
 refine A7 rfl (QA uX rfl rfl rfl rfl) ?_
 obtain ⟨pQ, jZ, h⟩ := AL h
 refine Cb (f := PV.str) (e' := iF) jZ rfl rfl rfl rfl rfl rfl rfl rfl (fun _ => rfl) rfl ?_
 refine AJ ?_
 refine AC ?_
 iterate 4 refine A7 rfl rfl ?_
 refine A7 (p := .int .i64 (BQ (x39 + (a1.length : Int)))) rfl rfl ?_
 obtain ⟨x55, Gf, h⟩ := AL h
 refine A7 rfl (YC Gf rfl rfl) ?_
 refine A7 rfl rfl ?_
 refine AC ?_
 refine A7 rfl rfl ?_
 refine A7 (p := .int .i64 (BQ (VA + (1 : Int)))) rfl rfl ?_
 refine A7 rfl rfl ?_
 exact ⟨(x55, (BQ (VA + (1 : Int))), (I8.set bL iF)), (CB.trans (KN 9 (GQ (congrArg (PV.slr 139231 0) (by simp only [List.length_set, List.length_replicate] : I8.length = (I8.set bL iF).length))) rfl) (cn rfl rfl rfl rfl)), h⟩
 cases AB h
 exact CW (st1 := ⟨AY [(0, .str fO), (9, .slr 139231 0 I8.length), (10, .int .i64 VA)], AY [(139231, ⟨1, true, List.map PV.str I8⟩)]⟩) (cn rfl rfl rfl rfl) ⟨rfl, rfl⟩
theorem Y8 (N : Nat) (a0 : List UInt8) (a1 : List UInt8) (a2 : Int) (a3 : Int) (r : List (List UInt8)) (h : strings_genSplit N a0 a1 a2 a3 = some r) : Sat Tryz.prog 87 AO [.str a0, .str a1, .int .i64 a2, .int .i64 a3] (.sl 1 (List.map PV.str r)) AO := by
 refine DT mixed Tryz.func87 Rk (rs := [.sl 1 (List.map PV.str r)]) rfl rfl ?_
 refine AJ ?_
 refine AC ?_
 refine A7 rfl rfl ?_
 iterate 2 refine AJ ?_
 refine AC ?_
 iterate 2 refine A7 rfl rfl ?_
 refine D8 h rfl (fun c1 h => ?_) (fun c1 h => ?_)
 refine AJ ?_
 refine AC ?_
 refine A7 rfl rfl ?_
 cases AB h
 refine DU (st1 := ⟨AY [(8, .sl 1 (List.map PV.str []))], AY []⟩) (CB.trans (KN 8 (FV 1) rfl) (cn rfl rfl rfl rfl)) ?_
 exact ⟨nofun, rfl, rfl⟩
 refine BF ?_
 iterate 2 refine AJ ?_
 refine AC ?_
 iterate 2 refine A7 rfl rfl ?_
 refine D8 h rfl (fun c2 h => ?_) (fun c2 h => ?_)
 refine AJ ?_
 refine AC ?_
 iterate 2 refine A7 rfl rfl ?_
 obtain ⟨OV, fF, h⟩ := AL h
 refine CS rfl (CG (ZN N _ _ _ fF) rfl (.cons A9 (.cons A9 .nil)) rfl rfl rfl) ?_
 refine A7 rfl rfl ?_
 obtain rfl := AB h
 refine BS ?_
 exact ⟨nofun, rfl, rfl⟩
 refine BF ?_
 refine QO (fun (x : Int) => ⟨AY [(0, .str a0), (1, .str a1), (2, .int .i64 a2), (3, .int .i64 x)], AY []⟩) (fun x => N9 a0 a1 a2 N x = some r) ?_ ?_
 rintro SK h
 refine AJ ?_
 refine AC ?_
 iterate 3 refine A7 rfl rfl ?_
 refine A7 (p := .int .i64 (BQ ((a0.length : Int) + (1 : Int)))) rfl rfl ?_
 refine A7 (p := .int .i64 (mn SK (BQ ((a0.length : Int) + (1 : Int))))) rfl rfl ?_
 refine A7 rfl rfl ?_
 refine AJ ?_
 refine AC ?_
 refine A7 rfl rfl ?_
 obtain ⟨x31, hx31, h⟩ := AL h
 refine wmks (f := PV.str) (e := ([] : List UInt8)) 139231 hx31 rfl rfl rfl rfl rfl rfl ?_
 refine A7 rfl rfl ?_
 refine AJ ?_
 refine AC ?_
 refine A7 rfl rfl ?_
 refine A7 (p := .int .i64 (BQ ((mn SK (BQ ((a0.length : Int) + (1 : Int)))) - (1 : Int)))) rfl rfl ?_
 refine A7 rfl rfl ?_
 refine AJ ?_
 refine AC ?_
 refine A7 rfl rfl ?_
 refine AJ ?_
 refine C9 ?_
 obtain ⟨y6, tC, h⟩ := AL h
 refine PT (WR N a0 a1 a2 SK N _ _ tC) (CB.trans (KN 9 (GQ (congrArg (PV.slr 139231 0) (by simp only [List.length_set, List.length_replicate] : x31 = (List.replicate x31 ([] : List UInt8)).length))) rfl) (cn rfl rfl rfl rfl)) ?_
 rintro e s ⟨rfl, rfl⟩
 refine AJ ?_
 refine AC ?_
 iterate 3 refine A7 rfl rfl ?_
 obtain ⟨Qb, Vl, h⟩ := AL h
 refine A7 rfl (QA Vl rfl rfl rfl rfl) ?_
 obtain ⟨Bz, uW, h⟩ := AL h
 refine Cb (f := PV.str) (e' := y6.1) uW rfl rfl rfl rfl rfl rfl rfl rfl (fun _ => rfl) rfl ?_
 refine AJ ?_
 refine AC ?_
 iterate 2 refine A7 rfl rfl ?_
 refine A7 (p := .int .i64 (BQ (y6.2.1 + (1 : Int)))) rfl rfl ?_
 obtain ⟨wC, Ao, h⟩ := AL h
 refine A7 rfl (Lh Ao rfl (by simp only [List.length_set, List.length_replicate]) rfl rfl rfl) ?_
 refine A7 rfl rfl ?_
 obtain rfl := AB h
 refine DU (st1 := ⟨AY [(8, .sl 1 (List.map PV.str wC))], AY []⟩) (CB.trans (Vd.freeze 139231 _ rfl rfl rfl) (CB.trans (KN 8 (GQ (congrArg (PV.sl 1) (Cq Ao))) rfl) (cn rfl rfl rfl rfl))) ?_
 exact ⟨nofun, rfl, rfl⟩
 refine AJ ?_
 refine AC ?_
 iterate 2 refine A7 rfl rfl ?_
 refine D8 h rfl (fun c8 h => ?_) (fun c8 h => ?_)
 refine AC ?_
 iterate 2 refine A7 rfl rfl ?_
 obtain ⟨XV, fE, h⟩ := AL h
 refine CS rfl (CG (cK N _ _ _ fE) rfl (.cons A9 (.cons A9 .nil)) rfl rfl rfl) ?_
 refine A7 (p := .int .i64 (BQ (XV + (1 : Int)))) rfl rfl ?_
 refine A7 rfl rfl ?_
 exact ⟨(BQ (XV + (1 : Int))), (cn rfl rfl rfl rfl), h⟩
 refine BF ?_
 exact ⟨a3, (cn rfl rfl rfl rfl), h⟩
def k65 : IC := (.seq (.reg [jc 4 .nl]) (.seq (.reg [jm 5 0, jm 6 1, jn 7 (.call 87 [(.t 5), (.t 6), (ji 0), (ji (-1))]), jm 4 7]) .ret))
theorem Sj : BX Tryz.prog Tryz.f65 = some ⟨8, k65, [(.tmp 4)]⟩ := by kernel_rfl
theorem bZ (N : Nat) (a0 : List UInt8) (a1 : List UInt8) (r : List (List UInt8)) (h : strings_Split N a0 a1 = some r) : Sat Tryz.prog 65 AO [.str a0, .str a1] (.sl 1 (List.map PV.str r)) AO := by
 refine DT mixed Tryz.func65 Sj (rs := [.sl 1 (List.map PV.str r)]) rfl rfl ?_
 refine AJ ?_
 refine AC ?_
 refine A7 rfl rfl ?_
 refine AJ ?_
 refine AC ?_
 iterate 2 refine A7 rfl rfl ?_
 obtain ⟨x7, hx7, h⟩ := AL h
 refine CS rfl (CG (Y8 N _ _ _ _ _ hx7) rfl (.cons A9 (.cons A9 (.cons A9 (.cons A9 .nil)))) rfl rfl rfl) ?_
 refine A7 rfl rfl ?_
 obtain rfl := AB h
 refine BS ?_
 exact ⟨nofun, rfl, rfl⟩
def xP : IC := (.seq (.reg [jb .lss 20 19 18]) (.seq (.cond (.t 20) .skip (.exit 0)) (.seq (.block 1 (.seq (.reg [jm 21 19, jx 22 1 17 19, jl 23 1 22, jm 6 21, jm 7 23]) (.seq (.reg [jm 25 7, jn 26 (.call 66 [(.t 25), (ji 10), (ji 64)]), jm 24 26, je 27 0 24, je 28 1 24, jm 8 27, jm 9 28]) (.seq (.seq (.reg [jm 29 9, jn 30 (.eqi true (.t 29)), jm 31 30, jf 31 32 (.mov (.t 8)), jf 31 33 (.bin .lss (.t 32) (ji 0)), jo 34 31 33, jm 35 34, jf 35 36 (.mov (.t 8)), jf 35 37 (.bin .gtr (.t 36) (ji 1099511627776)), jo 38 35 37]) (.cond (.t 38) (.seq (.reg [jn 39 (.build [(j6 0), (j6 0), (j6 0)] []), js 3 2 39, jc 3 (j6 14)]) .ret) .skip)) (.reg [jm 40 6, jm 41 8, jn 42 (.ixq 3 1 (.t 5) (.t 40)), js 1 42 41]))))) (.reg [ju .add 43 19 1, jm 19 43]))))
def k45 : IC := (.seq (.reg [jn 2 (.box 23 (.c (.agg [(j6 0), (j6 0), (j6 0)]))), jc 3 (j6 0)]) (.seq (.reg [jm 11 0, jn 12 (.call 65 [(.t 11), (.c (.str [46]))]), jm 4 12]) (.seq (.seq (.reg [jm 13 4, jL 14 13, ju .neq 15 14 3]) (.cond (.t 15) (.seq (.reg [jn 16 (.build [(j6 0), (j6 0), (j6 0)] []), js 3 2 16, jc 3 (j6 14)]) .ret) .skip)) (.seq (.reg [jn 5 (.box 102 (.c (.agg [(j6 0), (j6 0), (j6 0)])))]) (.seq (.seq (.reg [jm 17 4, jL 18 17, jc 19 (j6 0)]) (.block 0 (.loop xP))) (.seq (.reg [jn 44 (.ixq 3 1 (.t 5) (ji 0)), jl 45 1 44, jn 46 (.ixq 3 1 (.t 5) (ji 1)), jl 47 1 46, jn 48 (.ixq 3 1 (.t 5) (ji 2)), jl 49 1 48, jn 50 (.build [(j6 0), (j6 0), (j6 0)] [(0, (1, (.t 45))), (1, (1, (.t 47))), (2, (1, (.t 49)))]), jn 10 (.box 23 (.c (.agg [(j6 0), (j6 0), (j6 0)]))), js 3 10 50]) (.seq (.seq (.reg [jg 51 3 10, jn 52 (.call 24 [(.t 51)]), jn 53 (.un .not (.t 52)), jm 54 53, jf 54 55 (.load 3 true (.t 10)), jf 54 56 (.call 50 [(.t 55)]), jf 54 57 (.mov (.t 0)), jf 54 58 (.bin .neq (.t 56) (.t 57)), jo 59 54 58]) (.cond (.t 59) (.seq (.reg [jn 60 (.build [(j6 0), (j6 0), (j6 0)] []), js 3 2 60, jc 3 (j6 14)]) .ret) .skip)) (.seq (.reg [jg 61 3 10, js 3 2 61, jc 3 (j6 0)]) .ret))))))))
theorem Tk : BX Tryz.prog Tryz.f45 = some ⟨62, k45, [(.cell 3 true 2), (.tmp 3)]⟩ := by kernel_rfl
theorem gI (N : Nat) (a0 : List UInt8) (IP : List (List UInt8)) : ∀ (n : Nat) (x : Int × List Int) (y : (List Int) ⊕ (AR × Int)), RH N a0 IP n x = some y → WX Tryz.prog (fun _ => false) (.loop xP) ((fun (x : Int × List Int) => ⟨AY [(0, .str a0), (2, .ptr 72002 0 0), (5, .ptr 72005 0 0), (17, .sl 1 (List.map PV.str IP)), (18, .int .i64 (IP.length : Int)), (19, .int .i64 x.1)], AY [(72002, ⟨3, false, [.agg [.int .i64 0, .int .i64 0, .int .i64 0]]⟩), (72005, ⟨3, true, [.agg (List.map ei x.2)]⟩)]⟩) x) ((Sum.elim (fun y e s => e = .exit 0 ∧ s = ⟨AY [(0, .str a0), (2, .ptr 72002 0 0), (5, .ptr 72005 0 0)], AY [(72002, ⟨3, false, [.agg [.int .i64 0, .int .i64 0, .int .i64 0]]⟩), (72005, ⟨3, true, [.agg (List.map ei y)]⟩)]⟩) (fun y e s => e = .ret ∧ s = ⟨AY [(2, .ptr 72002 0 0), (3, .int .i64 y.2)], AY [(72002, ⟨3, false, [F7 y.1]⟩)]⟩) : ((List Int) ⊕ (AR × Int)) → Xt → St → Prop) y) := by
 refine EQ _ _ (RH N a0 IP) (XT N a0 IP) (fun _ => rfl) (fun _ _ => rfl) ?_
 rintro rec ⟨WW, QX⟩ y h
 refine AJ ?_
 refine AC ?_
 refine A7 rfl rfl ?_
 refine AJ ?_
 refine D8 h rfl (fun c2 h => ?_) (fun c2 h => ?_)
 refine BF ?_
 refine AJ ?_
 refine C9 ?_
 refine AJ ?_
 refine AC ?_
 refine A7 rfl rfl ?_
 obtain ⟨WO, YF, h⟩ := AL h
 refine A7 rfl (DK (cs := [.str WO]) YF rfl rfl rfl) ?_
 iterate 3 refine A7 rfl rfl ?_
 refine AJ ?_
 refine AC ?_
 refine A7 rfl rfl ?_
 obtain ⟨KZ, oP, h⟩ := AL h
 refine CS rfl (CG (Y9 N _ _ _ _ oP) rfl (.cons A9 (.cons A9 (.cons A9 .nil))) rfl rfl rfl) ?_
 iterate 5 refine A7 rfl rfl ?_
 refine AJ ?_
 obtain ⟨g3, hg3, h⟩ := AL h
 refine F9 ⟨AY [(0, .str a0), (2, .ptr 72002 0 0), (5, .ptr 72005 0 0), (6, .int .i64 WW), (8, .int .i64 KZ.1), (17, .sl 1 (List.map PV.str IP)), (18, .int .i64 (IP.length : Int)), (19, .int .i64 WW), (38, .bool g3)], AY [(72002, ⟨3, false, [.agg [.int .i64 0, .int .i64 0, .int .i64 0]]⟩), (72005, ⟨3, true, [.agg (List.map ei QX)]⟩)]⟩ ?_ ?_
 have h := hg3
 refine AC ?_
 refine A7 rfl rfl ?_
 refine A7 rfl (Qs rfl) ?_
 refine A7 rfl rfl ?_
 rcases BO h with ⟨c4, h⟩ | ⟨c4, h⟩
 iterate 2 refine BK (gn rfl c4) ?_
 refine A7 rfl (BA c4 rfl rfl) ?_
 refine A7 rfl rfl ?_
 iterate 2 refine BK rfl ?_
 refine A7 rfl rfl ?_
 obtain rfl := AB h
 exact (cn rfl rfl rfl rfl)
 iterate 2 refine A7 (gy rfl c4) rfl ?_
 refine A7 rfl (AZ c4 rfl rfl) ?_
 refine A7 rfl rfl ?_
 rcases BO h with ⟨c5, h⟩ | ⟨c5, h⟩
 iterate 2 refine BK (gn rfl c5) ?_
 refine A7 rfl (BA c5 rfl rfl) ?_
 obtain rfl := AB h
 exact (cn rfl rfl rfl rfl)
 iterate 2 refine A7 (gy rfl c5) rfl ?_
 refine A7 rfl (AZ c5 rfl rfl) ?_
 cases AB h
 exact (cn rfl rfl rfl rfl)
 clear hg3
 refine D8 h rfl (fun c6 h => ?_) (fun c6 h => ?_)
 refine AJ ?_
 refine AC ?_
 refine A7 (p := .agg [.int .i64 0, .int .i64 0, .int .i64 0]) rfl rfl ?_
 refine F3 (e' := .agg [.int .i64 0, .int .i64 0, .int .i64 0]) rfl rfl rfl rfl rfl rfl rfl rfl nofun rfl ?_
 refine A7 rfl rfl ?_
 cases AB h
 exact DU (st1 := ⟨AY [(2, .ptr 72002 0 0), (3, .int .i64 14)], AY [(72002, ⟨3, false, [F7 (⟨0, 0, 0⟩ : AR)]⟩)]⟩) (cn rfl rfl rfl rfl) ⟨rfl, rfl⟩
 refine BF ?_
 refine AC ?_
 iterate 2 refine A7 rfl rfl ?_
 obtain ⟨Jz, Ap, h⟩ := AL h
 refine A7 rfl (p_ixq Ap rfl rfl rfl rfl) ?_
 obtain ⟨Bz, uW, h⟩ := AL h
 refine wstq (f := ei) (e' := KZ.1) uW rfl rfl rfl rfl (Nw Ap) rfl rfl (fun _ => rfl) ?_
 refine AC ?_
 refine A7 (p := .int .i64 (BQ (WW + (1 : Int)))) rfl rfl ?_
 refine A7 rfl rfl ?_
 exact ⟨((BQ (WW + (1 : Int))), (QX.set Jz KZ.1)), (cn rfl rfl rfl rfl), h⟩
 obtain rfl := AB h
 exact CW (st1 := ⟨AY [(0, .str a0), (2, .ptr 72002 0 0), (5, .ptr 72005 0 0)], AY [(72002, ⟨3, false, [.agg [.int .i64 0, .int .i64 0, .int .i64 0]]⟩), (72005, ⟨3, true, [.agg (List.map ei QX)]⟩)]⟩) (cn rfl rfl rfl rfl) ⟨rfl, rfl⟩
theorem VE (N : Nat) (a0 : List UInt8) (r : AR × Int) (h : ZE N a0 = some r) : Sat Tryz.prog 45 AO [.str a0] (.tup [F7 r.1, .int .i64 r.2]) AO := by
 refine DT mixed Tryz.func45 Tk (rs := [F7 r.1, .int .i64 r.2]) rfl rfl ?_
 refine AJ ?_
 refine AC ?_
 refine CS rfl (FZ 72002 rfl rfl rfl rfl rfl) ?_
 refine A7 rfl rfl ?_
 refine AJ ?_
 refine AC ?_
 refine A7 rfl rfl ?_
 obtain ⟨IP, YI, h⟩ := AL h
 refine CS rfl (CG (bZ N _ _ _ YI) rfl (.cons A9 (.cons A9 .nil)) rfl rfl rfl) ?_
 refine A7 rfl rfl ?_
 iterate 2 refine AJ ?_
 refine AC ?_
 refine A7 rfl rfl ?_
 refine A7 rfl (BV rfl) ?_
 refine A7 rfl rfl ?_
 refine D8 h rfl (fun c1 h => ?_) (fun c1 h => ?_)
 refine AJ ?_
 refine AC ?_
 refine A7 (p := .agg [.int .i64 0, .int .i64 0, .int .i64 0]) rfl rfl ?_
 refine F3 (e' := .agg [.int .i64 0, .int .i64 0, .int .i64 0]) rfl rfl rfl rfl rfl rfl rfl rfl nofun rfl ?_
 refine A7 rfl rfl ?_
 cases AB h
 refine BS ?_
 exact ⟨nofun, rfl, rfl⟩
 refine BF ?_
 refine AJ ?_
 refine AC ?_
 refine CS rfl (FZ 72005 rfl rfl rfl rfl rfl) ?_
 refine UI (boxpr 72005 rfl rfl) ?_
 iterate 2 refine AJ ?_
 refine AC ?_
 refine A7 rfl rfl ?_
 refine A7 rfl (BV rfl) ?_
 refine A7 rfl rfl ?_
 refine C9 ?_
 obtain ⟨y8, Am, h⟩ := AL h
 refine PT (gI N a0 IP N _ _ Am) (cn rfl rfl rfl rfl) ?_
 clear Am
 rcases y8 with y8 | y8
 rintro e s ⟨rfl, rfl⟩
 refine AJ ?_
 refine AC ?_
 refine A7 rfl rfl ?_
 obtain ⟨pR, Gh, h⟩ := AL h
 refine A7 rfl (Dy (f := ei) Gh rfl rfl) ?_
 refine A7 rfl rfl ?_
 obtain ⟨dV, oL, h⟩ := AL h
 refine A7 rfl (Dy (f := ei) oL rfl rfl) ?_
 refine A7 rfl rfl ?_
 obtain ⟨bL, uX, h⟩ := AL h
 refine A7 rfl (Dy (f := ei) uX rfl rfl) ?_
 refine A7 (p := .agg [.int .i64 pR, .int .i64 dV, .int .i64 bL]) rfl rfl ?_
 refine CS rfl (FZ 72010 rfl rfl rfl rfl rfl) ?_
 refine F3 (e' := .agg [.int .i64 pR, .int .i64 dV, .int .i64 bL]) rfl rfl rfl rfl rfl rfl rfl rfl nofun rfl ?_
 refine AJ ?_
 obtain ⟨g9, hg9, h⟩ := AL h
 refine F9 ⟨AY [(2, .ptr 72002 0 0), (10, .ptr 72010 0 0), (59, .bool g9)], AY [(72002, ⟨3, false, [.agg [.int .i64 0, .int .i64 0, .int .i64 0]]⟩), (72010, ⟨3, false, [.agg [.int .i64 pR, .int .i64 dV, .int .i64 bL]]⟩)]⟩ ?_ ?_
 have h := hg9
 refine AC ?_
 refine A7 (p := .agg [.int .i64 pR, .int .i64 dV, .int .i64 bL]) rfl rfl ?_
 obtain ⟨OU, Gg, h⟩ := AL h
 refine CS rfl (CG (X8 N _ _ Gg) rfl (.cons A9 .nil) rfl rfl rfl) ?_
 iterate 2 refine A7 rfl rfl ?_
 rcases BO h with ⟨c10, h⟩ | ⟨c10, h⟩
 iterate 4 refine BK (gn rfl c10) ?_
 refine A7 rfl (BA c10 rfl rfl) ?_
 obtain rfl := AB h
 exact (cn rfl rfl rfl rfl)
 refine A7 (p := .agg [.int .i64 pR, .int .i64 dV, .int .i64 bL]) (gy rfl c10) rfl ?_
 obtain ⟨Kh, Vo, h⟩ := AL h
 refine CS (gy rfl c10) (CG (d9 N _ _ Vo) rfl (.cons A9 .nil) rfl rfl rfl) ?_
 iterate 2 refine A7 (gy rfl c10) rfl ?_
 refine A7 rfl (AZ c10 rfl rfl) ?_
 cases AB h
 exact (cn rfl rfl rfl rfl)
 clear hg9
 refine D8 h rfl (fun c11 h => ?_) (fun c11 h => ?_)
 refine AJ ?_
 refine AC ?_
 refine A7 (p := .agg [.int .i64 0, .int .i64 0, .int .i64 0]) rfl rfl ?_
 refine F3 (e' := .agg [.int .i64 0, .int .i64 0, .int .i64 0]) rfl rfl rfl rfl rfl rfl rfl rfl nofun rfl ?_
 refine A7 rfl rfl ?_
 cases AB h
 refine BS ?_
 exact ⟨nofun, rfl, rfl⟩
 refine BF ?_
 refine AJ ?_
 refine AC ?_
 refine A7 (p := .agg [.int .i64 pR, .int .i64 dV, .int .i64 bL]) rfl rfl ?_
 refine F3 (e' := .agg [.int .i64 pR, .int .i64 dV, .int .i64 bL]) rfl rfl rfl rfl rfl rfl rfl rfl nofun rfl ?_
 refine A7 rfl rfl ?_
 cases AB h
 refine BS ?_
 exact ⟨nofun, rfl, rfl⟩
 rintro e s ⟨rfl, rfl⟩
 cases AB h
 exact ⟨nofun, rfl, rfl⟩
end Go.Gp
end
