/- A part of the proof: functions of the program and what they compute. -/
import Derived.Test.YtlopcglohpfonaaGreatDoorA5
import Derived.Test.YtlopcglohpfonaaGreatDoorA6
import Derived.Test.YtlopcglohpfonaaGreatDoorA12
import Derived.Test.YtlopcglohpfonaaGreatDoorA9
import Derived.Test.YtlopcglohpfonaaGreatDoorA11
import Derived.Test.YtlopcglohpfonaaGreatDoorA10
section
set_option linter.unusedVariables false
set_option linter.unusedSimpArgs false
set_option maxRecDepth 4000
set_option maxHeartbeats 4000000
namespace Go.Gp
open Go.Vd Go.RowKit Go.Proofs
def EU : List (List Nat) := [[], [], [1], [2], [3], [], [0, 0], [6, 0, 6], [4, 7, 0, 1, 2, 3, 4, 6, 7], [5, 8, 0, 1, 2, 3, 4, 5, 6, 7, 8]]
def ET : List Ins := [jn 23 (.build [(.int .u8 0), (.str []), .nl] []), jm 24 6, jn 25 (.nck (.t 24)), ja 26 1 25, jl 27 1 26, jm 28 9, js 3 2 23, jc 3 (j6 0), jm 4 27, jm 5 28]
def k43 : IC := (.seq (.reg [jn 2 (.box 52 (.c (.agg [(.int .u8 0), (.str []), .nl]))), jc 3 (j6 0), jc 4 (j6 0), jc 5 (j6 0)]) (.seq (.reg [jm 10 0, jn 11 (.build [(.str []), (j6 0)] [(0, (1, (.t 10)))]), jn 12 (.box 97 (.t 11)), jm 6 12]) (.seq (.reg [jm 14 6, jm 15 0, jS 16 15, jn 17 (.call 64 [(.t 14), (ji 0), (.t 16), (ji 1)]), jm 13 17, je 18 0 13, je 19 1 13, je 20 2 13, jn 7 (.box 52 (.c (.agg [(.int .u8 0), (.str []), .nl]))), js 3 7 18, jm 8 19, jm 9 20]) (.seq (.seq (.reg [jm 21 9, ju .neq 22 21 0]) (.cond (.t 22) (.seq (.regf 6 [1, 2, 3, 4, 5] EU ET) .ret) .skip)) (.seq (.reg [jg 29 3 7, jm 30 8, js 3 2 29, jm 3 30, jc 4 (j6 0), jc 5 (j6 0)]) .ret)))))
theorem Vg : BV Tryz.prog Tryz.f43 = some ⟨31, k43, [(.cell 3 true 2), (.tmp 3), (.tmp 4), (.tmp 5)]⟩ := by kernel_rfl
theorem pG (N : Nat) (a0 : List UInt8) (r : A7 × Int × Int × Int) (h : eG N a0 = some r) : Sat Tryz.prog 43 AO [.str a0] (.tup [A9 r.1, j6 r.2.1, j6 r.2.2.1, j6 r.2.2.2]) AO := by
 refine DK mixed Tryz.func43 Vg (rs := [A9 r.1, j6 r.2.1, j6 r.2.2.1, j6 r.2.2.2]) rfl rfl ?_
 refine AC (AB ?_)
 refine CO rfl (G5 68802 rfl rfl rfl rfl rfl) ?_
 iterate 3 refine wq rfl ?_
 refine AC (AB ?_)
 refine wq rfl ?_
 refine AQ (p := .agg [.str a0, j6 0]) rfl rfl ?_
 refine CO rfl (G5 700970 rfl rfl rfl rfl rfl) ?_
 refine wq rfl ?_
 refine AC (AB ?_)
 iterate 3 refine wq rfl ?_
 obtain ⟨E9, VU, h⟩ := AJ h
 refine CO rfl (Fw [(700970, ⟨2, false, [BH (⟨a0, 0⟩ : BG)]⟩)] [(700970, ⟨2, false, [BH E9.2.2.2]⟩)] (XJ N _ _ _ _ _ VU) rfl (.cons A8 (.cons A8 (.cons A8 (.cons A8 .nil)))) ⟨rfl, trivial⟩ rfl rfl rfl) ?_
 iterate 4 refine wq rfl ?_
 refine CO rfl (G5 68807 rfl rfl rfl rfl rfl) ?_
 refine EW (e' := A9 E9.1) rfl rfl rfl rfl rfl rfl rfl rfl nofun rfl ?_
 iterate 2 refine wq rfl ?_
 iterate 2 refine AC ?_
 refine AB ?_
 iterate 2 refine wq rfl ?_
 refine D5 h rfl (fun c1 h => ?_) (fun c1 h => ?_)
 refine AC ?_
 refine Qc ⟨AY [(2, .ptr 68802 0 0), (3, j6 0), (4, j6 E9.2.2.2.at_), (5, j6 E9.2.2.1)], AY [(68802, ⟨3, false, [.agg [eb (0 : UInt8), .str ([] : List UInt8), .nl]]⟩)]⟩ [[], [5], [4], [4, 5], [3, 4], [3, 4, 5], [2, 3, 4], [2, 3, 4, 5], [1, 2, 3, 4], [1, 2, 3, 4, 5]] rfl ?_ ?_
 refine JN (p := .agg [eb (0 : UInt8), .str ([] : List UInt8), .nl]) rfl rfl ?_
 iterate 5 refine dq rfl ?_
 have Yj : AnyW Tryz.prog (fun _ => false) EU ET 0 [0, 1, 2, 3, 4, 5, 6, 7, 8, 9] ⟨AY [(2, .ptr 68802 0 0), (3, j6 0), (4, j6 E9.2.2.2.at_), (5, j6 E9.2.2.1)], AY [(68802, ⟨3, false, [.agg [eb (0 : UInt8), .str ([] : List UInt8), .nl]]⟩)]⟩ ⟨AY [(2, .ptr 68802 0 0), (3, j6 0), (4, j6 E9.2.2.2.at_), (5, j6 E9.2.2.1)], AY [(68802, ⟨3, false, [.agg [eb (0 : UInt8), .str ([] : List UInt8), .nl]]⟩)]⟩ := by
  exact yend rfl (cq rfl)
 have Kq : AnyW Tryz.prog (fun _ => false) EU ET 1 [0, 1, 2, 3, 4, 5, 6, 7, 8] ⟨AY [(2, .ptr 68802 0 0), (3, j6 0), (4, j6 E9.2.2.2.at_), (5, j6 0), (28, j6 E9.2.2.1)], AY [(68802, ⟨3, false, [.agg [eb (0 : UInt8), .str ([] : List UInt8), .nl]]⟩)]⟩ ⟨AY [(2, .ptr 68802 0 0), (3, j6 0), (4, j6 E9.2.2.2.at_), (5, j6 E9.2.2.1)], AY [(68802, ⟨3, false, [.agg [eb (0 : UInt8), .str ([] : List UInt8), .nl]]⟩)]⟩ := by
  refine yc (l := [9]) rfl nofun ⟨⟨_, rfl, ?_⟩, trivial⟩
  refine wq rfl ?_
  exact AnyW.of Yj rfl (cq rfl)
 have wZ : AnyW Tryz.prog (fun _ => false) EU ET 2 [0, 1, 2, 3, 4, 5, 6, 7] ⟨AY [(2, .ptr 68802 0 0), (3, j6 0), (4, j6 0), (5, j6 0), (27, j6 E9.2.2.2.at_), (28, j6 E9.2.2.1)], AY [(68802, ⟨3, false, [.agg [eb (0 : UInt8), .str ([] : List UInt8), .nl]]⟩)]⟩ ⟨AY [(2, .ptr 68802 0 0), (3, j6 0), (4, j6 E9.2.2.2.at_), (5, j6 E9.2.2.1)], AY [(68802, ⟨3, false, [.agg [eb (0 : UInt8), .str ([] : List UInt8), .nl]]⟩)]⟩ := by
  refine yc (l := [8]) rfl nofun ⟨⟨_, rfl, ?_⟩, trivial⟩
  refine wq rfl ?_
  exact AnyW.of Kq rfl (cq rfl)
 have Yk : AnyW Tryz.prog (fun _ => false) EU ET 2 [0, 1, 2, 3, 4, 6, 7, 8] ⟨AY [(2, .ptr 68802 0 0), (3, j6 0), (4, j6 E9.2.2.2.at_), (5, j6 0), (9, j6 E9.2.2.1)], AY [(68802, ⟨3, false, [.agg [eb (0 : UInt8), .str ([] : List UInt8), .nl]]⟩)]⟩ ⟨AY [(2, .ptr 68802 0 0), (3, j6 0), (4, j6 E9.2.2.2.at_), (5, j6 E9.2.2.1)], AY [(68802, ⟨3, false, [.agg [eb (0 : UInt8), .str ([] : List UInt8), .nl]]⟩)]⟩ := by
  refine yc (l := [5]) rfl nofun ⟨⟨_, rfl, ?_⟩, trivial⟩
  refine wq rfl ?_
  exact AnyW.of Kq rfl (cq rfl)
 have xD : AnyW Tryz.prog (fun _ => false) EU ET 3 [0, 1, 2, 3, 4, 5, 6] ⟨AY [(2, .ptr 68802 0 0), (3, j6 0), (4, j6 0), (5, j6 0), (27, j6 E9.2.2.2.at_), (28, j6 E9.2.2.1)], AY [(68802, ⟨3, false, [.agg [eb (0 : UInt8), .str ([] : List UInt8), .nl]]⟩)]⟩ ⟨AY [(2, .ptr 68802 0 0), (3, j6 0), (4, j6 E9.2.2.2.at_), (5, j6 E9.2.2.1)], AY [(68802, ⟨3, false, [.agg [eb (0 : UInt8), .str ([] : List UInt8), .nl]]⟩)]⟩ := by
  refine yc (l := [7]) rfl nofun ⟨⟨_, rfl, ?_⟩, trivial⟩
  refine wq rfl ?_
  exact AnyW.of wZ rfl (cq rfl)
 have Kr : AnyW Tryz.prog (fun _ => false) EU ET 3 [0, 1, 2, 3, 4, 6, 7] ⟨AY [(2, .ptr 68802 0 0), (3, j6 0), (4, j6 0), (5, j6 0), (9, j6 E9.2.2.1), (27, j6 E9.2.2.2.at_)], AY [(68802, ⟨3, false, [.agg [eb (0 : UInt8), .str ([] : List UInt8), .nl]]⟩)]⟩ ⟨AY [(2, .ptr 68802 0 0), (3, j6 0), (4, j6 E9.2.2.2.at_), (5, j6 E9.2.2.1)], AY [(68802, ⟨3, false, [.agg [eb (0 : UInt8), .str ([] : List UInt8), .nl]]⟩)]⟩ := by
  refine yc (l := [5, 8]) rfl nofun ⟨⟨_, rfl, ?_⟩, ⟨_, rfl, ?_⟩, trivial⟩
  refine wq rfl ?_
  exact AnyW.of wZ rfl (cq rfl)
  refine wq rfl ?_
  exact AnyW.of Yk rfl (cq rfl)
 have xA : AnyW Tryz.prog (fun _ => false) EU ET 3 [0, 1, 2, 3, 5, 6, 7] ⟨AY [(2, .ptr 68802 0 0), (3, j6 0), (4, j6 0), (5, j6 0), (26, .ptr 700970 0 1), (28, j6 E9.2.2.1)], AY [(68802, ⟨3, false, [.agg [eb (0 : UInt8), .str ([] : List UInt8), .nl]]⟩), (700970, ⟨2, false, [BH E9.2.2.2]⟩)]⟩ ⟨AY [(2, .ptr 68802 0 0), (3, j6 0), (4, j6 E9.2.2.2.at_), (5, j6 E9.2.2.1)], AY [(68802, ⟨3, false, [.agg [eb (0 : UInt8), .str ([] : List UInt8), .nl]]⟩)]⟩ := by
  refine yc (l := [4]) rfl nofun ⟨⟨_, rfl, ?_⟩, trivial⟩
  refine wq rfl ?_
  exact AnyW.of wZ rfl (cq rfl)
 have Kl : AnyW Tryz.prog (fun _ => false) EU ET 4 [0, 1, 2, 3, 4, 5] ⟨AY [(2, .ptr 68802 0 0), (3, j6 0), (4, j6 0), (5, j6 0), (23, .agg [eb (0 : UInt8), .str ([] : List UInt8), .nl]), (27, j6 E9.2.2.2.at_), (28, j6 E9.2.2.1)], AY [(68802, ⟨3, false, [.agg [eb (0 : UInt8), .str ([] : List UInt8), .nl]]⟩)]⟩ ⟨AY [(2, .ptr 68802 0 0), (3, j6 0), (4, j6 E9.2.2.2.at_), (5, j6 E9.2.2.1)], AY [(68802, ⟨3, false, [.agg [eb (0 : UInt8), .str ([] : List UInt8), .nl]]⟩)]⟩ := by
  refine yc (l := [6]) rfl nofun ⟨⟨_, rfl, ?_⟩, trivial⟩
  refine EW (e' := .agg [eb (0 : UInt8), .str ([] : List UInt8), .nl]) rfl rfl rfl rfl rfl rfl rfl rfl nofun rfl ?_
  exact AnyW.of xD rfl (cq rfl)
 have Ky : AnyW Tryz.prog (fun _ => false) EU ET 4 [0, 1, 2, 3, 4, 6] ⟨AY [(2, .ptr 68802 0 0), (3, j6 0), (4, j6 0), (5, j6 0), (9, j6 E9.2.2.1), (27, j6 E9.2.2.2.at_)], AY [(68802, ⟨3, false, [.agg [eb (0 : UInt8), .str ([] : List UInt8), .nl]]⟩)]⟩ ⟨AY [(2, .ptr 68802 0 0), (3, j6 0), (4, j6 E9.2.2.2.at_), (5, j6 E9.2.2.1)], AY [(68802, ⟨3, false, [.agg [eb (0 : UInt8), .str ([] : List UInt8), .nl]]⟩)]⟩ := by
  refine yc (l := [5, 7]) rfl nofun ⟨⟨_, rfl, ?_⟩, ⟨_, rfl, ?_⟩, trivial⟩
  refine wq rfl ?_
  exact AnyW.of xD rfl (cq rfl)
  refine wq rfl ?_
  exact AnyW.of Kr rfl (cq rfl)
 have xE : AnyW Tryz.prog (fun _ => false) EU ET 4 [0, 1, 2, 3, 5, 6] ⟨AY [(2, .ptr 68802 0 0), (3, j6 0), (4, j6 0), (5, j6 0), (26, .ptr 700970 0 1), (28, j6 E9.2.2.1)], AY [(68802, ⟨3, false, [.agg [eb (0 : UInt8), .str ([] : List UInt8), .nl]]⟩), (700970, ⟨2, false, [BH E9.2.2.2]⟩)]⟩ ⟨AY [(2, .ptr 68802 0 0), (3, j6 0), (4, j6 E9.2.2.2.at_), (5, j6 E9.2.2.1)], AY [(68802, ⟨3, false, [.agg [eb (0 : UInt8), .str ([] : List UInt8), .nl]]⟩)]⟩ := by
  refine yc (l := [4, 7]) rfl nofun ⟨⟨_, rfl, ?_⟩, ⟨_, rfl, ?_⟩, trivial⟩
  refine wq rfl ?_
  exact AnyW.of xD rfl (cq rfl)
  refine wq rfl ?_
  exact AnyW.of xA rfl (cq rfl)
 have Kt : AnyW Tryz.prog (fun _ => false) EU ET 4 [0, 1, 2, 3, 6, 7] ⟨AY [(2, .ptr 68802 0 0), (3, j6 0), (4, j6 0), (5, j6 0), (9, j6 E9.2.2.1), (26, .ptr 700970 0 1)], AY [(68802, ⟨3, false, [.agg [eb (0 : UInt8), .str ([] : List UInt8), .nl]]⟩), (700970, ⟨2, false, [BH E9.2.2.2]⟩)]⟩ ⟨AY [(2, .ptr 68802 0 0), (3, j6 0), (4, j6 E9.2.2.2.at_), (5, j6 E9.2.2.1)], AY [(68802, ⟨3, false, [.agg [eb (0 : UInt8), .str ([] : List UInt8), .nl]]⟩)]⟩ := by
  refine yc (l := [4, 5]) rfl nofun ⟨⟨_, rfl, ?_⟩, ⟨_, rfl, ?_⟩, trivial⟩
  refine wq rfl ?_
  exact AnyW.of Kr rfl (cq rfl)
  refine wq rfl ?_
  exact AnyW.of xA rfl (cq rfl)
 have xB : AnyW Tryz.prog (fun _ => false) EU ET 4 [0, 1, 2, 5, 6, 7] ⟨AY [(2, .ptr 68802 0 0), (3, j6 0), (4, j6 0), (5, j6 0), (25, .ptr 700970 0 0), (28, j6 E9.2.2.1)], AY [(68802, ⟨3, false, [.agg [eb (0 : UInt8), .str ([] : List UInt8), .nl]]⟩), (700970, ⟨2, false, [BH E9.2.2.2]⟩)]⟩ ⟨AY [(2, .ptr 68802 0 0), (3, j6 0), (4, j6 E9.2.2.2.at_), (5, j6 E9.2.2.1)], AY [(68802, ⟨3, false, [.agg [eb (0 : UInt8), .str ([] : List UInt8), .nl]]⟩)]⟩ := by
  refine yc (l := [3]) rfl nofun ⟨⟨_, rfl, ?_⟩, trivial⟩
  refine wq rfl ?_
  exact AnyW.of xA rfl (cq rfl)
 have Rj : AnyW Tryz.prog (fun _ => false) EU ET 5 [0, 1, 2, 3, 4] ⟨AY [(2, .ptr 68802 0 0), (3, j6 0), (4, j6 0), (5, j6 0), (9, j6 E9.2.2.1), (23, .agg [eb (0 : UInt8), .str ([] : List UInt8), .nl]), (27, j6 E9.2.2.2.at_)], AY [(68802, ⟨3, false, [.agg [eb (0 : UInt8), .str ([] : List UInt8), .nl]]⟩)]⟩ ⟨AY [(2, .ptr 68802 0 0), (3, j6 0), (4, j6 E9.2.2.2.at_), (5, j6 E9.2.2.1)], AY [(68802, ⟨3, false, [.agg [eb (0 : UInt8), .str ([] : List UInt8), .nl]]⟩)]⟩ := by
  refine yc (l := [5, 6]) rfl nofun ⟨⟨_, rfl, ?_⟩, ⟨_, rfl, ?_⟩, trivial⟩
  refine wq rfl ?_
  exact AnyW.of Kl rfl (cq rfl)
  refine EW (e' := .agg [eb (0 : UInt8), .str ([] : List UInt8), .nl]) rfl rfl rfl rfl rfl rfl rfl rfl nofun rfl ?_
  exact AnyW.of Ky rfl (cq rfl)
 have Km : AnyW Tryz.prog (fun _ => false) EU ET 5 [0, 1, 2, 3, 5] ⟨AY [(2, .ptr 68802 0 0), (3, j6 0), (4, j6 0), (5, j6 0), (23, .agg [eb (0 : UInt8), .str ([] : List UInt8), .nl]), (26, .ptr 700970 0 1), (28, j6 E9.2.2.1)], AY [(68802, ⟨3, false, [.agg [eb (0 : UInt8), .str ([] : List UInt8), .nl]]⟩), (700970, ⟨2, false, [BH E9.2.2.2]⟩)]⟩ ⟨AY [(2, .ptr 68802 0 0), (3, j6 0), (4, j6 E9.2.2.2.at_), (5, j6 E9.2.2.1)], AY [(68802, ⟨3, false, [.agg [eb (0 : UInt8), .str ([] : List UInt8), .nl]]⟩)]⟩ := by
  refine yc (l := [4, 6]) rfl nofun ⟨⟨_, rfl, ?_⟩, ⟨_, rfl, ?_⟩, trivial⟩
  refine wq rfl ?_
  exact AnyW.of Kl rfl (cq rfl)
  refine EW (e' := .agg [eb (0 : UInt8), .str ([] : List UInt8), .nl]) rfl rfl rfl rfl rfl rfl rfl rfl nofun rfl ?_
  exact AnyW.of xE rfl (cq rfl)
 have Kz : AnyW Tryz.prog (fun _ => false) EU ET 5 [0, 1, 2, 3, 6] ⟨AY [(2, .ptr 68802 0 0), (3, j6 0), (4, j6 0), (5, j6 0), (9, j6 E9.2.2.1), (26, .ptr 700970 0 1)], AY [(68802, ⟨3, false, [.agg [eb (0 : UInt8), .str ([] : List UInt8), .nl]]⟩), (700970, ⟨2, false, [BH E9.2.2.2]⟩)]⟩ ⟨AY [(2, .ptr 68802 0 0), (3, j6 0), (4, j6 E9.2.2.2.at_), (5, j6 E9.2.2.1)], AY [(68802, ⟨3, false, [.agg [eb (0 : UInt8), .str ([] : List UInt8), .nl]]⟩)]⟩ := by
  refine yc (l := [4, 5, 7]) rfl nofun ⟨⟨_, rfl, ?_⟩, ⟨_, rfl, ?_⟩, ⟨_, rfl, ?_⟩, trivial⟩
  refine wq rfl ?_
  exact AnyW.of Ky rfl (cq rfl)
  refine wq rfl ?_
  exact AnyW.of xE rfl (cq rfl)
  refine wq rfl ?_
  exact AnyW.of Kt rfl (cq rfl)
 have xG : AnyW Tryz.prog (fun _ => false) EU ET 5 [0, 1, 2, 5, 6] ⟨AY [(2, .ptr 68802 0 0), (3, j6 0), (4, j6 0), (5, j6 0), (25, .ptr 700970 0 0), (28, j6 E9.2.2.1)], AY [(68802, ⟨3, false, [.agg [eb (0 : UInt8), .str ([] : List UInt8), .nl]]⟩), (700970, ⟨2, false, [BH E9.2.2.2]⟩)]⟩ ⟨AY [(2, .ptr 68802 0 0), (3, j6 0), (4, j6 E9.2.2.2.at_), (5, j6 E9.2.2.1)], AY [(68802, ⟨3, false, [.agg [eb (0 : UInt8), .str ([] : List UInt8), .nl]]⟩)]⟩ := by
  refine yc (l := [3, 7]) rfl nofun ⟨⟨_, rfl, ?_⟩, ⟨_, rfl, ?_⟩, trivial⟩
  refine wq rfl ?_
  exact AnyW.of xE rfl (cq rfl)
  refine wq rfl ?_
  exact AnyW.of xB rfl (cq rfl)
 have Ku : AnyW Tryz.prog (fun _ => false) EU ET 5 [0, 1, 2, 6, 7] ⟨AY [(2, .ptr 68802 0 0), (3, j6 0), (4, j6 0), (5, j6 0), (9, j6 E9.2.2.1), (25, .ptr 700970 0 0)], AY [(68802, ⟨3, false, [.agg [eb (0 : UInt8), .str ([] : List UInt8), .nl]]⟩), (700970, ⟨2, false, [BH E9.2.2.2]⟩)]⟩ ⟨AY [(2, .ptr 68802 0 0), (3, j6 0), (4, j6 E9.2.2.2.at_), (5, j6 E9.2.2.1)], AY [(68802, ⟨3, false, [.agg [eb (0 : UInt8), .str ([] : List UInt8), .nl]]⟩)]⟩ := by
  refine yc (l := [3, 5]) rfl nofun ⟨⟨_, rfl, ?_⟩, ⟨_, rfl, ?_⟩, trivial⟩
  refine wq rfl ?_
  exact AnyW.of Kt rfl (cq rfl)
  refine wq rfl ?_
  exact AnyW.of xB rfl (cq rfl)
 have xC : AnyW Tryz.prog (fun _ => false) EU ET 5 [0, 1, 5, 6, 7] ⟨AY [(2, .ptr 68802 0 0), (3, j6 0), (4, j6 0), (5, j6 0), (24, .ptr 700970 0 0), (28, j6 E9.2.2.1)], AY [(68802, ⟨3, false, [.agg [eb (0 : UInt8), .str ([] : List UInt8), .nl]]⟩), (700970, ⟨2, false, [BH E9.2.2.2]⟩)]⟩ ⟨AY [(2, .ptr 68802 0 0), (3, j6 0), (4, j6 E9.2.2.2.at_), (5, j6 E9.2.2.1)], AY [(68802, ⟨3, false, [.agg [eb (0 : UInt8), .str ([] : List UInt8), .nl]]⟩)]⟩ := by
  refine yc (l := [2]) rfl nofun ⟨⟨_, rfl, ?_⟩, trivial⟩
  refine wq rfl ?_
  exact AnyW.of xB rfl (cq rfl)
 have Rk : AnyW Tryz.prog (fun _ => false) EU ET 6 [0, 1, 2, 3] ⟨AY [(2, .ptr 68802 0 0), (3, j6 0), (4, j6 0), (5, j6 0), (9, j6 E9.2.2.1), (23, .agg [eb (0 : UInt8), .str ([] : List UInt8), .nl]), (26, .ptr 700970 0 1)], AY [(68802, ⟨3, false, [.agg [eb (0 : UInt8), .str ([] : List UInt8), .nl]]⟩), (700970, ⟨2, false, [BH E9.2.2.2]⟩)]⟩ ⟨AY [(2, .ptr 68802 0 0), (3, j6 0), (4, j6 E9.2.2.2.at_), (5, j6 E9.2.2.1)], AY [(68802, ⟨3, false, [.agg [eb (0 : UInt8), .str ([] : List UInt8), .nl]]⟩)]⟩ := by
  refine yc (l := [4, 5, 6]) rfl nofun ⟨⟨_, rfl, ?_⟩, ⟨_, rfl, ?_⟩, ⟨_, rfl, ?_⟩, trivial⟩
  refine wq rfl ?_
  exact AnyW.of Rj rfl (cq rfl)
  refine wq rfl ?_
  exact AnyW.of Km rfl (cq rfl)
  refine EW (e' := .agg [eb (0 : UInt8), .str ([] : List UInt8), .nl]) rfl rfl rfl rfl rfl rfl rfl rfl nofun rfl ?_
  exact AnyW.of Kz rfl (cq rfl)
 have Kn : AnyW Tryz.prog (fun _ => false) EU ET 6 [0, 1, 2, 5] ⟨AY [(2, .ptr 68802 0 0), (3, j6 0), (4, j6 0), (5, j6 0), (23, .agg [eb (0 : UInt8), .str ([] : List UInt8), .nl]), (25, .ptr 700970 0 0), (28, j6 E9.2.2.1)], AY [(68802, ⟨3, false, [.agg [eb (0 : UInt8), .str ([] : List UInt8), .nl]]⟩), (700970, ⟨2, false, [BH E9.2.2.2]⟩)]⟩ ⟨AY [(2, .ptr 68802 0 0), (3, j6 0), (4, j6 E9.2.2.2.at_), (5, j6 E9.2.2.1)], AY [(68802, ⟨3, false, [.agg [eb (0 : UInt8), .str ([] : List UInt8), .nl]]⟩)]⟩ := by
  refine yc (l := [3, 6]) rfl nofun ⟨⟨_, rfl, ?_⟩, ⟨_, rfl, ?_⟩, trivial⟩
  refine wq rfl ?_
  exact AnyW.of Km rfl (cq rfl)
  refine EW (e' := .agg [eb (0 : UInt8), .str ([] : List UInt8), .nl]) rfl rfl rfl rfl rfl rfl rfl rfl nofun rfl ?_
  exact AnyW.of xG rfl (cq rfl)
 have La : AnyW Tryz.prog (fun _ => false) EU ET 6 [0, 1, 2, 6] ⟨AY [(2, .ptr 68802 0 0), (3, j6 0), (4, j6 0), (5, j6 0), (9, j6 E9.2.2.1), (25, .ptr 700970 0 0)], AY [(68802, ⟨3, false, [.agg [eb (0 : UInt8), .str ([] : List UInt8), .nl]]⟩), (700970, ⟨2, false, [BH E9.2.2.2]⟩)]⟩ ⟨AY [(2, .ptr 68802 0 0), (3, j6 0), (4, j6 E9.2.2.2.at_), (5, j6 E9.2.2.1)], AY [(68802, ⟨3, false, [.agg [eb (0 : UInt8), .str ([] : List UInt8), .nl]]⟩)]⟩ := by
  refine yc (l := [3, 5, 7]) rfl nofun ⟨⟨_, rfl, ?_⟩, ⟨_, rfl, ?_⟩, ⟨_, rfl, ?_⟩, trivial⟩
  refine wq rfl ?_
  exact AnyW.of Kz rfl (cq rfl)
  refine wq rfl ?_
  exact AnyW.of xG rfl (cq rfl)
  refine wq rfl ?_
  exact AnyW.of Ku rfl (cq rfl)
 have xH : AnyW Tryz.prog (fun _ => false) EU ET 6 [0, 1, 5, 6] ⟨AY [(2, .ptr 68802 0 0), (3, j6 0), (4, j6 0), (5, j6 0), (24, .ptr 700970 0 0), (28, j6 E9.2.2.1)], AY [(68802, ⟨3, false, [.agg [eb (0 : UInt8), .str ([] : List UInt8), .nl]]⟩), (700970, ⟨2, false, [BH E9.2.2.2]⟩)]⟩ ⟨AY [(2, .ptr 68802 0 0), (3, j6 0), (4, j6 E9.2.2.2.at_), (5, j6 E9.2.2.1)], AY [(68802, ⟨3, false, [.agg [eb (0 : UInt8), .str ([] : List UInt8), .nl]]⟩)]⟩ := by
  refine yc (l := [2, 7]) rfl nofun ⟨⟨_, rfl, ?_⟩, ⟨_, rfl, ?_⟩, trivial⟩
  refine wq rfl ?_
  exact AnyW.of xG rfl (cq rfl)
  refine wq rfl ?_
  exact AnyW.of xC rfl (cq rfl)
 have Kw : AnyW Tryz.prog (fun _ => false) EU ET 6 [0, 1, 6, 7] ⟨AY [(2, .ptr 68802 0 0), (3, j6 0), (4, j6 0), (5, j6 0), (9, j6 E9.2.2.1), (24, .ptr 700970 0 0)], AY [(68802, ⟨3, false, [.agg [eb (0 : UInt8), .str ([] : List UInt8), .nl]]⟩), (700970, ⟨2, false, [BH E9.2.2.2]⟩)]⟩ ⟨AY [(2, .ptr 68802 0 0), (3, j6 0), (4, j6 E9.2.2.2.at_), (5, j6 E9.2.2.1)], AY [(68802, ⟨3, false, [.agg [eb (0 : UInt8), .str ([] : List UInt8), .nl]]⟩)]⟩ := by
  refine yc (l := [2, 5]) rfl nofun ⟨⟨_, rfl, ?_⟩, ⟨_, rfl, ?_⟩, trivial⟩
  refine wq rfl ?_
  exact AnyW.of Ku rfl (cq rfl)
  refine wq rfl ?_
  exact AnyW.of xC rfl (cq rfl)
 have Kv : AnyW Tryz.prog (fun _ => false) EU ET 6 [0, 5, 6, 7] ⟨AY [(2, .ptr 68802 0 0), (3, j6 0), (4, j6 0), (5, j6 0), (6, .ptr 700970 0 0), (28, j6 E9.2.2.1)], AY [(68802, ⟨3, false, [.agg [eb (0 : UInt8), .str ([] : List UInt8), .nl]]⟩), (700970, ⟨2, false, [BH E9.2.2.2]⟩)]⟩ ⟨AY [(2, .ptr 68802 0 0), (3, j6 0), (4, j6 E9.2.2.2.at_), (5, j6 E9.2.2.1)], AY [(68802, ⟨3, false, [.agg [eb (0 : UInt8), .str ([] : List UInt8), .nl]]⟩)]⟩ := by
  refine yc (l := [1]) rfl nofun ⟨⟨_, rfl, ?_⟩, trivial⟩
  refine wq rfl ?_
  exact AnyW.of xC rfl (cq rfl)
 have Rl : AnyW Tryz.prog (fun _ => false) EU ET 7 [0, 1, 2] ⟨AY [(2, .ptr 68802 0 0), (3, j6 0), (4, j6 0), (5, j6 0), (9, j6 E9.2.2.1), (23, .agg [eb (0 : UInt8), .str ([] : List UInt8), .nl]), (25, .ptr 700970 0 0)], AY [(68802, ⟨3, false, [.agg [eb (0 : UInt8), .str ([] : List UInt8), .nl]]⟩), (700970, ⟨2, false, [BH E9.2.2.2]⟩)]⟩ ⟨AY [(2, .ptr 68802 0 0), (3, j6 0), (4, j6 E9.2.2.2.at_), (5, j6 E9.2.2.1)], AY [(68802, ⟨3, false, [.agg [eb (0 : UInt8), .str ([] : List UInt8), .nl]]⟩)]⟩ := by
  refine yc (l := [3, 5, 6]) rfl nofun ⟨⟨_, rfl, ?_⟩, ⟨_, rfl, ?_⟩, ⟨_, rfl, ?_⟩, trivial⟩
  refine wq rfl ?_
  exact AnyW.of Rk rfl (cq rfl)
  refine wq rfl ?_
  exact AnyW.of Kn rfl (cq rfl)
  refine EW (e' := .agg [eb (0 : UInt8), .str ([] : List UInt8), .nl]) rfl rfl rfl rfl rfl rfl rfl rfl nofun rfl ?_
  exact AnyW.of La rfl (cq rfl)
 have Ko : AnyW Tryz.prog (fun _ => false) EU ET 7 [0, 1, 5] ⟨AY [(2, .ptr 68802 0 0), (3, j6 0), (4, j6 0), (5, j6 0), (23, .agg [eb (0 : UInt8), .str ([] : List UInt8), .nl]), (24, .ptr 700970 0 0), (28, j6 E9.2.2.1)], AY [(68802, ⟨3, false, [.agg [eb (0 : UInt8), .str ([] : List UInt8), .nl]]⟩), (700970, ⟨2, false, [BH E9.2.2.2]⟩)]⟩ ⟨AY [(2, .ptr 68802 0 0), (3, j6 0), (4, j6 E9.2.2.2.at_), (5, j6 E9.2.2.1)], AY [(68802, ⟨3, false, [.agg [eb (0 : UInt8), .str ([] : List UInt8), .nl]]⟩)]⟩ := by
  refine yc (l := [2, 6]) rfl nofun ⟨⟨_, rfl, ?_⟩, ⟨_, rfl, ?_⟩, trivial⟩
  refine wq rfl ?_
  exact AnyW.of Kn rfl (cq rfl)
  refine EW (e' := .agg [eb (0 : UInt8), .str ([] : List UInt8), .nl]) rfl rfl rfl rfl rfl rfl rfl rfl nofun rfl ?_
  exact AnyW.of xH rfl (cq rfl)
 have Lc : AnyW Tryz.prog (fun _ => false) EU ET 7 [0, 1, 6] ⟨AY [(2, .ptr 68802 0 0), (3, j6 0), (4, j6 0), (5, j6 0), (9, j6 E9.2.2.1), (24, .ptr 700970 0 0)], AY [(68802, ⟨3, false, [.agg [eb (0 : UInt8), .str ([] : List UInt8), .nl]]⟩), (700970, ⟨2, false, [BH E9.2.2.2]⟩)]⟩ ⟨AY [(2, .ptr 68802 0 0), (3, j6 0), (4, j6 E9.2.2.2.at_), (5, j6 E9.2.2.1)], AY [(68802, ⟨3, false, [.agg [eb (0 : UInt8), .str ([] : List UInt8), .nl]]⟩)]⟩ := by
  refine yc (l := [2, 5, 7]) rfl nofun ⟨⟨_, rfl, ?_⟩, ⟨_, rfl, ?_⟩, ⟨_, rfl, ?_⟩, trivial⟩
  refine wq rfl ?_
  exact AnyW.of La rfl (cq rfl)
  refine wq rfl ?_
  exact AnyW.of xH rfl (cq rfl)
  refine wq rfl ?_
  exact AnyW.of Kw rfl (cq rfl)
 have Lb : AnyW Tryz.prog (fun _ => false) EU ET 7 [0, 5, 6] ⟨AY [(2, .ptr 68802 0 0), (3, j6 0), (4, j6 0), (5, j6 0), (6, .ptr 700970 0 0), (28, j6 E9.2.2.1)], AY [(68802, ⟨3, false, [.agg [eb (0 : UInt8), .str ([] : List UInt8), .nl]]⟩), (700970, ⟨2, false, [BH E9.2.2.2]⟩)]⟩ ⟨AY [(2, .ptr 68802 0 0), (3, j6 0), (4, j6 E9.2.2.2.at_), (5, j6 E9.2.2.1)], AY [(68802, ⟨3, false, [.agg [eb (0 : UInt8), .str ([] : List UInt8), .nl]]⟩)]⟩ := by
  refine yc (l := [1, 7]) rfl nofun ⟨⟨_, rfl, ?_⟩, ⟨_, rfl, ?_⟩, trivial⟩
  refine wq rfl ?_
  exact AnyW.of xH rfl (cq rfl)
  refine wq rfl ?_
  exact AnyW.of Kv rfl (cq rfl)
 have Yl : AnyW Tryz.prog (fun _ => false) EU ET 7 [0, 6, 7] ⟨AY [(2, .ptr 68802 0 0), (3, j6 0), (4, j6 0), (5, j6 0), (6, .ptr 700970 0 0), (9, j6 E9.2.2.1)], AY [(68802, ⟨3, false, [.agg [eb (0 : UInt8), .str ([] : List UInt8), .nl]]⟩), (700970, ⟨2, false, [BH E9.2.2.2]⟩)]⟩ ⟨AY [(2, .ptr 68802 0 0), (3, j6 0), (4, j6 E9.2.2.2.at_), (5, j6 E9.2.2.1)], AY [(68802, ⟨3, false, [.agg [eb (0 : UInt8), .str ([] : List UInt8), .nl]]⟩)]⟩ := by
  refine yc (l := [1, 5]) rfl nofun ⟨⟨_, rfl, ?_⟩, ⟨_, rfl, ?_⟩, trivial⟩
  refine wq rfl ?_
  exact AnyW.of Kw rfl (cq rfl)
  refine wq rfl ?_
  exact AnyW.of Kv rfl (cq rfl)
 have Rn : AnyW Tryz.prog (fun _ => false) EU ET 8 [0, 1] ⟨AY [(2, .ptr 68802 0 0), (3, j6 0), (4, j6 0), (5, j6 0), (9, j6 E9.2.2.1), (23, .agg [eb (0 : UInt8), .str ([] : List UInt8), .nl]), (24, .ptr 700970 0 0)], AY [(68802, ⟨3, false, [.agg [eb (0 : UInt8), .str ([] : List UInt8), .nl]]⟩), (700970, ⟨2, false, [BH E9.2.2.2]⟩)]⟩ ⟨AY [(2, .ptr 68802 0 0), (3, j6 0), (4, j6 E9.2.2.2.at_), (5, j6 E9.2.2.1)], AY [(68802, ⟨3, false, [.agg [eb (0 : UInt8), .str ([] : List UInt8), .nl]]⟩)]⟩ := by
  refine yc (l := [2, 5, 6]) rfl nofun ⟨⟨_, rfl, ?_⟩, ⟨_, rfl, ?_⟩, ⟨_, rfl, ?_⟩, trivial⟩
  refine wq rfl ?_
  exact AnyW.of Rl rfl (cq rfl)
  refine wq rfl ?_
  exact AnyW.of Ko rfl (cq rfl)
  refine EW (e' := .agg [eb (0 : UInt8), .str ([] : List UInt8), .nl]) rfl rfl rfl rfl rfl rfl rfl rfl nofun rfl ?_
  exact AnyW.of Lc rfl (cq rfl)
 have Rm : AnyW Tryz.prog (fun _ => false) EU ET 8 [0, 5] ⟨AY [(2, .ptr 68802 0 0), (3, j6 0), (4, j6 0), (5, j6 0), (6, .ptr 700970 0 0), (23, .agg [eb (0 : UInt8), .str ([] : List UInt8), .nl]), (28, j6 E9.2.2.1)], AY [(68802, ⟨3, false, [.agg [eb (0 : UInt8), .str ([] : List UInt8), .nl]]⟩), (700970, ⟨2, false, [BH E9.2.2.2]⟩)]⟩ ⟨AY [(2, .ptr 68802 0 0), (3, j6 0), (4, j6 E9.2.2.2.at_), (5, j6 E9.2.2.1)], AY [(68802, ⟨3, false, [.agg [eb (0 : UInt8), .str ([] : List UInt8), .nl]]⟩)]⟩ := by
  refine yc (l := [1, 6]) rfl nofun ⟨⟨_, rfl, ?_⟩, ⟨_, rfl, ?_⟩, trivial⟩
  refine wq rfl ?_
  exact AnyW.of Ko rfl (cq rfl)
  refine EW (e' := .agg [eb (0 : UInt8), .str ([] : List UInt8), .nl]) rfl rfl rfl rfl rfl rfl rfl rfl nofun rfl ?_
  exact AnyW.of Lb rfl (cq rfl)
 have Ym : AnyW Tryz.prog (fun _ => false) EU ET 8 [0, 6] ⟨AY [(2, .ptr 68802 0 0), (3, j6 0), (4, j6 0), (5, j6 0), (6, .ptr 700970 0 0), (9, j6 E9.2.2.1)], AY [(68802, ⟨3, false, [.agg [eb (0 : UInt8), .str ([] : List UInt8), .nl]]⟩), (700970, ⟨2, false, [BH E9.2.2.2]⟩)]⟩ ⟨AY [(2, .ptr 68802 0 0), (3, j6 0), (4, j6 E9.2.2.2.at_), (5, j6 E9.2.2.1)], AY [(68802, ⟨3, false, [.agg [eb (0 : UInt8), .str ([] : List UInt8), .nl]]⟩)]⟩ := by
  refine yc (l := [1, 5, 7]) rfl nofun ⟨⟨_, rfl, ?_⟩, ⟨_, rfl, ?_⟩, ⟨_, rfl, ?_⟩, trivial⟩
  refine wq rfl ?_
  exact AnyW.of Lc rfl (cq rfl)
  refine wq rfl ?_
  exact AnyW.of Lb rfl (cq rfl)
  refine wq rfl ?_
  exact AnyW.of Yl rfl (cq rfl)
 have a11_0 : AnyW Tryz.prog (fun _ => false) EU ET 9 [0] ⟨AY [(2, .ptr 68802 0 0), (3, j6 0), (4, j6 0), (5, j6 0), (6, .ptr 700970 0 0), (9, j6 E9.2.2.1), (23, .agg [eb (0 : UInt8), .str ([] : List UInt8), .nl])], AY [(68802, ⟨3, false, [.agg [eb (0 : UInt8), .str ([] : List UInt8), .nl]]⟩), (700970, ⟨2, false, [BH E9.2.2.2]⟩)]⟩ ⟨AY [(2, .ptr 68802 0 0), (3, j6 0), (4, j6 E9.2.2.2.at_), (5, j6 E9.2.2.1)], AY [(68802, ⟨3, false, [.agg [eb (0 : UInt8), .str ([] : List UInt8), .nl]]⟩)]⟩ := by
  refine yc (l := [1, 5, 6]) rfl nofun ⟨⟨_, rfl, ?_⟩, ⟨_, rfl, ?_⟩, ⟨_, rfl, ?_⟩, trivial⟩
  refine wq rfl ?_
  exact AnyW.of Rn rfl (cq rfl)
  refine wq rfl ?_
  exact AnyW.of Rm rfl (cq rfl)
  refine EW (e' := .agg [eb (0 : UInt8), .str ([] : List UInt8), .nl]) rfl rfl rfl rfl rfl rfl rfl rfl nofun rfl ?_
  exact AnyW.of Ym rfl (cq rfl)
 exact ⟨⟨4, AnyW.of Kl rfl (cq rfl)⟩, ⟨5, AnyW.of Rj rfl (cq rfl)⟩, ⟨5, AnyW.of Km rfl (cq rfl)⟩, ⟨6, AnyW.of Rk rfl (cq rfl)⟩, ⟨6, AnyW.of Kn rfl (cq rfl)⟩, ⟨7, AnyW.of Rl rfl (cq rfl)⟩, ⟨7, AnyW.of Ko rfl (cq rfl)⟩, ⟨8, AnyW.of Rn rfl (cq rfl)⟩, ⟨8, AnyW.of Rm rfl (cq rfl)⟩, ⟨9, AnyW.of a11_0 rfl (cq rfl)⟩, trivial⟩
 cases AA h
 refine DL (st1 := ⟨AY [(2, .ptr 68802 0 0), (3, j6 0), (4, j6 E9.2.2.2.at_), (5, j6 E9.2.2.1)], AY [(68802, ⟨3, false, [A9 (⟨(0 : UInt8), ([] : List UInt8), []⟩ : A7)]⟩)]⟩) (C8.trans (vG 68802 (x := .agg [eb (0 : UInt8), .str ([] : List UInt8), .nl]) (y := .agg [eb ((⟨(0 : UInt8), ([] : List UInt8), []⟩ : A7).Tag), .str ((⟨(0 : UInt8), ([] : List UInt8), []⟩ : A7).Body), .sl 3 ((⟨(0 : UInt8), ([] : List UInt8), []⟩ : A7).Kids)]) (.cons A8 (.cons A8 (.cons (FM 3) .nil))) rfl rfl) (cq rfl)) ?_
 exact ⟨nofun, rfl, rfl⟩
 refine BF (AC (AB ?_))
 refine AQ (p := A9 E9.1) rfl rfl ?_
 refine wq rfl ?_
 refine EW (e' := A9 E9.1) rfl rfl rfl rfl rfl rfl rfl rfl nofun rfl ?_
 iterate 3 refine wq rfl ?_
 cases AA h
 refine BR ?_
 exact ⟨nofun, rfl, rfl⟩
def yZ : IC := (.seq (.reg [jb .lss 24 23 22]) (.seq (.cond (.t 24) .skip (.exit 4)) (.seq (.block 5 (.seq (.reg [jx 25 1 21 23, jl 26 1 25, jm 6 26]) (.reg [jm 27 4, jn 28 (.bin .shl (.t 27) (.c (.int .u64 8))), jm 29 6, jn 30 (.cvi .i64 (.t 29)), jb .or 31 28 30, jm 4 31]))) (.reg [ju .add 32 23 1, jm 23 32]))))
def k44 : IC := (.seq (.reg [jc 2 (j6 0), jc 3 (.bool false)]) (.seq (.reg [jc 4 (j6 0)]) (.seq (.block 0 (.seq (.block 3 (.seq (.block 2 (.seq (.block 1 (.seq (.seq (.seq (.reg [jm 8 0, jn 9 (.bin .eql (.t 8) (.c (.str []))), jm 10 9, jf 10 11 (.mov (.t 0)), jf 10 12 (.len true (.t 11)), jf 10 13 (.bin .gtr (.t 12) (ji 8)), jo 14 10 13, jm 7 14]) (.cond (.t 7) (.exit 1) .skip)) (.seq (.reg [jm 16 0, jn 17 (.idxs (.t 16) (ji 0)), jn 18 (.bin .and (.t 17) (.c (.int .u8 128))), jn 19 (.bin .neq (.t 18) (.c (.int .u8 0))), jm 15 19]) (.cond (.t 15) (.exit 2) .skip))) (.exit 3))) (.seq (.seq (.reg [jc 2 (j6 0), jc 3 (.bool false)]) .ret) (.exit 0)))) (.reg [jc 4 (j6 (-1))]))) (.seq (.seq (.reg [jm 20 0, jn 21 (.cvs (.t 20)), jL 22 21, jc 23 (j6 0)]) (.block 4 (.loop yZ))) (.exit 0)))) (.seq (.seq (.reg [jm 33 4, jn 34 (.call 46 [(.t 33)]), jm 35 0, jb .neq 36 34 35]) (.cond (.t 36) (.seq (.reg [jc 2 (j6 0), jc 3 (.bool false)]) .ret) .skip)) (.seq (.reg [jm 37 4, jm 2 37, jc 3 (.bool true)]) .ret)))))
theorem Vf : BV Tryz.prog Tryz.f44 = some ⟨38, k44, [(.tmp 2), (.tmp 3)]⟩ := by kernel_rfl
theorem ZW (N : Nat) (a0 : List UInt8) : ∀ (n : Nat) (x : Int × Int) (y : Int), GZ N a0 n x = some y → WX Tryz.prog (fun _ => false) (.loop yZ) ((fun (x : Int × Int) => ⟨AY [(0, .str a0), (4, j6 x.1), (21, .slr 70421 0 a0.length), (22, j6 (a0.length : Int)), (23, j6 x.2)], AY [(70421, ⟨1, true, List.map eb a0⟩)]⟩) x) ((fun y e s => e = .exit 4 ∧ s = ⟨AY [(0, .str a0), (4, j6 y)], AY []⟩ : Int → Xt → St → Prop) y) := by
 refine EP _ _ (GZ N a0) (LP N a0) (fun _ => rfl) (fun _ _ => rfl) ?_
 rintro rec ⟨nJ, fA⟩ y h
 refine AC (AB ?_)
 refine wq rfl ?_
 refine AC ?_
 refine D5 h rfl (fun c1 h => ?_) (fun c1 h => ?_)
 refine BF (AC (BZ (AC (AB ?_))))
 obtain ⟨x25, hx25, h⟩ := AJ h
 refine AQ rfl (PE hx25 rfl rfl rfl rfl) ?_
 obtain ⟨LV, qG, h⟩ := AJ h
 refine AQ rfl (UE (f := eb) (v := eb LV) qG rfl rfl rfl) ?_
 refine wq rfl ?_
 refine AB ?_
 refine wq rfl ?_
 refine AQ rfl (Qh (by decide) rfl rfl) ?_
 refine wq rfl ?_
 refine AQ rfl (fP (a := LV) rfl) ?_
 refine AQ (p := j6 (Ll .or .i64 (jQ nJ 8) ((LV).toNat : Int))) rfl rfl ?_
 refine wq rfl ?_
 refine AB ?_
 refine AQ (p := j6 (BM (fA + (1 : Int)))) rfl rfl ?_
 refine wq rfl ?_
 exact ⟨((Ll .or .i64 (jQ nJ 8) ((LV).toNat : Int)), (BM (fA + (1 : Int)))), (cq rfl), h⟩
 obtain rfl := AA h
 exact CU (st1 := ⟨AY [(0, .str a0), (4, j6 nJ)], AY []⟩) (cq rfl) ⟨rfl, rfl⟩
theorem V5 (N : Nat) (a0 : List UInt8) (r : Int × Bool) (h : P7 N a0 = some r) : Sat Tryz.prog 44 AO [.str a0] (.tup [j6 r.1, .bool r.2]) AO := by
 refine DK mixed Tryz.func44 Vf (rs := [j6 r.1, .bool r.2]) rfl rfl ?_
 refine AC (AB ?_)
 iterate 2 refine wq rfl ?_
 refine AC (AB ?_)
 refine wq rfl ?_
 refine AC (BZ ?_)
 refine QJ (fun (x : Int) => ⟨AY [(0, .str a0), (4, j6 x)], AY []⟩) (fun x => LW a0 N x = some r) ?_ ?_
 rintro v4j6 h
 iterate 2 refine AC ?_
 refine AB ?_
 refine wq rfl ?_
 refine CO rfl (pU 70421 rfl rfl) ?_
 iterate 2 refine wq rfl ?_
 refine BZ ?_
 obtain ⟨y2, hy2, h⟩ := AJ h
 refine QI (ZW N a0 N _ _ hy2) (cq rfl) ?_
 rintro e s ⟨rfl, rfl⟩
 refine QK ?_
 iterate 2 refine AC ?_
 refine AB ?_
 refine wq rfl ?_
 obtain ⟨x34, hx34, h⟩ := AJ h
 refine CO rfl (CB (aD N _ _ hx34) rfl (.cons A8 .nil) rfl rfl rfl) ?_
 iterate 2 refine wq rfl ?_
 refine D5 h rfl (fun c3 h => ?_) (fun c3 h => ?_)
 refine AC (AB ?_)
 iterate 2 refine wq rfl ?_
 cases AA h
 refine BR ?_
 exact ⟨nofun, rfl, rfl⟩
 refine BF (AC (AB ?_))
 iterate 3 refine wq rfl ?_
 cases AA h
 refine BR ?_
 exact ⟨nofun, rfl, rfl⟩
 refine BZ (AC (BZ (AC (BZ ?_))))
 iterate 2 refine AC ?_
 obtain ⟨g4, hg4, h⟩ := AJ h
 refine F3 ⟨AY [(0, .str a0), (4, j6 0), (7, .bool g4)], AY []⟩ ?_ ?_
 have h := hg4
 refine AB ?_
 iterate 3 refine wq rfl ?_
 rcases BO h with ⟨c5, h⟩ | ⟨c5, h⟩
 iterate 3 refine BJ (gn rfl c5) ?_
 refine AQ rfl (BA c5 rfl rfl) ?_
 refine wq rfl ?_
 obtain rfl := AA h
 exact cq rfl
 iterate 3 refine AQ (gy rfl c5) rfl ?_
 refine AQ rfl (AZ c5 rfl rfl) ?_
 refine wq rfl ?_
 cases AA h
 exact cq rfl
 clear hg4
 refine D5 h rfl (fun c6 h => ?_) (fun c6 h => ?_)
 refine QK ?_
 iterate 2 refine AC ?_
 refine AB ?_
 iterate 2 refine wq rfl ?_
 cases AA h
 refine BR ?_
 exact ⟨nofun, rfl, rfl⟩
 refine BF (AC (AB ?_))
 refine wq rfl ?_
 obtain ⟨E9, VU, h⟩ := AJ h
 refine AQ rfl (GY VU rfl rfl) ?_
 refine AQ rfl (ZI (a := E9) (b := (128 : UInt8)) rfl rfl) ?_
 refine AQ (p := .bool ((((E9 &&& (128 : UInt8))).toNat : Int) != (0 : Int))) rfl rfl ?_
 refine wq rfl ?_
 refine D5 h rfl (fun c7 h => ?_) (fun c7 h => ?_)
 refine QK ?_
 refine AB ?_
 refine wq rfl ?_
 exact ⟨(-1), (cq rfl), h⟩
 refine BF ?_
 refine QK ?_
 exact ⟨0, (cq rfl), h⟩
def Hg : IC := (.seq (.seq (.reg [jm 22 7, jm 23 1, ju .sub 24 23 1, jb .lss 25 22 24]) (.cond (.t 25) .skip (.exit 0))) (.seq (.block 1 (.seq (.reg [jm 29 0, jn 30 (.call 124 [(.t 29)]), jm 28 30, je 31 0 28, je 32 1 28, jm 8 31, jm 9 32]) (.seq (.reg [jm 33 6, jm 34 7, jm 35 0, jm 36 9, jn 37 (.slcs (.t 35) none (some (.t 36))), jx 38 1 33 34, js 1 38 37]) (.reg [jm 39 0, jm 40 9, jn 41 (.slcs (.t 39) (some (.t 40)) none), jm 0 41])))) (.reg [jm 26 7, ju .add 27 26 1, jm 7 27])))
def k100 : IC := (.seq (.reg [jc 4 .nl]) (.seq (.reg [jm 10 0, jn 11 (.call 123 [(.t 10)]), jm 5 11]) (.seq (.seq (.reg [jm 12 1, ju .lss 13 12 0, jm 14 13, jf 14 15 (.mov (.t 1)), jf 14 16 (.mov (.t 5)), jf 14 17 (.bin .gtr (.t 15) (.t 16)), jo 18 14 17]) (.cond (.t 18) (.reg [jm 19 5, jm 1 19]) .skip)) (.seq (.reg [jm 20 1, jn 21 (.mks 1 16 (.str []) (.t 20)), jm 6 21]) (.seq (.seq (.reg [jc 7 (j6 0)]) (.block 0 (.loop Hg))) (.seq (.seq (.reg [jm 42 1, ju .gtr 43 42 0]) (.cond (.t 43) (.reg [jm 44 6, jm 45 1, ju .sub 46 45 1, jm 47 0, jx 48 1 44 46, js 1 48 47]) .skip)) (.seq (.reg [jm 49 6, jm 4 49]) .ret)))))))
theorem Om : BV Tryz.prog Tryz.f100 = some ⟨50, k100, [(.tmp 4)]⟩ := by kernel_rfl
theorem ZX (N : Nat) (a0 : List UInt8) (a1 : Int) (r : List (List UInt8)) (h : Y0 N a0 a1 = some r) : Sat Tryz.prog 100 AO [.str a0, j6 a1] (.sl 1 (List.map PV.str r)) AO := by
 refine DK mixed Tryz.func100 Om (rs := [.sl 1 (List.map PV.str r)]) rfl rfl ?_
 refine AC (AB ?_)
 refine wq rfl ?_
 refine AC (AB ?_)
 refine wq rfl ?_
 cases h
def k102 : IC := (.seq (.reg [jc 4 (j6 0)]) (.seq (.reg [jm 5 0, jm 6 1, jn 7 (.call 126 [(.t 5), (.t 6)]), jm 4 7]) .ret))
theorem Ol : BV Tryz.prog Tryz.f102 = some ⟨8, k102, [(.tmp 4)]⟩ := by kernel_rfl
theorem dI (N : Nat) (a0 : List UInt8) (a1 : List UInt8) (r : Int) (h : strings_Index N a0 a1 = some r) : Sat Tryz.prog 102 AO [.str a0, .str a1] (j6 r) AO := by
 refine DK mixed Tryz.func102 Ol (rs := [j6 r]) rfl rfl ?_
 refine AC (AB ?_)
 refine wq rfl ?_
 refine AC (AB ?_)
 iterate 2 refine wq rfl ?_
 obtain ⟨x7, hx7, h⟩ := AJ h
 refine CO rfl (CB (RI N _ _ _ hx7) rfl (.cons A8 (.cons A8 .nil)) rfl rfl rfl) ?_
 refine wq rfl ?_
 obtain rfl := AA h
 refine BR ?_
 exact ⟨nofun, rfl, rfl⟩
def yO : IC := (.seq (.seq (.reg [jm 34 10, jm 35 3, jb .lss 36 34 35]) (.cond (.t 36) .skip (.exit 0))) (.block 1 (.seq (.reg [jm 37 0, jm 38 1, jn 39 (.call 102 [(.t 37), (.t 38)]), jm 11 39]) (.seq (.seq (.reg [jm 40 11, ju .lss 41 40 0]) (.cond (.t 41) (.exit 0) .skip)) (.seq (.reg [jm 42 9, jm 43 10, jm 44 0, jm 45 11, jm 46 2, jb .add 47 45 46, jn 48 (.slcs (.t 44) none (some (.t 47))), jx 49 1 42 43, js 1 49 48]) (.seq (.reg [jm 50 0, jm 51 11, jm 52 1, jS 53 52, jb .add 54 51 53, jn 55 (.slcs (.t 50) (some (.t 54)) none), jm 0 55]) (.reg [jm 56 10, ju .add 57 56 1, jm 10 57])))))))
def k87 : IC := (.seq (.reg [jc 8 .nl]) (.seq (.seq (.reg [jm 12 3, ju .eql 13 12 0]) (.cond (.t 13) (.seq (.reg [jc 8 .nl]) .ret) .skip)) (.seq (.seq (.reg [jm 14 1, jn 15 (.bin .eql (.t 14) (.c (.str [])))]) (.cond (.t 15) (.seq (.reg [jm 16 0, jm 17 3, jn 18 (.call 100 [(.t 16), (.t 17)]), jm 8 18]) .ret) .skip)) (.seq (.seq (.reg [jm 19 3, ju .lss 20 19 0]) (.cond (.t 20) (.reg [jm 21 0, jm 22 1, jn 23 (.call 101 [(.t 21), (.t 22)]), ju .add 24 23 1, jm 3 24]) .skip)) (.seq (.reg [jm 25 3, jm 26 0, jS 27 26, ju .add 28 27 1, jn 29 (.mm false (.t 25) [(.t 28)]), jm 3 29]) (.seq (.reg [jm 30 3, jn 31 (.mks 1 16 (.str []) (.t 30)), jm 9 31]) (.seq (.reg [jm 32 3, ju .sub 33 32 1, jm 3 33]) (.seq (.reg [jc 10 (j6 0)]) (.seq (.block 0 (.loop yO)) (.seq (.reg [jm 58 9, jm 59 10, jm 60 0, jx 61 1 58 59, js 1 61 60]) (.seq (.reg [jm 62 9, jm 63 10, ju .add 64 63 1, jn 65 (.slcl 1 (.t 62) none (some (.t 64))), jm 8 65]) .ret)))))))))))
theorem Tj : BV Tryz.prog Tryz.f87 = some ⟨66, k87, [(.tmp 8)]⟩ := by kernel_rfl
theorem X3 (N : Nat) (a0 : List UInt8) (a1 : List UInt8) (a2 : Int) (TH : Int) : ∀ (n : Nat) (x : List UInt8 × Int × List (List UInt8)) (y : List UInt8 × Int × List (List UInt8)), FX N a0 a1 a2 TH n x = some y → WX Tryz.prog (fun _ => false) (.loop yO) ((fun (x : List UInt8 × Int × List (List UInt8)) => ⟨AY [(0, .str x.1), (1, .str a1), (2, j6 a2), (3, j6 (BM ((mn TH (BM ((a0.length : Int) + (1 : Int)))) - (1 : Int)))), (9, .slr 139231 0 x.2.2.length), (10, j6 x.2.1)], AY [(139231, ⟨1, true, List.map PV.str x.2.2⟩)]⟩) x) ((fun y e s => e = .exit 0 ∧ s = ⟨AY [(0, .str y.1), (9, .slr 139231 0 y.2.2.length), (10, j6 y.2.1)], AY [(139231, ⟨1, true, List.map PV.str y.2.2⟩)]⟩ : (List UInt8 × Int × List (List UInt8)) → Xt → St → Prop) y) := by
 refine EP _ _ (FX N a0 a1 a2 TH) (JO N a0 a1 a2 TH) (fun _ => rfl) (fun _ _ => rfl) ?_
 rintro rec ⟨gM, VL, II⟩ y h
 iterate 2 refine AC ?_
 refine AB ?_
 iterate 3 refine wq rfl ?_
 refine D5 h rfl (fun c3 h => ?_) (fun c3 h => ?_)
 refine BF (BZ (AC (AB ?_)))
 iterate 2 refine wq rfl ?_
 obtain ⟨x39, hx39, h⟩ := AJ h
 refine CO rfl (CB (dI N _ _ _ hx39) rfl (.cons A8 (.cons A8 .nil)) rfl rfl rfl) ?_
 refine wq rfl ?_
 iterate 2 refine AC ?_
 refine AB ?_
 iterate 2 refine wq rfl ?_
 refine D5 h rfl (fun c4 h => ?_) (fun c4 h => ?_)
 cases AA h
 exact CU (st1 := ⟨AY [(0, .str gM), (9, .slr 139231 0 II.length), (10, j6 VL)], AY [(139231, ⟨1, true, List.map PV.str II⟩)]⟩) (cq rfl) ⟨rfl, rfl⟩
 refine BF (AC (AB ?_))
 iterate 5 refine wq rfl ?_
 refine AQ (p := j6 (BM (x39 + a2))) rfl rfl ?_
 obtain ⟨gL, fZ, h⟩ := AJ h
 refine AQ rfl (kP fZ rfl rfl) ?_
 obtain ⟨Y7, qD, h⟩ := AJ h
 refine AQ rfl (PE qD rfl rfl rfl rfl) ?_
 obtain ⟨qZ, l9, h⟩ := AJ h
 refine Af (f := PV.str) (e' := gL) l9 rfl rfl rfl rfl rfl rfl rfl rfl (fun _ => rfl) rfl ?_
 refine AC (AB ?_)
 iterate 4 refine wq rfl ?_
 refine AQ (p := j6 (BM (x39 + (a1.length : Int)))) rfl rfl ?_
 obtain ⟨x55, wD, h⟩ := AJ h
 refine AQ rfl (YP wD rfl rfl) ?_
 refine wq rfl ?_
 refine AB ?_
 refine wq rfl ?_
 refine AQ (p := j6 (BM (VL + (1 : Int)))) rfl rfl ?_
 refine wq rfl ?_
 exact ⟨(x55, (BM (VL + (1 : Int))), (II.set Y7 gL)), (C8.trans (KP 9 (H5 (congrArg (PV.slr 139231 0) (by simp only [List.length_set, List.length_replicate] : II.length = (II.set Y7 gL).length))) rfl) (cq rfl)), h⟩
 cases AA h
 exact CU (st1 := ⟨AY [(0, .str gM), (9, .slr 139231 0 II.length), (10, j6 VL)], AY [(139231, ⟨1, true, List.map PV.str II⟩)]⟩) (cq rfl) ⟨rfl, rfl⟩
theorem YK (N : Nat) (a0 : List UInt8) (a1 : List UInt8) (a2 : Int) (a3 : Int) (r : List (List UInt8)) (h : strings_genSplit N a0 a1 a2 a3 = some r) : Sat Tryz.prog 87 AO [.str a0, .str a1, j6 a2, j6 a3] (.sl 1 (List.map PV.str r)) AO := by
 refine DK mixed Tryz.func87 Tj (rs := [.sl 1 (List.map PV.str r)]) rfl rfl ?_
 refine AC (AB ?_)
 refine wq rfl ?_
 iterate 2 refine AC ?_
 refine AB ?_
 iterate 2 refine wq rfl ?_
 refine D5 h rfl (fun c1 h => ?_) (fun c1 h => ?_)
 refine AC (AB ?_)
 refine wq rfl ?_
 cases AA h
 refine DL (st1 := ⟨AY [(8, .sl 1 (List.map PV.str []))], AY []⟩) (C8.trans (KP 8 (FM 1) rfl) (cq rfl)) ?_
 exact ⟨nofun, rfl, rfl⟩
 refine BF ?_
 iterate 2 refine AC ?_
 refine AB ?_
 iterate 2 refine wq rfl ?_
 refine D5 h rfl (fun c2 h => ?_) (fun c2 h => ?_)
 refine AC (AB ?_)
 iterate 2 refine wq rfl ?_
 obtain ⟨PN, gD, h⟩ := AJ h
 refine CO rfl (CB (ZX N _ _ _ gD) rfl (.cons A8 (.cons A8 .nil)) rfl rfl rfl) ?_
 refine wq rfl ?_
 obtain rfl := AA h
 refine BR ?_
 exact ⟨nofun, rfl, rfl⟩
 refine BF ?_
 refine QJ (fun (x : Int) => ⟨AY [(0, .str a0), (1, .str a1), (2, j6 a2), (3, j6 x)], AY []⟩) (fun x => IW a0 a1 a2 N x = some r) ?_ ?_
 rintro TH h
 refine AC (AB ?_)
 iterate 3 refine wq rfl ?_
 refine AQ (p := j6 (BM ((a0.length : Int) + (1 : Int)))) rfl rfl ?_
 refine AQ (p := j6 (mn TH (BM ((a0.length : Int) + (1 : Int))))) rfl rfl ?_
 refine wq rfl ?_
 refine AC (AB ?_)
 refine wq rfl ?_
 obtain ⟨x31, hx31, h⟩ := AJ h
 refine wmks (f := PV.str) (e := ([] : List UInt8)) 139231 hx31 rfl rfl rfl rfl rfl rfl ?_
 refine wq rfl ?_
 refine AC (AB ?_)
 refine wq rfl ?_
 refine AQ (p := j6 (BM ((mn TH (BM ((a0.length : Int) + (1 : Int)))) - (1 : Int)))) rfl rfl ?_
 refine wq rfl ?_
 refine AC (AB ?_)
 refine wq rfl ?_
 refine AC (BZ ?_)
 obtain ⟨y6, uO, h⟩ := AJ h
 refine QI (X3 N a0 a1 a2 TH N _ _ uO) (C8.trans (KP 9 (H5 (congrArg (PV.slr 139231 0) (by simp only [List.length_set, List.length_replicate] : x31 = (List.replicate x31 ([] : List UInt8)).length))) rfl) (cq rfl)) ?_
 rintro e s ⟨rfl, rfl⟩
 refine AC (AB ?_)
 iterate 3 refine wq rfl ?_
 obtain ⟨Rq, Xi, h⟩ := AJ h
 refine AQ rfl (PE Xi rfl rfl rfl rfl) ?_
 obtain ⟨Dp, wC, h⟩ := AJ h
 refine Af (f := PV.str) (e' := y6.1) wC rfl rfl rfl rfl rfl rfl rfl rfl (fun _ => rfl) rfl ?_
 refine AC (AB ?_)
 iterate 2 refine wq rfl ?_
 refine AQ (p := j6 (BM (y6.2.1 + (1 : Int)))) rfl rfl ?_
 obtain ⟨xK, Ch, h⟩ := AJ h
 refine AQ rfl (Na Ch rfl (by simp only [List.length_set, List.length_replicate]) rfl rfl rfl) ?_
 refine wq rfl ?_
 obtain rfl := AA h
 refine DL (st1 := ⟨AY [(8, .sl 1 (List.map PV.str xK))], AY []⟩) (C8.trans (Vd.freeze 139231 _ rfl rfl rfl) (C8.trans (KP 8 (H5 (congrArg (PV.sl 1) (Ec Ch))) rfl) (cq rfl))) ?_
 exact ⟨nofun, rfl, rfl⟩
 refine AC (AB ?_)
 iterate 2 refine wq rfl ?_
 refine D5 h rfl (fun c8 h => ?_) (fun c8 h => ?_)
 refine AB ?_
 iterate 2 refine wq rfl ?_
 obtain ⟨XY, gB, h⟩ := AJ h
 refine CO rfl (CB (dJ N _ _ _ gB) rfl (.cons A8 (.cons A8 .nil)) rfl rfl rfl) ?_
 refine AQ (p := j6 (BM (XY + (1 : Int)))) rfl rfl ?_
 refine wq rfl ?_
 exact ⟨(BM (XY + (1 : Int))), (cq rfl), h⟩
 refine BF ?_
 exact ⟨a3, (cq rfl), h⟩
def k65 : IC := (.seq (.reg [jc 4 .nl]) (.seq (.reg [jm 5 0, jm 6 1, jn 7 (.call 87 [(.t 5), (.t 6), (ji 0), (ji (-1))]), jm 4 7]) .ret))
theorem Uh : BV Tryz.prog Tryz.f65 = some ⟨8, k65, [(.tmp 4)]⟩ := by kernel_rfl
theorem dH (N : Nat) (a0 : List UInt8) (a1 : List UInt8) (r : List (List UInt8)) (h : strings_Split N a0 a1 = some r) : Sat Tryz.prog 65 AO [.str a0, .str a1] (.sl 1 (List.map PV.str r)) AO := by
 refine DK mixed Tryz.func65 Uh (rs := [.sl 1 (List.map PV.str r)]) rfl rfl ?_
 refine AC (AB ?_)
 refine wq rfl ?_
 refine AC (AB ?_)
 iterate 2 refine wq rfl ?_
 obtain ⟨x7, hx7, h⟩ := AJ h
 refine CO rfl (CB (YK N _ _ _ _ _ hx7) rfl (.cons A8 (.cons A8 (.cons A8 (.cons A8 .nil)))) rfl rfl rfl) ?_
 refine wq rfl ?_
 obtain rfl := AA h
 refine BR ?_
 exact ⟨nofun, rfl, rfl⟩
def yY : IC := (.seq (.reg [jb .lss 20 19 18]) (.seq (.cond (.t 20) .skip (.exit 0)) (.seq (.block 1 (.seq (.reg [jm 21 19, jx 22 1 17 19, jl 23 1 22, jm 6 21, jm 7 23]) (.seq (.reg [jm 25 7, jn 26 (.call 66 [(.t 25), (ji 10), (ji 64)]), jm 24 26, je 27 0 24, je 28 1 24, jm 8 27, jm 9 28]) (.seq (.seq (.reg [jm 29 9, jn 30 (.eqi true (.t 29)), jm 31 30, jf 31 32 (.mov (.t 8)), jf 31 33 (.bin .lss (.t 32) (ji 0)), jo 34 31 33, jm 35 34, jf 35 36 (.mov (.t 8)), jf 35 37 (.bin .gtr (.t 36) (ji 1099511627776)), jo 38 35 37]) (.cond (.t 38) (.seq (.reg [jn 39 (.build [(j6 0), (j6 0), (j6 0)] []), js 3 2 39, jc 3 (j6 14)]) .ret) .skip)) (.reg [jm 40 6, jm 41 8, jn 42 (.ixq 3 1 (.t 5) (.t 40)), js 1 42 41]))))) (.reg [ju .add 43 19 1, jm 19 43]))))
def k45 : IC := (.seq (.reg [jn 2 (.box 23 (.c (.agg [(j6 0), (j6 0), (j6 0)]))), jc 3 (j6 0)]) (.seq (.reg [jm 11 0, jn 12 (.call 65 [(.t 11), (.c (.str [46]))]), jm 4 12]) (.seq (.seq (.reg [jm 13 4, jL 14 13, ju .neq 15 14 3]) (.cond (.t 15) (.seq (.reg [jn 16 (.build [(j6 0), (j6 0), (j6 0)] []), js 3 2 16, jc 3 (j6 14)]) .ret) .skip)) (.seq (.reg [jn 5 (.box 102 (.c (.agg [(j6 0), (j6 0), (j6 0)])))]) (.seq (.seq (.reg [jm 17 4, jL 18 17, jc 19 (j6 0)]) (.block 0 (.loop yY))) (.seq (.reg [jn 44 (.ixq 3 1 (.t 5) (ji 0)), jl 45 1 44, jn 46 (.ixq 3 1 (.t 5) (ji 1)), jl 47 1 46, jn 48 (.ixq 3 1 (.t 5) (ji 2)), jl 49 1 48, jn 50 (.build [(j6 0), (j6 0), (j6 0)] [(0, (1, (.t 45))), (1, (1, (.t 47))), (2, (1, (.t 49)))]), jn 10 (.box 23 (.c (.agg [(j6 0), (j6 0), (j6 0)]))), js 3 10 50]) (.seq (.seq (.reg [jg 51 3 10, jn 52 (.call 24 [(.t 51)]), jn 53 (.un .not (.t 52)), jm 54 53, jf 54 55 (.load 3 true (.t 10)), jf 54 56 (.call 50 [(.t 55)]), jf 54 57 (.mov (.t 0)), jf 54 58 (.bin .neq (.t 56) (.t 57)), jo 59 54 58]) (.cond (.t 59) (.seq (.reg [jn 60 (.build [(j6 0), (j6 0), (j6 0)] []), js 3 2 60, jc 3 (j6 14)]) .ret) .skip)) (.seq (.reg [jg 61 3 10, js 3 2 61, jc 3 (j6 0)]) .ret))))))))
theorem Ve : BV Tryz.prog Tryz.f45 = some ⟨62, k45, [(.cell 3 true 2), (.tmp 3)]⟩ := by kernel_rfl
theorem iG (N : Nat) (a0 : List UInt8) (IP : List (List UInt8)) : ∀ (n : Nat) (x : Int × List Int) (y : (List Int) ⊕ (AP × Int)), JX N a0 IP n x = some y → WX Tryz.prog (fun _ => false) (.loop yY) ((fun (x : Int × List Int) => ⟨AY [(0, .str a0), (2, .ptr 72002 0 0), (5, .ptr 72005 0 0), (17, .sl 1 (List.map PV.str IP)), (18, j6 (IP.length : Int)), (19, j6 x.1)], AY [(72002, ⟨3, false, [.agg [j6 0, j6 0, j6 0]]⟩), (72005, ⟨3, true, [.agg (List.map ei x.2)]⟩)]⟩) x) ((Sum.elim (fun y e s => e = .exit 0 ∧ s = ⟨AY [(0, .str a0), (2, .ptr 72002 0 0), (5, .ptr 72005 0 0)], AY [(72002, ⟨3, false, [.agg [j6 0, j6 0, j6 0]]⟩), (72005, ⟨3, true, [.agg (List.map ei y)]⟩)]⟩) (fun y e s => e = .ret ∧ s = ⟨AY [(2, .ptr 72002 0 0), (3, j6 y.2)], AY [(72002, ⟨3, false, [F7 y.1]⟩)]⟩) : ((List Int) ⊕ (AP × Int)) → Xt → St → Prop) y) := by
 refine EP _ _ (JX N a0 IP) (N9 N a0 IP) (fun _ => rfl) (fun _ _ => rfl) ?_
 rintro rec ⟨X8, RV⟩ y h
 refine AC (AB ?_)
 refine wq rfl ?_
 refine AC ?_
 refine D5 h rfl (fun c2 h => ?_) (fun c2 h => ?_)
 refine BF (AC (BZ (AC (AB ?_))))
 refine wq rfl ?_
 obtain ⟨WY, YT, h⟩ := AJ h
 refine AQ rfl (DF (cs := [.str WY]) YT rfl rfl rfl) ?_
 iterate 3 refine wq rfl ?_
 refine AC (AB ?_)
 refine wq rfl ?_
 obtain ⟨LV, qG, h⟩ := AJ h
 refine CO rfl (CB (YL N _ _ _ _ qG) rfl (.cons A8 (.cons A8 (.cons A8 .nil))) rfl rfl rfl) ?_
 iterate 5 refine wq rfl ?_
 refine AC ?_
 obtain ⟨g3, hg3, h⟩ := AJ h
 refine F3 ⟨AY [(0, .str a0), (2, .ptr 72002 0 0), (5, .ptr 72005 0 0), (6, j6 X8), (8, j6 LV.1), (17, .sl 1 (List.map PV.str IP)), (18, j6 (IP.length : Int)), (19, j6 X8), (38, .bool g3)], AY [(72002, ⟨3, false, [.agg [j6 0, j6 0, j6 0]]⟩), (72005, ⟨3, true, [.agg (List.map ei RV)]⟩)]⟩ ?_ ?_
 have h := hg3
 refine AB ?_
 refine wq rfl ?_
 refine AQ rfl (Sl rfl) ?_
 refine wq rfl ?_
 rcases BO h with ⟨c4, h⟩ | ⟨c4, h⟩
 iterate 2 refine BJ (gn rfl c4) ?_
 refine AQ rfl (BA c4 rfl rfl) ?_
 refine wq rfl ?_
 iterate 2 refine BJ rfl ?_
 refine wq rfl ?_
 obtain rfl := AA h
 exact cq rfl
 iterate 2 refine AQ (gy rfl c4) rfl ?_
 refine AQ rfl (AZ c4 rfl rfl) ?_
 refine wq rfl ?_
 rcases BO h with ⟨c5, h⟩ | ⟨c5, h⟩
 iterate 2 refine BJ (gn rfl c5) ?_
 refine AQ rfl (BA c5 rfl rfl) ?_
 obtain rfl := AA h
 exact cq rfl
 iterate 2 refine AQ (gy rfl c5) rfl ?_
 refine AQ rfl (AZ c5 rfl rfl) ?_
 cases AA h
 exact cq rfl
 clear hg3
 refine D5 h rfl (fun c6 h => ?_) (fun c6 h => ?_)
 refine AC (AB ?_)
 refine AQ (p := .agg [j6 0, j6 0, j6 0]) rfl rfl ?_
 refine EW (e' := .agg [j6 0, j6 0, j6 0]) rfl rfl rfl rfl rfl rfl rfl rfl nofun rfl ?_
 refine wq rfl ?_
 cases AA h
 exact DL (st1 := ⟨AY [(2, .ptr 72002 0 0), (3, j6 14)], AY [(72002, ⟨3, false, [F7 (⟨0, 0, 0⟩ : AP)]⟩)]⟩) (cq rfl) ⟨rfl, rfl⟩
 refine BF (AB ?_)
 iterate 2 refine wq rfl ?_
 obtain ⟨Li, Ci, h⟩ := AJ h
 refine AQ rfl (p_ixq Ci rfl rfl rfl rfl) ?_
 obtain ⟨Dp, wC, h⟩ := AJ h
 refine wstq (f := ei) (e' := LV.1) wC rfl rfl rfl rfl (Ps Ci) rfl rfl (fun _ => rfl) ?_
 refine AB ?_
 refine AQ (p := j6 (BM (X8 + (1 : Int)))) rfl rfl ?_
 refine wq rfl ?_
 exact ⟨((BM (X8 + (1 : Int))), (RV.set Li LV.1)), (cq rfl), h⟩
 obtain rfl := AA h
 exact CU (st1 := ⟨AY [(0, .str a0), (2, .ptr 72002 0 0), (5, .ptr 72005 0 0)], AY [(72002, ⟨3, false, [.agg [j6 0, j6 0, j6 0]]⟩), (72005, ⟨3, true, [.agg (List.map ei RV)]⟩)]⟩) (cq rfl) ⟨rfl, rfl⟩
theorem VP (N : Nat) (a0 : List UInt8) (r : AP × Int) (h : ND N a0 = some r) : Sat Tryz.prog 45 AO [.str a0] (.tup [F7 r.1, j6 r.2]) AO := by
 refine DK mixed Tryz.func45 Ve (rs := [F7 r.1, j6 r.2]) rfl rfl ?_
 refine AC (AB ?_)
 refine CO rfl (G5 72002 rfl rfl rfl rfl rfl) ?_
 refine wq rfl ?_
 refine AC (AB ?_)
 refine wq rfl ?_
 obtain ⟨IP, XN, h⟩ := AJ h
 refine CO rfl (CB (dH N _ _ _ XN) rfl (.cons A8 (.cons A8 .nil)) rfl rfl rfl) ?_
 refine wq rfl ?_
 iterate 2 refine AC ?_
 refine AB ?_
 refine wq rfl ?_
 refine AQ rfl (BU rfl) ?_
 refine wq rfl ?_
 refine D5 h rfl (fun c1 h => ?_) (fun c1 h => ?_)
 refine AC (AB ?_)
 refine AQ (p := .agg [j6 0, j6 0, j6 0]) rfl rfl ?_
 refine EW (e' := .agg [j6 0, j6 0, j6 0]) rfl rfl rfl rfl rfl rfl rfl rfl nofun rfl ?_
 refine wq rfl ?_
 cases AA h
 refine BR ?_
 exact ⟨nofun, rfl, rfl⟩
 refine BF (AC (AB ?_))
 refine CO rfl (G5 72005 rfl rfl rfl rfl rfl) ?_
 refine V4 (boxpr 72005 rfl rfl) ?_
 iterate 2 refine AC ?_
 refine AB ?_
 refine wq rfl ?_
 refine AQ rfl (BU rfl) ?_
 refine wq rfl ?_
 refine BZ ?_
 obtain ⟨y8, Cg, h⟩ := AJ h
 refine QI (iG N a0 IP N _ _ Cg) (cq rfl) ?_
 clear Cg
 rcases y8 with y8 | y8
 rintro e s ⟨rfl, rfl⟩
 refine AC (AB ?_)
 refine wq rfl ?_
 obtain ⟨r9, Ih, h⟩ := AJ h
 refine AQ rfl (Fs (f := ei) Ih rfl rfl) ?_
 refine wq rfl ?_
 obtain ⟨bY, lC, h⟩ := AJ h
 refine AQ rfl (Fs (f := ei) lC rfl rfl) ?_
 refine wq rfl ?_
 obtain ⟨Y7, qD, h⟩ := AJ h
 refine AQ rfl (Fs (f := ei) qD rfl rfl) ?_
 refine AQ (p := .agg [j6 r9, j6 bY, j6 Y7]) rfl rfl ?_
 refine CO rfl (G5 72010 rfl rfl rfl rfl rfl) ?_
 refine EW (e' := .agg [j6 r9, j6 bY, j6 Y7]) rfl rfl rfl rfl rfl rfl rfl rfl nofun rfl ?_
 refine AC ?_
 obtain ⟨g9, hg9, h⟩ := AJ h
 refine F3 ⟨AY [(2, .ptr 72002 0 0), (10, .ptr 72010 0 0), (59, .bool g9)], AY [(72002, ⟨3, false, [.agg [j6 0, j6 0, j6 0]]⟩), (72010, ⟨3, false, [.agg [j6 r9, j6 bY, j6 Y7]]⟩)]⟩ ?_ ?_
 have h := hg9
 refine AB ?_
 refine AQ (p := .agg [j6 r9, j6 bY, j6 Y7]) rfl rfl ?_
 obtain ⟨OJ, wE, h⟩ := AJ h
 refine CO rfl (CB (XI N _ _ wE) rfl (.cons A8 .nil) rfl rfl rfl) ?_
 iterate 2 refine wq rfl ?_
 rcases BO h with ⟨c10, h⟩ | ⟨c10, h⟩
 iterate 4 refine BJ (gn rfl c10) ?_
 refine AQ rfl (BA c10 rfl rfl) ?_
 obtain rfl := AA h
 exact cq rfl
 refine AQ (p := .agg [j6 r9, j6 bY, j6 Y7]) (gy rfl c10) rfl ?_
 obtain ⟨Lu, Xk, h⟩ := AJ h
 refine CO (gy rfl c10) (CB (dM N _ _ Xk) rfl (.cons A8 .nil) rfl rfl rfl) ?_
 iterate 2 refine AQ (gy rfl c10) rfl ?_
 refine AQ rfl (AZ c10 rfl rfl) ?_
 cases AA h
 exact cq rfl
 clear hg9
 refine D5 h rfl (fun c11 h => ?_) (fun c11 h => ?_)
 refine AC (AB ?_)
 refine AQ (p := .agg [j6 0, j6 0, j6 0]) rfl rfl ?_
 refine EW (e' := .agg [j6 0, j6 0, j6 0]) rfl rfl rfl rfl rfl rfl rfl rfl nofun rfl ?_
 refine wq rfl ?_
 cases AA h
 refine BR ?_
 exact ⟨nofun, rfl, rfl⟩
 refine BF (AC (AB ?_))
 refine AQ (p := .agg [j6 r9, j6 bY, j6 Y7]) rfl rfl ?_
 refine EW (e' := .agg [j6 r9, j6 bY, j6 Y7]) rfl rfl rfl rfl rfl rfl rfl rfl nofun rfl ?_
 refine wq rfl ?_
 cases AA h
 refine BR ?_
 exact ⟨nofun, rfl, rfl⟩
 rintro e s ⟨rfl, rfl⟩
 cases AA h
 exact ⟨nofun, rfl, rfl⟩
def zJ : IC := (.seq (.reg [jb .lss 68 67 66]) (.seq (.cond (.t 68) .skip (.exit 0)) (.seq (.block 1 (.seq (.reg [jm 69 67, jx 70 1 65 67, jl 71 1 70, jm 11 69, jm 12 71]) (.seq (.reg [jm 73 12, ja 74 2 4, jl 75 1 74, jm 76 11, ju .add 77 76 1, jx 78 3 75 77, ja 79 1 78, jl 80 1 79, jn 81 (.call 45 [(.t 80)]), jm 72 81, je 82 0 72, je 83 1 72, jn 84 (.nck (.t 73)), js 3 84 82, jm 7 83]) (.seq (.reg [jm 85 7, ju .neq 86 85 0]) (.cond (.t 86) (.seq (.reg [jn 87 (.build [(j6 0), (j6 0), (j6 0), (j6 0), (j6 0), (j6 0), (j6 0), (j6 0), (j6 0), (j6 0), .nl, (.bool false), .nl] []), js 13 2 87, jc 3 (j6 14)]) .ret) .skip))))) (.reg [ju .add 88 67 1, jm 67 88]))))
def zI : IC := (.seq (.seq (.reg [jm 94 14, ju .add 95 94 1, jm 96 13, jL 97 96, jb .lss 98 95 97]) (.cond (.t 98) .skip (.exit 2))) (.seq (.block 3 (.regd 15 [ja 101 10 10, jl 102 1 101, jm 103 13, jm 104 14, jx 105 3 103 104, ja 106 1 105, jl 107 1 106, jm 108 13, jm 109 14, ju .add 110 109 1, jx 111 3 108 110, ja 112 1 111, jl 113 1 112, jn 114 (.build [(.str []), (.str [])] [(0, (1, (.t 107))), (1, (1, (.t 113)))]), jn 115 (.bsl 2 [(.t 114)]), jn 116 (.app 41 2 32 (.t 102) (.t 115)), ja 117 10 10, js 1 117 116])) (.reg [jm 99 14, ju .add 100 99 2, jm 14 100])))
def zG : IC := (.seq (.reg [jb .lss 154 153 152]) (.seq (.cond (.t 154) .skip (.exit 6)) (.seq (.block 7 (.seq (.reg [jx 155 3 151 153, jg 156 3 155, jn 21 (.box 52 (.c (.agg [(.int .u8 0), (.str []), .nl]))), js 3 21 156]) (.reg [ja 157 2 19, jl 158 1 157, ja 159 1 21, jl 160 1 159, jn 161 (.bsl 1 [(.t 160)]), jn 162 (.app 9 1 16 (.t 158) (.t 161)), ja 163 2 19, js 1 163 162]))) (.reg [ju .add 164 153 1, jm 153 164]))))
def zH : IC := (.seq (.reg [jb .lss 125 124 123]) (.seq (.cond (.t 125) .skip (.exit 4)) (.seq (.block 5 (.seq (.reg [jx 126 3 122 124, jg 127 3 126, jn 16 (.box 52 (.c (.agg [(.int .u8 0), (.str []), .nl]))), js 3 16 127]) (.seq (.seq (.reg [ja 128 2 16, jl 129 1 128, jL 130 129, ju .lss 131 130 2]) (.cond (.t 131) (.seq (.reg [jn 132 (.build [(j6 0), (j6 0), (j6 0), (j6 0), (j6 0), (j6 0), (j6 0), (j6 0), (j6 0), (j6 0), .nl, (.bool false), .nl] []), js 13 2 132, jc 3 (j6 14)]) .ret) .skip)) (.seq (.reg [ja 134 2 16, jl 135 1 134, jn 136 (.ixp 3 (.t 135) (ji 0)), ja 137 1 136, jl 138 1 137, jn 139 (.call 44 [(.t 138)]), jm 133 139, je 140 0 133, je 141 1 133, jm 17 140, jm 18 141]) (.seq (.reg [jm 142 17, ja 143 2 16, jl 144 1 143, jn 145 (.ixp 3 (.t 144) (ji 1)), ja 146 1 145, jl 147 1 146, jn 148 (.build [(j6 0), (.str []), .nl] [(0, (1, (.t 142))), (1, (1, (.t 147)))]), jn 19 (.box 44 (.c (.agg [(j6 0), (.str []), .nl]))), js 3 19 148]) (.seq (.seq (.reg [ja 149 2 16, jl 150 1 149, jn 151 (.slcl 3 (.t 150) (some (ji 2)) none), jL 152 151, jc 153 (j6 0)]) (.block 6 (.loop zG))) (.reg [ja 165 12 10, jl 166 1 165, jg 167 3 19, jn 168 (.bsl 3 [(.t 167)]), jn 169 (.app 44 3 48 (.t 166) (.t 168)), ja 170 12 10, js 1 170 169]))))))) (.reg [ju .add 171 124 1, jm 124 171]))))
def k16 : IC := (.seq (.reg [jn 2 (.box 28 (.c (.agg [(j6 0), (j6 0), (j6 0), (j6 0), (j6 0), (j6 0), (j6 0), (j6 0), (j6 0), (j6 0), .nl, (.bool false), .nl]))), jc 3 (j6 0)]) (.seq (.reg [jm 25 0, jn 26 (.call 43 [(.t 25)]), jm 24 26, je 27 0 24, je 28 1 24, je 29 2 24, je 30 3 24, jn 4 (.box 52 (.c (.agg [(.int .u8 0), (.str []), .nl]))), js 3 4 27, jm 5 28, jm 6 29, jm 7 30]) (.seq (.seq (.reg [jm 31 7, ju .neq 32 31 0, jm 33 32, jf 33 34 (.mov (.t 5)), jf 33 35 (.mov (.t 0)), jf 33 36 (.len true (.t 35)), jf 33 37 (.bin .neq (.t 34) (.t 36)), jo 38 33 37, jm 39 38, jf 39 40 (.fda 2 (.t 4)), jf 39 41 (.load 1 false (.t 40)), jf 39 42 (.len false (.t 41)), jf 39 43 (.bin .neq (.t 42) (ji 6)), jo 44 39 43]) (.cond (.t 44) (.seq (.reg [jn 45 (.build [(j6 0), (j6 0), (j6 0), (j6 0), (j6 0), (j6 0), (j6 0), (j6 0), (j6 0), (j6 0), .nl, (.bool false), .nl] []), js 13 2 45, jc 3 (j6 14)]) .ret) .skip)) (.seq (.reg [ja 47 2 4, jl 48 1 47, jn 49 (.ixp 3 (.t 48) (ji 0)), ja 50 1 49, jl 51 1 50, jn 52 (.call 44 [(.t 51)]), jm 46 52, je 53 0 46, je 54 1 46, jm 8 53, jm 9 54]) (.seq (.reg [jm 55 8, jm 56 8, jn 57 (.un .neg (.t 56)), jn 58 (.mm true (.t 55) [(.t 57)]), jm 59 8, ju .lss 60 59 0, jn 61 (.build [(j6 0), (j6 0), (j6 0), (j6 0), (j6 0), (j6 0), (j6 0), (j6 0), (j6 0), (j6 0), .nl, (.bool false), .nl] [(3, (1, (.t 58))), (11, (1, (.t 60)))]), jn 10 (.box 28 (.c (.agg [(j6 0), (j6 0), (j6 0), (j6 0), (j6 0), (j6 0), (j6 0), (j6 0), (j6 0), (j6 0), .nl, (.bool false), .nl]))), js 13 10 61]) (.seq (.seq (.reg [ja 62 0 10, ja 63 4 10, ja 64 7 10, jn 65 (.bsl 1 [(.t 62), (.t 63), (.t 64)]), jL 66 65, jc 67 (j6 0)]) (.block 0 (.loop zJ))) (.seq (.reg [ja 89 2 4, jl 90 1 89, jn 91 (.ixp 3 (.t 90) (ji 4)), ja 92 2 91, jl 93 1 92, jm 13 93]) (.seq (.seq (.reg [jc 14 (j6 0)]) (.block 2 (.loop zI))) (.seq (.seq (.reg [ja 118 2 4, jl 119 1 118, jn 120 (.ixp 3 (.t 119) (ji 5)), ja 121 2 120, jl 122 1 121, jL 123 122, jc 124 (j6 0)]) (.block 4 (.loop zH))) (.seq (.seq (.reg [jg 173 13 10, jn 174 (.call 9 [(.t 173)]), jm 172 174, je 175 0 172, je 176 1 172, jm 22 175, jm 23 176]) (.seq (.reg [jm 177 23, ju .neq 178 177 0, jm 179 178, jf 179 180 (.mov (.t 22)), jf 179 181 (.mov (.t 0)), jf 179 182 (.bin .neq (.t 180) (.t 181)), jo 183 179 182]) (.cond (.t 183) (.seq (.reg [jn 184 (.build [(j6 0), (j6 0), (j6 0), (j6 0), (j6 0), (j6 0), (j6 0), (j6 0), (j6 0), (j6 0), .nl, (.bool false), .nl] []), js 13 2 184, jc 3 (j6 14)]) .ret) .skip))) (.seq (.reg [jg 185 13 10, js 13 2 185, jc 3 (j6 0)]) .ret)))))))))))
theorem Wj : BV Tryz.prog Tryz.f16 = some ⟨186, k16, [(.cell 13 true 2), (.tmp 3)]⟩ := by kernel_rfl
theorem dB (N : Nat) (a0 : List UInt8) (LV : A7 × Int × Int × Int) (OJ : Int × Bool) (x81 : AP × Int) (DR : AP × Int) (EZ : AP × Int) : ∀ (n : Nat) (x : Unit) (y : Unit), NB N a0 LV OJ x81 DR EZ n x = some y → WX Tryz.prog (fun _ => false) (.loop zJ) ((fun (x : Unit) => ⟨AY [(0, .str a0), (2, .ptr 25602 0 0), (4, .ptr 25604 0 0), (10, .ptr 25610 0 0), (65, .slr 25665 0 3), (66, j6 3), (67, j6 3)], AY [(25602, ⟨13, false, [.agg [j6 0, j6 0, j6 0, j6 0, j6 0, j6 0, j6 0, j6 0, j6 0, j6 0, .nl, .bool false, .nl]]⟩), (25604, ⟨3, false, [A9 LV.1]⟩), (25610, ⟨13, false, [.agg [j6 x81.1.Time, j6 x81.1.Seq, j6 x81.1.Rep, j6 (mx OJ.1 (BM (0 - OJ.1))), j6 DR.1.Time, j6 DR.1.Seq, j6 DR.1.Rep, j6 EZ.1.Time, j6 EZ.1.Seq, j6 EZ.1.Rep, .nl, .bool (decide (OJ.1 < (0 : Int))), .nl]]⟩), (25665, ⟨1, false, [.ptr 25610 0 0, .ptr 25610 0 4, .ptr 25610 0 7]⟩)]⟩) x) ((fun y e s => e = .exit 0 ∧ s = ⟨AY [(0, .str a0), (2, .ptr 25602 0 0), (4, .ptr 25604 0 0), (10, .ptr 25610 0 0)], AY [(25602, ⟨13, false, [.agg [j6 0, j6 0, j6 0, j6 0, j6 0, j6 0, j6 0, j6 0, j6 0, j6 0, .nl, .bool false, .nl]]⟩), (25604, ⟨3, false, [A9 LV.1]⟩), (25610, ⟨13, false, [.agg [j6 x81.1.Time, j6 x81.1.Seq, j6 x81.1.Rep, j6 (mx OJ.1 (BM (0 - OJ.1))), j6 DR.1.Time, j6 DR.1.Seq, j6 DR.1.Rep, j6 EZ.1.Time, j6 EZ.1.Seq, j6 EZ.1.Rep, .nl, .bool (decide (OJ.1 < (0 : Int))), .nl]]⟩)]⟩ : Unit → Xt → St → Prop) y) := by
 refine EP _ _ (NB N a0 LV OJ x81 DR EZ) (VB N a0 LV OJ x81 DR EZ) (fun _ => rfl) (fun _ _ => rfl) ?_
 rintro rec ⟨⟩ y h
 refine AC (AB ?_)
 refine AQ (p := .bool false) rfl rfl ?_
 refine AC ?_
 refine xcF rfl rfl ?_
 cases AA h
 exact CU (st1 := ⟨AY [(0, .str a0), (2, .ptr 25602 0 0), (4, .ptr 25604 0 0), (10, .ptr 25610 0 0)], AY [(25602, ⟨13, false, [.agg [j6 0, j6 0, j6 0, j6 0, j6 0, j6 0, j6 0, j6 0, j6 0, j6 0, .nl, .bool false, .nl]]⟩), (25604, ⟨3, false, [A9 LV.1]⟩), (25610, ⟨13, false, [.agg [j6 x81.1.Time, j6 x81.1.Seq, j6 x81.1.Rep, j6 (mx OJ.1 (BM (0 - OJ.1))), j6 DR.1.Time, j6 DR.1.Seq, j6 DR.1.Rep, j6 EZ.1.Time, j6 EZ.1.Seq, j6 EZ.1.Rep, .nl, .bool (decide (OJ.1 < (0 : Int))), .nl]]⟩)]⟩) (cq rfl) ⟨rfl, rfl⟩
theorem dA (N : Nat) (a0 : List UInt8) (LV : A7 × Int × Int × Int) (x93 : List A7) : ∀ (n : Nat) (x : Int × Int × Int × Int × Int × Int × Int × Int × Int × Int × Int × Bool × List AL) (y : Int × Int × Int × Int × Int × Int × Int × Int × Int × Int × Bool × List AL), JI N a0 LV x93 n x = some y → WX Tryz.prog (fun _ => false) (.loop zI) ((fun (x : Int × Int × Int × Int × Int × Int × Int × Int × Int × Int × Int × Bool × List AL) => ⟨AY [(0, .str a0), (2, .ptr 25602 0 0), (4, .ptr 25604 0 0), (10, .ptr 25610 0 0), (13, .sl 3 (List.map A9 x93)), (14, j6 x.1)], AY [(25602, ⟨13, false, [.agg [j6 0, j6 0, j6 0, j6 0, j6 0, j6 0, j6 0, j6 0, j6 0, j6 0, .nl, .bool false, .nl]]⟩), (25604, ⟨3, false, [A9 LV.1]⟩), (25610, ⟨13, false, [.agg [j6 x.2.1, j6 x.2.2.1, j6 x.2.2.2.1, j6 x.2.2.2.2.1, j6 x.2.2.2.2.2.1, j6 x.2.2.2.2.2.2.1, j6 x.2.2.2.2.2.2.2.1, j6 x.2.2.2.2.2.2.2.2.1, j6 x.2.2.2.2.2.2.2.2.2.1, j6 x.2.2.2.2.2.2.2.2.2.2.1, .slr 556110 0 x.2.2.2.2.2.2.2.2.2.2.2.2.length, .bool x.2.2.2.2.2.2.2.2.2.2.2.1, .nl]]⟩), (556110, ⟨2, true, List.map AV x.2.2.2.2.2.2.2.2.2.2.2.2⟩)]⟩) x) ((fun y e s => e = .exit 2 ∧ s = ⟨AY [(0, .str a0), (2, .ptr 25602 0 0), (4, .ptr 25604 0 0), (10, .ptr 25610 0 0)], AY [(25602, ⟨13, false, [.agg [j6 0, j6 0, j6 0, j6 0, j6 0, j6 0, j6 0, j6 0, j6 0, j6 0, .nl, .bool false, .nl]]⟩), (25604, ⟨3, false, [A9 LV.1]⟩), (25610, ⟨13, false, [.agg [j6 y.1, j6 y.2.1, j6 y.2.2.1, j6 y.2.2.2.1, j6 y.2.2.2.2.1, j6 y.2.2.2.2.2.1, j6 y.2.2.2.2.2.2.1, j6 y.2.2.2.2.2.2.2.1, j6 y.2.2.2.2.2.2.2.2.1, j6 y.2.2.2.2.2.2.2.2.2.1, .slr 556110 0 y.2.2.2.2.2.2.2.2.2.2.2.length, .bool y.2.2.2.2.2.2.2.2.2.2.1, .nl]]⟩), (556110, ⟨2, true, List.map AV y.2.2.2.2.2.2.2.2.2.2.2⟩)]⟩ : (Int × Int × Int × Int × Int × Int × Int × Int × Int × Int × Bool × List AL) → Xt → St → Prop) y) := by
 refine EP _ _ (JI N a0 LV x93) (R6 N a0 LV x93) (fun _ => rfl) (fun _ _ => rfl) ?_
 rintro rec ⟨X9, QB, QA, Q9, Q8, Q7, Q6, Q5, Q4, Q3, Q0, OM, UA⟩ y h
 iterate 2 refine AC ?_
 refine AB ?_
 refine wq rfl ?_
 refine AQ (p := j6 (BM (X9 + (1 : Int)))) rfl rfl ?_
 refine wq rfl ?_
 refine AQ rfl (BU rfl) ?_
 refine wq rfl ?_
 refine D5 h rfl (fun c9 h => ?_) (fun c9 h => ?_)
 refine BF (AC (BZ (P6 ?_)))
 iterate 4 refine dq rfl ?_
 obtain ⟨x105, hx105, h⟩ := AJ h
 refine JN rfl (DF (cs := [eb x105.Tag, .str x105.Body, .sl 3 x105.Kids]) hx105 rfl rfl rfl) ?_
 refine JN (p := .ep [.str x105.Body, .sl 3 x105.Kids]) rfl rfl ?_
 iterate 3 refine dq rfl ?_
 refine JN (p := j6 (BM (X9 + (1 : Int)))) rfl rfl ?_
 obtain ⟨oU, hx111, h⟩ := AJ h
 refine JN rfl (DF (cs := [eb oU.Tag, .str oU.Body, .sl 3 oU.Kids]) hx111 rfl rfl rfl) ?_
 refine JN (p := .ep [.str oU.Body, .sl 3 oU.Kids]) rfl rfl ?_
 refine dq rfl ?_
 refine JN (p := .agg [.str x105.Body, .str oU.Body]) rfl rfl ?_
 refine VG rfl (.bsl _ 25715 rfl (OP rfl) rfl) (RY rfl) ?_
 obtain ⟨mM, tO, h⟩ := AJ h
 refine UU (f := AV) 25716 tO rfl rfl rfl rfl rfl (KR rfl (BQ (f := AV) (l := [(⟨x105.Body, oU.Body⟩ : AL)]))) rfl rfl rfl rfl ?_
 refine wq rfl ?_
 refine EW (e' := .agg [j6 QB, j6 QA, j6 Q9, j6 Q8, j6 Q7, j6 Q6, j6 Q5, j6 Q4, j6 Q3, j6 Q0, .slr 25716 0 mM.length, .bool OM, .nl]) rfl rfl rfl rfl rfl rfl rfl rfl nofun rfl ?_
 refine AB ?_
 refine wq rfl ?_
 refine AQ (p := j6 (BM (X9 + (2 : Int)))) rfl rfl ?_
 refine wq rfl ?_
 exact ⟨((BM (X9 + (2 : Int))), QB, QA, Q9, Q8, Q7, Q6, Q5, Q4, Q3, Q0, OM, mM), (C8.trans (rename 25716 556110 rfl rfl) (cq rfl)), h⟩
 cases AA h
 exact CU (st1 := ⟨AY [(0, .str a0), (2, .ptr 25602 0 0), (4, .ptr 25604 0 0), (10, .ptr 25610 0 0)], AY [(25602, ⟨13, false, [.agg [j6 0, j6 0, j6 0, j6 0, j6 0, j6 0, j6 0, j6 0, j6 0, j6 0, .nl, .bool false, .nl]]⟩), (25604, ⟨3, false, [A9 LV.1]⟩), (25610, ⟨13, false, [.agg [j6 QB, j6 QA, j6 Q9, j6 Q8, j6 Q7, j6 Q6, j6 Q5, j6 Q4, j6 Q3, j6 Q0, .slr 556110 0 UA.length, .bool OM, .nl]]⟩), (556110, ⟨2, true, List.map AV UA⟩)]⟩) (cq rfl) ⟨rfl, rfl⟩
theorem cZ (N : Nat) (a0 : List UInt8) (M8 : List A7) (J5 : Int) (EJ : Int) (EI : Int) (EH : Int) (EG : Int) (EF : Int) (EE : Int) (ED : Int) (EC : Int) (EB : Int) (EA : Int) (DD : Bool) (DI : List AL) (E5 : List BD) (x151 : List A7) : ∀ (n : Nat) (x : Int × Int × List UInt8 × List (List UInt8)) (y : Int × List UInt8 × List (List UInt8)), JH N a0 M8 J5 EJ EI EH EG EF EE ED EC EB EA DD DI E5 x151 n x = some y → WX Tryz.prog (fun _ => false) (.loop zG) ((fun (x : Int × Int × List UInt8 × List (List UInt8)) => ⟨AY [(0, .str a0), (2, .ptr 25602 0 0), (10, .ptr 25610 0 0), (19, .ptr 25619 0 0), (122, .sl 3 (List.map A9 M8)), (123, j6 (M8.length : Int)), (124, j6 J5), (151, .sl 3 (List.map A9 x151)), (152, j6 (x151.length : Int)), (153, j6 x.1)], AY [(25602, ⟨13, false, [.agg [j6 0, j6 0, j6 0, j6 0, j6 0, j6 0, j6 0, j6 0, j6 0, j6 0, .nl, .bool false, .nl]]⟩), (25610, ⟨13, false, [.agg [j6 EJ, j6 EI, j6 EH, j6 EG, j6 EF, j6 EE, j6 ED, j6 EC, j6 EB, j6 EA, .slr 556110 0 DI.length, .bool DD, .slr 556112 0 E5.length]]⟩), (25619, ⟨3, false, [.agg [j6 x.2.1, .str x.2.2.1, .slr 556192 0 x.2.2.2.length]]⟩), (556110, ⟨2, true, List.map AV DI⟩), (556112, ⟨3, true, List.map AU E5⟩), (556192, ⟨1, true, List.map PV.str x.2.2.2⟩)]⟩) x) ((fun y e s => e = .exit 6 ∧ s = ⟨AY [(0, .str a0), (2, .ptr 25602 0 0), (10, .ptr 25610 0 0), (19, .ptr 25619 0 0), (122, .sl 3 (List.map A9 M8)), (123, j6 (M8.length : Int)), (124, j6 J5)], AY [(25602, ⟨13, false, [.agg [j6 0, j6 0, j6 0, j6 0, j6 0, j6 0, j6 0, j6 0, j6 0, j6 0, .nl, .bool false, .nl]]⟩), (25610, ⟨13, false, [.agg [j6 EJ, j6 EI, j6 EH, j6 EG, j6 EF, j6 EE, j6 ED, j6 EC, j6 EB, j6 EA, .slr 556110 0 DI.length, .bool DD, .slr 556112 0 E5.length]]⟩), (25619, ⟨3, false, [.agg [j6 y.1, .str y.2.1, .slr 556192 0 y.2.2.length]]⟩), (556110, ⟨2, true, List.map AV DI⟩), (556112, ⟨3, true, List.map AU E5⟩), (556192, ⟨1, true, List.map PV.str y.2.2⟩)]⟩ : (Int × List UInt8 × List (List UInt8)) → Xt → St → Prop) y) := by
 refine EP _ _ (JH N a0 M8 J5 EJ EI EH EG EF EE ED EC EB EA DD DI E5 x151) (NS N a0 M8 J5 EJ EI EH EG EF EE ED EC EB EA DD DI E5 x151) (fun _ => rfl) (fun _ _ => rfl) ?_
 rintro rec ⟨ZF, PZ, PY, U9⟩ y h
 refine AC (AB ?_)
 refine wq rfl ?_
 refine AC ?_
 refine D5 h rfl (fun c13 h => ?_) (fun c13 h => ?_)
 refine BF (AC (BZ (AC (AB ?_))))
 obtain ⟨rA, hx155, h⟩ := AJ h
 refine AQ rfl (DF (cs := [eb rA.Tag, .str rA.Body, .sl 3 rA.Kids]) hx155 rfl rfl rfl) ?_
 refine AQ (p := A9 rA) rfl rfl ?_
 refine CO rfl (G5 25621 rfl rfl rfl rfl rfl) ?_
 refine EW (e' := A9 rA) rfl rfl rfl rfl rfl rfl rfl rfl nofun rfl ?_
 refine AB ?_
 iterate 4 refine wq rfl ?_
 refine CO rfl (TC 25761 rfl rfl rfl) ?_
 obtain ⟨Ma, hx162, h⟩ := AJ h
 refine UU (f := PV.str) 25762 hx162 rfl rfl rfl rfl rfl (KR rfl (BQ (f := PV.str) (l := [rA.Body]))) rfl rfl rfl rfl ?_
 refine wq rfl ?_
 refine EW (e' := .agg [j6 PZ, .str PY, .slr 25762 0 Ma.length]) rfl rfl rfl rfl rfl rfl rfl rfl nofun rfl ?_
 refine AB ?_
 refine AQ (p := j6 (BM (ZF + (1 : Int)))) rfl rfl ?_
 refine wq rfl ?_
 exact ⟨((BM (ZF + (1 : Int))), PZ, PY, Ma), (C8.trans (rename 25762 556192 rfl rfl) (cq rfl)), h⟩
 cases AA h
 exact CU (st1 := ⟨AY [(0, .str a0), (2, .ptr 25602 0 0), (10, .ptr 25610 0 0), (19, .ptr 25619 0 0), (122, .sl 3 (List.map A9 M8)), (123, j6 (M8.length : Int)), (124, j6 J5)], AY [(25602, ⟨13, false, [.agg [j6 0, j6 0, j6 0, j6 0, j6 0, j6 0, j6 0, j6 0, j6 0, j6 0, .nl, .bool false, .nl]]⟩), (25610, ⟨13, false, [.agg [j6 EJ, j6 EI, j6 EH, j6 EG, j6 EF, j6 EE, j6 ED, j6 EC, j6 EB, j6 EA, .slr 556110 0 DI.length, .bool DD, .slr 556112 0 E5.length]]⟩), (25619, ⟨3, false, [.agg [j6 PZ, .str PY, .slr 556192 0 U9.length]]⟩), (556110, ⟨2, true, List.map AV DI⟩), (556112, ⟨3, true, List.map AU E5⟩), (556192, ⟨1, true, List.map PV.str U9⟩)]⟩) (cq rfl) ⟨rfl, rfl⟩
theorem d9 (N : Nat) (a0 : List UInt8) (M8 : List A7) : ∀ (n : Nat) (x : Int × Int × Int × Int × Int × Int × Int × Int × Int × Int × Int × Bool × List AL × List BD) (y : (Int × Int × Int × Int × Int × Int × Int × Int × Int × Int × Bool × List AL × List BD) ⊕ (AX × Int)), I5 N a0 M8 n x = some y → WX Tryz.prog (fun _ => false) (.loop zH) ((fun (x : Int × Int × Int × Int × Int × Int × Int × Int × Int × Int × Int × Bool × List AL × List BD) => ⟨AY [(0, .str a0), (2, .ptr 25602 0 0), (10, .ptr 25610 0 0), (122, .sl 3 (List.map A9 M8)), (123, j6 (M8.length : Int)), (124, j6 x.1)], AY [(25602, ⟨13, false, [.agg [j6 0, j6 0, j6 0, j6 0, j6 0, j6 0, j6 0, j6 0, j6 0, j6 0, .nl, .bool false, .nl]]⟩), (25610, ⟨13, false, [.agg [j6 x.2.1, j6 x.2.2.1, j6 x.2.2.2.1, j6 x.2.2.2.2.1, j6 x.2.2.2.2.2.1, j6 x.2.2.2.2.2.2.1, j6 x.2.2.2.2.2.2.2.1, j6 x.2.2.2.2.2.2.2.2.1, j6 x.2.2.2.2.2.2.2.2.2.1, j6 x.2.2.2.2.2.2.2.2.2.2.1, .slr 556110 0 x.2.2.2.2.2.2.2.2.2.2.2.2.1.length, .bool x.2.2.2.2.2.2.2.2.2.2.2.1, .slr 556112 0 x.2.2.2.2.2.2.2.2.2.2.2.2.2.length]]⟩), (556110, ⟨2, true, List.map AV x.2.2.2.2.2.2.2.2.2.2.2.2.1⟩), (556112, ⟨3, true, List.map AU x.2.2.2.2.2.2.2.2.2.2.2.2.2⟩)]⟩) x) ((Sum.elim (fun y e s => e = .exit 4 ∧ s = ⟨AY [(0, .str a0), (2, .ptr 25602 0 0), (10, .ptr 25610 0 0)], AY [(25602, ⟨13, false, [.agg [j6 0, j6 0, j6 0, j6 0, j6 0, j6 0, j6 0, j6 0, j6 0, j6 0, .nl, .bool false, .nl]]⟩), (25610, ⟨13, false, [.agg [j6 y.1, j6 y.2.1, j6 y.2.2.1, j6 y.2.2.2.1, j6 y.2.2.2.2.1, j6 y.2.2.2.2.2.1, j6 y.2.2.2.2.2.2.1, j6 y.2.2.2.2.2.2.2.1, j6 y.2.2.2.2.2.2.2.2.1, j6 y.2.2.2.2.2.2.2.2.2.1, .slr 556110 0 y.2.2.2.2.2.2.2.2.2.2.2.1.length, .bool y.2.2.2.2.2.2.2.2.2.2.1, .slr 556112 0 y.2.2.2.2.2.2.2.2.2.2.2.2.length]]⟩), (556110, ⟨2, true, List.map AV y.2.2.2.2.2.2.2.2.2.2.2.1⟩), (556112, ⟨3, true, List.map AU y.2.2.2.2.2.2.2.2.2.2.2.2⟩)]⟩) (fun y e s => e = .ret ∧ s = ⟨AY [(2, .ptr 25602 0 0), (3, j6 y.2)], AY [(25602, ⟨13, false, [AR y.1]⟩)]⟩) : ((Int × Int × Int × Int × Int × Int × Int × Int × Int × Int × Bool × List AL × List BD) ⊕ (AX × Int)) → Xt → St → Prop) y) := by
 refine EP _ _ (I5 N a0 M8) (NT N a0 M8) (fun _ => rfl) (fun _ _ => rfl) ?_
 rintro rec ⟨J5, EJ, EI, EH, EG, EF, EE, ED, EC, EB, EA, DD, DI, E5⟩ y h
 refine AC (AB ?_)
 refine wq rfl ?_
 refine AC ?_
 refine D5 h rfl (fun c11 h => ?_) (fun c11 h => ?_)
 refine BF (AC (BZ (AC (AB ?_))))
 obtain ⟨bZ, Il, h⟩ := AJ h
 refine AQ rfl (DF (cs := [eb bZ.Tag, .str bZ.Body, .sl 3 bZ.Kids]) Il rfl rfl rfl) ?_
 refine AQ (p := A9 bZ) rfl rfl ?_
 refine CO rfl (G5 25616 rfl rfl rfl rfl rfl) ?_
 refine EW (e' := A9 bZ) rfl rfl rfl rfl rfl rfl rfl rfl nofun rfl ?_
 iterate 2 refine AC ?_
 refine AB ?_
 refine wq rfl ?_
 obtain ⟨Rw, hx129, h⟩ := AJ h
 refine AQ (p := .sl 3 (List.map A9 Rw)) rfl (congrArg (fun z => some (PV.sl 3 z)) (IG (e := A9) CJ hx129)) ?_
 refine AQ rfl (BU rfl) ?_
 refine wq rfl ?_
 refine D5 h rfl (fun c12 h => ?_) (fun c12 h => ?_)
 refine AC (AB ?_)
 refine AQ (p := .agg [j6 0, j6 0, j6 0, j6 0, j6 0, j6 0, j6 0, j6 0, j6 0, j6 0, .nl, .bool false, .nl]) rfl rfl ?_
 refine Ag (KP 132 (LQ (.cons A8 (.cons A8 (.cons A8 (.cons A8 (.cons A8 (.cons A8 (.cons A8 (.cons A8 (.cons A8 (.cons A8 (.cons (FM 2) (.cons A8 (.cons (FM 3) .nil))))))))))))) rfl) rfl) ?_
 refine EW (e' := .agg [j6 0, j6 0, j6 0, j6 0, j6 0, j6 0, j6 0, j6 0, j6 0, j6 0, .sl 2 (List.map AV []), .bool false, .sl 3 (List.map AU [])]) rfl rfl rfl rfl rfl rfl rfl rfl nofun rfl ?_
 refine wq rfl ?_
 cases AA h
 exact DL (st1 := ⟨AY [(2, .ptr 25602 0 0), (3, j6 14)], AY [(25602, ⟨13, false, [AR (⟨(⟨0, 0, 0⟩ : AP), 0, (⟨0, 0, 0⟩ : AP), (⟨0, 0, 0⟩ : AP), [], false, []⟩ : AX)]⟩)]⟩) (cq rfl) ⟨rfl, rfl⟩
 refine BF (AC (AB ?_))
 refine wq rfl ?_
 obtain ⟨Rv, hx135, h⟩ := AJ h
 refine AQ (p := .sl 3 (List.map A9 Rv)) rfl (congrArg (fun z => some (PV.sl 3 z)) (IG (e := A9) CJ hx135)) ?_
 obtain ⟨uR, hx136, h⟩ := AJ h
 refine AQ rfl (DF (cs := [eb uR.Tag, .str uR.Body, .sl 3 uR.Kids]) hx136 rfl rfl rfl) ?_
 refine AQ (p := .ep [.str uR.Body, .sl 3 uR.Kids]) rfl rfl ?_
 refine wq rfl ?_
 obtain ⟨uQ, hx139, h⟩ := AJ h
 refine CO rfl (CB (V5 N _ _ hx139) rfl (.cons A8 .nil) rfl rfl rfl) ?_
 iterate 5 refine wq rfl ?_
 refine AC (AB ?_)
 iterate 2 refine wq rfl ?_
 obtain ⟨Ru, hx144, h⟩ := AJ h
 refine AQ (p := .sl 3 (List.map A9 Ru)) rfl (congrArg (fun z => some (PV.sl 3 z)) (IG (e := A9) CJ hx144)) ?_
 obtain ⟨iE, hx145, h⟩ := AJ h
 refine AQ rfl (DF (cs := [eb iE.Tag, .str iE.Body, .sl 3 iE.Kids]) hx145 rfl rfl rfl) ?_
 refine AQ (p := .ep [.str iE.Body, .sl 3 iE.Kids]) rfl rfl ?_
 refine wq rfl ?_
 refine AQ (p := .agg [j6 uQ.1, .str iE.Body, .nl]) rfl rfl ?_
 refine CO rfl (G5 25619 rfl rfl rfl rfl rfl) ?_
 refine EW (e' := .agg [j6 uQ.1, .str iE.Body, .nl]) rfl rfl rfl rfl rfl rfl rfl rfl nofun rfl ?_
 iterate 2 refine AC ?_
 refine V4 (cn (st := _) (l := [(0, .str a0), (2, .ptr 25602 0 0), (10, .ptr 25610 0 0), (16, .ptr 25616 0 0), (19, .ptr 25619 0 0), (122, .sl 3 (List.map A9 M8)), (123, j6 (M8.length : Int)), (124, j6 J5)]) (m := [(25602, ⟨13, false, [.agg [j6 0, j6 0, j6 0, j6 0, j6 0, j6 0, j6 0, j6 0, j6 0, j6 0, .nl, .bool false, .nl]]⟩), (25610, ⟨13, false, [.agg [j6 EJ, j6 EI, j6 EH, j6 EG, j6 EF, j6 EE, j6 ED, j6 EC, j6 EB, j6 EA, .slr 556110 0 DI.length, .bool DD, .slr 556112 0 E5.length]]⟩), (25616, ⟨3, false, [A9 bZ]⟩), (25619, ⟨3, false, [.agg [j6 uQ.1, .str iE.Body, .nl]]⟩), (556110, ⟨2, true, List.map AV DI⟩), (556112, ⟨3, true, List.map AU E5⟩)]) rfl rfl rfl rfl) ?_
 refine AB ?_
 refine wq rfl ?_
 obtain ⟨x150, hx150, h⟩ := AJ h
 refine AQ (p := .sl 3 (List.map A9 x150)) rfl (congrArg (fun z => some (PV.sl 3 z)) (IG (e := A9) CJ hx150)) ?_
 obtain ⟨x151, hx151, h⟩ := AJ h
 refine AQ rfl (Nc hx151 rfl rfl) ?_
 refine AQ rfl (BU rfl) ?_
 refine wq rfl ?_
 refine BZ ?_
 obtain ⟨eT, Ot, h⟩ := AJ h
 refine QI (cZ N a0 M8 J5 EJ EI EH EG EF EE ED EC EB EA DD DI E5 x151 N _ _ Ot) (C8.trans (pW 556192 1 true rfl rfl) (C8.trans (xW 25619 (Q := fun R => R 556192 = some ⟨1, true, []⟩) (x := .agg [j6 uQ.1, .str iE.Body, .nl]) (y := .agg [j6 uQ.1, .str iE.Body, .slr 556192 0 0]) (.cons (fun _ _ _ _ _ _ h => h) (.cons (fun _ _ _ _ _ _ h => h) (.cons iW (WF _)))) rfl rfl rfl) (cq rfl))) ?_
 rintro e s ⟨rfl, rfl⟩
 refine AB ?_
 iterate 2 refine wq rfl ?_
 refine AQ (p := .agg [j6 eT.1, .str eT.2.1, .slr 556192 0 eT.2.2.length]) rfl rfl ?_
 refine wn (C8.trans (Vd.freeze 556192 _ rfl rfl rfl) (C8.trans (KP 167 (LQ (.cons A8 (.cons A8 (.cons (H5 (congrArg (PV.sl 1) (BQ (f := PV.str) (l := eT.2.2)))) .nil))) rfl) rfl) (vG 25619 (x := .agg [j6 eT.1, .str eT.2.1, .sl 1 (List.take eT.2.2.length (List.drop 0 (List.map PV.str eT.2.2)))]) (y := .agg [j6 eT.1, .str eT.2.1, .sl 1 (List.map PV.str eT.2.2)]) (.cons A8 (.cons A8 (.cons (H5 (congrArg (PV.sl 1) (BQ (f := PV.str) (l := eT.2.2)))) .nil))) rfl rfl))) ?_
 refine CO rfl (TC 25768 rfl rfl rfl) ?_
 obtain ⟨Lx, hx169, h⟩ := AJ h
 refine UU (f := AU) 25769 hx169 rfl rfl rfl rfl rfl (KR rfl (BQ (f := AU) (l := [(⟨eT.1, eT.2.1, eT.2.2⟩ : BD)]))) rfl rfl rfl rfl ?_
 refine wq rfl ?_
 refine EW (e' := .agg [j6 EJ, j6 EI, j6 EH, j6 EG, j6 EF, j6 EE, j6 ED, j6 EC, j6 EB, j6 EA, .slr 556110 0 DI.length, .bool DD, .slr 25769 0 Lx.length]) rfl rfl rfl rfl rfl rfl rfl rfl nofun rfl ?_
 refine AB ?_
 refine AQ (p := j6 (BM (J5 + (1 : Int)))) rfl rfl ?_
 refine wq rfl ?_
 exact ⟨((BM (J5 + (1 : Int))), EJ, EI, EH, EG, EF, EE, ED, EC, EB, EA, DD, DI, Lx), (C8.trans (rename 25769 556112 rfl rfl) (cq rfl)), h⟩
 cases AA h
 exact CU (st1 := ⟨AY [(0, .str a0), (2, .ptr 25602 0 0), (10, .ptr 25610 0 0)], AY [(25602, ⟨13, false, [.agg [j6 0, j6 0, j6 0, j6 0, j6 0, j6 0, j6 0, j6 0, j6 0, j6 0, .nl, .bool false, .nl]]⟩), (25610, ⟨13, false, [.agg [j6 EJ, j6 EI, j6 EH, j6 EG, j6 EF, j6 EE, j6 ED, j6 EC, j6 EB, j6 EA, .slr 556110 0 DI.length, .bool DD, .slr 556112 0 E5.length]]⟩), (556110, ⟨2, true, List.map AV DI⟩), (556112, ⟨3, true, List.map AU E5⟩)]⟩) (cq rfl) ⟨rfl, rfl⟩
theorem TA (N : Nat) (a0 : List UInt8) (r : AX × Int) (h : OC N a0 = some r) : Sat Tryz.prog 16 AO [.str a0] (.tup [AR r.1, j6 r.2]) AO := by
 refine DK mixed Tryz.func16 Wj (rs := [AR r.1, j6 r.2]) rfl rfl ?_
 refine AC (AB ?_)
 refine CO rfl (G5 25602 rfl rfl rfl rfl rfl) ?_
 refine wq rfl ?_
 refine AC (AB ?_)
 refine wq rfl ?_
 obtain ⟨LV, qG, h⟩ := AJ h
 refine CO rfl (CB (pG N _ _ qG) rfl (.cons A8 .nil) rfl rfl rfl) ?_
 iterate 5 refine wq rfl ?_
 refine CO rfl (G5 25604 rfl rfl rfl rfl rfl) ?_
 refine EW (e' := A9 LV.1) rfl rfl rfl rfl rfl rfl rfl rfl nofun rfl ?_
 iterate 3 refine wq rfl ?_
 refine AC ?_
 obtain ⟨g1, hg1, h⟩ := AJ h
 refine F3 ⟨AY [(0, .str a0), (2, .ptr 25602 0 0), (4, .ptr 25604 0 0), (44, .bool g1)], AY [(25602, ⟨13, false, [.agg [j6 0, j6 0, j6 0, j6 0, j6 0, j6 0, j6 0, j6 0, j6 0, j6 0, .nl, .bool false, .nl]]⟩), (25604, ⟨3, false, [A9 LV.1]⟩)]⟩ ?_ ?_
 have h := hg1
 refine AB ?_
 iterate 3 refine wq rfl ?_
 rcases BO h with ⟨c2, h⟩ | ⟨c2, h⟩
 iterate 4 refine BJ (gn rfl c2) ?_
 refine AQ rfl (BA c2 rfl rfl) ?_
 refine wq rfl ?_
 iterate 4 refine BJ rfl ?_
 refine wq rfl ?_
 obtain rfl := AA h
 exact cq rfl
 iterate 4 refine AQ (gy rfl c2) rfl ?_
 refine AQ rfl (AZ c2 rfl rfl) ?_
 refine wq rfl ?_
 rcases BO h with ⟨c3, h⟩ | ⟨c3, h⟩
 iterate 4 refine BJ (gn rfl c3) ?_
 refine AQ rfl (BA c3 rfl rfl) ?_
 obtain rfl := AA h
 exact cq rfl
 refine AQ (gy rfl c3) rfl ?_
 obtain ⟨x41, lD, h⟩ := AJ h
 refine AQ (p := .sl 3 (List.map A9 x41)) (gy rfl c3) (congrArg (fun z => some (PV.sl 3 z)) (IG (e := A9) CJ lD)) ?_
 refine AQ (gy rfl c3) (BU rfl) ?_
 refine AQ (gy rfl c3) rfl ?_
 refine AQ rfl (AZ c3 rfl rfl) ?_
 cases AA h
 exact cq rfl
 clear hg1
 refine D5 h rfl (fun c4 h => ?_) (fun c4 h => ?_)
 refine AC (AB ?_)
 refine AQ (p := .agg [j6 0, j6 0, j6 0, j6 0, j6 0, j6 0, j6 0, j6 0, j6 0, j6 0, .nl, .bool false, .nl]) rfl rfl ?_
 refine Ag (KP 45 (LQ (.cons A8 (.cons A8 (.cons A8 (.cons A8 (.cons A8 (.cons A8 (.cons A8 (.cons A8 (.cons A8 (.cons A8 (.cons (FM 2) (.cons A8 (.cons (FM 3) .nil))))))))))))) rfl) rfl) ?_
 refine EW (e' := .agg [j6 0, j6 0, j6 0, j6 0, j6 0, j6 0, j6 0, j6 0, j6 0, j6 0, .sl 2 (List.map AV []), .bool false, .sl 3 (List.map AU [])]) rfl rfl rfl rfl rfl rfl rfl rfl nofun rfl ?_
 refine wq rfl ?_
 cases AA h
 refine BR ?_
 exact ⟨nofun, rfl, rfl⟩
 refine BF (AC (AB ?_))
 refine wq rfl ?_
 obtain ⟨gL, fZ, h⟩ := AJ h
 refine AQ (p := .sl 3 (List.map A9 gL)) rfl (congrArg (fun z => some (PV.sl 3 z)) (IG (e := A9) CJ fZ)) ?_
 obtain ⟨Y7, qD, h⟩ := AJ h
 refine AQ rfl (DF (cs := [eb Y7.Tag, .str Y7.Body, .sl 3 Y7.Kids]) qD rfl rfl rfl) ?_
 refine AQ (p := .ep [.str Y7.Body, .sl 3 Y7.Kids]) rfl rfl ?_
 refine wq rfl ?_
 obtain ⟨OJ, wE, h⟩ := AJ h
 refine CO rfl (CB (V5 N _ _ wE) rfl (.cons A8 .nil) rfl rfl rfl) ?_
 iterate 5 refine wq rfl ?_
 refine AC (AB ?_)
 iterate 2 refine wq rfl ?_
 refine AQ (p := j6 (BM (0 - OJ.1))) rfl rfl ?_
 refine AQ (p := j6 (mx OJ.1 (BM (0 - OJ.1)))) rfl rfl ?_
 iterate 2 refine wq rfl ?_
 refine AQ (p := .agg [j6 0, j6 0, j6 0, j6 (mx OJ.1 (BM (0 - OJ.1))), j6 0, j6 0, j6 0, j6 0, j6 0, j6 0, .nl, .bool (decide (OJ.1 < (0 : Int))), .nl]) rfl rfl ?_
 refine CO rfl (G5 25610 rfl rfl rfl rfl rfl) ?_
 refine EW (e' := .agg [j6 0, j6 0, j6 0, j6 (mx OJ.1 (BM (0 - OJ.1))), j6 0, j6 0, j6 0, j6 0, j6 0, j6 0, .nl, .bool (decide (OJ.1 < (0 : Int))), .nl]) rfl rfl rfl rfl rfl rfl rfl rfl nofun rfl ?_
 iterate 2 refine AC ?_
 refine AB ?_
 iterate 3 refine wq rfl ?_
 refine wbslp 25665 (ps := [.ptr 25610 0 0, .ptr 25610 0 4, .ptr 25610 0 7]) rfl rfl rfl rfl rfl ?_
 iterate 2 refine wq rfl ?_
 refine BZ ?_
 refine Dm ?_
 iterate 2 refine AC ?_
 refine V4 (cn (st := _) (l := [(0, .str a0), (2, .ptr 25602 0 0), (4, .ptr 25604 0 0), (10, .ptr 25610 0 0), (65, .slr 25665 0 3), (66, j6 3), (67, j6 0)]) (m := [(25602, ⟨13, false, [.agg [j6 0, j6 0, j6 0, j6 0, j6 0, j6 0, j6 0, j6 0, j6 0, j6 0, .nl, .bool false, .nl]]⟩), (25604, ⟨3, false, [A9 LV.1]⟩), (25610, ⟨13, false, [.agg [j6 0, j6 0, j6 0, j6 (mx OJ.1 (BM (0 - OJ.1))), j6 0, j6 0, j6 0, j6 0, j6 0, j6 0, .nl, .bool (decide (OJ.1 < (0 : Int))), .nl]]⟩), (25665, ⟨1, false, [.ptr 25610 0 0, .ptr 25610 0 4, .ptr 25610 0 7]⟩)]) rfl rfl rfl rfl) ?_
 refine AB ?_
 refine AQ (p := .bool true) rfl rfl ?_
 refine AC ?_
 refine xcT rfl rfl ?_
 refine BF (AC (BZ (AC (AB ?_))))
 refine wq rfl ?_
 refine AQ rfl (PE (i := 0) (n := 3) (j := 0) rfl rfl rfl rfl rfl) ?_
 refine AQ rfl (UE (f := fun p : PV => p) (l := [.ptr 25610 0 0, .ptr 25610 0 4, .ptr 25610 0 7]) (e := .ptr 25610 0 0) (v := .ptr 25610 0 0) rfl rfl rfl rfl) ?_
 iterate 2 refine wq rfl ?_
 refine AC (AB ?_)
 iterate 2 refine wq rfl ?_
 obtain ⟨x75, Xc, h⟩ := AJ h
 refine AQ (p := .sl 3 (List.map A9 x75)) rfl (congrArg (fun z => some (PV.sl 3 z)) (IG (e := A9) CJ Xc)) ?_
 refine wq rfl ?_
 refine AQ (p := j6 (1)) rfl rfl ?_
 obtain ⟨Lh, Xa, h⟩ := AJ h
 refine AQ rfl (DF (cs := [eb Lh.Tag, .str Lh.Body, .sl 3 Lh.Kids]) Xa rfl rfl rfl) ?_
 refine AQ (p := .ep [.str Lh.Body, .sl 3 Lh.Kids]) rfl rfl ?_
 refine wq rfl ?_
 obtain ⟨x81, Ic, h⟩ := AJ h
 refine CO rfl (CB (VP N _ _ Ic) rfl (.cons A8 .nil) rfl rfl rfl) ?_
 iterate 4 refine wq rfl ?_
 refine EW (e' := .agg [j6 x81.1.Time, j6 x81.1.Seq, j6 x81.1.Rep, j6 (mx OJ.1 (BM (0 - OJ.1))), j6 0, j6 0, j6 0, j6 0, j6 0, j6 0, .nl, .bool (decide (OJ.1 < (0 : Int))), .nl]) rfl rfl rfl rfl rfl rfl rfl rfl nofun rfl ?_
 refine wq rfl ?_
 refine AC (AB ?_)
 iterate 2 refine wq rfl ?_
 refine D5 h rfl (fun c5 h => ?_) (fun c5 h => ?_)
 refine AC (AB ?_)
 refine AQ (p := .agg [j6 0, j6 0, j6 0, j6 0, j6 0, j6 0, j6 0, j6 0, j6 0, j6 0, .nl, .bool false, .nl]) rfl rfl ?_
 refine Ag (KP 87 (LQ (.cons A8 (.cons A8 (.cons A8 (.cons A8 (.cons A8 (.cons A8 (.cons A8 (.cons A8 (.cons A8 (.cons A8 (.cons (FM 2) (.cons A8 (.cons (FM 3) .nil))))))))))))) rfl) rfl) ?_
 refine EW (e' := .agg [j6 0, j6 0, j6 0, j6 0, j6 0, j6 0, j6 0, j6 0, j6 0, j6 0, .sl 2 (List.map AV []), .bool false, .sl 3 (List.map AU [])]) rfl rfl rfl rfl rfl rfl rfl rfl nofun rfl ?_
 refine wq rfl ?_
 cases AA h
 refine BR ?_
 exact ⟨nofun, rfl, rfl⟩
 refine BF (AB ?_)
 refine AQ (p := j6 (1)) rfl rfl ?_
 refine wq rfl ?_
 refine Dm ?_
 iterate 2 refine AC ?_
 refine AB ?_
 refine AQ (p := .bool true) rfl rfl ?_
 refine AC ?_
 refine xcT rfl rfl ?_
 refine BF (AC (BZ (AC ?_)))
 refine V4 (cn (st := _) (l := [(0, .str a0), (2, .ptr 25602 0 0), (4, .ptr 25604 0 0), (10, .ptr 25610 0 0), (65, .slr 25665 0 3), (66, j6 3), (67, j6 1)]) (m := [(25602, ⟨13, false, [.agg [j6 0, j6 0, j6 0, j6 0, j6 0, j6 0, j6 0, j6 0, j6 0, j6 0, .nl, .bool false, .nl]]⟩), (25604, ⟨3, false, [A9 LV.1]⟩), (25610, ⟨13, false, [.agg [j6 x81.1.Time, j6 x81.1.Seq, j6 x81.1.Rep, j6 (mx OJ.1 (BM (0 - OJ.1))), j6 0, j6 0, j6 0, j6 0, j6 0, j6 0, .nl, .bool (decide (OJ.1 < (0 : Int))), .nl]]⟩), (25665, ⟨1, false, [.ptr 25610 0 0, .ptr 25610 0 4, .ptr 25610 0 7]⟩)]) rfl rfl rfl rfl) ?_
 refine AB ?_
 refine wq rfl ?_
 refine AQ rfl (PE (i := 1) (n := 3) (j := 1) rfl rfl rfl rfl rfl) ?_
 refine AQ rfl (UE (f := fun p : PV => p) (l := [.ptr 25610 0 0, .ptr 25610 0 4, .ptr 25610 0 7]) (e := .ptr 25610 0 4) (v := .ptr 25610 0 4) rfl rfl rfl rfl) ?_
 iterate 2 refine wq rfl ?_
 refine AC (AB ?_)
 iterate 2 refine wq rfl ?_
 obtain ⟨oV, Ip, h⟩ := AJ h
 refine AQ (p := .sl 3 (List.map A9 oV)) rfl (congrArg (fun z => some (PV.sl 3 z)) (IG (e := A9) CJ Ip)) ?_
 refine wq rfl ?_
 refine AQ (p := j6 (2)) rfl rfl ?_
 obtain ⟨X0, Io, h⟩ := AJ h
 refine AQ rfl (DF (cs := [eb X0.Tag, .str X0.Body, .sl 3 X0.Kids]) Io rfl rfl rfl) ?_
 refine AQ (p := .ep [.str X0.Body, .sl 3 X0.Kids]) rfl rfl ?_
 refine wq rfl ?_
 obtain ⟨DR, Im, h⟩ := AJ h
 refine CO rfl (CB (VP N _ _ Im) rfl (.cons A8 .nil) rfl rfl rfl) ?_
 iterate 4 refine wq rfl ?_
 refine EW (e' := .agg [j6 x81.1.Time, j6 x81.1.Seq, j6 x81.1.Rep, j6 (mx OJ.1 (BM (0 - OJ.1))), j6 DR.1.Time, j6 DR.1.Seq, j6 DR.1.Rep, j6 0, j6 0, j6 0, .nl, .bool (decide (OJ.1 < (0 : Int))), .nl]) rfl rfl rfl rfl rfl rfl rfl rfl nofun rfl ?_
 refine wq rfl ?_
 refine AC (AB ?_)
 iterate 2 refine wq rfl ?_
 refine D5 h rfl (fun c6 h => ?_) (fun c6 h => ?_)
 refine AC (AB ?_)
 refine AQ (p := .agg [j6 0, j6 0, j6 0, j6 0, j6 0, j6 0, j6 0, j6 0, j6 0, j6 0, .nl, .bool false, .nl]) rfl rfl ?_
 refine Ag (KP 87 (LQ (.cons A8 (.cons A8 (.cons A8 (.cons A8 (.cons A8 (.cons A8 (.cons A8 (.cons A8 (.cons A8 (.cons A8 (.cons (FM 2) (.cons A8 (.cons (FM 3) .nil))))))))))))) rfl) rfl) ?_
 refine EW (e' := .agg [j6 0, j6 0, j6 0, j6 0, j6 0, j6 0, j6 0, j6 0, j6 0, j6 0, .sl 2 (List.map AV []), .bool false, .sl 3 (List.map AU [])]) rfl rfl rfl rfl rfl rfl rfl rfl nofun rfl ?_
 refine wq rfl ?_
 cases AA h
 refine BR ?_
 exact ⟨nofun, rfl, rfl⟩
 refine BF (AB ?_)
 refine AQ (p := j6 (2)) rfl rfl ?_
 refine wq rfl ?_
 refine Dm ?_
 iterate 2 refine AC ?_
 refine AB ?_
 refine AQ (p := .bool true) rfl rfl ?_
 refine AC ?_
 refine xcT rfl rfl ?_
 refine BF (AC (BZ (AC (AB ?_))))
 refine wq rfl ?_
 refine AQ rfl (PE (i := 2) (n := 3) (j := 2) rfl rfl rfl rfl rfl) ?_
 refine AQ rfl (UE (f := fun p : PV => p) (l := [.ptr 25610 0 0, .ptr 25610 0 4, .ptr 25610 0 7]) (e := .ptr 25610 0 7) (v := .ptr 25610 0 7) rfl rfl rfl rfl) ?_
 iterate 2 refine wq rfl ?_
 refine AC ?_
 refine V4 (cn (st := _) (l := [(0, .str a0), (2, .ptr 25602 0 0), (4, .ptr 25604 0 0), (10, .ptr 25610 0 0), (11, j6 2), (12, .ptr 25610 0 7), (65, .slr 25665 0 3), (66, j6 3), (67, j6 2)]) (m := [(25602, ⟨13, false, [.agg [j6 0, j6 0, j6 0, j6 0, j6 0, j6 0, j6 0, j6 0, j6 0, j6 0, .nl, .bool false, .nl]]⟩), (25604, ⟨3, false, [A9 LV.1]⟩), (25610, ⟨13, false, [.agg [j6 x81.1.Time, j6 x81.1.Seq, j6 x81.1.Rep, j6 (mx OJ.1 (BM (0 - OJ.1))), j6 DR.1.Time, j6 DR.1.Seq, j6 DR.1.Rep, j6 0, j6 0, j6 0, .nl, .bool (decide (OJ.1 < (0 : Int))), .nl]]⟩), (25665, ⟨1, false, [.ptr 25610 0 0, .ptr 25610 0 4, .ptr 25610 0 7]⟩)]) rfl rfl rfl rfl) ?_
 refine AB ?_
 iterate 2 refine wq rfl ?_
 obtain ⟨oQ, Ik, h⟩ := AJ h
 refine AQ (p := .sl 3 (List.map A9 oQ)) rfl (congrArg (fun z => some (PV.sl 3 z)) (IG (e := A9) CJ Ik)) ?_
 refine wq rfl ?_
 refine AQ (p := j6 (3)) rfl rfl ?_
 obtain ⟨WZ, Ij, h⟩ := AJ h
 refine AQ rfl (DF (cs := [eb WZ.Tag, .str WZ.Body, .sl 3 WZ.Kids]) Ij rfl rfl rfl) ?_
 refine AQ (p := .ep [.str WZ.Body, .sl 3 WZ.Kids]) rfl rfl ?_
 refine wq rfl ?_
 obtain ⟨EZ, Ii, h⟩ := AJ h
 refine CO rfl (CB (VP N _ _ Ii) rfl (.cons A8 .nil) rfl rfl rfl) ?_
 iterate 4 refine wq rfl ?_
 refine EW (e' := .agg [j6 x81.1.Time, j6 x81.1.Seq, j6 x81.1.Rep, j6 (mx OJ.1 (BM (0 - OJ.1))), j6 DR.1.Time, j6 DR.1.Seq, j6 DR.1.Rep, j6 EZ.1.Time, j6 EZ.1.Seq, j6 EZ.1.Rep, .nl, .bool (decide (OJ.1 < (0 : Int))), .nl]) rfl rfl rfl rfl rfl rfl rfl rfl nofun rfl ?_
 refine wq rfl ?_
 refine AC (AB ?_)
 iterate 2 refine wq rfl ?_
 refine D5 h rfl (fun c7 h => ?_) (fun c7 h => ?_)
 refine AC (AB ?_)
 refine AQ (p := .agg [j6 0, j6 0, j6 0, j6 0, j6 0, j6 0, j6 0, j6 0, j6 0, j6 0, .nl, .bool false, .nl]) rfl rfl ?_
 refine Ag (KP 87 (LQ (.cons A8 (.cons A8 (.cons A8 (.cons A8 (.cons A8 (.cons A8 (.cons A8 (.cons A8 (.cons A8 (.cons A8 (.cons (FM 2) (.cons A8 (.cons (FM 3) .nil))))))))))))) rfl) rfl) ?_
 refine EW (e' := .agg [j6 0, j6 0, j6 0, j6 0, j6 0, j6 0, j6 0, j6 0, j6 0, j6 0, .sl 2 (List.map AV []), .bool false, .sl 3 (List.map AU [])]) rfl rfl rfl rfl rfl rfl rfl rfl nofun rfl ?_
 refine wq rfl ?_
 cases AA h
 refine BR ?_
 exact ⟨nofun, rfl, rfl⟩
 refine BF (AB ?_)
 refine AQ (p := j6 (3)) rfl rfl ?_
 refine wq rfl ?_
 obtain ⟨y8, Cg, h⟩ := AJ h
 refine QI (dB N a0 LV OJ x81 DR EZ N _ _ Cg) (cq rfl) ?_
 rintro e s ⟨rfl, rfl⟩
 refine AC (AB ?_)
 refine wq rfl ?_
 obtain ⟨x90, hx90, h⟩ := AJ h
 refine AQ (p := .sl 3 (List.map A9 x90)) rfl (congrArg (fun z => some (PV.sl 3 z)) (IG (e := A9) CJ hx90)) ?_
 obtain ⟨x91, hx91, h⟩ := AJ h
 refine AQ rfl (DF (cs := [eb x91.Tag, .str x91.Body, .sl 3 x91.Kids]) hx91 rfl rfl rfl) ?_
 refine AQ (p := .ep [.sl 3 x91.Kids]) rfl rfl ?_
 obtain ⟨x93, hx93, h⟩ := AJ h
 refine AQ (p := .sl 3 (List.map A9 x93)) rfl (congrArg (fun z => some (PV.sl 3 z)) (IG (e := A9) CJ hx93)) ?_
 refine wq rfl ?_
 iterate 2 refine AC ?_
 refine AB ?_
 refine wq rfl ?_
 refine BZ ?_
 obtain ⟨M7, iR, h⟩ := AJ h
 refine QI (dA N a0 LV x93 N _ _ iR) (C8.trans (pW 556110 2 true rfl rfl) (C8.trans (xW 25610 (Q := fun R => R 556110 = some ⟨2, true, []⟩) (x := .agg [j6 x81.1.Time, j6 x81.1.Seq, j6 x81.1.Rep, j6 (mx OJ.1 (BM (0 - OJ.1))), j6 DR.1.Time, j6 DR.1.Seq, j6 DR.1.Rep, j6 EZ.1.Time, j6 EZ.1.Seq, j6 EZ.1.Rep, .nl, .bool (decide (OJ.1 < (0 : Int))), .nl]) (y := .agg [j6 x81.1.Time, j6 x81.1.Seq, j6 x81.1.Rep, j6 (mx OJ.1 (BM (0 - OJ.1))), j6 DR.1.Time, j6 DR.1.Seq, j6 DR.1.Rep, j6 EZ.1.Time, j6 EZ.1.Seq, j6 EZ.1.Rep, .slr 556110 0 0, .bool (decide (OJ.1 < (0 : Int))), .nl]) (.cons (fun _ _ _ _ _ _ h => h) (.cons (fun _ _ _ _ _ _ h => h) (.cons (fun _ _ _ _ _ _ h => h) (.cons (fun _ _ _ _ _ _ h => h) (.cons (fun _ _ _ _ _ _ h => h) (.cons (fun _ _ _ _ _ _ h => h) (.cons (fun _ _ _ _ _ _ h => h) (.cons (fun _ _ _ _ _ _ h => h) (.cons (fun _ _ _ _ _ _ h => h) (.cons (fun _ _ _ _ _ _ h => h) (.cons iW (WF _)))))))))))) rfl rfl rfl) (cq rfl))) ?_
 rintro e s ⟨rfl, rfl⟩
 iterate 2 refine AC ?_
 refine AB ?_
 refine wq rfl ?_
 obtain ⟨Ry, hx119, h⟩ := AJ h
 refine AQ (p := .sl 3 (List.map A9 Ry)) rfl (congrArg (fun z => some (PV.sl 3 z)) (IG (e := A9) CJ hx119)) ?_
 obtain ⟨Ae, hx120, h⟩ := AJ h
 refine AQ rfl (DF (cs := [eb Ae.Tag, .str Ae.Body, .sl 3 Ae.Kids]) hx120 rfl rfl rfl) ?_
 refine AQ (p := .ep [.sl 3 Ae.Kids]) rfl rfl ?_
 obtain ⟨M8, tN, h⟩ := AJ h
 refine AQ (p := .sl 3 (List.map A9 M8)) rfl (congrArg (fun z => some (PV.sl 3 z)) (IG (e := A9) CJ tN)) ?_
 refine AQ rfl (BU rfl) ?_
 refine wq rfl ?_
 refine BZ ?_
 obtain ⟨BX, Hz, h⟩ := AJ h
 refine QI (d9 N a0 M8 N _ _ Hz) (C8.trans (pW 556112 3 true rfl rfl) (C8.trans (xW 25610 (Q := fun R => R 556112 = some ⟨3, true, []⟩) (x := .agg [j6 M7.1, j6 M7.2.1, j6 M7.2.2.1, j6 M7.2.2.2.1, j6 M7.2.2.2.2.1, j6 M7.2.2.2.2.2.1, j6 M7.2.2.2.2.2.2.1, j6 M7.2.2.2.2.2.2.2.1, j6 M7.2.2.2.2.2.2.2.2.1, j6 M7.2.2.2.2.2.2.2.2.2.1, .slr 556110 0 M7.2.2.2.2.2.2.2.2.2.2.2.length, .bool M7.2.2.2.2.2.2.2.2.2.2.1, .nl]) (y := .agg [j6 M7.1, j6 M7.2.1, j6 M7.2.2.1, j6 M7.2.2.2.1, j6 M7.2.2.2.2.1, j6 M7.2.2.2.2.2.1, j6 M7.2.2.2.2.2.2.1, j6 M7.2.2.2.2.2.2.2.1, j6 M7.2.2.2.2.2.2.2.2.1, j6 M7.2.2.2.2.2.2.2.2.2.1, .slr 556110 0 M7.2.2.2.2.2.2.2.2.2.2.2.length, .bool M7.2.2.2.2.2.2.2.2.2.2.1, .slr 556112 0 0]) (.cons (fun _ _ _ _ _ _ h => h) (.cons (fun _ _ _ _ _ _ h => h) (.cons (fun _ _ _ _ _ _ h => h) (.cons (fun _ _ _ _ _ _ h => h) (.cons (fun _ _ _ _ _ _ h => h) (.cons (fun _ _ _ _ _ _ h => h) (.cons (fun _ _ _ _ _ _ h => h) (.cons (fun _ _ _ _ _ _ h => h) (.cons (fun _ _ _ _ _ _ h => h) (.cons (fun _ _ _ _ _ _ h => h) (.cons (fun _ _ _ _ _ _ h => h) (.cons (fun _ _ _ _ _ _ h => h) (.cons iW (WF _)))))))))))))) rfl rfl rfl) (cq rfl))) ?_
 clear Hz
 rcases BX with BX | BX
 rintro e s ⟨rfl, rfl⟩
 iterate 2 refine AC ?_
 refine AB ?_
 refine AQ (p := .agg [j6 BX.1, j6 BX.2.1, j6 BX.2.2.1, j6 BX.2.2.2.1, j6 BX.2.2.2.2.1, j6 BX.2.2.2.2.2.1, j6 BX.2.2.2.2.2.2.1, j6 BX.2.2.2.2.2.2.2.1, j6 BX.2.2.2.2.2.2.2.2.1, j6 BX.2.2.2.2.2.2.2.2.2.1, .slr 556110 0 BX.2.2.2.2.2.2.2.2.2.2.2.1.length, .bool BX.2.2.2.2.2.2.2.2.2.2.1, .slr 556112 0 BX.2.2.2.2.2.2.2.2.2.2.2.2.length]) rfl rfl ?_
 obtain ⟨Rt, hx174, h⟩ := AJ h
 refine CO rfl (CB (LZ N _ _ hx174) rfl (.cons (LQ (.cons A8 (.cons A8 (.cons A8 (.cons A8 (.cons A8 (.cons A8 (.cons A8 (.cons A8 (.cons A8 (.cons A8 (.cons (ZQ rfl (BQ (f := AV) (l := BX.2.2.2.2.2.2.2.2.2.2.2.1))) (.cons A8 (.cons (ZQ rfl (BQ (f := AU) (l := BX.2.2.2.2.2.2.2.2.2.2.2.2))) .nil))))))))))))) rfl) .nil) rfl rfl rfl) ?_
 iterate 5 refine wq rfl ?_
 obtain ⟨g16, tT, h⟩ := AJ h
 refine F3 ⟨AY [(2, .ptr 25602 0 0), (10, .ptr 25610 0 0), (183, .bool g16)], AY [(25602, ⟨13, false, [.agg [j6 0, j6 0, j6 0, j6 0, j6 0, j6 0, j6 0, j6 0, j6 0, j6 0, .nl, .bool false, .nl]]⟩), (25610, ⟨13, false, [.agg [j6 BX.1, j6 BX.2.1, j6 BX.2.2.1, j6 BX.2.2.2.1, j6 BX.2.2.2.2.1, j6 BX.2.2.2.2.2.1, j6 BX.2.2.2.2.2.2.1, j6 BX.2.2.2.2.2.2.2.1, j6 BX.2.2.2.2.2.2.2.2.1, j6 BX.2.2.2.2.2.2.2.2.2.1, .slr 556110 0 BX.2.2.2.2.2.2.2.2.2.2.2.1.length, .bool BX.2.2.2.2.2.2.2.2.2.2.1, .slr 556112 0 BX.2.2.2.2.2.2.2.2.2.2.2.2.length]]⟩), (556110, ⟨2, true, List.map AV BX.2.2.2.2.2.2.2.2.2.2.2.1⟩), (556112, ⟨3, true, List.map AU BX.2.2.2.2.2.2.2.2.2.2.2.2⟩)]⟩ ?_ ?_
 have h := tT
 refine AB ?_
 iterate 3 refine wq rfl ?_
 rcases BO h with ⟨c17, h⟩ | ⟨c17, h⟩
 iterate 3 refine BJ (gn rfl c17) ?_
 refine AQ rfl (BA c17 rfl rfl) ?_
 obtain rfl := AA h
 exact cq rfl
 iterate 3 refine AQ (gy rfl c17) rfl ?_
 refine AQ rfl (AZ c17 rfl rfl) ?_
 cases AA h
 exact cq rfl
 clear tT
 refine D5 h rfl (fun c18 h => ?_) (fun c18 h => ?_)
 refine AC (AB ?_)
 refine AQ (p := .agg [j6 0, j6 0, j6 0, j6 0, j6 0, j6 0, j6 0, j6 0, j6 0, j6 0, .nl, .bool false, .nl]) rfl rfl ?_
 refine Ag (KP 184 (LQ (.cons A8 (.cons A8 (.cons A8 (.cons A8 (.cons A8 (.cons A8 (.cons A8 (.cons A8 (.cons A8 (.cons A8 (.cons (FM 2) (.cons A8 (.cons (FM 3) .nil))))))))))))) rfl) rfl) ?_
 refine EW (e' := .agg [j6 0, j6 0, j6 0, j6 0, j6 0, j6 0, j6 0, j6 0, j6 0, j6 0, .sl 2 (List.map AV []), .bool false, .sl 3 (List.map AU [])]) rfl rfl rfl rfl rfl rfl rfl rfl nofun rfl ?_
 refine wq rfl ?_
 cases AA h
 refine BR ?_
 exact ⟨nofun, rfl, rfl⟩
 refine BF (AC (AB ?_))
 refine AQ (p := .agg [j6 BX.1, j6 BX.2.1, j6 BX.2.2.1, j6 BX.2.2.2.1, j6 BX.2.2.2.2.1, j6 BX.2.2.2.2.2.1, j6 BX.2.2.2.2.2.2.1, j6 BX.2.2.2.2.2.2.2.1, j6 BX.2.2.2.2.2.2.2.2.1, j6 BX.2.2.2.2.2.2.2.2.2.1, .slr 556110 0 BX.2.2.2.2.2.2.2.2.2.2.2.1.length, .bool BX.2.2.2.2.2.2.2.2.2.2.1, .slr 556112 0 BX.2.2.2.2.2.2.2.2.2.2.2.2.length]) rfl rfl ?_
 refine EW (e' := .agg [j6 BX.1, j6 BX.2.1, j6 BX.2.2.1, j6 BX.2.2.2.1, j6 BX.2.2.2.2.1, j6 BX.2.2.2.2.2.1, j6 BX.2.2.2.2.2.2.1, j6 BX.2.2.2.2.2.2.2.1, j6 BX.2.2.2.2.2.2.2.2.1, j6 BX.2.2.2.2.2.2.2.2.2.1, .slr 556110 0 BX.2.2.2.2.2.2.2.2.2.2.2.1.length, .bool BX.2.2.2.2.2.2.2.2.2.2.1, .slr 556112 0 BX.2.2.2.2.2.2.2.2.2.2.2.2.length]) rfl rfl rfl rfl rfl rfl rfl rfl nofun rfl ?_
 refine wq rfl ?_
 cases AA h
 refine DL (st1 := ⟨AY [(2, .ptr 25602 0 0), (3, j6 0)], AY [(25602, ⟨13, false, [AR (⟨(⟨BX.1, BX.2.1, BX.2.2.1⟩ : AP), BX.2.2.2.1, (⟨BX.2.2.2.2.1, BX.2.2.2.2.2.1, BX.2.2.2.2.2.2.1⟩ : AP), (⟨BX.2.2.2.2.2.2.2.1, BX.2.2.2.2.2.2.2.2.1, BX.2.2.2.2.2.2.2.2.2.1⟩ : AP), BX.2.2.2.2.2.2.2.2.2.2.2.1, BX.2.2.2.2.2.2.2.2.2.2.1, BX.2.2.2.2.2.2.2.2.2.2.2.2⟩ : AX)]⟩)]⟩) (C8.trans (Vd.freeze 556110 _ rfl rfl rfl) (C8.trans (Vd.freeze 556112 _ rfl rfl rfl) (C8.trans (vG 25602 (x := .agg [j6 BX.1, j6 BX.2.1, j6 BX.2.2.1, j6 BX.2.2.2.1, j6 BX.2.2.2.2.1, j6 BX.2.2.2.2.2.1, j6 BX.2.2.2.2.2.2.1, j6 BX.2.2.2.2.2.2.2.1, j6 BX.2.2.2.2.2.2.2.2.1, j6 BX.2.2.2.2.2.2.2.2.2.1, .sl 2 (List.take BX.2.2.2.2.2.2.2.2.2.2.2.1.length (List.drop 0 (List.map AV BX.2.2.2.2.2.2.2.2.2.2.2.1))), .bool BX.2.2.2.2.2.2.2.2.2.2.1, .sl 3 (List.take BX.2.2.2.2.2.2.2.2.2.2.2.2.length (List.drop 0 (List.map AU BX.2.2.2.2.2.2.2.2.2.2.2.2)))]) (y := .agg [j6 (((⟨(⟨BX.1, BX.2.1, BX.2.2.1⟩ : AP), BX.2.2.2.1, (⟨BX.2.2.2.2.1, BX.2.2.2.2.2.1, BX.2.2.2.2.2.2.1⟩ : AP), (⟨BX.2.2.2.2.2.2.2.1, BX.2.2.2.2.2.2.2.2.1, BX.2.2.2.2.2.2.2.2.2.1⟩ : AP), BX.2.2.2.2.2.2.2.2.2.2.2.1, BX.2.2.2.2.2.2.2.2.2.2.1, BX.2.2.2.2.2.2.2.2.2.2.2.2⟩ : AX).CSN).Time), j6 (((⟨(⟨BX.1, BX.2.1, BX.2.2.1⟩ : AP), BX.2.2.2.1, (⟨BX.2.2.2.2.1, BX.2.2.2.2.2.1, BX.2.2.2.2.2.2.1⟩ : AP), (⟨BX.2.2.2.2.2.2.2.1, BX.2.2.2.2.2.2.2.2.1, BX.2.2.2.2.2.2.2.2.2.1⟩ : AP), BX.2.2.2.2.2.2.2.2.2.2.2.1, BX.2.2.2.2.2.2.2.2.2.2.1, BX.2.2.2.2.2.2.2.2.2.2.2.2⟩ : AX).CSN).Seq), j6 (((⟨(⟨BX.1, BX.2.1, BX.2.2.1⟩ : AP), BX.2.2.2.1, (⟨BX.2.2.2.2.1, BX.2.2.2.2.2.1, BX.2.2.2.2.2.2.1⟩ : AP), (⟨BX.2.2.2.2.2.2.2.1, BX.2.2.2.2.2.2.2.2.1, BX.2.2.2.2.2.2.2.2.2.1⟩ : AP), BX.2.2.2.2.2.2.2.2.2.2.2.1, BX.2.2.2.2.2.2.2.2.2.2.1, BX.2.2.2.2.2.2.2.2.2.2.2.2⟩ : AX).CSN).Rep), j6 ((⟨(⟨BX.1, BX.2.1, BX.2.2.1⟩ : AP), BX.2.2.2.1, (⟨BX.2.2.2.2.1, BX.2.2.2.2.2.1, BX.2.2.2.2.2.2.1⟩ : AP), (⟨BX.2.2.2.2.2.2.2.1, BX.2.2.2.2.2.2.2.2.1, BX.2.2.2.2.2.2.2.2.2.1⟩ : AP), BX.2.2.2.2.2.2.2.2.2.2.2.1, BX.2.2.2.2.2.2.2.2.2.2.1, BX.2.2.2.2.2.2.2.2.2.2.2.2⟩ : AX).Kind), j6 (((⟨(⟨BX.1, BX.2.1, BX.2.2.1⟩ : AP), BX.2.2.2.1, (⟨BX.2.2.2.2.1, BX.2.2.2.2.2.1, BX.2.2.2.2.2.2.1⟩ : AP), (⟨BX.2.2.2.2.2.2.2.1, BX.2.2.2.2.2.2.2.2.1, BX.2.2.2.2.2.2.2.2.2.1⟩ : AP), BX.2.2.2.2.2.2.2.2.2.2.2.1, BX.2.2.2.2.2.2.2.2.2.2.1, BX.2.2.2.2.2.2.2.2.2.2.2.2⟩ : AX).ID).Time), j6 (((⟨(⟨BX.1, BX.2.1, BX.2.2.1⟩ : AP), BX.2.2.2.1, (⟨BX.2.2.2.2.1, BX.2.2.2.2.2.1, BX.2.2.2.2.2.2.1⟩ : AP), (⟨BX.2.2.2.2.2.2.2.1, BX.2.2.2.2.2.2.2.2.1, BX.2.2.2.2.2.2.2.2.2.1⟩ : AP), BX.2.2.2.2.2.2.2.2.2.2.2.1, BX.2.2.2.2.2.2.2.2.2.2.1, BX.2.2.2.2.2.2.2.2.2.2.2.2⟩ : AX).ID).Seq), j6 (((⟨(⟨BX.1, BX.2.1, BX.2.2.1⟩ : AP), BX.2.2.2.1, (⟨BX.2.2.2.2.1, BX.2.2.2.2.2.1, BX.2.2.2.2.2.2.1⟩ : AP), (⟨BX.2.2.2.2.2.2.2.1, BX.2.2.2.2.2.2.2.2.1, BX.2.2.2.2.2.2.2.2.2.1⟩ : AP), BX.2.2.2.2.2.2.2.2.2.2.2.1, BX.2.2.2.2.2.2.2.2.2.2.1, BX.2.2.2.2.2.2.2.2.2.2.2.2⟩ : AX).ID).Rep), j6 (((⟨(⟨BX.1, BX.2.1, BX.2.2.1⟩ : AP), BX.2.2.2.1, (⟨BX.2.2.2.2.1, BX.2.2.2.2.2.1, BX.2.2.2.2.2.2.1⟩ : AP), (⟨BX.2.2.2.2.2.2.2.1, BX.2.2.2.2.2.2.2.2.1, BX.2.2.2.2.2.2.2.2.2.1⟩ : AP), BX.2.2.2.2.2.2.2.2.2.2.2.1, BX.2.2.2.2.2.2.2.2.2.2.1, BX.2.2.2.2.2.2.2.2.2.2.2.2⟩ : AX).Parent).Time), j6 (((⟨(⟨BX.1, BX.2.1, BX.2.2.1⟩ : AP), BX.2.2.2.1, (⟨BX.2.2.2.2.1, BX.2.2.2.2.2.1, BX.2.2.2.2.2.2.1⟩ : AP), (⟨BX.2.2.2.2.2.2.2.1, BX.2.2.2.2.2.2.2.2.1, BX.2.2.2.2.2.2.2.2.2.1⟩ : AP), BX.2.2.2.2.2.2.2.2.2.2.2.1, BX.2.2.2.2.2.2.2.2.2.2.1, BX.2.2.2.2.2.2.2.2.2.2.2.2⟩ : AX).Parent).Seq), j6 (((⟨(⟨BX.1, BX.2.1, BX.2.2.1⟩ : AP), BX.2.2.2.1, (⟨BX.2.2.2.2.1, BX.2.2.2.2.2.1, BX.2.2.2.2.2.2.1⟩ : AP), (⟨BX.2.2.2.2.2.2.2.1, BX.2.2.2.2.2.2.2.2.1, BX.2.2.2.2.2.2.2.2.2.1⟩ : AP), BX.2.2.2.2.2.2.2.2.2.2.2.1, BX.2.2.2.2.2.2.2.2.2.2.1, BX.2.2.2.2.2.2.2.2.2.2.2.2⟩ : AX).Parent).Rep), .sl 2 (List.map AV ((⟨(⟨BX.1, BX.2.1, BX.2.2.1⟩ : AP), BX.2.2.2.1, (⟨BX.2.2.2.2.1, BX.2.2.2.2.2.1, BX.2.2.2.2.2.2.1⟩ : AP), (⟨BX.2.2.2.2.2.2.2.1, BX.2.2.2.2.2.2.2.2.1, BX.2.2.2.2.2.2.2.2.2.1⟩ : AP), BX.2.2.2.2.2.2.2.2.2.2.2.1, BX.2.2.2.2.2.2.2.2.2.2.1, BX.2.2.2.2.2.2.2.2.2.2.2.2⟩ : AX).RDN)), .bool ((⟨(⟨BX.1, BX.2.1, BX.2.2.1⟩ : AP), BX.2.2.2.1, (⟨BX.2.2.2.2.1, BX.2.2.2.2.2.1, BX.2.2.2.2.2.2.1⟩ : AP), (⟨BX.2.2.2.2.2.2.2.1, BX.2.2.2.2.2.2.2.2.1, BX.2.2.2.2.2.2.2.2.2.1⟩ : AP), BX.2.2.2.2.2.2.2.2.2.2.2.1, BX.2.2.2.2.2.2.2.2.2.2.1, BX.2.2.2.2.2.2.2.2.2.2.2.2⟩ : AX).DelOld), .sl 3 (List.map AU ((⟨(⟨BX.1, BX.2.1, BX.2.2.1⟩ : AP), BX.2.2.2.1, (⟨BX.2.2.2.2.1, BX.2.2.2.2.2.1, BX.2.2.2.2.2.2.1⟩ : AP), (⟨BX.2.2.2.2.2.2.2.1, BX.2.2.2.2.2.2.2.2.1, BX.2.2.2.2.2.2.2.2.2.1⟩ : AP), BX.2.2.2.2.2.2.2.2.2.2.2.1, BX.2.2.2.2.2.2.2.2.2.2.1, BX.2.2.2.2.2.2.2.2.2.2.2.2⟩ : AX).Mods))]) (.cons A8 (.cons A8 (.cons A8 (.cons A8 (.cons A8 (.cons A8 (.cons A8 (.cons A8 (.cons A8 (.cons A8 (.cons (H5 (congrArg (PV.sl 2) (BQ (f := AV) (l := BX.2.2.2.2.2.2.2.2.2.2.2.1)))) (.cons A8 (.cons (H5 (congrArg (PV.sl 3) (BQ (f := AU) (l := BX.2.2.2.2.2.2.2.2.2.2.2.2)))) .nil))))))))))))) rfl rfl) (cq rfl)))) ?_
 exact ⟨nofun, rfl, rfl⟩
 rintro e s ⟨rfl, rfl⟩
 cases AA h
 exact ⟨nofun, rfl, rfl⟩
def z8 : IC := (.seq (.seq (.reg [jm 11 5, jm 12 0, jL 13 12, jb .lss 14 11 13]) (.cond (.t 14) .skip (.exit 0))) (.seq (.block 1 (.seq (.regd 9 [jm 17 0, jm 18 5, jx 19 2 17 18, jg 20 2 19, jm 21 1, jm 22 5, jx 23 2 21 22, jg 24 2 23, jn 25 (.eqs true [.s, .s] (.t 20) (.t 24))]) (.cond (.t 25) (.seq (.reg [jc 4 (.bool false)]) .ret) .skip))) (.reg [jm 15 5, ju .add 16 15 1, jm 5 16])))
def k39 : IC := (.seq (.reg [jc 4 (.bool false)]) (.seq (.seq (.reg [jm 6 0, jL 7 6, jm 8 1, jL 9 8, jb .neq 10 7 9]) (.cond (.t 10) (.seq (.reg [jc 4 (.bool false)]) .ret) .skip)) (.seq (.seq (.reg [jc 5 (j6 0)]) (.block 0 (.loop z8))) (.seq (.reg [jc 4 (.bool true)]) .ret))))
theorem Vh : BV Tryz.prog Tryz.f39 = some ⟨26, k39, [(.tmp 4)]⟩ := by kernel_rfl
theorem UW (N : Nat) (a0 : List AL) (a1 : List AL) : ∀ (n : Nat) (x : Int) (y : Unit ⊕ Bool), F4 N a0 a1 n x = some y → WX Tryz.prog (fun _ => false) (.loop z8) ((fun (x : Int) => ⟨AY [(0, .sl 2 (List.map AV a0)), (1, .sl 2 (List.map AV a1)), (5, j6 x)], AY []⟩) x) ((Sum.elim (fun y e s => e = .exit 0 ∧ s = ⟨AY [], AY []⟩) (fun y e s => e = .ret ∧ s = ⟨AY [(4, .bool y)], AY []⟩) : (Unit ⊕ Bool) → Xt → St → Prop) y) := by
 refine EP _ _ (F4 N a0 a1) (I9 N a0 a1) (fun _ => rfl) (fun _ _ => rfl) ?_
 rintro rec v5l14 y h
 iterate 2 refine AC ?_
 refine AB ?_
 iterate 2 refine wq rfl ?_
 refine AQ rfl (BU rfl) ?_
 refine wq rfl ?_
 refine D5 h rfl (fun c2 h => ?_) (fun c2 h => ?_)
 refine BF (AC (BZ (AC (P6 ?_))))
 iterate 2 refine dq rfl ?_
 obtain ⟨QG, YV, h⟩ := AJ h
 refine JN rfl (DF (cs := [.str QG.Attr, .str QG.Value]) YV rfl rfl rfl) ?_
 refine JN (p := AV QG) rfl rfl ?_
 iterate 2 refine dq rfl ?_
 obtain ⟨XY, gB, h⟩ := AJ h
 refine JN rfl (DF (cs := [.str XY.Attr, .str XY.Value]) gB rfl rfl rfl) ?_
 refine JN (p := AV XY) rfl rfl ?_
 refine JN (p := .bool (!(QG.Attr == XY.Attr && (QG.Value == XY.Value && true)))) rfl rfl ?_
 refine D5 h rfl (fun c3 h => ?_) (fun c3 h => ?_)
 refine AC (AB ?_)
 refine wq rfl ?_
 obtain rfl := AA h
 exact DL (st1 := ⟨AY [(4, .bool false)], AY []⟩) (cq rfl) ⟨rfl, rfl⟩
 refine BF (AB ?_)
 refine wq rfl ?_
 refine AQ (p := j6 (BM (v5l14 + (1 : Int)))) rfl rfl ?_
 refine wq rfl ?_
 exact ⟨(BM (v5l14 + (1 : Int))), (cq rfl), h⟩
 cases AA h
 exact CU (st1 := ⟨AY [], AY []⟩) (cq rfl) ⟨rfl, rfl⟩
theorem WL (N : Nat) (a0 : List AL) (a1 : List AL) (r : Bool) (h : LU N a0 a1 = some r) : Sat Tryz.prog 39 AO [.sl 2 (List.map AV a0), .sl 2 (List.map AV a1)] (.bool r) AO := by
 refine DK mixed Tryz.func39 Vh (rs := [.bool r]) rfl rfl ?_
 refine AC (AB ?_)
 refine wq rfl ?_
 iterate 2 refine AC ?_
 refine AB ?_
 refine wq rfl ?_
 refine AQ rfl (BU rfl) ?_
 refine wq rfl ?_
 refine AQ rfl (BU rfl) ?_
 refine wq rfl ?_
 refine D5 h rfl (fun c1 h => ?_) (fun c1 h => ?_)
 refine AC (AB ?_)
 refine wq rfl ?_
 obtain rfl := AA h
 refine BR ?_
 exact ⟨nofun, rfl, rfl⟩
 refine BF ?_
 iterate 2 refine AC ?_
 refine AB ?_
 refine wq rfl ?_
 refine BZ ?_
 obtain ⟨y4, hy4, h⟩ := AJ h
 refine QI (UW N a0 a1 N _ _ hy4) (cq rfl) ?_
 clear hy4
 rcases y4 with y4 | y4
 rintro e s ⟨rfl, rfl⟩
 refine AC (AB ?_)
 refine wq rfl ?_
 obtain rfl := AA h
 refine BR ?_
 exact ⟨nofun, rfl, rfl⟩
 rintro e s ⟨rfl, rfl⟩
 obtain rfl := AA h
 exact ⟨nofun, rfl, rfl⟩
end Go.Gp
end
