/- A part of the proof: functions of the program and what they compute. -/
import Derived.Test.YtlopcglohpfonaaGreatDoorA5
import Derived.Test.YtlopcglohpfonaaGreatDoorA11
import Derived.Test.YtlopcglohpfonaaGreatDoorA8
import Derived.Test.YtlopcglohpfonaaGreatDoorA10
import Derived.Test.YtlopcglohpfonaaGreatDoorA9
section
set_option linter.unusedVariables false
set_option linter.unusedSimpArgs false
set_option maxRecDepth 4000
set_option maxHeartbeats 4000000
namespace Go.Gp
open Go.Vd Go.RowKit Go.Proofs
def EG : List (List Nat) := [[], [], [1], [2], [3], [], [0, 0], [6, 0, 6], [4, 7, 0, 1, 2, 3, 4, 6, 7], [5, 8, 0, 1, 2, 3, 4, 5, 6, 7, 8]]
def EF : List Ins := [jn 23 (.build [(.int .u8 0), (.str []), .nl] []), jm 24 6, jn 25 (.nck (.t 24)), ja 26 1 25, jl 27 1 26, jm 28 9, js 3 2 23, jc 3 (j6 0), jm 4 27, jm 5 28]
def k43 : IC := (.seq (.reg [jn 2 (.box 52 (.c (.agg [(.int .u8 0), (.str []), .nl]))), jc 3 (j6 0), jc 4 (j6 0), jc 5 (j6 0)]) (.seq (.reg [jm 10 0, jn 11 (.build [(.str []), (j6 0)] [(0, (1, (.t 10)))]), jn 12 (.box 97 (.t 11)), jm 6 12]) (.seq (.reg [jm 14 6, jm 15 0, jS 16 15, jn 17 (.call 64 [(.t 14), (ji 0), (.t 16), (ji 1)]), jm 13 17, je 18 0 13, je 19 1 13, je 20 2 13, jn 7 (.box 52 (.c (.agg [(.int .u8 0), (.str []), .nl]))), js 3 7 18, jm 8 19, jm 9 20]) (.seq (.seq (.reg [jm 21 9, ju .neq 22 21 0]) (.cond (.t 22) (.seq (.regf 6 [1, 2, 3, 4, 5] EG EF) .ret) .skip)) (.seq (.reg [jg 29 3 7, jm 30 8, js 3 2 29, jm 3 30, jc 4 (j6 0), jc 5 (j6 0)]) .ret)))))
theorem Jh : C9 Tryz.prog Tryz.f43 = some ⟨31, k43, [(.cell 3 true 2), (.tmp 3), (.tmp 4), (.tmp 5)]⟩ := by kernel_rfl
theorem iL (N : Nat) (a0 : List UInt8) (r : A7 × Int × Int × Int) (h : mD N a0 = some r) : Sat Tryz.prog 43 AC [.str a0] (.tup [A9 r.1, j6 r.2.1, j6 r.2.2.1, j6 r.2.2.2]) AC := by
 refine EO mixed Tryz.func43 Jh (rs := [A9 r.1, j6 r.2.1, j6 r.2.2.1, j6 r.2.2.2]) rfl rfl ?_
 refine AA (AB ?_)
 refine CX rfl (FE 68802 rfl rfl rfl rfl rfl) ?_
 iterate 3 refine wq rfl ?_
 refine AA (AB ?_)
 refine wq rfl ?_
 refine AY (p := .agg [.str a0, j6 0]) rfl rfl ?_
 refine CX rfl (FE 700970 rfl rfl rfl rfl rfl) ?_
 refine wq rfl ?_
 refine AA (AB ?_)
 iterate 3 refine wq rfl ?_
 obtain ⟨EA, U3, h⟩ := AQ h
 refine CX rfl (wC [(700970, ⟨2, false, [BG (⟨a0, 0⟩ : BC)]⟩)] [(700970, ⟨2, false, [BG EA.2.2.2]⟩)] (TW N _ _ _ _ _ U3) rfl (.cons A8 (.cons A8 (.cons A8 (.cons A8 .nil)))) ⟨rfl, trivial⟩ rfl rfl rfl) ?_
 iterate 4 refine wq rfl ?_
 refine CX rfl (FE 68807 rfl rfl rfl rfl rfl) ?_
 refine EC (e' := A9 EA.1) rfl rfl rfl rfl rfl rfl rfl rfl nofun rfl ?_
 iterate 2 refine wq rfl ?_
 iterate 2 refine AA ?_
 refine AB ?_
 iterate 2 refine wq rfl ?_
 refine EN h rfl (fun c1 h => ?_) (fun c1 h => ?_)
 refine AA ?_
 refine Ef ⟨AX [(2, .ptr 68802 0 0), (3, j6 0), (4, j6 EA.2.2.2.at_), (5, j6 EA.2.2.1)], AX [(68802, ⟨3, false, [.agg [eb (0 : UInt8), .str ([] : List UInt8), .nl]]⟩)]⟩ [[], [5], [4], [4, 5], [3, 4], [3, 4, 5], [2, 3, 4], [2, 3, 4, 5], [1, 2, 3, 4], [1, 2, 3, 4, 5]] rfl ?_ ?_
 refine LM (p := .agg [eb (0 : UInt8), .str ([] : List UInt8), .nl]) rfl rfl ?_
 iterate 5 refine dq rfl ?_
 have Mc : AnyW Tryz.prog (fun _ => false) EG EF 0 [0, 1, 2, 3, 4, 5, 6, 7, 8, 9] ⟨AX [(2, .ptr 68802 0 0), (3, j6 0), (4, j6 EA.2.2.2.at_), (5, j6 EA.2.2.1)], AX [(68802, ⟨3, false, [.agg [eb (0 : UInt8), .str ([] : List UInt8), .nl]]⟩)]⟩ ⟨AX [(2, .ptr 68802 0 0), (3, j6 0), (4, j6 EA.2.2.2.at_), (5, j6 EA.2.2.1)], AX [(68802, ⟨3, false, [.agg [eb (0 : UInt8), .str ([] : List UInt8), .nl]]⟩)]⟩ := by
  exact yend rfl (cq rfl)
 have zW : AnyW Tryz.prog (fun _ => false) EG EF 1 [0, 1, 2, 3, 4, 5, 6, 7, 8] ⟨AX [(2, .ptr 68802 0 0), (3, j6 0), (4, j6 EA.2.2.2.at_), (5, j6 0), (28, j6 EA.2.2.1)], AX [(68802, ⟨3, false, [.agg [eb (0 : UInt8), .str ([] : List UInt8), .nl]]⟩)]⟩ ⟨AX [(2, .ptr 68802 0 0), (3, j6 0), (4, j6 EA.2.2.2.at_), (5, j6 EA.2.2.1)], AX [(68802, ⟨3, false, [.agg [eb (0 : UInt8), .str ([] : List UInt8), .nl]]⟩)]⟩ := by
  refine yc (l := [9]) rfl nofun ⟨⟨_, rfl, ?_⟩, trivial⟩
  refine wq rfl ?_
  exact AnyW.of Mc rfl (cq rfl)
 have oO : AnyW Tryz.prog (fun _ => false) EG EF 2 [0, 1, 2, 3, 4, 5, 6, 7] ⟨AX [(2, .ptr 68802 0 0), (3, j6 0), (4, j6 0), (5, j6 0), (27, j6 EA.2.2.2.at_), (28, j6 EA.2.2.1)], AX [(68802, ⟨3, false, [.agg [eb (0 : UInt8), .str ([] : List UInt8), .nl]]⟩)]⟩ ⟨AX [(2, .ptr 68802 0 0), (3, j6 0), (4, j6 EA.2.2.2.at_), (5, j6 EA.2.2.1)], AX [(68802, ⟨3, false, [.agg [eb (0 : UInt8), .str ([] : List UInt8), .nl]]⟩)]⟩ := by
  refine yc (l := [8]) rfl nofun ⟨⟨_, rfl, ?_⟩, trivial⟩
  refine wq rfl ?_
  exact AnyW.of zW rfl (cq rfl)
 have Md : AnyW Tryz.prog (fun _ => false) EG EF 2 [0, 1, 2, 3, 4, 6, 7, 8] ⟨AX [(2, .ptr 68802 0 0), (3, j6 0), (4, j6 EA.2.2.2.at_), (5, j6 0), (9, j6 EA.2.2.1)], AX [(68802, ⟨3, false, [.agg [eb (0 : UInt8), .str ([] : List UInt8), .nl]]⟩)]⟩ ⟨AX [(2, .ptr 68802 0 0), (3, j6 0), (4, j6 EA.2.2.2.at_), (5, j6 EA.2.2.1)], AX [(68802, ⟨3, false, [.agg [eb (0 : UInt8), .str ([] : List UInt8), .nl]]⟩)]⟩ := by
  refine yc (l := [5]) rfl nofun ⟨⟨_, rfl, ?_⟩, trivial⟩
  refine wq rfl ?_
  exact AnyW.of zW rfl (cq rfl)
 have oV : AnyW Tryz.prog (fun _ => false) EG EF 3 [0, 1, 2, 3, 4, 5, 6] ⟨AX [(2, .ptr 68802 0 0), (3, j6 0), (4, j6 0), (5, j6 0), (27, j6 EA.2.2.2.at_), (28, j6 EA.2.2.1)], AX [(68802, ⟨3, false, [.agg [eb (0 : UInt8), .str ([] : List UInt8), .nl]]⟩)]⟩ ⟨AX [(2, .ptr 68802 0 0), (3, j6 0), (4, j6 EA.2.2.2.at_), (5, j6 EA.2.2.1)], AX [(68802, ⟨3, false, [.agg [eb (0 : UInt8), .str ([] : List UInt8), .nl]]⟩)]⟩ := by
  refine yc (l := [7]) rfl nofun ⟨⟨_, rfl, ?_⟩, trivial⟩
  refine wq rfl ?_
  exact AnyW.of oO rfl (cq rfl)
 have zX : AnyW Tryz.prog (fun _ => false) EG EF 3 [0, 1, 2, 3, 4, 6, 7] ⟨AX [(2, .ptr 68802 0 0), (3, j6 0), (4, j6 0), (5, j6 0), (9, j6 EA.2.2.1), (27, j6 EA.2.2.2.at_)], AX [(68802, ⟨3, false, [.agg [eb (0 : UInt8), .str ([] : List UInt8), .nl]]⟩)]⟩ ⟨AX [(2, .ptr 68802 0 0), (3, j6 0), (4, j6 EA.2.2.2.at_), (5, j6 EA.2.2.1)], AX [(68802, ⟨3, false, [.agg [eb (0 : UInt8), .str ([] : List UInt8), .nl]]⟩)]⟩ := by
  refine yc (l := [5, 8]) rfl nofun ⟨⟨_, rfl, ?_⟩, ⟨_, rfl, ?_⟩, trivial⟩
  refine wq rfl ?_
  exact AnyW.of oO rfl (cq rfl)
  refine wq rfl ?_
  exact AnyW.of Md rfl (cq rfl)
 have oP : AnyW Tryz.prog (fun _ => false) EG EF 3 [0, 1, 2, 3, 5, 6, 7] ⟨AX [(2, .ptr 68802 0 0), (3, j6 0), (4, j6 0), (5, j6 0), (26, .ptr 700970 0 1), (28, j6 EA.2.2.1)], AX [(68802, ⟨3, false, [.agg [eb (0 : UInt8), .str ([] : List UInt8), .nl]]⟩), (700970, ⟨2, false, [BG EA.2.2.2]⟩)]⟩ ⟨AX [(2, .ptr 68802 0 0), (3, j6 0), (4, j6 EA.2.2.2.at_), (5, j6 EA.2.2.1)], AX [(68802, ⟨3, false, [.agg [eb (0 : UInt8), .str ([] : List UInt8), .nl]]⟩)]⟩ := by
  refine yc (l := [4]) rfl nofun ⟨⟨_, rfl, ?_⟩, trivial⟩
  refine wq rfl ?_
  exact AnyW.of oO rfl (cq rfl)
 have zS : AnyW Tryz.prog (fun _ => false) EG EF 4 [0, 1, 2, 3, 4, 5] ⟨AX [(2, .ptr 68802 0 0), (3, j6 0), (4, j6 0), (5, j6 0), (23, .agg [eb (0 : UInt8), .str ([] : List UInt8), .nl]), (27, j6 EA.2.2.2.at_), (28, j6 EA.2.2.1)], AX [(68802, ⟨3, false, [.agg [eb (0 : UInt8), .str ([] : List UInt8), .nl]]⟩)]⟩ ⟨AX [(2, .ptr 68802 0 0), (3, j6 0), (4, j6 EA.2.2.2.at_), (5, j6 EA.2.2.1)], AX [(68802, ⟨3, false, [.agg [eb (0 : UInt8), .str ([] : List UInt8), .nl]]⟩)]⟩ := by
  refine yc (l := [6]) rfl nofun ⟨⟨_, rfl, ?_⟩, trivial⟩
  refine EC (e' := .agg [eb (0 : UInt8), .str ([] : List UInt8), .nl]) rfl rfl rfl rfl rfl rfl rfl rfl nofun rfl ?_
  exact AnyW.of oV rfl (cq rfl)
 have Ac : AnyW Tryz.prog (fun _ => false) EG EF 4 [0, 1, 2, 3, 4, 6] ⟨AX [(2, .ptr 68802 0 0), (3, j6 0), (4, j6 0), (5, j6 0), (9, j6 EA.2.2.1), (27, j6 EA.2.2.2.at_)], AX [(68802, ⟨3, false, [.agg [eb (0 : UInt8), .str ([] : List UInt8), .nl]]⟩)]⟩ ⟨AX [(2, .ptr 68802 0 0), (3, j6 0), (4, j6 EA.2.2.2.at_), (5, j6 EA.2.2.1)], AX [(68802, ⟨3, false, [.agg [eb (0 : UInt8), .str ([] : List UInt8), .nl]]⟩)]⟩ := by
  refine yc (l := [5, 7]) rfl nofun ⟨⟨_, rfl, ?_⟩, ⟨_, rfl, ?_⟩, trivial⟩
  refine wq rfl ?_
  exact AnyW.of oV rfl (cq rfl)
  refine wq rfl ?_
  exact AnyW.of zX rfl (cq rfl)
 have oW : AnyW Tryz.prog (fun _ => false) EG EF 4 [0, 1, 2, 3, 5, 6] ⟨AX [(2, .ptr 68802 0 0), (3, j6 0), (4, j6 0), (5, j6 0), (26, .ptr 700970 0 1), (28, j6 EA.2.2.1)], AX [(68802, ⟨3, false, [.agg [eb (0 : UInt8), .str ([] : List UInt8), .nl]]⟩), (700970, ⟨2, false, [BG EA.2.2.2]⟩)]⟩ ⟨AX [(2, .ptr 68802 0 0), (3, j6 0), (4, j6 EA.2.2.2.at_), (5, j6 EA.2.2.1)], AX [(68802, ⟨3, false, [.agg [eb (0 : UInt8), .str ([] : List UInt8), .nl]]⟩)]⟩ := by
  refine yc (l := [4, 7]) rfl nofun ⟨⟨_, rfl, ?_⟩, ⟨_, rfl, ?_⟩, trivial⟩
  refine wq rfl ?_
  exact AnyW.of oV rfl (cq rfl)
  refine wq rfl ?_
  exact AnyW.of oP rfl (cq rfl)
 have zY : AnyW Tryz.prog (fun _ => false) EG EF 4 [0, 1, 2, 3, 6, 7] ⟨AX [(2, .ptr 68802 0 0), (3, j6 0), (4, j6 0), (5, j6 0), (9, j6 EA.2.2.1), (26, .ptr 700970 0 1)], AX [(68802, ⟨3, false, [.agg [eb (0 : UInt8), .str ([] : List UInt8), .nl]]⟩), (700970, ⟨2, false, [BG EA.2.2.2]⟩)]⟩ ⟨AX [(2, .ptr 68802 0 0), (3, j6 0), (4, j6 EA.2.2.2.at_), (5, j6 EA.2.2.1)], AX [(68802, ⟨3, false, [.agg [eb (0 : UInt8), .str ([] : List UInt8), .nl]]⟩)]⟩ := by
  refine yc (l := [4, 5]) rfl nofun ⟨⟨_, rfl, ?_⟩, ⟨_, rfl, ?_⟩, trivial⟩
  refine wq rfl ?_
  exact AnyW.of zX rfl (cq rfl)
  refine wq rfl ?_
  exact AnyW.of oP rfl (cq rfl)
 have oQ : AnyW Tryz.prog (fun _ => false) EG EF 4 [0, 1, 2, 5, 6, 7] ⟨AX [(2, .ptr 68802 0 0), (3, j6 0), (4, j6 0), (5, j6 0), (25, .ptr 700970 0 0), (28, j6 EA.2.2.1)], AX [(68802, ⟨3, false, [.agg [eb (0 : UInt8), .str ([] : List UInt8), .nl]]⟩), (700970, ⟨2, false, [BG EA.2.2.2]⟩)]⟩ ⟨AX [(2, .ptr 68802 0 0), (3, j6 0), (4, j6 EA.2.2.2.at_), (5, j6 EA.2.2.1)], AX [(68802, ⟨3, false, [.agg [eb (0 : UInt8), .str ([] : List UInt8), .nl]]⟩)]⟩ := by
  refine yc (l := [3]) rfl nofun ⟨⟨_, rfl, ?_⟩, trivial⟩
  refine wq rfl ?_
  exact AnyW.of oP rfl (cq rfl)
 have Fs : AnyW Tryz.prog (fun _ => false) EG EF 5 [0, 1, 2, 3, 4] ⟨AX [(2, .ptr 68802 0 0), (3, j6 0), (4, j6 0), (5, j6 0), (9, j6 EA.2.2.1), (23, .agg [eb (0 : UInt8), .str ([] : List UInt8), .nl]), (27, j6 EA.2.2.2.at_)], AX [(68802, ⟨3, false, [.agg [eb (0 : UInt8), .str ([] : List UInt8), .nl]]⟩)]⟩ ⟨AX [(2, .ptr 68802 0 0), (3, j6 0), (4, j6 EA.2.2.2.at_), (5, j6 EA.2.2.1)], AX [(68802, ⟨3, false, [.agg [eb (0 : UInt8), .str ([] : List UInt8), .nl]]⟩)]⟩ := by
  refine yc (l := [5, 6]) rfl nofun ⟨⟨_, rfl, ?_⟩, ⟨_, rfl, ?_⟩, trivial⟩
  refine wq rfl ?_
  exact AnyW.of zS rfl (cq rfl)
  refine EC (e' := .agg [eb (0 : UInt8), .str ([] : List UInt8), .nl]) rfl rfl rfl rfl rfl rfl rfl rfl nofun rfl ?_
  exact AnyW.of Ac rfl (cq rfl)
 have zT : AnyW Tryz.prog (fun _ => false) EG EF 5 [0, 1, 2, 3, 5] ⟨AX [(2, .ptr 68802 0 0), (3, j6 0), (4, j6 0), (5, j6 0), (23, .agg [eb (0 : UInt8), .str ([] : List UInt8), .nl]), (26, .ptr 700970 0 1), (28, j6 EA.2.2.1)], AX [(68802, ⟨3, false, [.agg [eb (0 : UInt8), .str ([] : List UInt8), .nl]]⟩), (700970, ⟨2, false, [BG EA.2.2.2]⟩)]⟩ ⟨AX [(2, .ptr 68802 0 0), (3, j6 0), (4, j6 EA.2.2.2.at_), (5, j6 EA.2.2.1)], AX [(68802, ⟨3, false, [.agg [eb (0 : UInt8), .str ([] : List UInt8), .nl]]⟩)]⟩ := by
  refine yc (l := [4, 6]) rfl nofun ⟨⟨_, rfl, ?_⟩, ⟨_, rfl, ?_⟩, trivial⟩
  refine wq rfl ?_
  exact AnyW.of zS rfl (cq rfl)
  refine EC (e' := .agg [eb (0 : UInt8), .str ([] : List UInt8), .nl]) rfl rfl rfl rfl rfl rfl rfl rfl nofun rfl ?_
  exact AnyW.of oW rfl (cq rfl)
 have Ad : AnyW Tryz.prog (fun _ => false) EG EF 5 [0, 1, 2, 3, 6] ⟨AX [(2, .ptr 68802 0 0), (3, j6 0), (4, j6 0), (5, j6 0), (9, j6 EA.2.2.1), (26, .ptr 700970 0 1)], AX [(68802, ⟨3, false, [.agg [eb (0 : UInt8), .str ([] : List UInt8), .nl]]⟩), (700970, ⟨2, false, [BG EA.2.2.2]⟩)]⟩ ⟨AX [(2, .ptr 68802 0 0), (3, j6 0), (4, j6 EA.2.2.2.at_), (5, j6 EA.2.2.1)], AX [(68802, ⟨3, false, [.agg [eb (0 : UInt8), .str ([] : List UInt8), .nl]]⟩)]⟩ := by
  refine yc (l := [4, 5, 7]) rfl nofun ⟨⟨_, rfl, ?_⟩, ⟨_, rfl, ?_⟩, ⟨_, rfl, ?_⟩, trivial⟩
  refine wq rfl ?_
  exact AnyW.of Ac rfl (cq rfl)
  refine wq rfl ?_
  exact AnyW.of oW rfl (cq rfl)
  refine wq rfl ?_
  exact AnyW.of zY rfl (cq rfl)
 have oZ : AnyW Tryz.prog (fun _ => false) EG EF 5 [0, 1, 2, 5, 6] ⟨AX [(2, .ptr 68802 0 0), (3, j6 0), (4, j6 0), (5, j6 0), (25, .ptr 700970 0 0), (28, j6 EA.2.2.1)], AX [(68802, ⟨3, false, [.agg [eb (0 : UInt8), .str ([] : List UInt8), .nl]]⟩), (700970, ⟨2, false, [BG EA.2.2.2]⟩)]⟩ ⟨AX [(2, .ptr 68802 0 0), (3, j6 0), (4, j6 EA.2.2.2.at_), (5, j6 EA.2.2.1)], AX [(68802, ⟨3, false, [.agg [eb (0 : UInt8), .str ([] : List UInt8), .nl]]⟩)]⟩ := by
  refine yc (l := [3, 7]) rfl nofun ⟨⟨_, rfl, ?_⟩, ⟨_, rfl, ?_⟩, trivial⟩
  refine wq rfl ?_
  exact AnyW.of oW rfl (cq rfl)
  refine wq rfl ?_
  exact AnyW.of oQ rfl (cq rfl)
 have zZ : AnyW Tryz.prog (fun _ => false) EG EF 5 [0, 1, 2, 6, 7] ⟨AX [(2, .ptr 68802 0 0), (3, j6 0), (4, j6 0), (5, j6 0), (9, j6 EA.2.2.1), (25, .ptr 700970 0 0)], AX [(68802, ⟨3, false, [.agg [eb (0 : UInt8), .str ([] : List UInt8), .nl]]⟩), (700970, ⟨2, false, [BG EA.2.2.2]⟩)]⟩ ⟨AX [(2, .ptr 68802 0 0), (3, j6 0), (4, j6 EA.2.2.2.at_), (5, j6 EA.2.2.1)], AX [(68802, ⟨3, false, [.agg [eb (0 : UInt8), .str ([] : List UInt8), .nl]]⟩)]⟩ := by
  refine yc (l := [3, 5]) rfl nofun ⟨⟨_, rfl, ?_⟩, ⟨_, rfl, ?_⟩, trivial⟩
  refine wq rfl ?_
  exact AnyW.of zY rfl (cq rfl)
  refine wq rfl ?_
  exact AnyW.of oQ rfl (cq rfl)
 have oU : AnyW Tryz.prog (fun _ => false) EG EF 5 [0, 1, 5, 6, 7] ⟨AX [(2, .ptr 68802 0 0), (3, j6 0), (4, j6 0), (5, j6 0), (24, .ptr 700970 0 0), (28, j6 EA.2.2.1)], AX [(68802, ⟨3, false, [.agg [eb (0 : UInt8), .str ([] : List UInt8), .nl]]⟩), (700970, ⟨2, false, [BG EA.2.2.2]⟩)]⟩ ⟨AX [(2, .ptr 68802 0 0), (3, j6 0), (4, j6 EA.2.2.2.at_), (5, j6 EA.2.2.1)], AX [(68802, ⟨3, false, [.agg [eb (0 : UInt8), .str ([] : List UInt8), .nl]]⟩)]⟩ := by
  refine yc (l := [2]) rfl nofun ⟨⟨_, rfl, ?_⟩, trivial⟩
  refine wq rfl ?_
  exact AnyW.of oQ rfl (cq rfl)
 have Fu : AnyW Tryz.prog (fun _ => false) EG EF 6 [0, 1, 2, 3] ⟨AX [(2, .ptr 68802 0 0), (3, j6 0), (4, j6 0), (5, j6 0), (9, j6 EA.2.2.1), (23, .agg [eb (0 : UInt8), .str ([] : List UInt8), .nl]), (26, .ptr 700970 0 1)], AX [(68802, ⟨3, false, [.agg [eb (0 : UInt8), .str ([] : List UInt8), .nl]]⟩), (700970, ⟨2, false, [BG EA.2.2.2]⟩)]⟩ ⟨AX [(2, .ptr 68802 0 0), (3, j6 0), (4, j6 EA.2.2.2.at_), (5, j6 EA.2.2.1)], AX [(68802, ⟨3, false, [.agg [eb (0 : UInt8), .str ([] : List UInt8), .nl]]⟩)]⟩ := by
  refine yc (l := [4, 5, 6]) rfl nofun ⟨⟨_, rfl, ?_⟩, ⟨_, rfl, ?_⟩, ⟨_, rfl, ?_⟩, trivial⟩
  refine wq rfl ?_
  exact AnyW.of Fs rfl (cq rfl)
  refine wq rfl ?_
  exact AnyW.of zT rfl (cq rfl)
  refine EC (e' := .agg [eb (0 : UInt8), .str ([] : List UInt8), .nl]) rfl rfl rfl rfl rfl rfl rfl rfl nofun rfl ?_
  exact AnyW.of Ad rfl (cq rfl)
 have zU : AnyW Tryz.prog (fun _ => false) EG EF 6 [0, 1, 2, 5] ⟨AX [(2, .ptr 68802 0 0), (3, j6 0), (4, j6 0), (5, j6 0), (23, .agg [eb (0 : UInt8), .str ([] : List UInt8), .nl]), (25, .ptr 700970 0 0), (28, j6 EA.2.2.1)], AX [(68802, ⟨3, false, [.agg [eb (0 : UInt8), .str ([] : List UInt8), .nl]]⟩), (700970, ⟨2, false, [BG EA.2.2.2]⟩)]⟩ ⟨AX [(2, .ptr 68802 0 0), (3, j6 0), (4, j6 EA.2.2.2.at_), (5, j6 EA.2.2.1)], AX [(68802, ⟨3, false, [.agg [eb (0 : UInt8), .str ([] : List UInt8), .nl]]⟩)]⟩ := by
  refine yc (l := [3, 6]) rfl nofun ⟨⟨_, rfl, ?_⟩, ⟨_, rfl, ?_⟩, trivial⟩
  refine wq rfl ?_
  exact AnyW.of zT rfl (cq rfl)
  refine EC (e' := .agg [eb (0 : UInt8), .str ([] : List UInt8), .nl]) rfl rfl rfl rfl rfl rfl rfl rfl nofun rfl ?_
  exact AnyW.of oZ rfl (cq rfl)
 have Ae : AnyW Tryz.prog (fun _ => false) EG EF 6 [0, 1, 2, 6] ⟨AX [(2, .ptr 68802 0 0), (3, j6 0), (4, j6 0), (5, j6 0), (9, j6 EA.2.2.1), (25, .ptr 700970 0 0)], AX [(68802, ⟨3, false, [.agg [eb (0 : UInt8), .str ([] : List UInt8), .nl]]⟩), (700970, ⟨2, false, [BG EA.2.2.2]⟩)]⟩ ⟨AX [(2, .ptr 68802 0 0), (3, j6 0), (4, j6 EA.2.2.2.at_), (5, j6 EA.2.2.1)], AX [(68802, ⟨3, false, [.agg [eb (0 : UInt8), .str ([] : List UInt8), .nl]]⟩)]⟩ := by
  refine yc (l := [3, 5, 7]) rfl nofun ⟨⟨_, rfl, ?_⟩, ⟨_, rfl, ?_⟩, ⟨_, rfl, ?_⟩, trivial⟩
  refine wq rfl ?_
  exact AnyW.of Ad rfl (cq rfl)
  refine wq rfl ?_
  exact AnyW.of oZ rfl (cq rfl)
  refine wq rfl ?_
  exact AnyW.of zZ rfl (cq rfl)
 have p8 : AnyW Tryz.prog (fun _ => false) EG EF 6 [0, 1, 5, 6] ⟨AX [(2, .ptr 68802 0 0), (3, j6 0), (4, j6 0), (5, j6 0), (24, .ptr 700970 0 0), (28, j6 EA.2.2.1)], AX [(68802, ⟨3, false, [.agg [eb (0 : UInt8), .str ([] : List UInt8), .nl]]⟩), (700970, ⟨2, false, [BG EA.2.2.2]⟩)]⟩ ⟨AX [(2, .ptr 68802 0 0), (3, j6 0), (4, j6 EA.2.2.2.at_), (5, j6 EA.2.2.1)], AX [(68802, ⟨3, false, [.agg [eb (0 : UInt8), .str ([] : List UInt8), .nl]]⟩)]⟩ := by
  refine yc (l := [2, 7]) rfl nofun ⟨⟨_, rfl, ?_⟩, ⟨_, rfl, ?_⟩, trivial⟩
  refine wq rfl ?_
  exact AnyW.of oZ rfl (cq rfl)
  refine wq rfl ?_
  exact AnyW.of oU rfl (cq rfl)
 have Ab : AnyW Tryz.prog (fun _ => false) EG EF 6 [0, 1, 6, 7] ⟨AX [(2, .ptr 68802 0 0), (3, j6 0), (4, j6 0), (5, j6 0), (9, j6 EA.2.2.1), (24, .ptr 700970 0 0)], AX [(68802, ⟨3, false, [.agg [eb (0 : UInt8), .str ([] : List UInt8), .nl]]⟩), (700970, ⟨2, false, [BG EA.2.2.2]⟩)]⟩ ⟨AX [(2, .ptr 68802 0 0), (3, j6 0), (4, j6 EA.2.2.2.at_), (5, j6 EA.2.2.1)], AX [(68802, ⟨3, false, [.agg [eb (0 : UInt8), .str ([] : List UInt8), .nl]]⟩)]⟩ := by
  refine yc (l := [2, 5]) rfl nofun ⟨⟨_, rfl, ?_⟩, ⟨_, rfl, ?_⟩, trivial⟩
  refine wq rfl ?_
  exact AnyW.of zZ rfl (cq rfl)
  refine wq rfl ?_
  exact AnyW.of oU rfl (cq rfl)
 have Aa : AnyW Tryz.prog (fun _ => false) EG EF 6 [0, 5, 6, 7] ⟨AX [(2, .ptr 68802 0 0), (3, j6 0), (4, j6 0), (5, j6 0), (6, .ptr 700970 0 0), (28, j6 EA.2.2.1)], AX [(68802, ⟨3, false, [.agg [eb (0 : UInt8), .str ([] : List UInt8), .nl]]⟩), (700970, ⟨2, false, [BG EA.2.2.2]⟩)]⟩ ⟨AX [(2, .ptr 68802 0 0), (3, j6 0), (4, j6 EA.2.2.2.at_), (5, j6 EA.2.2.1)], AX [(68802, ⟨3, false, [.agg [eb (0 : UInt8), .str ([] : List UInt8), .nl]]⟩)]⟩ := by
  refine yc (l := [1]) rfl nofun ⟨⟨_, rfl, ?_⟩, trivial⟩
  refine wq rfl ?_
  exact AnyW.of oU rfl (cq rfl)
 have Fv : AnyW Tryz.prog (fun _ => false) EG EF 7 [0, 1, 2] ⟨AX [(2, .ptr 68802 0 0), (3, j6 0), (4, j6 0), (5, j6 0), (9, j6 EA.2.2.1), (23, .agg [eb (0 : UInt8), .str ([] : List UInt8), .nl]), (25, .ptr 700970 0 0)], AX [(68802, ⟨3, false, [.agg [eb (0 : UInt8), .str ([] : List UInt8), .nl]]⟩), (700970, ⟨2, false, [BG EA.2.2.2]⟩)]⟩ ⟨AX [(2, .ptr 68802 0 0), (3, j6 0), (4, j6 EA.2.2.2.at_), (5, j6 EA.2.2.1)], AX [(68802, ⟨3, false, [.agg [eb (0 : UInt8), .str ([] : List UInt8), .nl]]⟩)]⟩ := by
  refine yc (l := [3, 5, 6]) rfl nofun ⟨⟨_, rfl, ?_⟩, ⟨_, rfl, ?_⟩, ⟨_, rfl, ?_⟩, trivial⟩
  refine wq rfl ?_
  exact AnyW.of Fu rfl (cq rfl)
  refine wq rfl ?_
  exact AnyW.of zU rfl (cq rfl)
  refine EC (e' := .agg [eb (0 : UInt8), .str ([] : List UInt8), .nl]) rfl rfl rfl rfl rfl rfl rfl rfl nofun rfl ?_
  exact AnyW.of Ae rfl (cq rfl)
 have zV : AnyW Tryz.prog (fun _ => false) EG EF 7 [0, 1, 5] ⟨AX [(2, .ptr 68802 0 0), (3, j6 0), (4, j6 0), (5, j6 0), (23, .agg [eb (0 : UInt8), .str ([] : List UInt8), .nl]), (24, .ptr 700970 0 0), (28, j6 EA.2.2.1)], AX [(68802, ⟨3, false, [.agg [eb (0 : UInt8), .str ([] : List UInt8), .nl]]⟩), (700970, ⟨2, false, [BG EA.2.2.2]⟩)]⟩ ⟨AX [(2, .ptr 68802 0 0), (3, j6 0), (4, j6 EA.2.2.2.at_), (5, j6 EA.2.2.1)], AX [(68802, ⟨3, false, [.agg [eb (0 : UInt8), .str ([] : List UInt8), .nl]]⟩)]⟩ := by
  refine yc (l := [2, 6]) rfl nofun ⟨⟨_, rfl, ?_⟩, ⟨_, rfl, ?_⟩, trivial⟩
  refine wq rfl ?_
  exact AnyW.of zU rfl (cq rfl)
  refine EC (e' := .agg [eb (0 : UInt8), .str ([] : List UInt8), .nl]) rfl rfl rfl rfl rfl rfl rfl rfl nofun rfl ?_
  exact AnyW.of p8 rfl (cq rfl)
 have Ag : AnyW Tryz.prog (fun _ => false) EG EF 7 [0, 1, 6] ⟨AX [(2, .ptr 68802 0 0), (3, j6 0), (4, j6 0), (5, j6 0), (9, j6 EA.2.2.1), (24, .ptr 700970 0 0)], AX [(68802, ⟨3, false, [.agg [eb (0 : UInt8), .str ([] : List UInt8), .nl]]⟩), (700970, ⟨2, false, [BG EA.2.2.2]⟩)]⟩ ⟨AX [(2, .ptr 68802 0 0), (3, j6 0), (4, j6 EA.2.2.2.at_), (5, j6 EA.2.2.1)], AX [(68802, ⟨3, false, [.agg [eb (0 : UInt8), .str ([] : List UInt8), .nl]]⟩)]⟩ := by
  refine yc (l := [2, 5, 7]) rfl nofun ⟨⟨_, rfl, ?_⟩, ⟨_, rfl, ?_⟩, ⟨_, rfl, ?_⟩, trivial⟩
  refine wq rfl ?_
  exact AnyW.of Ae rfl (cq rfl)
  refine wq rfl ?_
  exact AnyW.of p8 rfl (cq rfl)
  refine wq rfl ?_
  exact AnyW.of Ab rfl (cq rfl)
 have Af : AnyW Tryz.prog (fun _ => false) EG EF 7 [0, 5, 6] ⟨AX [(2, .ptr 68802 0 0), (3, j6 0), (4, j6 0), (5, j6 0), (6, .ptr 700970 0 0), (28, j6 EA.2.2.1)], AX [(68802, ⟨3, false, [.agg [eb (0 : UInt8), .str ([] : List UInt8), .nl]]⟩), (700970, ⟨2, false, [BG EA.2.2.2]⟩)]⟩ ⟨AX [(2, .ptr 68802 0 0), (3, j6 0), (4, j6 EA.2.2.2.at_), (5, j6 EA.2.2.1)], AX [(68802, ⟨3, false, [.agg [eb (0 : UInt8), .str ([] : List UInt8), .nl]]⟩)]⟩ := by
  refine yc (l := [1, 7]) rfl nofun ⟨⟨_, rfl, ?_⟩, ⟨_, rfl, ?_⟩, trivial⟩
  refine wq rfl ?_
  exact AnyW.of p8 rfl (cq rfl)
  refine wq rfl ?_
  exact AnyW.of Aa rfl (cq rfl)
 have Me : AnyW Tryz.prog (fun _ => false) EG EF 7 [0, 6, 7] ⟨AX [(2, .ptr 68802 0 0), (3, j6 0), (4, j6 0), (5, j6 0), (6, .ptr 700970 0 0), (9, j6 EA.2.2.1)], AX [(68802, ⟨3, false, [.agg [eb (0 : UInt8), .str ([] : List UInt8), .nl]]⟩), (700970, ⟨2, false, [BG EA.2.2.2]⟩)]⟩ ⟨AX [(2, .ptr 68802 0 0), (3, j6 0), (4, j6 EA.2.2.2.at_), (5, j6 EA.2.2.1)], AX [(68802, ⟨3, false, [.agg [eb (0 : UInt8), .str ([] : List UInt8), .nl]]⟩)]⟩ := by
  refine yc (l := [1, 5]) rfl nofun ⟨⟨_, rfl, ?_⟩, ⟨_, rfl, ?_⟩, trivial⟩
  refine wq rfl ?_
  exact AnyW.of Ab rfl (cq rfl)
  refine wq rfl ?_
  exact AnyW.of Aa rfl (cq rfl)
 have Fx : AnyW Tryz.prog (fun _ => false) EG EF 8 [0, 1] ⟨AX [(2, .ptr 68802 0 0), (3, j6 0), (4, j6 0), (5, j6 0), (9, j6 EA.2.2.1), (23, .agg [eb (0 : UInt8), .str ([] : List UInt8), .nl]), (24, .ptr 700970 0 0)], AX [(68802, ⟨3, false, [.agg [eb (0 : UInt8), .str ([] : List UInt8), .nl]]⟩), (700970, ⟨2, false, [BG EA.2.2.2]⟩)]⟩ ⟨AX [(2, .ptr 68802 0 0), (3, j6 0), (4, j6 EA.2.2.2.at_), (5, j6 EA.2.2.1)], AX [(68802, ⟨3, false, [.agg [eb (0 : UInt8), .str ([] : List UInt8), .nl]]⟩)]⟩ := by
  refine yc (l := [2, 5, 6]) rfl nofun ⟨⟨_, rfl, ?_⟩, ⟨_, rfl, ?_⟩, ⟨_, rfl, ?_⟩, trivial⟩
  refine wq rfl ?_
  exact AnyW.of Fv rfl (cq rfl)
  refine wq rfl ?_
  exact AnyW.of zV rfl (cq rfl)
  refine EC (e' := .agg [eb (0 : UInt8), .str ([] : List UInt8), .nl]) rfl rfl rfl rfl rfl rfl rfl rfl nofun rfl ?_
  exact AnyW.of Ag rfl (cq rfl)
 have Fw : AnyW Tryz.prog (fun _ => false) EG EF 8 [0, 5] ⟨AX [(2, .ptr 68802 0 0), (3, j6 0), (4, j6 0), (5, j6 0), (6, .ptr 700970 0 0), (23, .agg [eb (0 : UInt8), .str ([] : List UInt8), .nl]), (28, j6 EA.2.2.1)], AX [(68802, ⟨3, false, [.agg [eb (0 : UInt8), .str ([] : List UInt8), .nl]]⟩), (700970, ⟨2, false, [BG EA.2.2.2]⟩)]⟩ ⟨AX [(2, .ptr 68802 0 0), (3, j6 0), (4, j6 EA.2.2.2.at_), (5, j6 EA.2.2.1)], AX [(68802, ⟨3, false, [.agg [eb (0 : UInt8), .str ([] : List UInt8), .nl]]⟩)]⟩ := by
  refine yc (l := [1, 6]) rfl nofun ⟨⟨_, rfl, ?_⟩, ⟨_, rfl, ?_⟩, trivial⟩
  refine wq rfl ?_
  exact AnyW.of zV rfl (cq rfl)
  refine EC (e' := .agg [eb (0 : UInt8), .str ([] : List UInt8), .nl]) rfl rfl rfl rfl rfl rfl rfl rfl nofun rfl ?_
  exact AnyW.of Af rfl (cq rfl)
 have Mf : AnyW Tryz.prog (fun _ => false) EG EF 8 [0, 6] ⟨AX [(2, .ptr 68802 0 0), (3, j6 0), (4, j6 0), (5, j6 0), (6, .ptr 700970 0 0), (9, j6 EA.2.2.1)], AX [(68802, ⟨3, false, [.agg [eb (0 : UInt8), .str ([] : List UInt8), .nl]]⟩), (700970, ⟨2, false, [BG EA.2.2.2]⟩)]⟩ ⟨AX [(2, .ptr 68802 0 0), (3, j6 0), (4, j6 EA.2.2.2.at_), (5, j6 EA.2.2.1)], AX [(68802, ⟨3, false, [.agg [eb (0 : UInt8), .str ([] : List UInt8), .nl]]⟩)]⟩ := by
  refine yc (l := [1, 5, 7]) rfl nofun ⟨⟨_, rfl, ?_⟩, ⟨_, rfl, ?_⟩, ⟨_, rfl, ?_⟩, trivial⟩
  refine wq rfl ?_
  exact AnyW.of Ag rfl (cq rfl)
  refine wq rfl ?_
  exact AnyW.of Af rfl (cq rfl)
  refine wq rfl ?_
  exact AnyW.of Me rfl (cq rfl)
 have a11_0 : AnyW Tryz.prog (fun _ => false) EG EF 9 [0] ⟨AX [(2, .ptr 68802 0 0), (3, j6 0), (4, j6 0), (5, j6 0), (6, .ptr 700970 0 0), (9, j6 EA.2.2.1), (23, .agg [eb (0 : UInt8), .str ([] : List UInt8), .nl])], AX [(68802, ⟨3, false, [.agg [eb (0 : UInt8), .str ([] : List UInt8), .nl]]⟩), (700970, ⟨2, false, [BG EA.2.2.2]⟩)]⟩ ⟨AX [(2, .ptr 68802 0 0), (3, j6 0), (4, j6 EA.2.2.2.at_), (5, j6 EA.2.2.1)], AX [(68802, ⟨3, false, [.agg [eb (0 : UInt8), .str ([] : List UInt8), .nl]]⟩)]⟩ := by
  refine yc (l := [1, 5, 6]) rfl nofun ⟨⟨_, rfl, ?_⟩, ⟨_, rfl, ?_⟩, ⟨_, rfl, ?_⟩, trivial⟩
  refine wq rfl ?_
  exact AnyW.of Fx rfl (cq rfl)
  refine wq rfl ?_
  exact AnyW.of Fw rfl (cq rfl)
  refine EC (e' := .agg [eb (0 : UInt8), .str ([] : List UInt8), .nl]) rfl rfl rfl rfl rfl rfl rfl rfl nofun rfl ?_
  exact AnyW.of Mf rfl (cq rfl)
 exact ⟨⟨4, AnyW.of zS rfl (cq rfl)⟩, ⟨5, AnyW.of Fs rfl (cq rfl)⟩, ⟨5, AnyW.of zT rfl (cq rfl)⟩, ⟨6, AnyW.of Fu rfl (cq rfl)⟩, ⟨6, AnyW.of zU rfl (cq rfl)⟩, ⟨7, AnyW.of Fv rfl (cq rfl)⟩, ⟨7, AnyW.of zV rfl (cq rfl)⟩, ⟨8, AnyW.of Fx rfl (cq rfl)⟩, ⟨8, AnyW.of Fw rfl (cq rfl)⟩, ⟨9, AnyW.of a11_0 rfl (cq rfl)⟩, trivial⟩
 cases AP h
 refine F4 (st1 := ⟨AX [(2, .ptr 68802 0 0), (3, j6 0), (4, j6 EA.2.2.2.at_), (5, j6 EA.2.2.1)], AX [(68802, ⟨3, false, [A9 (⟨(0 : UInt8), ([] : List UInt8), []⟩ : A7)]⟩)]⟩) (BX.trans (nC 68802 (x := .agg [eb (0 : UInt8), .str ([] : List UInt8), .nl]) (y := .agg [eb ((⟨(0 : UInt8), ([] : List UInt8), []⟩ : A7).Tag), .str ((⟨(0 : UInt8), ([] : List UInt8), []⟩ : A7).Body), .sl 3 ((⟨(0 : UInt8), ([] : List UInt8), []⟩ : A7).Kids)]) (.cons A8 (.cons A8 (.cons (FM 3) .nil))) rfl rfl) (cq rfl)) ?_
 exact ⟨nofun, rfl, rfl⟩
 refine BH (AA (AB ?_))
 refine AY (p := A9 EA.1) rfl rfl ?_
 refine wq rfl ?_
 refine EC (e' := A9 EA.1) rfl rfl rfl rfl rfl rfl rfl rfl nofun rfl ?_
 iterate 3 refine wq rfl ?_
 cases AP h
 refine BZ ?_
 exact ⟨nofun, rfl, rfl⟩
def qI : IC := (.seq (.reg [jb .lss 24 23 22]) (.seq (.cond (.t 24) .skip (.exit 4)) (.seq (.block 5 (.seq (.reg [jx 25 1 21 23, jl 26 1 25, jm 6 26]) (.reg [jm 27 4, jn 28 (.bin .shl (.t 27) (.c (.int .u64 8))), jm 29 6, jn 30 (.cvi .i64 (.t 29)), jb .or 31 28 30, jm 4 31]))) (.reg [ju .add 32 23 1, jm 23 32]))))
def k44 : IC := (.seq (.reg [jc 2 (j6 0), jc 3 (.bool false)]) (.seq (.reg [jc 4 (j6 0)]) (.seq (.block 0 (.seq (.block 3 (.seq (.block 2 (.seq (.block 1 (.seq (.seq (.seq (.reg [jm 8 0, jn 9 (.bin .eql (.t 8) (.c (.str []))), jm 10 9, jf 10 11 (.mov (.t 0)), jf 10 12 (.len true (.t 11)), jf 10 13 (.bin .gtr (.t 12) (ji 8)), jo 14 10 13, jm 7 14]) (.cond (.t 7) (.exit 1) .skip)) (.seq (.reg [jm 16 0, jn 17 (.idxs (.t 16) (ji 0)), jn 18 (.bin .and (.t 17) (.c (.int .u8 128))), jn 19 (.bin .neq (.t 18) (.c (.int .u8 0))), jm 15 19]) (.cond (.t 15) (.exit 2) .skip))) (.exit 3))) (.seq (.seq (.reg [jc 2 (j6 0), jc 3 (.bool false)]) .ret) (.exit 0)))) (.reg [jc 4 (j6 (-1))]))) (.seq (.seq (.reg [jm 20 0, jn 21 (.cvs (.t 20)), jL 22 21, jc 23 (j6 0)]) (.block 4 (.loop qI))) (.exit 0)))) (.seq (.seq (.reg [jm 33 4, jn 34 (.call 46 [(.t 33)]), jm 35 0, jb .neq 36 34 35]) (.cond (.t 36) (.seq (.reg [jc 2 (j6 0), jc 3 (.bool false)]) .ret) .skip)) (.seq (.reg [jm 37 4, jm 2 37, jc 3 (.bool true)]) .ret)))))
theorem Jg : C9 Tryz.prog Tryz.f44 = some ⟨38, k44, [(.tmp 2), (.tmp 3)]⟩ := by kernel_rfl
theorem WA (N : Nat) (a0 : List UInt8) : ∀ (n : Nat) (x : Int × Int) (y : Int), K6 N a0 n x = some y → WX Tryz.prog (fun _ => false) (.loop qI) ((fun (x : Int × Int) => ⟨AX [(0, .str a0), (4, j6 x.1), (21, .slr 70421 0 a0.length), (22, j6 (a0.length : Int)), (23, j6 x.2)], AX [(70421, ⟨1, true, List.map eb a0⟩)]⟩) x) ((fun y e s => e = .exit 4 ∧ s = ⟨AX [(0, .str a0), (4, j6 y)], AX []⟩ : Int → Xt → St → Prop) y) := by
 refine FB _ _ (K6 N a0) (PP N a0) (fun _ => rfl) (fun _ _ => rfl) ?_
 rintro rec ⟨fH, YR⟩ y h
 refine AA (AB ?_)
 refine wq rfl ?_
 refine AA ?_
 refine EN h rfl (fun c1 h => ?_) (fun c1 h => ?_)
 refine BH (AA (CS (AA (AB ?_))))
 obtain ⟨x25, hx25, h⟩ := AQ h
 refine AY rfl (QJ hx25 rfl rfl rfl rfl) ?_
 obtain ⟨J2, j3, h⟩ := AQ h
 refine AY rfl (V3 (f := eb) (v := eb J2) j3 rfl rfl rfl) ?_
 refine wq rfl ?_
 refine AB ?_
 refine wq rfl ?_
 refine AY rfl (El (by decide) rfl rfl) ?_
 refine wq rfl ?_
 refine AY rfl (nG (a := J2) rfl) ?_
 refine AY (p := j6 (iop .or .i64 (mY fH 8) ((J2).toNat : Int))) rfl rfl ?_
 refine wq rfl ?_
 refine AB ?_
 refine AY (p := j6 (CE (YR + (1 : Int)))) rfl rfl ?_
 refine wq rfl ?_
 exact ⟨((iop .or .i64 (mY fH 8) ((J2).toNat : Int)), (CE (YR + (1 : Int)))), (cq rfl), h⟩
 obtain rfl := AP h
 exact ED (st1 := ⟨AX [(0, .str a0), (4, j6 fH)], AX []⟩) (cq rfl) ⟨rfl, rfl⟩
theorem RA (N : Nat) (a0 : List UInt8) (r : Int × Bool) (h : RU N a0 = some r) : Sat Tryz.prog 44 AC [.str a0] (.tup [j6 r.1, .bool r.2]) AC := by
 refine EO mixed Tryz.func44 Jg (rs := [j6 r.1, .bool r.2]) rfl rfl ?_
 refine AA (AB ?_)
 iterate 2 refine wq rfl ?_
 refine AA (AB ?_)
 refine wq rfl ?_
 refine AA (CS ?_)
 refine R6 (fun (x : Int) => ⟨AX [(0, .str a0), (4, j6 x)], AX []⟩) (fun x => OA a0 N x = some r) ?_ ?_
 rintro v4j6 h
 iterate 2 refine AA ?_
 refine AB ?_
 refine wq rfl ?_
 refine CX rfl (nH 70421 rfl rfl) ?_
 iterate 2 refine wq rfl ?_
 refine CS ?_
 obtain ⟨y2, hy2, h⟩ := AQ h
 refine R5 (WA N a0 N _ _ hy2) (cq rfl) ?_
 rintro e s ⟨rfl, rfl⟩
 refine O7 ?_
 iterate 2 refine AA ?_
 refine AB ?_
 refine wq rfl ?_
 obtain ⟨x34, hx34, h⟩ := AQ h
 refine CX rfl (CZ (WF N _ _ hx34) rfl (.cons A8 .nil) rfl rfl rfl) ?_
 iterate 2 refine wq rfl ?_
 refine EN h rfl (fun c3 h => ?_) (fun c3 h => ?_)
 refine AA (AB ?_)
 iterate 2 refine wq rfl ?_
 cases AP h
 refine BZ ?_
 exact ⟨nofun, rfl, rfl⟩
 refine BH (AA (AB ?_))
 iterate 3 refine wq rfl ?_
 cases AP h
 refine BZ ?_
 exact ⟨nofun, rfl, rfl⟩
 refine CS (AA (CS (AA (CS ?_))))
 iterate 2 refine AA ?_
 obtain ⟨g4, hg4, h⟩ := AQ h
 refine GV ⟨AX [(0, .str a0), (4, j6 0), (7, .bool g4)], AX []⟩ ?_ ?_
 have h := hg4
 refine AB ?_
 iterate 3 refine wq rfl ?_
 rcases D7 h with ⟨c5, h⟩ | ⟨c5, h⟩
 iterate 3 refine D8 (gn rfl c5) ?_
 refine AY rfl (BF c5 rfl rfl) ?_
 refine wq rfl ?_
 obtain rfl := AP h
 exact cq rfl
 iterate 3 refine AY (gy rfl c5) rfl ?_
 refine AY rfl (BD c5 rfl rfl) ?_
 refine wq rfl ?_
 cases AP h
 exact cq rfl
 clear hg4
 refine EN h rfl (fun c6 h => ?_) (fun c6 h => ?_)
 refine O7 ?_
 iterate 2 refine AA ?_
 refine AB ?_
 iterate 2 refine wq rfl ?_
 cases AP h
 refine BZ ?_
 exact ⟨nofun, rfl, rfl⟩
 refine BH (AA (AB ?_))
 refine wq rfl ?_
 obtain ⟨EA, U3, h⟩ := AQ h
 refine AY rfl (P6 U3 rfl rfl) ?_
 refine AY rfl (VO (a := EA) (b := (128 : UInt8)) rfl rfl) ?_
 refine AY (p := .bool ((((EA &&& (128 : UInt8))).toNat : Int) != (0 : Int))) rfl rfl ?_
 refine wq rfl ?_
 refine EN h rfl (fun c7 h => ?_) (fun c7 h => ?_)
 refine O7 ?_
 refine AB ?_
 refine wq rfl ?_
 exact ⟨(-1), (cq rfl), h⟩
 refine BH ?_
 refine O7 ?_
 exact ⟨0, (cq rfl), h⟩
def xC : IC := (.seq (.seq (.reg [jm 22 7, jm 23 1, ju .sub 24 23 1, jb .lss 25 22 24]) (.cond (.t 25) .skip (.exit 0))) (.seq (.block 1 (.seq (.reg [jm 29 0, jn 30 (.call 124 [(.t 29)]), jm 28 30, je 31 0 28, je 32 1 28, jm 8 31, jm 9 32]) (.seq (.reg [jm 33 6, jm 34 7, jm 35 0, jm 36 9, jn 37 (.slcs (.t 35) none (some (.t 36))), jx 38 1 33 34, js 1 38 37]) (.reg [jm 39 0, jm 40 9, jn 41 (.slcs (.t 39) (some (.t 40)) none), jm 0 41])))) (.reg [jm 26 7, ju .add 27 26 1, jm 7 27])))
def k100 : IC := (.seq (.reg [jc 4 .nl]) (.seq (.reg [jm 10 0, jn 11 (.call 123 [(.t 10)]), jm 5 11]) (.seq (.seq (.reg [jm 12 1, ju .lss 13 12 0, jm 14 13, jf 14 15 (.mov (.t 1)), jf 14 16 (.mov (.t 5)), jf 14 17 (.bin .gtr (.t 15) (.t 16)), jo 18 14 17]) (.cond (.t 18) (.reg [jm 19 5, jm 1 19]) .skip)) (.seq (.reg [jm 20 1, jn 21 (.mks 1 16 (.str []) (.t 20)), jm 6 21]) (.seq (.seq (.reg [jc 7 (j6 0)]) (.block 0 (.loop xC))) (.seq (.seq (.reg [jm 42 1, ju .gtr 43 42 0]) (.cond (.t 43) (.reg [jm 44 6, jm 45 1, ju .sub 46 45 1, jm 47 0, jx 48 1 44 46, js 1 48 47]) .skip)) (.seq (.reg [jm 49 6, jm 4 49]) .ret)))))))
theorem Cx : C9 Tryz.prog Tryz.f100 = some ⟨50, k100, [(.tmp 4)]⟩ := by kernel_rfl
theorem WB (N : Nat) (a0 : List UInt8) (a1 : Int) (r : List (List UInt8)) (h : UB N a0 a1 = some r) : Sat Tryz.prog 100 AC [.str a0, j6 a1] (.sl 1 (List.map PV.str r)) AC := by
 refine EO mixed Tryz.func100 Cx (rs := [.sl 1 (List.map PV.str r)]) rfl rfl ?_
 refine AA (AB ?_)
 refine wq rfl ?_
 refine AA (AB ?_)
 refine wq rfl ?_
 cases h
def k102 : IC := (.seq (.reg [jc 4 (j6 0)]) (.seq (.reg [jm 5 0, jm 6 1, jn 7 (.call 126 [(.t 5), (.t 6)]), jm 4 7]) .ret))
theorem Cw : C9 Tryz.prog Tryz.f102 = some ⟨8, k102, [(.tmp 4)]⟩ := by kernel_rfl
theorem XT (N : Nat) (a0 : List UInt8) (a1 : List UInt8) (r : Int) (h : strings_Index N a0 a1 = some r) : Sat Tryz.prog 102 AC [.str a0, .str a1] (j6 r) AC := by
 refine EO mixed Tryz.func102 Cw (rs := [j6 r]) rfl rfl ?_
 refine AA (AB ?_)
 refine wq rfl ?_
 refine AA (AB ?_)
 iterate 2 refine wq rfl ?_
 obtain ⟨x7, hx7, h⟩ := AQ h
 refine CX rfl (CZ (O8 N _ _ _ hx7) rfl (.cons A8 (.cons A8 .nil)) rfl rfl rfl) ?_
 refine wq rfl ?_
 obtain rfl := AP h
 refine BZ ?_
 exact ⟨nofun, rfl, rfl⟩
def qE : IC := (.seq (.seq (.reg [jm 34 10, jm 35 3, jb .lss 36 34 35]) (.cond (.t 36) .skip (.exit 0))) (.block 1 (.seq (.reg [jm 37 0, jm 38 1, jn 39 (.call 102 [(.t 37), (.t 38)]), jm 11 39]) (.seq (.seq (.reg [jm 40 11, ju .lss 41 40 0]) (.cond (.t 41) (.exit 0) .skip)) (.seq (.reg [jm 42 9, jm 43 10, jm 44 0, jm 45 11, jm 46 2, jb .add 47 45 46, jn 48 (.slcs (.t 44) none (some (.t 47))), jx 49 1 42 43, js 1 49 48]) (.seq (.reg [jm 50 0, jm 51 11, jm 52 1, jS 53 52, jb .add 54 51 53, jn 55 (.slcs (.t 50) (some (.t 54)) none), jm 0 55]) (.reg [jm 56 10, ju .add 57 56 1, jm 10 57])))))))
def k87 : IC := (.seq (.reg [jc 8 .nl]) (.seq (.seq (.reg [jm 12 3, ju .eql 13 12 0]) (.cond (.t 13) (.seq (.reg [jc 8 .nl]) .ret) .skip)) (.seq (.seq (.reg [jm 14 1, jn 15 (.bin .eql (.t 14) (.c (.str [])))]) (.cond (.t 15) (.seq (.reg [jm 16 0, jm 17 3, jn 18 (.call 100 [(.t 16), (.t 17)]), jm 8 18]) .ret) .skip)) (.seq (.seq (.reg [jm 19 3, ju .lss 20 19 0]) (.cond (.t 20) (.reg [jm 21 0, jm 22 1, jn 23 (.call 101 [(.t 21), (.t 22)]), ju .add 24 23 1, jm 3 24]) .skip)) (.seq (.reg [jm 25 3, jm 26 0, jS 27 26, ju .add 28 27 1, jn 29 (.mm false (.t 25) [(.t 28)]), jm 3 29]) (.seq (.reg [jm 30 3, jn 31 (.mks 1 16 (.str []) (.t 30)), jm 9 31]) (.seq (.reg [jm 32 3, ju .sub 33 32 1, jm 3 33]) (.seq (.reg [jc 10 (j6 0)]) (.seq (.block 0 (.loop qE)) (.seq (.reg [jm 58 9, jm 59 10, jm 60 0, jx 61 1 58 59, js 1 61 60]) (.seq (.reg [jm 62 9, jm 63 10, ju .add 64 63 1, jn 65 (.slcl 1 (.t 62) none (some (.t 64))), jm 8 65]) .ret)))))))))))
theorem Ho : C9 Tryz.prog Tryz.f87 = some ⟨66, k87, [(.tmp 8)]⟩ := by kernel_rfl
theorem TK (N : Nat) (a0 : List UInt8) (a1 : List UInt8) (a2 : Int) (PQ : Int) : ∀ (n : Nat) (x : List UInt8 × Int × List (List UInt8)) (y : List UInt8 × Int × List (List UInt8)), IL N a0 a1 a2 PQ n x = some y → WX Tryz.prog (fun _ => false) (.loop qE) ((fun (x : List UInt8 × Int × List (List UInt8)) => ⟨AX [(0, .str x.1), (1, .str a1), (2, j6 a2), (3, j6 (CE ((mn PQ (CE ((a0.length : Int) + (1 : Int)))) - (1 : Int)))), (9, .slr 139231 0 x.2.2.length), (10, j6 x.2.1)], AX [(139231, ⟨1, true, List.map PV.str x.2.2⟩)]⟩) x) ((fun y e s => e = .exit 0 ∧ s = ⟨AX [(0, .str y.1), (9, .slr 139231 0 y.2.2.length), (10, j6 y.2.1)], AX [(139231, ⟨1, true, List.map PV.str y.2.2⟩)]⟩ : (List UInt8 × Int × List (List UInt8)) → Xt → St → Prop) y) := by
 refine FB _ _ (IL N a0 a1 a2 PQ) (NM N a0 a1 a2 PQ) (fun _ => rfl) (fun _ _ => rfl) ?_
 rintro rec ⟨ZM, RX, G6⟩ y h
 iterate 2 refine AA ?_
 refine AB ?_
 iterate 3 refine wq rfl ?_
 refine EN h rfl (fun c3 h => ?_) (fun c3 h => ?_)
 refine BH (CS (AA (AB ?_)))
 iterate 2 refine wq rfl ?_
 obtain ⟨x39, hx39, h⟩ := AQ h
 refine CX rfl (CZ (XT N _ _ _ hx39) rfl (.cons A8 (.cons A8 .nil)) rfl rfl rfl) ?_
 refine wq rfl ?_
 iterate 2 refine AA ?_
 refine AB ?_
 iterate 2 refine wq rfl ?_
 refine EN h rfl (fun c4 h => ?_) (fun c4 h => ?_)
 cases AP h
 exact ED (st1 := ⟨AX [(0, .str ZM), (9, .slr 139231 0 G6.length), (10, j6 RX)], AX [(139231, ⟨1, true, List.map PV.str G6⟩)]⟩) (cq rfl) ⟨rfl, rfl⟩
 refine BH (AA (AB ?_))
 iterate 5 refine wq rfl ?_
 refine AY (p := j6 (CE (x39 + a2))) rfl rfl ?_
 obtain ⟨mJ, nV, h⟩ := AQ h
 refine AY rfl (iP nV rfl rfl) ?_
 obtain ⟨aA, xQ, h⟩ := AQ h
 refine AY rfl (QJ xQ rfl rfl rfl rfl) ?_
 obtain ⟨uN, nU, h⟩ := AQ h
 refine Ar (f := PV.str) (e' := mJ) nU rfl rfl rfl rfl rfl rfl rfl rfl (fun _ => rfl) rfl ?_
 refine AA (AB ?_)
 iterate 4 refine wq rfl ?_
 refine AY (p := j6 (CE (x39 + (a1.length : Int)))) rfl rfl ?_
 obtain ⟨x55, Kt, h⟩ := AQ h
 refine AY rfl (bW Kt rfl rfl) ?_
 refine wq rfl ?_
 refine AB ?_
 refine wq rfl ?_
 refine AY (p := j6 (CE (RX + (1 : Int)))) rfl rfl ?_
 refine wq rfl ?_
 exact ⟨(x55, (CE (RX + (1 : Int))), (G6.set aA mJ)), (BX.trans (KS 9 (GG (congrArg (PV.slr 139231 0) (by simp only [List.length_set, List.length_replicate] : G6.length = (G6.set aA mJ).length))) rfl) (cq rfl)), h⟩
 cases AP h
 exact ED (st1 := ⟨AX [(0, .str ZM), (9, .slr 139231 0 G6.length), (10, j6 RX)], AX [(139231, ⟨1, true, List.map PV.str G6⟩)]⟩) (cq rfl) ⟨rfl, rfl⟩
theorem UX (N : Nat) (a0 : List UInt8) (a1 : List UInt8) (a2 : Int) (a3 : Int) (r : List (List UInt8)) (h : strings_genSplit N a0 a1 a2 a3 = some r) : Sat Tryz.prog 87 AC [.str a0, .str a1, j6 a2, j6 a3] (.sl 1 (List.map PV.str r)) AC := by
 refine EO mixed Tryz.func87 Ho (rs := [.sl 1 (List.map PV.str r)]) rfl rfl ?_
 refine AA (AB ?_)
 refine wq rfl ?_
 iterate 2 refine AA ?_
 refine AB ?_
 iterate 2 refine wq rfl ?_
 refine EN h rfl (fun c1 h => ?_) (fun c1 h => ?_)
 refine AA (AB ?_)
 refine wq rfl ?_
 cases AP h
 refine F4 (st1 := ⟨AX [(8, .sl 1 (List.map PV.str []))], AX []⟩) (BX.trans (KS 8 (FM 1) rfl) (cq rfl)) ?_
 exact ⟨nofun, rfl, rfl⟩
 refine BH ?_
 iterate 2 refine AA ?_
 refine AB ?_
 iterate 2 refine wq rfl ?_
 refine EN h rfl (fun c2 h => ?_) (fun c2 h => ?_)
 refine AA (AB ?_)
 iterate 2 refine wq rfl ?_
 obtain ⟨aB, j4, h⟩ := AQ h
 refine CX rfl (CZ (WB N _ _ _ j4) rfl (.cons A8 (.cons A8 .nil)) rfl rfl rfl) ?_
 refine wq rfl ?_
 obtain rfl := AP h
 refine BZ ?_
 exact ⟨nofun, rfl, rfl⟩
 refine BH ?_
 refine R6 (fun (x : Int) => ⟨AX [(0, .str a0), (1, .str a1), (2, j6 a2), (3, j6 x)], AX []⟩) (fun x => KD a0 a1 a2 N x = some r) ?_ ?_
 rintro PQ h
 refine AA (AB ?_)
 iterate 3 refine wq rfl ?_
 refine AY (p := j6 (CE ((a0.length : Int) + (1 : Int)))) rfl rfl ?_
 refine AY (p := j6 (mn PQ (CE ((a0.length : Int) + (1 : Int))))) rfl rfl ?_
 refine wq rfl ?_
 refine AA (AB ?_)
 refine wq rfl ?_
 obtain ⟨x31, hx31, h⟩ := AQ h
 refine wmks (f := PV.str) (e := ([] : List UInt8)) 139231 hx31 rfl rfl rfl rfl rfl rfl ?_
 refine wq rfl ?_
 refine AA (AB ?_)
 refine wq rfl ?_
 refine AY (p := j6 (CE ((mn PQ (CE ((a0.length : Int) + (1 : Int)))) - (1 : Int)))) rfl rfl ?_
 refine wq rfl ?_
 refine AA (AB ?_)
 refine wq rfl ?_
 refine AA (CS ?_)
 obtain ⟨y6, rA, h⟩ := AQ h
 refine R5 (TK N a0 a1 a2 PQ N _ _ rA) (BX.trans (KS 9 (GG (congrArg (PV.slr 139231 0) (by simp only [List.length_set, List.length_replicate] : x31 = (List.replicate x31 ([] : List UInt8)).length))) rfl) (cq rfl)) ?_
 rintro e s ⟨rfl, rfl⟩
 refine AA (AB ?_)
 iterate 3 refine wq rfl ?_
 obtain ⟨Ga, Kr, h⟩ := AQ h
 refine AY rfl (QJ Kr rfl rfl rfl rfl) ?_
 obtain ⟨uM, nT, h⟩ := AQ h
 refine Ar (f := PV.str) (e' := y6.1) nT rfl rfl rfl rfl rfl rfl rfl rfl (fun _ => rfl) rfl ?_
 refine AA (AB ?_)
 iterate 2 refine wq rfl ?_
 refine AY (p := j6 (CE (y6.2.1 + (1 : Int)))) rfl rfl ?_
 obtain ⟨pE, sZ, h⟩ := AQ h
 refine AY rfl (Bq sZ rfl (by simp only [List.length_set, List.length_replicate]) rfl rfl rfl) ?_
 refine wq rfl ?_
 obtain rfl := AP h
 refine F4 (st1 := ⟨AX [(8, .sl 1 (List.map PV.str pE))], AX []⟩) (BX.trans (Vd.freeze 139231 _ rfl rfl rfl) (BX.trans (KS 8 (GG (congrArg (PV.sl 1) (vC sZ))) rfl) (cq rfl))) ?_
 exact ⟨nofun, rfl, rfl⟩
 refine AA (AB ?_)
 iterate 2 refine wq rfl ?_
 refine EN h rfl (fun c8 h => ?_) (fun c8 h => ?_)
 refine AB ?_
 iterate 2 refine wq rfl ?_
 obtain ⟨iB, nX, h⟩ := AQ h
 refine CX rfl (CZ (XU N _ _ _ nX) rfl (.cons A8 (.cons A8 .nil)) rfl rfl rfl) ?_
 refine AY (p := j6 (CE (iB + (1 : Int)))) rfl rfl ?_
 refine wq rfl ?_
 exact ⟨(CE (iB + (1 : Int))), (cq rfl), h⟩
 refine BH ?_
 exact ⟨a3, (cq rfl), h⟩
def k65 : IC := (.seq (.reg [jc 4 .nl]) (.seq (.reg [jm 5 0, jm 6 1, jn 7 (.call 87 [(.t 5), (.t 6), (ji 0), (ji (-1))]), jm 4 7]) .ret))
theorem Ij : C9 Tryz.prog Tryz.f65 = some ⟨8, k65, [(.tmp 4)]⟩ := by kernel_rfl
theorem XR (N : Nat) (a0 : List UInt8) (a1 : List UInt8) (r : List (List UInt8)) (h : strings_Split N a0 a1 = some r) : Sat Tryz.prog 65 AC [.str a0, .str a1] (.sl 1 (List.map PV.str r)) AC := by
 refine EO mixed Tryz.func65 Ij (rs := [.sl 1 (List.map PV.str r)]) rfl rfl ?_
 refine AA (AB ?_)
 refine wq rfl ?_
 refine AA (AB ?_)
 iterate 2 refine wq rfl ?_
 obtain ⟨x7, hx7, h⟩ := AQ h
 refine CX rfl (CZ (UX N _ _ _ _ _ hx7) rfl (.cons A8 (.cons A8 (.cons A8 (.cons A8 .nil)))) rfl rfl rfl) ?_
 refine wq rfl ?_
 obtain rfl := AP h
 refine BZ ?_
 exact ⟨nofun, rfl, rfl⟩
def qH : IC := (.seq (.reg [jb .lss 20 19 18]) (.seq (.cond (.t 20) .skip (.exit 0)) (.seq (.block 1 (.seq (.reg [jm 21 19, jx 22 1 17 19, jl 23 1 22, jm 6 21, jm 7 23]) (.seq (.reg [jm 25 7, jn 26 (.call 66 [(.t 25), (ji 10), (ji 64)]), jm 24 26, je 27 0 24, je 28 1 24, jm 8 27, jm 9 28]) (.seq (.seq (.reg [jm 29 9, jn 30 (.eqi true (.t 29)), jm 31 30, jf 31 32 (.mov (.t 8)), jf 31 33 (.bin .lss (.t 32) (ji 0)), jo 34 31 33, jm 35 34, jf 35 36 (.mov (.t 8)), jf 35 37 (.bin .gtr (.t 36) (ji 1099511627776)), jo 38 35 37]) (.cond (.t 38) (.seq (.reg [jn 39 (.build [(j6 0), (j6 0), (j6 0)] []), js 3 2 39, jc 3 (j6 14)]) .ret) .skip)) (.reg [jm 40 6, jm 41 8, jn 42 (.ixq 3 1 (.t 5) (.t 40)), js 1 42 41]))))) (.reg [ju .add 43 19 1, jm 19 43]))))
def k45 : IC := (.seq (.reg [jn 2 (.box 23 (.c (.agg [(j6 0), (j6 0), (j6 0)]))), jc 3 (j6 0)]) (.seq (.reg [jm 11 0, jn 12 (.call 65 [(.t 11), (.c (.str [46]))]), jm 4 12]) (.seq (.seq (.reg [jm 13 4, jL 14 13, ju .neq 15 14 3]) (.cond (.t 15) (.seq (.reg [jn 16 (.build [(j6 0), (j6 0), (j6 0)] []), js 3 2 16, jc 3 (j6 14)]) .ret) .skip)) (.seq (.reg [jn 5 (.box 102 (.c (.agg [(j6 0), (j6 0), (j6 0)])))]) (.seq (.seq (.reg [jm 17 4, jL 18 17, jc 19 (j6 0)]) (.block 0 (.loop qH))) (.seq (.reg [jn 44 (.ixq 3 1 (.t 5) (ji 0)), jl 45 1 44, jn 46 (.ixq 3 1 (.t 5) (ji 1)), jl 47 1 46, jn 48 (.ixq 3 1 (.t 5) (ji 2)), jl 49 1 48, jn 50 (.build [(j6 0), (j6 0), (j6 0)] [(0, (1, (.t 45))), (1, (1, (.t 47))), (2, (1, (.t 49)))]), jn 10 (.box 23 (.c (.agg [(j6 0), (j6 0), (j6 0)]))), js 3 10 50]) (.seq (.seq (.reg [jg 51 3 10, jn 52 (.call 24 [(.t 51)]), jn 53 (.un .not (.t 52)), jm 54 53, jf 54 55 (.load 3 true (.t 10)), jf 54 56 (.call 50 [(.t 55)]), jf 54 57 (.mov (.t 0)), jf 54 58 (.bin .neq (.t 56) (.t 57)), jo 59 54 58]) (.cond (.t 59) (.seq (.reg [jn 60 (.build [(j6 0), (j6 0), (j6 0)] []), js 3 2 60, jc 3 (j6 14)]) .ret) .skip)) (.seq (.reg [jg 61 3 10, js 3 2 61, jc 3 (j6 0)]) .ret))))))))
theorem Jf : C9 Tryz.prog Tryz.f45 = some ⟨62, k45, [(.cell 3 true 2), (.tmp 3)]⟩ := by kernel_rfl
theorem aF (N : Nat) (a0 : List UInt8) (LF : List (List UInt8)) : ∀ (n : Nat) (x : Int × List Int) (y : (List Int) ⊕ (AO × Int)), OT N a0 LF n x = some y → WX Tryz.prog (fun _ => false) (.loop qH) ((fun (x : Int × List Int) => ⟨AX [(0, .str a0), (2, .ptr 72002 0 0), (5, .ptr 72005 0 0), (17, .sl 1 (List.map PV.str LF)), (18, j6 (LF.length : Int)), (19, j6 x.1)], AX [(72002, ⟨3, false, [.agg [j6 0, j6 0, j6 0]]⟩), (72005, ⟨3, true, [.agg (List.map ei x.2)]⟩)]⟩) x) ((Sum.elim (fun y e s => e = .exit 0 ∧ s = ⟨AX [(0, .str a0), (2, .ptr 72002 0 0), (5, .ptr 72005 0 0)], AX [(72002, ⟨3, false, [.agg [j6 0, j6 0, j6 0]]⟩), (72005, ⟨3, true, [.agg (List.map ei y)]⟩)]⟩) (fun y e s => e = .ret ∧ s = ⟨AX [(2, .ptr 72002 0 0), (3, j6 y.2)], AX [(72002, ⟨3, false, [GM y.1]⟩)]⟩) : ((List Int) ⊕ (AO × Int)) → Xt → St → Prop) y) := by
 refine FB _ _ (OT N a0 LF) (UL N a0 LF) (fun _ => rfl) (fun _ _ => rfl) ?_
 rintro rec ⟨TL, OE⟩ y h
 refine AA (AB ?_)
 refine wq rfl ?_
 refine AA ?_
 refine EN h rfl (fun c2 h => ?_) (fun c2 h => ?_)
 refine BH (AA (CS (AA (AB ?_))))
 refine wq rfl ?_
 obtain ⟨ZK, dB, h⟩ := AQ h
 refine AY rfl (EW (cs := [.str ZK]) dB rfl rfl rfl) ?_
 iterate 3 refine wq rfl ?_
 refine AA (AB ?_)
 refine wq rfl ?_
 obtain ⟨J2, j3, h⟩ := AQ h
 refine CX rfl (CZ (UY N _ _ _ _ j3) rfl (.cons A8 (.cons A8 (.cons A8 .nil))) rfl rfl rfl) ?_
 iterate 5 refine wq rfl ?_
 refine AA ?_
 obtain ⟨g3, hg3, h⟩ := AQ h
 refine GV ⟨AX [(0, .str a0), (2, .ptr 72002 0 0), (5, .ptr 72005 0 0), (6, j6 TL), (8, j6 J2.1), (17, .sl 1 (List.map PV.str LF)), (18, j6 (LF.length : Int)), (19, j6 TL), (38, .bool g3)], AX [(72002, ⟨3, false, [.agg [j6 0, j6 0, j6 0]]⟩), (72005, ⟨3, true, [.agg (List.map ei OE)]⟩)]⟩ ?_ ?_
 have h := hg3
 refine AB ?_
 refine wq rfl ?_
 refine AY rfl (Gv rfl) ?_
 refine wq rfl ?_
 rcases D7 h with ⟨c4, h⟩ | ⟨c4, h⟩
 iterate 2 refine D8 (gn rfl c4) ?_
 refine AY rfl (BF c4 rfl rfl) ?_
 refine wq rfl ?_
 iterate 2 refine D8 rfl ?_
 refine wq rfl ?_
 obtain rfl := AP h
 exact cq rfl
 iterate 2 refine AY (gy rfl c4) rfl ?_
 refine AY rfl (BD c4 rfl rfl) ?_
 refine wq rfl ?_
 rcases D7 h with ⟨c5, h⟩ | ⟨c5, h⟩
 iterate 2 refine D8 (gn rfl c5) ?_
 refine AY rfl (BF c5 rfl rfl) ?_
 obtain rfl := AP h
 exact cq rfl
 iterate 2 refine AY (gy rfl c5) rfl ?_
 refine AY rfl (BD c5 rfl rfl) ?_
 cases AP h
 exact cq rfl
 clear hg3
 refine EN h rfl (fun c6 h => ?_) (fun c6 h => ?_)
 refine AA (AB ?_)
 refine AY (p := .agg [j6 0, j6 0, j6 0]) rfl rfl ?_
 refine EC (e' := .agg [j6 0, j6 0, j6 0]) rfl rfl rfl rfl rfl rfl rfl rfl nofun rfl ?_
 refine wq rfl ?_
 cases AP h
 exact F4 (st1 := ⟨AX [(2, .ptr 72002 0 0), (3, j6 14)], AX [(72002, ⟨3, false, [GM (⟨0, 0, 0⟩ : AO)]⟩)]⟩) (cq rfl) ⟨rfl, rfl⟩
 refine BH (AB ?_)
 iterate 2 refine wq rfl ?_
 obtain ⟨uG, tC, h⟩ := AQ h
 refine AY rfl (p_ixq tC rfl rfl rfl rfl) ?_
 obtain ⟨uM, nT, h⟩ := AQ h
 refine wstq (f := ei) (e' := J2.1) nT rfl rfl rfl rfl (Dx tC) rfl rfl (fun _ => rfl) ?_
 refine AB ?_
 refine AY (p := j6 (CE (TL + (1 : Int)))) rfl rfl ?_
 refine wq rfl ?_
 exact ⟨((CE (TL + (1 : Int))), (OE.set uG J2.1)), (cq rfl), h⟩
 obtain rfl := AP h
 exact ED (st1 := ⟨AX [(0, .str a0), (2, .ptr 72002 0 0), (5, .ptr 72005 0 0)], AX [(72002, ⟨3, false, [.agg [j6 0, j6 0, j6 0]]⟩), (72005, ⟨3, true, [.agg (List.map ei OE)]⟩)]⟩) (cq rfl) ⟨rfl, rfl⟩
theorem S9 (N : Nat) (a0 : List UInt8) (r : AO × Int) (h : VU N a0 = some r) : Sat Tryz.prog 45 AC [.str a0] (.tup [GM r.1, j6 r.2]) AC := by
 refine EO mixed Tryz.func45 Jf (rs := [GM r.1, j6 r.2]) rfl rfl ?_
 refine AA (AB ?_)
 refine CX rfl (FE 72002 rfl rfl rfl rfl rfl) ?_
 refine wq rfl ?_
 refine AA (AB ?_)
 refine wq rfl ?_
 obtain ⟨LF, ZA, h⟩ := AQ h
 refine CX rfl (CZ (XR N _ _ _ ZA) rfl (.cons A8 (.cons A8 .nil)) rfl rfl rfl) ?_
 refine wq rfl ?_
 iterate 2 refine AA ?_
 refine AB ?_
 refine wq rfl ?_
 refine AY rfl (CR rfl) ?_
 refine wq rfl ?_
 refine EN h rfl (fun c1 h => ?_) (fun c1 h => ?_)
 refine AA (AB ?_)
 refine AY (p := .agg [j6 0, j6 0, j6 0]) rfl rfl ?_
 refine EC (e' := .agg [j6 0, j6 0, j6 0]) rfl rfl rfl rfl rfl rfl rfl rfl nofun rfl ?_
 refine wq rfl ?_
 cases AP h
 refine BZ ?_
 exact ⟨nofun, rfl, rfl⟩
 refine BH (AA (AB ?_))
 refine CX rfl (FE 72005 rfl rfl rfl rfl rfl) ?_
 refine SI (boxpr 72005 rfl rfl) ?_
 iterate 2 refine AA ?_
 refine AB ?_
 refine wq rfl ?_
 refine AY rfl (CR rfl) ?_
 refine wq rfl ?_
 refine CS ?_
 obtain ⟨y8, Al, h⟩ := AQ h
 refine R5 (aF N a0 LF N _ _ Al) (cq rfl) ?_
 clear Al
 rcases y8 with y8 | y8
 rintro e s ⟨rfl, rfl⟩
 refine AA (AB ?_)
 refine wq rfl ?_
 obtain ⟨jP, xR, h⟩ := AQ h
 refine AY rfl (vZ (f := ei) xR rfl rfl) ?_
 refine wq rfl ?_
 obtain ⟨YK, iZ, h⟩ := AQ h
 refine AY rfl (vZ (f := ei) iZ rfl rfl) ?_
 refine wq rfl ?_
 obtain ⟨aA, xQ, h⟩ := AQ h
 refine AY rfl (vZ (f := ei) xQ rfl rfl) ?_
 refine AY (p := .agg [j6 jP, j6 YK, j6 aA]) rfl rfl ?_
 refine CX rfl (FE 72010 rfl rfl rfl rfl rfl) ?_
 refine EC (e' := .agg [j6 jP, j6 YK, j6 aA]) rfl rfl rfl rfl rfl rfl rfl rfl nofun rfl ?_
 refine AA ?_
 obtain ⟨g9, hg9, h⟩ := AQ h
 refine GV ⟨AX [(2, .ptr 72002 0 0), (10, .ptr 72010 0 0), (59, .bool g9)], AX [(72002, ⟨3, false, [.agg [j6 0, j6 0, j6 0]]⟩), (72010, ⟨3, false, [.agg [j6 jP, j6 YK, j6 aA]]⟩)]⟩ ?_ ?_
 have h := hg9
 refine AB ?_
 refine AY (p := .agg [j6 jP, j6 YK, j6 aA]) rfl rfl ?_
 obtain ⟨M6, xP, h⟩ := AQ h
 refine CX rfl (CZ (TV N _ _ xP) rfl (.cons A8 .nil) rfl rfl rfl) ?_
 iterate 2 refine wq rfl ?_
 rcases D7 h with ⟨c10, h⟩ | ⟨c10, h⟩
 iterate 4 refine D8 (gn rfl c10) ?_
 refine AY rfl (BF c10 rfl rfl) ?_
 obtain rfl := AP h
 exact cq rfl
 refine AY (p := .agg [j6 jP, j6 YK, j6 aA]) (gy rfl c10) rfl ?_
 obtain ⟨x56, hx56, h⟩ := AQ h
 refine CX (gy rfl c10) (CZ (XX N _ _ hx56) rfl (.cons A8 .nil) rfl rfl rfl) ?_
 iterate 2 refine AY (gy rfl c10) rfl ?_
 refine AY rfl (BD c10 rfl rfl) ?_
 cases AP h
 exact cq rfl
 clear hg9
 refine EN h rfl (fun c11 h => ?_) (fun c11 h => ?_)
 refine AA (AB ?_)
 refine AY (p := .agg [j6 0, j6 0, j6 0]) rfl rfl ?_
 refine EC (e' := .agg [j6 0, j6 0, j6 0]) rfl rfl rfl rfl rfl rfl rfl rfl nofun rfl ?_
 refine wq rfl ?_
 cases AP h
 refine BZ ?_
 exact ⟨nofun, rfl, rfl⟩
 refine BH (AA (AB ?_))
 refine AY (p := .agg [j6 jP, j6 YK, j6 aA]) rfl rfl ?_
 refine EC (e' := .agg [j6 jP, j6 YK, j6 aA]) rfl rfl rfl rfl rfl rfl rfl rfl nofun rfl ?_
 refine wq rfl ?_
 cases AP h
 refine BZ ?_
 exact ⟨nofun, rfl, rfl⟩
 rintro e s ⟨rfl, rfl⟩
 cases AP h
 exact ⟨nofun, rfl, rfl⟩
def qQ : IC := (.seq (.reg [jb .lss 68 67 66]) (.seq (.cond (.t 68) .skip (.exit 0)) (.seq (.block 1 (.seq (.reg [jm 69 67, jx 70 1 65 67, jl 71 1 70, jm 11 69, jm 12 71]) (.seq (.reg [jm 73 12, ja 74 2 4, jl 75 1 74, jm 76 11, ju .add 77 76 1, jx 78 3 75 77, ja 79 1 78, jl 80 1 79, jn 81 (.call 45 [(.t 80)]), jm 72 81, je 82 0 72, je 83 1 72, jn 84 (.nck (.t 73)), js 3 84 82, jm 7 83]) (.seq (.reg [jm 85 7, ju .neq 86 85 0]) (.cond (.t 86) (.seq (.reg [jn 87 (.build [(j6 0), (j6 0), (j6 0), (j6 0), (j6 0), (j6 0), (j6 0), (j6 0), (j6 0), (j6 0), .nl, (.bool false), .nl] []), js 13 2 87, jc 3 (j6 14)]) .ret) .skip))))) (.reg [ju .add 88 67 1, jm 67 88]))))
def qP : IC := (.seq (.seq (.reg [jm 94 14, ju .add 95 94 1, jm 96 13, jL 97 96, jb .lss 98 95 97]) (.cond (.t 98) .skip (.exit 2))) (.seq (.block 3 (.regd 15 [ja 101 10 10, jl 102 1 101, jm 103 13, jm 104 14, jx 105 3 103 104, ja 106 1 105, jl 107 1 106, jm 108 13, jm 109 14, ju .add 110 109 1, jx 111 3 108 110, ja 112 1 111, jl 113 1 112, jn 114 (.build [(.str []), (.str [])] [(0, (1, (.t 107))), (1, (1, (.t 113)))]), jn 115 (.bsl 2 [(.t 114)]), jn 116 (.app 41 2 32 (.t 102) (.t 115)), ja 117 10 10, js 1 117 116])) (.reg [jm 99 14, ju .add 100 99 2, jm 14 100])))
def qN : IC := (.seq (.reg [jb .lss 154 153 152]) (.seq (.cond (.t 154) .skip (.exit 6)) (.seq (.block 7 (.seq (.reg [jx 155 3 151 153, jg 156 3 155, jn 21 (.box 52 (.c (.agg [(.int .u8 0), (.str []), .nl]))), js 3 21 156]) (.reg [ja 157 2 19, jl 158 1 157, ja 159 1 21, jl 160 1 159, jn 161 (.bsl 1 [(.t 160)]), jn 162 (.app 9 1 16 (.t 158) (.t 161)), ja 163 2 19, js 1 163 162]))) (.reg [ju .add 164 153 1, jm 153 164]))))
def qO : IC := (.seq (.reg [jb .lss 125 124 123]) (.seq (.cond (.t 125) .skip (.exit 4)) (.seq (.block 5 (.seq (.reg [jx 126 3 122 124, jg 127 3 126, jn 16 (.box 52 (.c (.agg [(.int .u8 0), (.str []), .nl]))), js 3 16 127]) (.seq (.seq (.reg [ja 128 2 16, jl 129 1 128, jL 130 129, ju .lss 131 130 2]) (.cond (.t 131) (.seq (.reg [jn 132 (.build [(j6 0), (j6 0), (j6 0), (j6 0), (j6 0), (j6 0), (j6 0), (j6 0), (j6 0), (j6 0), .nl, (.bool false), .nl] []), js 13 2 132, jc 3 (j6 14)]) .ret) .skip)) (.seq (.reg [ja 134 2 16, jl 135 1 134, jn 136 (.ixp 3 (.t 135) (ji 0)), ja 137 1 136, jl 138 1 137, jn 139 (.call 44 [(.t 138)]), jm 133 139, je 140 0 133, je 141 1 133, jm 17 140, jm 18 141]) (.seq (.reg [jm 142 17, ja 143 2 16, jl 144 1 143, jn 145 (.ixp 3 (.t 144) (ji 1)), ja 146 1 145, jl 147 1 146, jn 148 (.build [(j6 0), (.str []), .nl] [(0, (1, (.t 142))), (1, (1, (.t 147)))]), jn 19 (.box 44 (.c (.agg [(j6 0), (.str []), .nl]))), js 3 19 148]) (.seq (.seq (.reg [ja 149 2 16, jl 150 1 149, jn 151 (.slcl 3 (.t 150) (some (ji 2)) none), jL 152 151, jc 153 (j6 0)]) (.block 6 (.loop qN))) (.reg [ja 165 12 10, jl 166 1 165, jg 167 3 19, jn 168 (.bsl 3 [(.t 167)]), jn 169 (.app 44 3 48 (.t 166) (.t 168)), ja 170 12 10, js 1 170 169]))))))) (.reg [ju .add 171 124 1, jm 124 171]))))
def k16 : IC := (.seq (.reg [jn 2 (.box 28 (.c (.agg [(j6 0), (j6 0), (j6 0), (j6 0), (j6 0), (j6 0), (j6 0), (j6 0), (j6 0), (j6 0), .nl, (.bool false), .nl]))), jc 3 (j6 0)]) (.seq (.reg [jm 25 0, jn 26 (.call 43 [(.t 25)]), jm 24 26, je 27 0 24, je 28 1 24, je 29 2 24, je 30 3 24, jn 4 (.box 52 (.c (.agg [(.int .u8 0), (.str []), .nl]))), js 3 4 27, jm 5 28, jm 6 29, jm 7 30]) (.seq (.seq (.reg [jm 31 7, ju .neq 32 31 0, jm 33 32, jf 33 34 (.mov (.t 5)), jf 33 35 (.mov (.t 0)), jf 33 36 (.len true (.t 35)), jf 33 37 (.bin .neq (.t 34) (.t 36)), jo 38 33 37, jm 39 38, jf 39 40 (.fda 2 (.t 4)), jf 39 41 (.load 1 false (.t 40)), jf 39 42 (.len false (.t 41)), jf 39 43 (.bin .neq (.t 42) (ji 6)), jo 44 39 43]) (.cond (.t 44) (.seq (.reg [jn 45 (.build [(j6 0), (j6 0), (j6 0), (j6 0), (j6 0), (j6 0), (j6 0), (j6 0), (j6 0), (j6 0), .nl, (.bool false), .nl] []), js 13 2 45, jc 3 (j6 14)]) .ret) .skip)) (.seq (.reg [ja 47 2 4, jl 48 1 47, jn 49 (.ixp 3 (.t 48) (ji 0)), ja 50 1 49, jl 51 1 50, jn 52 (.call 44 [(.t 51)]), jm 46 52, je 53 0 46, je 54 1 46, jm 8 53, jm 9 54]) (.seq (.reg [jm 55 8, jm 56 8, jn 57 (.un .neg (.t 56)), jn 58 (.mm true (.t 55) [(.t 57)]), jm 59 8, ju .lss 60 59 0, jn 61 (.build [(j6 0), (j6 0), (j6 0), (j6 0), (j6 0), (j6 0), (j6 0), (j6 0), (j6 0), (j6 0), .nl, (.bool false), .nl] [(3, (1, (.t 58))), (11, (1, (.t 60)))]), jn 10 (.box 28 (.c (.agg [(j6 0), (j6 0), (j6 0), (j6 0), (j6 0), (j6 0), (j6 0), (j6 0), (j6 0), (j6 0), .nl, (.bool false), .nl]))), js 13 10 61]) (.seq (.seq (.reg [ja 62 0 10, ja 63 4 10, ja 64 7 10, jn 65 (.bsl 1 [(.t 62), (.t 63), (.t 64)]), jL 66 65, jc 67 (j6 0)]) (.block 0 (.loop qQ))) (.seq (.reg [ja 89 2 4, jl 90 1 89, jn 91 (.ixp 3 (.t 90) (ji 4)), ja 92 2 91, jl 93 1 92, jm 13 93]) (.seq (.seq (.reg [jc 14 (j6 0)]) (.block 2 (.loop qP))) (.seq (.seq (.reg [ja 118 2 4, jl 119 1 118, jn 120 (.ixp 3 (.t 119) (ji 5)), ja 121 2 120, jl 122 1 121, jL 123 122, jc 124 (j6 0)]) (.block 4 (.loop qO))) (.seq (.seq (.reg [jg 173 13 10, jn 174 (.call 9 [(.t 173)]), jm 172 174, je 175 0 172, je 176 1 172, jm 22 175, jm 23 176]) (.seq (.reg [jm 177 23, ju .neq 178 177 0, jm 179 178, jf 179 180 (.mov (.t 22)), jf 179 181 (.mov (.t 0)), jf 179 182 (.bin .neq (.t 180) (.t 181)), jo 183 179 182]) (.cond (.t 183) (.seq (.reg [jn 184 (.build [(j6 0), (j6 0), (j6 0), (j6 0), (j6 0), (j6 0), (j6 0), (j6 0), (j6 0), (j6 0), .nl, (.bool false), .nl] []), js 13 2 184, jc 3 (j6 14)]) .ret) .skip))) (.seq (.reg [jg 185 13 10, js 13 2 185, jc 3 (j6 0)]) .ret)))))))))))
theorem Kb : C9 Tryz.prog Tryz.f16 = some ⟨186, k16, [(.cell 13 true 2), (.tmp 3)]⟩ := by kernel_rfl
theorem XL (N : Nat) (a0 : List UInt8) (J2 : A7 × Int × Int × Int) (M6 : Int × Bool) (x81 : AO × Int) (D9 : AO × Int) (EI : AO × Int) : ∀ (n : Nat) (x : Unit) (y : Unit), M5 N a0 J2 M6 x81 D9 EI n x = some y → WX Tryz.prog (fun _ => false) (.loop qQ) ((fun (x : Unit) => ⟨AX [(0, .str a0), (2, .ptr 25602 0 0), (4, .ptr 25604 0 0), (10, .ptr 25610 0 0), (65, .slr 25665 0 3), (66, j6 3), (67, j6 3)], AX [(25602, ⟨13, false, [.agg [j6 0, j6 0, j6 0, j6 0, j6 0, j6 0, j6 0, j6 0, j6 0, j6 0, .nl, .bool false, .nl]]⟩), (25604, ⟨3, false, [A9 J2.1]⟩), (25610, ⟨13, false, [.agg [j6 x81.1.Time, j6 x81.1.Seq, j6 x81.1.Rep, j6 (mx M6.1 (CE (0 - M6.1))), j6 D9.1.Time, j6 D9.1.Seq, j6 D9.1.Rep, j6 EI.1.Time, j6 EI.1.Seq, j6 EI.1.Rep, .nl, .bool (decide (M6.1 < (0 : Int))), .nl]]⟩), (25665, ⟨1, false, [.ptr 25610 0 0, .ptr 25610 0 4, .ptr 25610 0 7]⟩)]⟩) x) ((fun y e s => e = .exit 0 ∧ s = ⟨AX [(0, .str a0), (2, .ptr 25602 0 0), (4, .ptr 25604 0 0), (10, .ptr 25610 0 0)], AX [(25602, ⟨13, false, [.agg [j6 0, j6 0, j6 0, j6 0, j6 0, j6 0, j6 0, j6 0, j6 0, j6 0, .nl, .bool false, .nl]]⟩), (25604, ⟨3, false, [A9 J2.1]⟩), (25610, ⟨13, false, [.agg [j6 x81.1.Time, j6 x81.1.Seq, j6 x81.1.Rep, j6 (mx M6.1 (CE (0 - M6.1))), j6 D9.1.Time, j6 D9.1.Seq, j6 D9.1.Rep, j6 EI.1.Time, j6 EI.1.Seq, j6 EI.1.Rep, .nl, .bool (decide (M6.1 < (0 : Int))), .nl]]⟩)]⟩ : Unit → Xt → St → Prop) y) := by
 refine FB _ _ (M5 N a0 J2 M6 x81 D9 EI) (RN N a0 J2 M6 x81 D9 EI) (fun _ => rfl) (fun _ _ => rfl) ?_
 rintro rec ⟨⟩ y h
 refine AA (AB ?_)
 refine AY (p := .bool false) rfl rfl ?_
 refine AA ?_
 refine xcF rfl rfl ?_
 cases AP h
 exact ED (st1 := ⟨AX [(0, .str a0), (2, .ptr 25602 0 0), (4, .ptr 25604 0 0), (10, .ptr 25610 0 0)], AX [(25602, ⟨13, false, [.agg [j6 0, j6 0, j6 0, j6 0, j6 0, j6 0, j6 0, j6 0, j6 0, j6 0, .nl, .bool false, .nl]]⟩), (25604, ⟨3, false, [A9 J2.1]⟩), (25610, ⟨13, false, [.agg [j6 x81.1.Time, j6 x81.1.Seq, j6 x81.1.Rep, j6 (mx M6.1 (CE (0 - M6.1))), j6 D9.1.Time, j6 D9.1.Seq, j6 D9.1.Rep, j6 EI.1.Time, j6 EI.1.Seq, j6 EI.1.Rep, .nl, .bool (decide (M6.1 < (0 : Int))), .nl]]⟩)]⟩) (cq rfl) ⟨rfl, rfl⟩
theorem XK (N : Nat) (a0 : List UInt8) (J2 : A7 × Int × Int × Int) (x93 : List A7) : ∀ (n : Nat) (x : Int × Int × Int × Int × Int × Int × Int × Int × Int × Int × Int × Bool × List AU) (y : Int × Int × Int × Int × Int × Int × Int × Int × Int × Int × Bool × List AU), M4 N a0 J2 x93 n x = some y → WX Tryz.prog (fun _ => false) (.loop qP) ((fun (x : Int × Int × Int × Int × Int × Int × Int × Int × Int × Int × Int × Bool × List AU) => ⟨AX [(0, .str a0), (2, .ptr 25602 0 0), (4, .ptr 25604 0 0), (10, .ptr 25610 0 0), (13, .sl 3 (List.map A9 x93)), (14, j6 x.1)], AX [(25602, ⟨13, false, [.agg [j6 0, j6 0, j6 0, j6 0, j6 0, j6 0, j6 0, j6 0, j6 0, j6 0, .nl, .bool false, .nl]]⟩), (25604, ⟨3, false, [A9 J2.1]⟩), (25610, ⟨13, false, [.agg [j6 x.2.1, j6 x.2.2.1, j6 x.2.2.2.1, j6 x.2.2.2.2.1, j6 x.2.2.2.2.2.1, j6 x.2.2.2.2.2.2.1, j6 x.2.2.2.2.2.2.2.1, j6 x.2.2.2.2.2.2.2.2.1, j6 x.2.2.2.2.2.2.2.2.2.1, j6 x.2.2.2.2.2.2.2.2.2.2.1, .slr 556110 0 x.2.2.2.2.2.2.2.2.2.2.2.2.length, .bool x.2.2.2.2.2.2.2.2.2.2.2.1, .nl]]⟩), (556110, ⟨2, true, List.map AV x.2.2.2.2.2.2.2.2.2.2.2.2⟩)]⟩) x) ((fun y e s => e = .exit 2 ∧ s = ⟨AX [(0, .str a0), (2, .ptr 25602 0 0), (4, .ptr 25604 0 0), (10, .ptr 25610 0 0)], AX [(25602, ⟨13, false, [.agg [j6 0, j6 0, j6 0, j6 0, j6 0, j6 0, j6 0, j6 0, j6 0, j6 0, .nl, .bool false, .nl]]⟩), (25604, ⟨3, false, [A9 J2.1]⟩), (25610, ⟨13, false, [.agg [j6 y.1, j6 y.2.1, j6 y.2.2.1, j6 y.2.2.2.1, j6 y.2.2.2.2.1, j6 y.2.2.2.2.2.1, j6 y.2.2.2.2.2.2.1, j6 y.2.2.2.2.2.2.2.1, j6 y.2.2.2.2.2.2.2.2.1, j6 y.2.2.2.2.2.2.2.2.2.1, .slr 556110 0 y.2.2.2.2.2.2.2.2.2.2.2.length, .bool y.2.2.2.2.2.2.2.2.2.2.1, .nl]]⟩), (556110, ⟨2, true, List.map AV y.2.2.2.2.2.2.2.2.2.2.2⟩)]⟩ : (Int × Int × Int × Int × Int × Int × Int × Int × Int × Int × Bool × List AU) → Xt → St → Prop) y) := by
 refine FB _ _ (M4 N a0 J2 x93) (RL N a0 J2 x93) (fun _ => rfl) (fun _ _ => rfl) ?_
 rintro rec ⟨TM, N9, N8, N7, MZ, MX, MW, MV, MU, MS, MR, LA, QH⟩ y h
 iterate 2 refine AA ?_
 refine AB ?_
 refine wq rfl ?_
 refine AY (p := j6 (CE (TM + (1 : Int)))) rfl rfl ?_
 refine wq rfl ?_
 refine AY rfl (CR rfl) ?_
 refine wq rfl ?_
 refine EN h rfl (fun c9 h => ?_) (fun c9 h => ?_)
 refine BH (AA (CS (Q8 ?_)))
 iterate 4 refine dq rfl ?_
 obtain ⟨x105, hx105, h⟩ := AQ h
 refine LM rfl (EW (cs := [eb x105.Tag, .str x105.Body, .sl 3 x105.Kids]) hx105 rfl rfl rfl) ?_
 refine LM (p := .ep [.str x105.Body, .sl 3 x105.Kids]) rfl rfl ?_
 iterate 3 refine dq rfl ?_
 refine LM (p := j6 (CE (TM + (1 : Int)))) rfl rfl ?_
 obtain ⟨iD, hx111, h⟩ := AQ h
 refine LM rfl (EW (cs := [eb iD.Tag, .str iD.Body, .sl 3 iD.Kids]) hx111 rfl rfl rfl) ?_
 refine LM (p := .ep [.str iD.Body, .sl 3 iD.Kids]) rfl rfl ?_
 refine dq rfl ?_
 refine LM (p := .agg [.str x105.Body, .str iD.Body]) rfl rfl ?_
 refine UO rfl (.bsl _ 25715 rfl (ND rfl) rfl) (PL rfl) ?_
 obtain ⟨mO, xY, h⟩ := AQ h
 refine UQ (f := AV) 25716 xY rfl rfl rfl rfl rfl (JZ rfl (BP (f := AV) (l := [(⟨x105.Body, iD.Body⟩ : AU)]))) rfl rfl rfl rfl ?_
 refine wq rfl ?_
 refine EC (e' := .agg [j6 N9, j6 N8, j6 N7, j6 MZ, j6 MX, j6 MW, j6 MV, j6 MU, j6 MS, j6 MR, .slr 25716 0 mO.length, .bool LA, .nl]) rfl rfl rfl rfl rfl rfl rfl rfl nofun rfl ?_
 refine AB ?_
 refine wq rfl ?_
 refine AY (p := j6 (CE (TM + (2 : Int)))) rfl rfl ?_
 refine wq rfl ?_
 exact ⟨((CE (TM + (2 : Int))), N9, N8, N7, MZ, MX, MW, MV, MU, MS, MR, LA, mO), (BX.trans (rename 25716 556110 rfl rfl) (cq rfl)), h⟩
 cases AP h
 exact ED (st1 := ⟨AX [(0, .str a0), (2, .ptr 25602 0 0), (4, .ptr 25604 0 0), (10, .ptr 25610 0 0)], AX [(25602, ⟨13, false, [.agg [j6 0, j6 0, j6 0, j6 0, j6 0, j6 0, j6 0, j6 0, j6 0, j6 0, .nl, .bool false, .nl]]⟩), (25604, ⟨3, false, [A9 J2.1]⟩), (25610, ⟨13, false, [.agg [j6 N9, j6 N8, j6 N7, j6 MZ, j6 MX, j6 MW, j6 MV, j6 MU, j6 MS, j6 MR, .slr 556110 0 QH.length, .bool LA, .nl]]⟩), (556110, ⟨2, true, List.map AV QH⟩)]⟩) (cq rfl) ⟨rfl, rfl⟩
theorem XI (N : Nat) (a0 : List UInt8) (JX : List A7) (GL : Int) (E5 : Int) (DZ : Int) (DY : Int) (DX : Int) (DV : Int) (DU : Int) (DT : Int) (DR : Int) (DN : Int) (DL : Int) (D5 : Bool) (D6 : List AU) (DJ : List BA) (x151 : List A7) : ∀ (n : Nat) (x : Int × Int × List UInt8 × List (List UInt8)) (y : Int × List UInt8 × List (List UInt8)), M0 N a0 JX GL E5 DZ DY DX DV DU DT DR DN DL D5 D6 DJ x151 n x = some y → WX Tryz.prog (fun _ => false) (.loop qN) ((fun (x : Int × Int × List UInt8 × List (List UInt8)) => ⟨AX [(0, .str a0), (2, .ptr 25602 0 0), (10, .ptr 25610 0 0), (19, .ptr 25619 0 0), (122, .sl 3 (List.map A9 JX)), (123, j6 (JX.length : Int)), (124, j6 GL), (151, .sl 3 (List.map A9 x151)), (152, j6 (x151.length : Int)), (153, j6 x.1)], AX [(25602, ⟨13, false, [.agg [j6 0, j6 0, j6 0, j6 0, j6 0, j6 0, j6 0, j6 0, j6 0, j6 0, .nl, .bool false, .nl]]⟩), (25610, ⟨13, false, [.agg [j6 E5, j6 DZ, j6 DY, j6 DX, j6 DV, j6 DU, j6 DT, j6 DR, j6 DN, j6 DL, .slr 556110 0 D6.length, .bool D5, .slr 556112 0 DJ.length]]⟩), (25619, ⟨3, false, [.agg [j6 x.2.1, .str x.2.2.1, .slr 556192 0 x.2.2.2.length]]⟩), (556110, ⟨2, true, List.map AV D6⟩), (556112, ⟨3, true, List.map AJ DJ⟩), (556192, ⟨1, true, List.map PV.str x.2.2.2⟩)]⟩) x) ((fun y e s => e = .exit 6 ∧ s = ⟨AX [(0, .str a0), (2, .ptr 25602 0 0), (10, .ptr 25610 0 0), (19, .ptr 25619 0 0), (122, .sl 3 (List.map A9 JX)), (123, j6 (JX.length : Int)), (124, j6 GL)], AX [(25602, ⟨13, false, [.agg [j6 0, j6 0, j6 0, j6 0, j6 0, j6 0, j6 0, j6 0, j6 0, j6 0, .nl, .bool false, .nl]]⟩), (25610, ⟨13, false, [.agg [j6 E5, j6 DZ, j6 DY, j6 DX, j6 DV, j6 DU, j6 DT, j6 DR, j6 DN, j6 DL, .slr 556110 0 D6.length, .bool D5, .slr 556112 0 DJ.length]]⟩), (25619, ⟨3, false, [.agg [j6 y.1, .str y.2.1, .slr 556192 0 y.2.2.length]]⟩), (556110, ⟨2, true, List.map AV D6⟩), (556112, ⟨3, true, List.map AJ DJ⟩), (556192, ⟨1, true, List.map PV.str y.2.2⟩)]⟩ : (Int × List UInt8 × List (List UInt8)) → Xt → St → Prop) y) := by
 refine FB _ _ (M0 N a0 JX GL E5 DZ DY DX DV DU DT DR DN DL D5 D6 DJ x151) (RI N a0 JX GL E5 DZ DY DX DV DU DT DR DN DL D5 D6 DJ x151) (fun _ => rfl) (fun _ _ => rfl) ?_
 rintro rec ⟨VK, MQ, MP, QG⟩ y h
 refine AA (AB ?_)
 refine wq rfl ?_
 refine AA ?_
 refine EN h rfl (fun c13 h => ?_) (fun c13 h => ?_)
 refine BH (AA (CS (AA (AB ?_))))
 obtain ⟨jQ, hx155, h⟩ := AQ h
 refine AY rfl (EW (cs := [eb jQ.Tag, .str jQ.Body, .sl 3 jQ.Kids]) hx155 rfl rfl rfl) ?_
 refine AY (p := A9 jQ) rfl rfl ?_
 refine CX rfl (FE 25621 rfl rfl rfl rfl rfl) ?_
 refine EC (e' := A9 jQ) rfl rfl rfl rfl rfl rfl rfl rfl nofun rfl ?_
 refine AB ?_
 iterate 4 refine wq rfl ?_
 refine CX rfl (QK 25761 rfl rfl rfl) ?_
 obtain ⟨Aq, hx162, h⟩ := AQ h
 refine UQ (f := PV.str) 25762 hx162 rfl rfl rfl rfl rfl (JZ rfl (BP (f := PV.str) (l := [jQ.Body]))) rfl rfl rfl rfl ?_
 refine wq rfl ?_
 refine EC (e' := .agg [j6 MQ, .str MP, .slr 25762 0 Aq.length]) rfl rfl rfl rfl rfl rfl rfl rfl nofun rfl ?_
 refine AB ?_
 refine AY (p := j6 (CE (VK + (1 : Int)))) rfl rfl ?_
 refine wq rfl ?_
 exact ⟨((CE (VK + (1 : Int))), MQ, MP, Aq), (BX.trans (rename 25762 556192 rfl rfl) (cq rfl)), h⟩
 cases AP h
 exact ED (st1 := ⟨AX [(0, .str a0), (2, .ptr 25602 0 0), (10, .ptr 25610 0 0), (19, .ptr 25619 0 0), (122, .sl 3 (List.map A9 JX)), (123, j6 (JX.length : Int)), (124, j6 GL)], AX [(25602, ⟨13, false, [.agg [j6 0, j6 0, j6 0, j6 0, j6 0, j6 0, j6 0, j6 0, j6 0, j6 0, .nl, .bool false, .nl]]⟩), (25610, ⟨13, false, [.agg [j6 E5, j6 DZ, j6 DY, j6 DX, j6 DV, j6 DU, j6 DT, j6 DR, j6 DN, j6 DL, .slr 556110 0 D6.length, .bool D5, .slr 556112 0 DJ.length]]⟩), (25619, ⟨3, false, [.agg [j6 MQ, .str MP, .slr 556192 0 QG.length]]⟩), (556110, ⟨2, true, List.map AV D6⟩), (556112, ⟨3, true, List.map AJ DJ⟩), (556192, ⟨1, true, List.map PV.str QG⟩)]⟩) (cq rfl) ⟨rfl, rfl⟩
theorem XJ (N : Nat) (a0 : List UInt8) (JX : List A7) : ∀ (n : Nat) (x : Int × Int × Int × Int × Int × Int × Int × Int × Int × Int × Int × Bool × List AU × List BA) (y : (Int × Int × Int × Int × Int × Int × Int × Int × Int × Int × Bool × List AU × List BA) ⊕ (AR × Int)), M3 N a0 JX n x = some y → WX Tryz.prog (fun _ => false) (.loop qO) ((fun (x : Int × Int × Int × Int × Int × Int × Int × Int × Int × Int × Int × Bool × List AU × List BA) => ⟨AX [(0, .str a0), (2, .ptr 25602 0 0), (10, .ptr 25610 0 0), (122, .sl 3 (List.map A9 JX)), (123, j6 (JX.length : Int)), (124, j6 x.1)], AX [(25602, ⟨13, false, [.agg [j6 0, j6 0, j6 0, j6 0, j6 0, j6 0, j6 0, j6 0, j6 0, j6 0, .nl, .bool false, .nl]]⟩), (25610, ⟨13, false, [.agg [j6 x.2.1, j6 x.2.2.1, j6 x.2.2.2.1, j6 x.2.2.2.2.1, j6 x.2.2.2.2.2.1, j6 x.2.2.2.2.2.2.1, j6 x.2.2.2.2.2.2.2.1, j6 x.2.2.2.2.2.2.2.2.1, j6 x.2.2.2.2.2.2.2.2.2.1, j6 x.2.2.2.2.2.2.2.2.2.2.1, .slr 556110 0 x.2.2.2.2.2.2.2.2.2.2.2.2.1.length, .bool x.2.2.2.2.2.2.2.2.2.2.2.1, .slr 556112 0 x.2.2.2.2.2.2.2.2.2.2.2.2.2.length]]⟩), (556110, ⟨2, true, List.map AV x.2.2.2.2.2.2.2.2.2.2.2.2.1⟩), (556112, ⟨3, true, List.map AJ x.2.2.2.2.2.2.2.2.2.2.2.2.2⟩)]⟩) x) ((Sum.elim (fun y e s => e = .exit 4 ∧ s = ⟨AX [(0, .str a0), (2, .ptr 25602 0 0), (10, .ptr 25610 0 0)], AX [(25602, ⟨13, false, [.agg [j6 0, j6 0, j6 0, j6 0, j6 0, j6 0, j6 0, j6 0, j6 0, j6 0, .nl, .bool false, .nl]]⟩), (25610, ⟨13, false, [.agg [j6 y.1, j6 y.2.1, j6 y.2.2.1, j6 y.2.2.2.1, j6 y.2.2.2.2.1, j6 y.2.2.2.2.2.1, j6 y.2.2.2.2.2.2.1, j6 y.2.2.2.2.2.2.2.1, j6 y.2.2.2.2.2.2.2.2.1, j6 y.2.2.2.2.2.2.2.2.2.1, .slr 556110 0 y.2.2.2.2.2.2.2.2.2.2.2.1.length, .bool y.2.2.2.2.2.2.2.2.2.2.1, .slr 556112 0 y.2.2.2.2.2.2.2.2.2.2.2.2.length]]⟩), (556110, ⟨2, true, List.map AV y.2.2.2.2.2.2.2.2.2.2.2.1⟩), (556112, ⟨3, true, List.map AJ y.2.2.2.2.2.2.2.2.2.2.2.2⟩)]⟩) (fun y e s => e = .ret ∧ s = ⟨AX [(2, .ptr 25602 0 0), (3, j6 y.2)], AX [(25602, ⟨13, false, [AL y.1]⟩)]⟩) : ((Int × Int × Int × Int × Int × Int × Int × Int × Int × Int × Bool × List AU × List BA) ⊕ (AR × Int)) → Xt → St → Prop) y) := by
 refine FB _ _ (M3 N a0 JX) (RJ N a0 JX) (fun _ => rfl) (fun _ _ => rfl) ?_
 rintro rec ⟨GL, E5, DZ, DY, DX, DV, DU, DT, DR, DN, DL, D5, D6, DJ⟩ y h
 refine AA (AB ?_)
 refine wq rfl ?_
 refine AA ?_
 refine EN h rfl (fun c11 h => ?_) (fun c11 h => ?_)
 refine BH (AA (CS (AA (AB ?_))))
 obtain ⟨aX, hx126, h⟩ := AQ h
 refine AY rfl (EW (cs := [eb aX.Tag, .str aX.Body, .sl 3 aX.Kids]) hx126 rfl rfl rfl) ?_
 refine AY (p := A9 aX) rfl rfl ?_
 refine CX rfl (FE 25616 rfl rfl rfl rfl rfl) ?_
 refine EC (e' := A9 aX) rfl rfl rfl rfl rfl rfl rfl rfl nofun rfl ?_
 iterate 2 refine AA ?_
 refine AB ?_
 refine wq rfl ?_
 obtain ⟨Gi, hx129, h⟩ := AQ h
 refine AY (p := .sl 3 (List.map A9 Gi)) rfl (congrArg (fun z => some (PV.sl 3 z)) (G5 (e := A9) C8 hx129)) ?_
 refine AY rfl (CR rfl) ?_
 refine wq rfl ?_
 refine EN h rfl (fun c12 h => ?_) (fun c12 h => ?_)
 refine AA (AB ?_)
 refine AY (p := .agg [j6 0, j6 0, j6 0, j6 0, j6 0, j6 0, j6 0, j6 0, j6 0, j6 0, .nl, .bool false, .nl]) rfl rfl ?_
 refine uH (KS 132 (I6 (.cons A8 (.cons A8 (.cons A8 (.cons A8 (.cons A8 (.cons A8 (.cons A8 (.cons A8 (.cons A8 (.cons A8 (.cons (FM 2) (.cons A8 (.cons (FM 3) .nil))))))))))))) rfl) rfl) ?_
 refine EC (e' := .agg [j6 0, j6 0, j6 0, j6 0, j6 0, j6 0, j6 0, j6 0, j6 0, j6 0, .sl 2 (List.map AV []), .bool false, .sl 3 (List.map AJ [])]) rfl rfl rfl rfl rfl rfl rfl rfl nofun rfl ?_
 refine wq rfl ?_
 cases AP h
 exact F4 (st1 := ⟨AX [(2, .ptr 25602 0 0), (3, j6 14)], AX [(25602, ⟨13, false, [AL (⟨(⟨0, 0, 0⟩ : AO), 0, (⟨0, 0, 0⟩ : AO), (⟨0, 0, 0⟩ : AO), [], false, []⟩ : AR)]⟩)]⟩) (cq rfl) ⟨rfl, rfl⟩
 refine BH (AA (AB ?_))
 refine wq rfl ?_
 obtain ⟨Gh, hx135, h⟩ := AQ h
 refine AY (p := .sl 3 (List.map A9 Gh)) rfl (congrArg (fun z => some (PV.sl 3 z)) (G5 (e := A9) C8 hx135)) ?_
 obtain ⟨mM, hx136, h⟩ := AQ h
 refine AY rfl (EW (cs := [eb mM.Tag, .str mM.Body, .sl 3 mM.Kids]) hx136 rfl rfl rfl) ?_
 refine AY (p := .ep [.str mM.Body, .sl 3 mM.Kids]) rfl rfl ?_
 refine wq rfl ?_
 obtain ⟨mK, hx139, h⟩ := AQ h
 refine CX rfl (CZ (RA N _ _ hx139) rfl (.cons A8 .nil) rfl rfl rfl) ?_
 iterate 5 refine wq rfl ?_
 refine AA (AB ?_)
 iterate 2 refine wq rfl ?_
 obtain ⟨Gg, hx144, h⟩ := AQ h
 refine AY (p := .sl 3 (List.map A9 Gg)) rfl (congrArg (fun z => some (PV.sl 3 z)) (G5 (e := A9) C8 hx144)) ?_
 obtain ⟨aC, hx145, h⟩ := AQ h
 refine AY rfl (EW (cs := [eb aC.Tag, .str aC.Body, .sl 3 aC.Kids]) hx145 rfl rfl rfl) ?_
 refine AY (p := .ep [.str aC.Body, .sl 3 aC.Kids]) rfl rfl ?_
 refine wq rfl ?_
 refine AY (p := .agg [j6 mK.1, .str aC.Body, .nl]) rfl rfl ?_
 refine CX rfl (FE 25619 rfl rfl rfl rfl rfl) ?_
 refine EC (e' := .agg [j6 mK.1, .str aC.Body, .nl]) rfl rfl rfl rfl rfl rfl rfl rfl nofun rfl ?_
 iterate 2 refine AA ?_
 refine SI (cn (st := _) (l := [(0, .str a0), (2, .ptr 25602 0 0), (10, .ptr 25610 0 0), (16, .ptr 25616 0 0), (19, .ptr 25619 0 0), (122, .sl 3 (List.map A9 JX)), (123, j6 (JX.length : Int)), (124, j6 GL)]) (m := [(25602, ⟨13, false, [.agg [j6 0, j6 0, j6 0, j6 0, j6 0, j6 0, j6 0, j6 0, j6 0, j6 0, .nl, .bool false, .nl]]⟩), (25610, ⟨13, false, [.agg [j6 E5, j6 DZ, j6 DY, j6 DX, j6 DV, j6 DU, j6 DT, j6 DR, j6 DN, j6 DL, .slr 556110 0 D6.length, .bool D5, .slr 556112 0 DJ.length]]⟩), (25616, ⟨3, false, [A9 aX]⟩), (25619, ⟨3, false, [.agg [j6 mK.1, .str aC.Body, .nl]]⟩), (556110, ⟨2, true, List.map AV D6⟩), (556112, ⟨3, true, List.map AJ DJ⟩)]) rfl rfl rfl rfl) ?_
 refine AB ?_
 refine wq rfl ?_
 obtain ⟨x150, hx150, h⟩ := AQ h
 refine AY (p := .sl 3 (List.map A9 x150)) rfl (congrArg (fun z => some (PV.sl 3 z)) (G5 (e := A9) C8 hx150)) ?_
 obtain ⟨x151, hx151, h⟩ := AQ h
 refine AY rfl (Bt hx151 rfl rfl) ?_
 refine AY rfl (CR rfl) ?_
 refine wq rfl ?_
 refine CS ?_
 obtain ⟨YJ, Da, h⟩ := AQ h
 refine R5 (XI N a0 JX GL E5 DZ DY DX DV DU DT DR DN DL D5 D6 DJ x151 N _ _ Da) (BX.trans (iR 556192 1 true rfl rfl) (BX.trans (pM 25619 (Q := fun R => R 556192 = some ⟨1, true, []⟩) (x := .agg [j6 mK.1, .str aC.Body, .nl]) (y := .agg [j6 mK.1, .str aC.Body, .slr 556192 0 0]) (.cons (fun _ _ _ _ _ _ h => h) (.cons (fun _ _ _ _ _ _ h => h) (.cons aR (SN _)))) rfl rfl rfl) (cq rfl))) ?_
 rintro e s ⟨rfl, rfl⟩
 refine AB ?_
 iterate 2 refine wq rfl ?_
 refine AY (p := .agg [j6 YJ.1, .str YJ.2.1, .slr 556192 0 YJ.2.2.length]) rfl rfl ?_
 refine wn (BX.trans (Vd.freeze 556192 _ rfl rfl rfl) (BX.trans (KS 167 (I6 (.cons A8 (.cons A8 (.cons (GG (congrArg (PV.sl 1) (BP (f := PV.str) (l := YJ.2.2)))) .nil))) rfl) rfl) (nC 25619 (x := .agg [j6 YJ.1, .str YJ.2.1, .sl 1 (List.take YJ.2.2.length (List.drop 0 (List.map PV.str YJ.2.2)))]) (y := .agg [j6 YJ.1, .str YJ.2.1, .sl 1 (List.map PV.str YJ.2.2)]) (.cons A8 (.cons A8 (.cons (GG (congrArg (PV.sl 1) (BP (f := PV.str) (l := YJ.2.2)))) .nil))) rfl rfl))) ?_
 refine CX rfl (QK 25768 rfl rfl rfl) ?_
 obtain ⟨Ap, hx169, h⟩ := AQ h
 refine UQ (f := AJ) 25769 hx169 rfl rfl rfl rfl rfl (JZ rfl (BP (f := AJ) (l := [(⟨YJ.1, YJ.2.1, YJ.2.2⟩ : BA)]))) rfl rfl rfl rfl ?_
 refine wq rfl ?_
 refine EC (e' := .agg [j6 E5, j6 DZ, j6 DY, j6 DX, j6 DV, j6 DU, j6 DT, j6 DR, j6 DN, j6 DL, .slr 556110 0 D6.length, .bool D5, .slr 25769 0 Ap.length]) rfl rfl rfl rfl rfl rfl rfl rfl nofun rfl ?_
 refine AB ?_
 refine AY (p := j6 (CE (GL + (1 : Int)))) rfl rfl ?_
 refine wq rfl ?_
 exact ⟨((CE (GL + (1 : Int))), E5, DZ, DY, DX, DV, DU, DT, DR, DN, DL, D5, D6, Ap), (BX.trans (rename 25769 556112 rfl rfl) (cq rfl)), h⟩
 cases AP h
 exact ED (st1 := ⟨AX [(0, .str a0), (2, .ptr 25602 0 0), (10, .ptr 25610 0 0)], AX [(25602, ⟨13, false, [.agg [j6 0, j6 0, j6 0, j6 0, j6 0, j6 0, j6 0, j6 0, j6 0, j6 0, .nl, .bool false, .nl]]⟩), (25610, ⟨13, false, [.agg [j6 E5, j6 DZ, j6 DY, j6 DX, j6 DV, j6 DU, j6 DT, j6 DR, j6 DN, j6 DL, .slr 556110 0 D6.length, .bool D5, .slr 556112 0 DJ.length]]⟩), (556110, ⟨2, true, List.map AV D6⟩), (556112, ⟨3, true, List.map AJ DJ⟩)]⟩) (cq rfl) ⟨rfl, rfl⟩
theorem UF (N : Nat) (a0 : List UInt8) (r : AR × Int) (h : VE N a0 = some r) : Sat Tryz.prog 16 AC [.str a0] (.tup [AL r.1, j6 r.2]) AC := by
 refine EO mixed Tryz.func16 Kb (rs := [AL r.1, j6 r.2]) rfl rfl ?_
 refine AA (AB ?_)
 refine CX rfl (FE 25602 rfl rfl rfl rfl rfl) ?_
 refine wq rfl ?_
 refine AA (AB ?_)
 refine wq rfl ?_
 obtain ⟨J2, j3, h⟩ := AQ h
 refine CX rfl (CZ (iL N _ _ j3) rfl (.cons A8 .nil) rfl rfl rfl) ?_
 iterate 5 refine wq rfl ?_
 refine CX rfl (FE 25604 rfl rfl rfl rfl rfl) ?_
 refine EC (e' := A9 J2.1) rfl rfl rfl rfl rfl rfl rfl rfl nofun rfl ?_
 iterate 3 refine wq rfl ?_
 refine AA ?_
 obtain ⟨g1, hg1, h⟩ := AQ h
 refine GV ⟨AX [(0, .str a0), (2, .ptr 25602 0 0), (4, .ptr 25604 0 0), (44, .bool g1)], AX [(25602, ⟨13, false, [.agg [j6 0, j6 0, j6 0, j6 0, j6 0, j6 0, j6 0, j6 0, j6 0, j6 0, .nl, .bool false, .nl]]⟩), (25604, ⟨3, false, [A9 J2.1]⟩)]⟩ ?_ ?_
 have h := hg1
 refine AB ?_
 iterate 3 refine wq rfl ?_
 rcases D7 h with ⟨c2, h⟩ | ⟨c2, h⟩
 iterate 4 refine D8 (gn rfl c2) ?_
 refine AY rfl (BF c2 rfl rfl) ?_
 refine wq rfl ?_
 iterate 4 refine D8 rfl ?_
 refine wq rfl ?_
 obtain rfl := AP h
 exact cq rfl
 iterate 4 refine AY (gy rfl c2) rfl ?_
 refine AY rfl (BD c2 rfl rfl) ?_
 refine wq rfl ?_
 rcases D7 h with ⟨c3, h⟩ | ⟨c3, h⟩
 iterate 4 refine D8 (gn rfl c3) ?_
 refine AY rfl (BF c3 rfl rfl) ?_
 obtain rfl := AP h
 exact cq rfl
 refine AY (gy rfl c3) rfl ?_
 obtain ⟨x41, nW, h⟩ := AQ h
 refine AY (p := .sl 3 (List.map A9 x41)) (gy rfl c3) (congrArg (fun z => some (PV.sl 3 z)) (G5 (e := A9) C8 nW)) ?_
 refine AY (gy rfl c3) (CR rfl) ?_
 refine AY (gy rfl c3) rfl ?_
 refine AY rfl (BD c3 rfl rfl) ?_
 cases AP h
 exact cq rfl
 clear hg1
 refine EN h rfl (fun c4 h => ?_) (fun c4 h => ?_)
 refine AA (AB ?_)
 refine AY (p := .agg [j6 0, j6 0, j6 0, j6 0, j6 0, j6 0, j6 0, j6 0, j6 0, j6 0, .nl, .bool false, .nl]) rfl rfl ?_
 refine uH (KS 45 (I6 (.cons A8 (.cons A8 (.cons A8 (.cons A8 (.cons A8 (.cons A8 (.cons A8 (.cons A8 (.cons A8 (.cons A8 (.cons (FM 2) (.cons A8 (.cons (FM 3) .nil))))))))))))) rfl) rfl) ?_
 refine EC (e' := .agg [j6 0, j6 0, j6 0, j6 0, j6 0, j6 0, j6 0, j6 0, j6 0, j6 0, .sl 2 (List.map AV []), .bool false, .sl 3 (List.map AJ [])]) rfl rfl rfl rfl rfl rfl rfl rfl nofun rfl ?_
 refine wq rfl ?_
 cases AP h
 refine BZ ?_
 exact ⟨nofun, rfl, rfl⟩
 refine BH (AA (AB ?_))
 refine wq rfl ?_
 obtain ⟨mJ, nV, h⟩ := AQ h
 refine AY (p := .sl 3 (List.map A9 mJ)) rfl (congrArg (fun z => some (PV.sl 3 z)) (G5 (e := A9) C8 nV)) ?_
 obtain ⟨aA, xQ, h⟩ := AQ h
 refine AY rfl (EW (cs := [eb aA.Tag, .str aA.Body, .sl 3 aA.Kids]) xQ rfl rfl rfl) ?_
 refine AY (p := .ep [.str aA.Body, .sl 3 aA.Kids]) rfl rfl ?_
 refine wq rfl ?_
 obtain ⟨M6, xP, h⟩ := AQ h
 refine CX rfl (CZ (RA N _ _ xP) rfl (.cons A8 .nil) rfl rfl rfl) ?_
 iterate 5 refine wq rfl ?_
 refine AA (AB ?_)
 iterate 2 refine wq rfl ?_
 refine AY (p := j6 (CE (0 - M6.1))) rfl rfl ?_
 refine AY (p := j6 (mx M6.1 (CE (0 - M6.1)))) rfl rfl ?_
 iterate 2 refine wq rfl ?_
 refine AY (p := .agg [j6 0, j6 0, j6 0, j6 (mx M6.1 (CE (0 - M6.1))), j6 0, j6 0, j6 0, j6 0, j6 0, j6 0, .nl, .bool (decide (M6.1 < (0 : Int))), .nl]) rfl rfl ?_
 refine CX rfl (FE 25610 rfl rfl rfl rfl rfl) ?_
 refine EC (e' := .agg [j6 0, j6 0, j6 0, j6 (mx M6.1 (CE (0 - M6.1))), j6 0, j6 0, j6 0, j6 0, j6 0, j6 0, .nl, .bool (decide (M6.1 < (0 : Int))), .nl]) rfl rfl rfl rfl rfl rfl rfl rfl nofun rfl ?_
 iterate 2 refine AA ?_
 refine AB ?_
 iterate 3 refine wq rfl ?_
 refine wbslp 25665 (ps := [.ptr 25610 0 0, .ptr 25610 0 4, .ptr 25610 0 7]) rfl rfl rfl rfl rfl ?_
 iterate 2 refine wq rfl ?_
 refine CS ?_
 refine uK ?_
 iterate 2 refine AA ?_
 refine SI (cn (st := _) (l := [(0, .str a0), (2, .ptr 25602 0 0), (4, .ptr 25604 0 0), (10, .ptr 25610 0 0), (65, .slr 25665 0 3), (66, j6 3), (67, j6 0)]) (m := [(25602, ⟨13, false, [.agg [j6 0, j6 0, j6 0, j6 0, j6 0, j6 0, j6 0, j6 0, j6 0, j6 0, .nl, .bool false, .nl]]⟩), (25604, ⟨3, false, [A9 J2.1]⟩), (25610, ⟨13, false, [.agg [j6 0, j6 0, j6 0, j6 (mx M6.1 (CE (0 - M6.1))), j6 0, j6 0, j6 0, j6 0, j6 0, j6 0, .nl, .bool (decide (M6.1 < (0 : Int))), .nl]]⟩), (25665, ⟨1, false, [.ptr 25610 0 0, .ptr 25610 0 4, .ptr 25610 0 7]⟩)]) rfl rfl rfl rfl) ?_
 refine AB ?_
 refine AY (p := .bool true) rfl rfl ?_
 refine AA ?_
 refine xcT rfl rfl ?_
 refine BH (AA (CS (AA (AB ?_))))
 refine wq rfl ?_
 refine AY rfl (QJ (i := 0) (n := 3) (j := 0) rfl rfl rfl rfl rfl) ?_
 refine AY rfl (V3 (f := fun p : PV => p) (l := [.ptr 25610 0 0, .ptr 25610 0 4, .ptr 25610 0 7]) (e := .ptr 25610 0 0) (v := .ptr 25610 0 0) rfl rfl rfl rfl) ?_
 iterate 2 refine wq rfl ?_
 refine AA (AB ?_)
 iterate 2 refine wq rfl ?_
 obtain ⟨x75, Kl, h⟩ := AQ h
 refine AY (p := .sl 3 (List.map A9 x75)) rfl (congrArg (fun z => some (PV.sl 3 z)) (G5 (e := A9) C8 Kl)) ?_
 refine wq rfl ?_
 refine AY (p := j6 (1)) rfl rfl ?_
 obtain ⟨Fz, hx78, h⟩ := AQ h
 refine AY rfl (EW (cs := [eb Fz.Tag, .str Fz.Body, .sl 3 Fz.Kids]) hx78 rfl rfl rfl) ?_
 refine AY (p := .ep [.str Fz.Body, .sl 3 Fz.Kids]) rfl rfl ?_
 refine wq rfl ?_
 obtain ⟨x81, Kj, h⟩ := AQ h
 refine CX rfl (CZ (S9 N _ _ Kj) rfl (.cons A8 .nil) rfl rfl rfl) ?_
 iterate 4 refine wq rfl ?_
 refine EC (e' := .agg [j6 x81.1.Time, j6 x81.1.Seq, j6 x81.1.Rep, j6 (mx M6.1 (CE (0 - M6.1))), j6 0, j6 0, j6 0, j6 0, j6 0, j6 0, .nl, .bool (decide (M6.1 < (0 : Int))), .nl]) rfl rfl rfl rfl rfl rfl rfl rfl nofun rfl ?_
 refine wq rfl ?_
 refine AA (AB ?_)
 iterate 2 refine wq rfl ?_
 refine EN h rfl (fun c5 h => ?_) (fun c5 h => ?_)
 refine AA (AB ?_)
 refine AY (p := .agg [j6 0, j6 0, j6 0, j6 0, j6 0, j6 0, j6 0, j6 0, j6 0, j6 0, .nl, .bool false, .nl]) rfl rfl ?_
 refine uH (KS 87 (I6 (.cons A8 (.cons A8 (.cons A8 (.cons A8 (.cons A8 (.cons A8 (.cons A8 (.cons A8 (.cons A8 (.cons A8 (.cons (FM 2) (.cons A8 (.cons (FM 3) .nil))))))))))))) rfl) rfl) ?_
 refine EC (e' := .agg [j6 0, j6 0, j6 0, j6 0, j6 0, j6 0, j6 0, j6 0, j6 0, j6 0, .sl 2 (List.map AV []), .bool false, .sl 3 (List.map AJ [])]) rfl rfl rfl rfl rfl rfl rfl rfl nofun rfl ?_
 refine wq rfl ?_
 cases AP h
 refine BZ ?_
 exact ⟨nofun, rfl, rfl⟩
 refine BH (AB ?_)
 refine AY (p := j6 (1)) rfl rfl ?_
 refine wq rfl ?_
 refine uK ?_
 iterate 2 refine AA ?_
 refine AB ?_
 refine AY (p := .bool true) rfl rfl ?_
 refine AA ?_
 refine xcT rfl rfl ?_
 refine BH (AA (CS (AA ?_)))
 refine SI (cn (st := _) (l := [(0, .str a0), (2, .ptr 25602 0 0), (4, .ptr 25604 0 0), (10, .ptr 25610 0 0), (65, .slr 25665 0 3), (66, j6 3), (67, j6 1)]) (m := [(25602, ⟨13, false, [.agg [j6 0, j6 0, j6 0, j6 0, j6 0, j6 0, j6 0, j6 0, j6 0, j6 0, .nl, .bool false, .nl]]⟩), (25604, ⟨3, false, [A9 J2.1]⟩), (25610, ⟨13, false, [.agg [j6 x81.1.Time, j6 x81.1.Seq, j6 x81.1.Rep, j6 (mx M6.1 (CE (0 - M6.1))), j6 0, j6 0, j6 0, j6 0, j6 0, j6 0, .nl, .bool (decide (M6.1 < (0 : Int))), .nl]]⟩), (25665, ⟨1, false, [.ptr 25610 0 0, .ptr 25610 0 4, .ptr 25610 0 7]⟩)]) rfl rfl rfl rfl) ?_
 refine AB ?_
 refine wq rfl ?_
 refine AY rfl (QJ (i := 1) (n := 3) (j := 1) rfl rfl rfl rfl rfl) ?_
 refine AY rfl (V3 (f := fun p : PV => p) (l := [.ptr 25610 0 0, .ptr 25610 0 4, .ptr 25610 0 7]) (e := .ptr 25610 0 4) (v := .ptr 25610 0 4) rfl rfl rfl rfl) ?_
 iterate 2 refine wq rfl ?_
 refine AA (AB ?_)
 iterate 2 refine wq rfl ?_
 obtain ⟨iE, yA, h⟩ := AQ h
 refine AY (p := .sl 3 (List.map A9 iE)) rfl (congrArg (fun z => some (PV.sl 3 z)) (G5 (e := A9) C8 yA)) ?_
 refine wq rfl ?_
 refine AY (p := j6 (2)) rfl rfl ?_
 obtain ⟨TJ, y9, h⟩ := AQ h
 refine AY rfl (EW (cs := [eb TJ.Tag, .str TJ.Body, .sl 3 TJ.Kids]) y9 rfl rfl rfl) ?_
 refine AY (p := .ep [.str TJ.Body, .sl 3 TJ.Kids]) rfl rfl ?_
 refine wq rfl ?_
 obtain ⟨D9, xZ, h⟩ := AQ h
 refine CX rfl (CZ (S9 N _ _ xZ) rfl (.cons A8 .nil) rfl rfl rfl) ?_
 iterate 4 refine wq rfl ?_
 refine EC (e' := .agg [j6 x81.1.Time, j6 x81.1.Seq, j6 x81.1.Rep, j6 (mx M6.1 (CE (0 - M6.1))), j6 D9.1.Time, j6 D9.1.Seq, j6 D9.1.Rep, j6 0, j6 0, j6 0, .nl, .bool (decide (M6.1 < (0 : Int))), .nl]) rfl rfl rfl rfl rfl rfl rfl rfl nofun rfl ?_
 refine wq rfl ?_
 refine AA (AB ?_)
 iterate 2 refine wq rfl ?_
 refine EN h rfl (fun c6 h => ?_) (fun c6 h => ?_)
 refine AA (AB ?_)
 refine AY (p := .agg [j6 0, j6 0, j6 0, j6 0, j6 0, j6 0, j6 0, j6 0, j6 0, j6 0, .nl, .bool false, .nl]) rfl rfl ?_
 refine uH (KS 87 (I6 (.cons A8 (.cons A8 (.cons A8 (.cons A8 (.cons A8 (.cons A8 (.cons A8 (.cons A8 (.cons A8 (.cons A8 (.cons (FM 2) (.cons A8 (.cons (FM 3) .nil))))))))))))) rfl) rfl) ?_
 refine EC (e' := .agg [j6 0, j6 0, j6 0, j6 0, j6 0, j6 0, j6 0, j6 0, j6 0, j6 0, .sl 2 (List.map AV []), .bool false, .sl 3 (List.map AJ [])]) rfl rfl rfl rfl rfl rfl rfl rfl nofun rfl ?_
 refine wq rfl ?_
 cases AP h
 refine BZ ?_
 exact ⟨nofun, rfl, rfl⟩
 refine BH (AB ?_)
 refine AY (p := j6 (2)) rfl rfl ?_
 refine wq rfl ?_
 refine uK ?_
 iterate 2 refine AA ?_
 refine AB ?_
 refine AY (p := .bool true) rfl rfl ?_
 refine AA ?_
 refine xcT rfl rfl ?_
 refine BH (AA (CS (AA (AB ?_))))
 refine wq rfl ?_
 refine AY rfl (QJ (i := 2) (n := 3) (j := 2) rfl rfl rfl rfl rfl) ?_
 refine AY rfl (V3 (f := fun p : PV => p) (l := [.ptr 25610 0 0, .ptr 25610 0 4, .ptr 25610 0 7]) (e := .ptr 25610 0 7) (v := .ptr 25610 0 7) rfl rfl rfl rfl) ?_
 iterate 2 refine wq rfl ?_
 refine AA ?_
 refine SI (cn (st := _) (l := [(0, .str a0), (2, .ptr 25602 0 0), (4, .ptr 25604 0 0), (10, .ptr 25610 0 0), (11, j6 2), (12, .ptr 25610 0 7), (65, .slr 25665 0 3), (66, j6 3), (67, j6 2)]) (m := [(25602, ⟨13, false, [.agg [j6 0, j6 0, j6 0, j6 0, j6 0, j6 0, j6 0, j6 0, j6 0, j6 0, .nl, .bool false, .nl]]⟩), (25604, ⟨3, false, [A9 J2.1]⟩), (25610, ⟨13, false, [.agg [j6 x81.1.Time, j6 x81.1.Seq, j6 x81.1.Rep, j6 (mx M6.1 (CE (0 - M6.1))), j6 D9.1.Time, j6 D9.1.Seq, j6 D9.1.Rep, j6 0, j6 0, j6 0, .nl, .bool (decide (M6.1 < (0 : Int))), .nl]]⟩), (25665, ⟨1, false, [.ptr 25610 0 0, .ptr 25610 0 4, .ptr 25610 0 7]⟩)]) rfl rfl rfl rfl) ?_
 refine AB ?_
 iterate 2 refine wq rfl ?_
 obtain ⟨iC, xW, h⟩ := AQ h
 refine AY (p := .sl 3 (List.map A9 iC)) rfl (congrArg (fun z => some (PV.sl 3 z)) (G5 (e := A9) C8 xW)) ?_
 refine wq rfl ?_
 refine AY (p := j6 (3)) rfl rfl ?_
 obtain ⟨TI, xV, h⟩ := AQ h
 refine AY rfl (EW (cs := [eb TI.Tag, .str TI.Body, .sl 3 TI.Kids]) xV rfl rfl rfl) ?_
 refine AY (p := .ep [.str TI.Body, .sl 3 TI.Kids]) rfl rfl ?_
 refine wq rfl ?_
 obtain ⟨EI, xU, h⟩ := AQ h
 refine CX rfl (CZ (S9 N _ _ xU) rfl (.cons A8 .nil) rfl rfl rfl) ?_
 iterate 4 refine wq rfl ?_
 refine EC (e' := .agg [j6 x81.1.Time, j6 x81.1.Seq, j6 x81.1.Rep, j6 (mx M6.1 (CE (0 - M6.1))), j6 D9.1.Time, j6 D9.1.Seq, j6 D9.1.Rep, j6 EI.1.Time, j6 EI.1.Seq, j6 EI.1.Rep, .nl, .bool (decide (M6.1 < (0 : Int))), .nl]) rfl rfl rfl rfl rfl rfl rfl rfl nofun rfl ?_
 refine wq rfl ?_
 refine AA (AB ?_)
 iterate 2 refine wq rfl ?_
 refine EN h rfl (fun c7 h => ?_) (fun c7 h => ?_)
 refine AA (AB ?_)
 refine AY (p := .agg [j6 0, j6 0, j6 0, j6 0, j6 0, j6 0, j6 0, j6 0, j6 0, j6 0, .nl, .bool false, .nl]) rfl rfl ?_
 refine uH (KS 87 (I6 (.cons A8 (.cons A8 (.cons A8 (.cons A8 (.cons A8 (.cons A8 (.cons A8 (.cons A8 (.cons A8 (.cons A8 (.cons (FM 2) (.cons A8 (.cons (FM 3) .nil))))))))))))) rfl) rfl) ?_
 refine EC (e' := .agg [j6 0, j6 0, j6 0, j6 0, j6 0, j6 0, j6 0, j6 0, j6 0, j6 0, .sl 2 (List.map AV []), .bool false, .sl 3 (List.map AJ [])]) rfl rfl rfl rfl rfl rfl rfl rfl nofun rfl ?_
 refine wq rfl ?_
 cases AP h
 refine BZ ?_
 exact ⟨nofun, rfl, rfl⟩
 refine BH (AB ?_)
 refine AY (p := j6 (3)) rfl rfl ?_
 refine wq rfl ?_
 obtain ⟨y8, Al, h⟩ := AQ h
 refine R5 (XL N a0 J2 M6 x81 D9 EI N _ _ Al) (cq rfl) ?_
 rintro e s ⟨rfl, rfl⟩
 refine AA (AB ?_)
 refine wq rfl ?_
 obtain ⟨x90, hx90, h⟩ := AQ h
 refine AY (p := .sl 3 (List.map A9 x90)) rfl (congrArg (fun z => some (PV.sl 3 z)) (G5 (e := A9) C8 hx90)) ?_
 obtain ⟨x91, hx91, h⟩ := AQ h
 refine AY rfl (EW (cs := [eb x91.Tag, .str x91.Body, .sl 3 x91.Kids]) hx91 rfl rfl rfl) ?_
 refine AY (p := .ep [.sl 3 x91.Kids]) rfl rfl ?_
 obtain ⟨x93, hx93, h⟩ := AQ h
 refine AY (p := .sl 3 (List.map A9 x93)) rfl (congrArg (fun z => some (PV.sl 3 z)) (G5 (e := A9) C8 hx93)) ?_
 refine wq rfl ?_
 iterate 2 refine AA ?_
 refine AB ?_
 refine wq rfl ?_
 refine CS ?_
 obtain ⟨PH, Db, h⟩ := AQ h
 refine R5 (XK N a0 J2 x93 N _ _ Db) (BX.trans (iR 556110 2 true rfl rfl) (BX.trans (pM 25610 (Q := fun R => R 556110 = some ⟨2, true, []⟩) (x := .agg [j6 x81.1.Time, j6 x81.1.Seq, j6 x81.1.Rep, j6 (mx M6.1 (CE (0 - M6.1))), j6 D9.1.Time, j6 D9.1.Seq, j6 D9.1.Rep, j6 EI.1.Time, j6 EI.1.Seq, j6 EI.1.Rep, .nl, .bool (decide (M6.1 < (0 : Int))), .nl]) (y := .agg [j6 x81.1.Time, j6 x81.1.Seq, j6 x81.1.Rep, j6 (mx M6.1 (CE (0 - M6.1))), j6 D9.1.Time, j6 D9.1.Seq, j6 D9.1.Rep, j6 EI.1.Time, j6 EI.1.Seq, j6 EI.1.Rep, .slr 556110 0 0, .bool (decide (M6.1 < (0 : Int))), .nl]) (.cons (fun _ _ _ _ _ _ h => h) (.cons (fun _ _ _ _ _ _ h => h) (.cons (fun _ _ _ _ _ _ h => h) (.cons (fun _ _ _ _ _ _ h => h) (.cons (fun _ _ _ _ _ _ h => h) (.cons (fun _ _ _ _ _ _ h => h) (.cons (fun _ _ _ _ _ _ h => h) (.cons (fun _ _ _ _ _ _ h => h) (.cons (fun _ _ _ _ _ _ h => h) (.cons (fun _ _ _ _ _ _ h => h) (.cons aR (SN _)))))))))))) rfl rfl rfl) (cq rfl))) ?_
 rintro e s ⟨rfl, rfl⟩
 iterate 2 refine AA ?_
 refine AB ?_
 refine wq rfl ?_
 obtain ⟨Gj, hx119, h⟩ := AQ h
 refine AY (p := .sl 3 (List.map A9 Gj)) rfl (congrArg (fun z => some (PV.sl 3 z)) (G5 (e := A9) C8 hx119)) ?_
 obtain ⟨rM, hx120, h⟩ := AQ h
 refine AY rfl (EW (cs := [eb rM.Tag, .str rM.Body, .sl 3 rM.Kids]) hx120 rfl rfl rfl) ?_
 refine AY (p := .ep [.sl 3 rM.Kids]) rfl rfl ?_
 obtain ⟨JX, xX, h⟩ := AQ h
 refine AY (p := .sl 3 (List.map A9 JX)) rfl (congrArg (fun z => some (PV.sl 3 z)) (G5 (e := A9) C8 xX)) ?_
 refine AY rfl (CR rfl) ?_
 refine wq rfl ?_
 refine CS ?_
 obtain ⟨BU, hy15, h⟩ := AQ h
 refine R5 (XJ N a0 JX N _ _ hy15) (BX.trans (iR 556112 3 true rfl rfl) (BX.trans (pM 25610 (Q := fun R => R 556112 = some ⟨3, true, []⟩) (x := .agg [j6 PH.1, j6 PH.2.1, j6 PH.2.2.1, j6 PH.2.2.2.1, j6 PH.2.2.2.2.1, j6 PH.2.2.2.2.2.1, j6 PH.2.2.2.2.2.2.1, j6 PH.2.2.2.2.2.2.2.1, j6 PH.2.2.2.2.2.2.2.2.1, j6 PH.2.2.2.2.2.2.2.2.2.1, .slr 556110 0 PH.2.2.2.2.2.2.2.2.2.2.2.length, .bool PH.2.2.2.2.2.2.2.2.2.2.1, .nl]) (y := .agg [j6 PH.1, j6 PH.2.1, j6 PH.2.2.1, j6 PH.2.2.2.1, j6 PH.2.2.2.2.1, j6 PH.2.2.2.2.2.1, j6 PH.2.2.2.2.2.2.1, j6 PH.2.2.2.2.2.2.2.1, j6 PH.2.2.2.2.2.2.2.2.1, j6 PH.2.2.2.2.2.2.2.2.2.1, .slr 556110 0 PH.2.2.2.2.2.2.2.2.2.2.2.length, .bool PH.2.2.2.2.2.2.2.2.2.2.1, .slr 556112 0 0]) (.cons (fun _ _ _ _ _ _ h => h) (.cons (fun _ _ _ _ _ _ h => h) (.cons (fun _ _ _ _ _ _ h => h) (.cons (fun _ _ _ _ _ _ h => h) (.cons (fun _ _ _ _ _ _ h => h) (.cons (fun _ _ _ _ _ _ h => h) (.cons (fun _ _ _ _ _ _ h => h) (.cons (fun _ _ _ _ _ _ h => h) (.cons (fun _ _ _ _ _ _ h => h) (.cons (fun _ _ _ _ _ _ h => h) (.cons (fun _ _ _ _ _ _ h => h) (.cons (fun _ _ _ _ _ _ h => h) (.cons aR (SN _)))))))))))))) rfl rfl rfl) (cq rfl))) ?_
 clear hy15
 rcases BU with BU | BU
 rintro e s ⟨rfl, rfl⟩
 iterate 2 refine AA ?_
 refine AB ?_
 refine AY (p := .agg [j6 BU.1, j6 BU.2.1, j6 BU.2.2.1, j6 BU.2.2.2.1, j6 BU.2.2.2.2.1, j6 BU.2.2.2.2.2.1, j6 BU.2.2.2.2.2.2.1, j6 BU.2.2.2.2.2.2.2.1, j6 BU.2.2.2.2.2.2.2.2.1, j6 BU.2.2.2.2.2.2.2.2.2.1, .slr 556110 0 BU.2.2.2.2.2.2.2.2.2.2.2.1.length, .bool BU.2.2.2.2.2.2.2.2.2.2.1, .slr 556112 0 BU.2.2.2.2.2.2.2.2.2.2.2.2.length]) rfl rfl ?_
 obtain ⟨Gf, hx174, h⟩ := AQ h
 refine CX rfl (CZ (L9 N _ _ hx174) rfl (.cons (I6 (.cons A8 (.cons A8 (.cons A8 (.cons A8 (.cons A8 (.cons A8 (.cons A8 (.cons A8 (.cons A8 (.cons A8 (.cons (OV rfl (BP (f := AV) (l := BU.2.2.2.2.2.2.2.2.2.2.2.1))) (.cons A8 (.cons (OV rfl (BP (f := AJ) (l := BU.2.2.2.2.2.2.2.2.2.2.2.2))) .nil))))))))))))) rfl) .nil) rfl rfl rfl) ?_
 iterate 5 refine wq rfl ?_
 obtain ⟨g16, yB, h⟩ := AQ h
 refine GV ⟨AX [(2, .ptr 25602 0 0), (10, .ptr 25610 0 0), (183, .bool g16)], AX [(25602, ⟨13, false, [.agg [j6 0, j6 0, j6 0, j6 0, j6 0, j6 0, j6 0, j6 0, j6 0, j6 0, .nl, .bool false, .nl]]⟩), (25610, ⟨13, false, [.agg [j6 BU.1, j6 BU.2.1, j6 BU.2.2.1, j6 BU.2.2.2.1, j6 BU.2.2.2.2.1, j6 BU.2.2.2.2.2.1, j6 BU.2.2.2.2.2.2.1, j6 BU.2.2.2.2.2.2.2.1, j6 BU.2.2.2.2.2.2.2.2.1, j6 BU.2.2.2.2.2.2.2.2.2.1, .slr 556110 0 BU.2.2.2.2.2.2.2.2.2.2.2.1.length, .bool BU.2.2.2.2.2.2.2.2.2.2.1, .slr 556112 0 BU.2.2.2.2.2.2.2.2.2.2.2.2.length]]⟩), (556110, ⟨2, true, List.map AV BU.2.2.2.2.2.2.2.2.2.2.2.1⟩), (556112, ⟨3, true, List.map AJ BU.2.2.2.2.2.2.2.2.2.2.2.2⟩)]⟩ ?_ ?_
 have h := yB
 refine AB ?_
 iterate 3 refine wq rfl ?_
 rcases D7 h with ⟨c17, h⟩ | ⟨c17, h⟩
 iterate 3 refine D8 (gn rfl c17) ?_
 refine AY rfl (BF c17 rfl rfl) ?_
 obtain rfl := AP h
 exact cq rfl
 iterate 3 refine AY (gy rfl c17) rfl ?_
 refine AY rfl (BD c17 rfl rfl) ?_
 cases AP h
 exact cq rfl
 clear yB
 refine EN h rfl (fun c18 h => ?_) (fun c18 h => ?_)
 refine AA (AB ?_)
 refine AY (p := .agg [j6 0, j6 0, j6 0, j6 0, j6 0, j6 0, j6 0, j6 0, j6 0, j6 0, .nl, .bool false, .nl]) rfl rfl ?_
 refine uH (KS 184 (I6 (.cons A8 (.cons A8 (.cons A8 (.cons A8 (.cons A8 (.cons A8 (.cons A8 (.cons A8 (.cons A8 (.cons A8 (.cons (FM 2) (.cons A8 (.cons (FM 3) .nil))))))))))))) rfl) rfl) ?_
 refine EC (e' := .agg [j6 0, j6 0, j6 0, j6 0, j6 0, j6 0, j6 0, j6 0, j6 0, j6 0, .sl 2 (List.map AV []), .bool false, .sl 3 (List.map AJ [])]) rfl rfl rfl rfl rfl rfl rfl rfl nofun rfl ?_
 refine wq rfl ?_
 cases AP h
 refine BZ ?_
 exact ⟨nofun, rfl, rfl⟩
 refine BH (AA (AB ?_))
 refine AY (p := .agg [j6 BU.1, j6 BU.2.1, j6 BU.2.2.1, j6 BU.2.2.2.1, j6 BU.2.2.2.2.1, j6 BU.2.2.2.2.2.1, j6 BU.2.2.2.2.2.2.1, j6 BU.2.2.2.2.2.2.2.1, j6 BU.2.2.2.2.2.2.2.2.1, j6 BU.2.2.2.2.2.2.2.2.2.1, .slr 556110 0 BU.2.2.2.2.2.2.2.2.2.2.2.1.length, .bool BU.2.2.2.2.2.2.2.2.2.2.1, .slr 556112 0 BU.2.2.2.2.2.2.2.2.2.2.2.2.length]) rfl rfl ?_
 refine EC (e' := .agg [j6 BU.1, j6 BU.2.1, j6 BU.2.2.1, j6 BU.2.2.2.1, j6 BU.2.2.2.2.1, j6 BU.2.2.2.2.2.1, j6 BU.2.2.2.2.2.2.1, j6 BU.2.2.2.2.2.2.2.1, j6 BU.2.2.2.2.2.2.2.2.1, j6 BU.2.2.2.2.2.2.2.2.2.1, .slr 556110 0 BU.2.2.2.2.2.2.2.2.2.2.2.1.length, .bool BU.2.2.2.2.2.2.2.2.2.2.1, .slr 556112 0 BU.2.2.2.2.2.2.2.2.2.2.2.2.length]) rfl rfl rfl rfl rfl rfl rfl rfl nofun rfl ?_
 refine wq rfl ?_
 cases AP h
 refine F4 (st1 := ⟨AX [(2, .ptr 25602 0 0), (3, j6 0)], AX [(25602, ⟨13, false, [AL (⟨(⟨BU.1, BU.2.1, BU.2.2.1⟩ : AO), BU.2.2.2.1, (⟨BU.2.2.2.2.1, BU.2.2.2.2.2.1, BU.2.2.2.2.2.2.1⟩ : AO), (⟨BU.2.2.2.2.2.2.2.1, BU.2.2.2.2.2.2.2.2.1, BU.2.2.2.2.2.2.2.2.2.1⟩ : AO), BU.2.2.2.2.2.2.2.2.2.2.2.1, BU.2.2.2.2.2.2.2.2.2.2.1, BU.2.2.2.2.2.2.2.2.2.2.2.2⟩ : AR)]⟩)]⟩) (BX.trans (Vd.freeze 556110 _ rfl rfl rfl) (BX.trans (Vd.freeze 556112 _ rfl rfl rfl) (BX.trans (nC 25602 (x := .agg [j6 BU.1, j6 BU.2.1, j6 BU.2.2.1, j6 BU.2.2.2.1, j6 BU.2.2.2.2.1, j6 BU.2.2.2.2.2.1, j6 BU.2.2.2.2.2.2.1, j6 BU.2.2.2.2.2.2.2.1, j6 BU.2.2.2.2.2.2.2.2.1, j6 BU.2.2.2.2.2.2.2.2.2.1, .sl 2 (List.take BU.2.2.2.2.2.2.2.2.2.2.2.1.length (List.drop 0 (List.map AV BU.2.2.2.2.2.2.2.2.2.2.2.1))), .bool BU.2.2.2.2.2.2.2.2.2.2.1, .sl 3 (List.take BU.2.2.2.2.2.2.2.2.2.2.2.2.length (List.drop 0 (List.map AJ BU.2.2.2.2.2.2.2.2.2.2.2.2)))]) (y := .agg [j6 (((⟨(⟨BU.1, BU.2.1, BU.2.2.1⟩ : AO), BU.2.2.2.1, (⟨BU.2.2.2.2.1, BU.2.2.2.2.2.1, BU.2.2.2.2.2.2.1⟩ : AO), (⟨BU.2.2.2.2.2.2.2.1, BU.2.2.2.2.2.2.2.2.1, BU.2.2.2.2.2.2.2.2.2.1⟩ : AO), BU.2.2.2.2.2.2.2.2.2.2.2.1, BU.2.2.2.2.2.2.2.2.2.2.1, BU.2.2.2.2.2.2.2.2.2.2.2.2⟩ : AR).CSN).Time), j6 (((⟨(⟨BU.1, BU.2.1, BU.2.2.1⟩ : AO), BU.2.2.2.1, (⟨BU.2.2.2.2.1, BU.2.2.2.2.2.1, BU.2.2.2.2.2.2.1⟩ : AO), (⟨BU.2.2.2.2.2.2.2.1, BU.2.2.2.2.2.2.2.2.1, BU.2.2.2.2.2.2.2.2.2.1⟩ : AO), BU.2.2.2.2.2.2.2.2.2.2.2.1, BU.2.2.2.2.2.2.2.2.2.2.1, BU.2.2.2.2.2.2.2.2.2.2.2.2⟩ : AR).CSN).Seq), j6 (((⟨(⟨BU.1, BU.2.1, BU.2.2.1⟩ : AO), BU.2.2.2.1, (⟨BU.2.2.2.2.1, BU.2.2.2.2.2.1, BU.2.2.2.2.2.2.1⟩ : AO), (⟨BU.2.2.2.2.2.2.2.1, BU.2.2.2.2.2.2.2.2.1, BU.2.2.2.2.2.2.2.2.2.1⟩ : AO), BU.2.2.2.2.2.2.2.2.2.2.2.1, BU.2.2.2.2.2.2.2.2.2.2.1, BU.2.2.2.2.2.2.2.2.2.2.2.2⟩ : AR).CSN).Rep), j6 ((⟨(⟨BU.1, BU.2.1, BU.2.2.1⟩ : AO), BU.2.2.2.1, (⟨BU.2.2.2.2.1, BU.2.2.2.2.2.1, BU.2.2.2.2.2.2.1⟩ : AO), (⟨BU.2.2.2.2.2.2.2.1, BU.2.2.2.2.2.2.2.2.1, BU.2.2.2.2.2.2.2.2.2.1⟩ : AO), BU.2.2.2.2.2.2.2.2.2.2.2.1, BU.2.2.2.2.2.2.2.2.2.2.1, BU.2.2.2.2.2.2.2.2.2.2.2.2⟩ : AR).Kind), j6 (((⟨(⟨BU.1, BU.2.1, BU.2.2.1⟩ : AO), BU.2.2.2.1, (⟨BU.2.2.2.2.1, BU.2.2.2.2.2.1, BU.2.2.2.2.2.2.1⟩ : AO), (⟨BU.2.2.2.2.2.2.2.1, BU.2.2.2.2.2.2.2.2.1, BU.2.2.2.2.2.2.2.2.2.1⟩ : AO), BU.2.2.2.2.2.2.2.2.2.2.2.1, BU.2.2.2.2.2.2.2.2.2.2.1, BU.2.2.2.2.2.2.2.2.2.2.2.2⟩ : AR).ID).Time), j6 (((⟨(⟨BU.1, BU.2.1, BU.2.2.1⟩ : AO), BU.2.2.2.1, (⟨BU.2.2.2.2.1, BU.2.2.2.2.2.1, BU.2.2.2.2.2.2.1⟩ : AO), (⟨BU.2.2.2.2.2.2.2.1, BU.2.2.2.2.2.2.2.2.1, BU.2.2.2.2.2.2.2.2.2.1⟩ : AO), BU.2.2.2.2.2.2.2.2.2.2.2.1, BU.2.2.2.2.2.2.2.2.2.2.1, BU.2.2.2.2.2.2.2.2.2.2.2.2⟩ : AR).ID).Seq), j6 (((⟨(⟨BU.1, BU.2.1, BU.2.2.1⟩ : AO), BU.2.2.2.1, (⟨BU.2.2.2.2.1, BU.2.2.2.2.2.1, BU.2.2.2.2.2.2.1⟩ : AO), (⟨BU.2.2.2.2.2.2.2.1, BU.2.2.2.2.2.2.2.2.1, BU.2.2.2.2.2.2.2.2.2.1⟩ : AO), BU.2.2.2.2.2.2.2.2.2.2.2.1, BU.2.2.2.2.2.2.2.2.2.2.1, BU.2.2.2.2.2.2.2.2.2.2.2.2⟩ : AR).ID).Rep), j6 (((⟨(⟨BU.1, BU.2.1, BU.2.2.1⟩ : AO), BU.2.2.2.1, (⟨BU.2.2.2.2.1, BU.2.2.2.2.2.1, BU.2.2.2.2.2.2.1⟩ : AO), (⟨BU.2.2.2.2.2.2.2.1, BU.2.2.2.2.2.2.2.2.1, BU.2.2.2.2.2.2.2.2.2.1⟩ : AO), BU.2.2.2.2.2.2.2.2.2.2.2.1, BU.2.2.2.2.2.2.2.2.2.2.1, BU.2.2.2.2.2.2.2.2.2.2.2.2⟩ : AR).Parent).Time), j6 (((⟨(⟨BU.1, BU.2.1, BU.2.2.1⟩ : AO), BU.2.2.2.1, (⟨BU.2.2.2.2.1, BU.2.2.2.2.2.1, BU.2.2.2.2.2.2.1⟩ : AO), (⟨BU.2.2.2.2.2.2.2.1, BU.2.2.2.2.2.2.2.2.1, BU.2.2.2.2.2.2.2.2.2.1⟩ : AO), BU.2.2.2.2.2.2.2.2.2.2.2.1, BU.2.2.2.2.2.2.2.2.2.2.1, BU.2.2.2.2.2.2.2.2.2.2.2.2⟩ : AR).Parent).Seq), j6 (((⟨(⟨BU.1, BU.2.1, BU.2.2.1⟩ : AO), BU.2.2.2.1, (⟨BU.2.2.2.2.1, BU.2.2.2.2.2.1, BU.2.2.2.2.2.2.1⟩ : AO), (⟨BU.2.2.2.2.2.2.2.1, BU.2.2.2.2.2.2.2.2.1, BU.2.2.2.2.2.2.2.2.2.1⟩ : AO), BU.2.2.2.2.2.2.2.2.2.2.2.1, BU.2.2.2.2.2.2.2.2.2.2.1, BU.2.2.2.2.2.2.2.2.2.2.2.2⟩ : AR).Parent).Rep), .sl 2 (List.map AV ((⟨(⟨BU.1, BU.2.1, BU.2.2.1⟩ : AO), BU.2.2.2.1, (⟨BU.2.2.2.2.1, BU.2.2.2.2.2.1, BU.2.2.2.2.2.2.1⟩ : AO), (⟨BU.2.2.2.2.2.2.2.1, BU.2.2.2.2.2.2.2.2.1, BU.2.2.2.2.2.2.2.2.2.1⟩ : AO), BU.2.2.2.2.2.2.2.2.2.2.2.1, BU.2.2.2.2.2.2.2.2.2.2.1, BU.2.2.2.2.2.2.2.2.2.2.2.2⟩ : AR).RDN)), .bool ((⟨(⟨BU.1, BU.2.1, BU.2.2.1⟩ : AO), BU.2.2.2.1, (⟨BU.2.2.2.2.1, BU.2.2.2.2.2.1, BU.2.2.2.2.2.2.1⟩ : AO), (⟨BU.2.2.2.2.2.2.2.1, BU.2.2.2.2.2.2.2.2.1, BU.2.2.2.2.2.2.2.2.2.1⟩ : AO), BU.2.2.2.2.2.2.2.2.2.2.2.1, BU.2.2.2.2.2.2.2.2.2.2.1, BU.2.2.2.2.2.2.2.2.2.2.2.2⟩ : AR).DelOld), .sl 3 (List.map AJ ((⟨(⟨BU.1, BU.2.1, BU.2.2.1⟩ : AO), BU.2.2.2.1, (⟨BU.2.2.2.2.1, BU.2.2.2.2.2.1, BU.2.2.2.2.2.2.1⟩ : AO), (⟨BU.2.2.2.2.2.2.2.1, BU.2.2.2.2.2.2.2.2.1, BU.2.2.2.2.2.2.2.2.2.1⟩ : AO), BU.2.2.2.2.2.2.2.2.2.2.2.1, BU.2.2.2.2.2.2.2.2.2.2.1, BU.2.2.2.2.2.2.2.2.2.2.2.2⟩ : AR).Mods))]) (.cons A8 (.cons A8 (.cons A8 (.cons A8 (.cons A8 (.cons A8 (.cons A8 (.cons A8 (.cons A8 (.cons A8 (.cons (GG (congrArg (PV.sl 2) (BP (f := AV) (l := BU.2.2.2.2.2.2.2.2.2.2.2.1)))) (.cons A8 (.cons (GG (congrArg (PV.sl 3) (BP (f := AJ) (l := BU.2.2.2.2.2.2.2.2.2.2.2.2)))) .nil))))))))))))) rfl rfl) (cq rfl)))) ?_
 exact ⟨nofun, rfl, rfl⟩
 rintro e s ⟨rfl, rfl⟩
 cases AP h
 exact ⟨nofun, rfl, rfl⟩
def qJ : IC := (.seq (.seq (.reg [jm 11 5, jm 12 0, jL 13 12, jb .lss 14 11 13]) (.cond (.t 14) .skip (.exit 0))) (.seq (.block 1 (.seq (.regd 9 [jm 17 0, jm 18 5, jx 19 2 17 18, jg 20 2 19, jm 21 1, jm 22 5, jx 23 2 21 22, jg 24 2 23, jn 25 (.eqs true [.s, .s] (.t 20) (.t 24))]) (.cond (.t 25) (.seq (.reg [jc 4 (.bool false)]) .ret) .skip))) (.reg [jm 15 5, ju .add 16 15 1, jm 5 16])))
def k39 : IC := (.seq (.reg [jc 4 (.bool false)]) (.seq (.seq (.reg [jm 6 0, jL 7 6, jm 8 1, jL 9 8, jb .neq 10 7 9]) (.cond (.t 10) (.seq (.reg [jc 4 (.bool false)]) .ret) .skip)) (.seq (.seq (.reg [jc 5 (j6 0)]) (.block 0 (.loop qJ))) (.seq (.reg [jc 4 (.bool true)]) .ret))))
theorem Ji : C9 Tryz.prog Tryz.f39 = some ⟨26, k39, [(.tmp 4)]⟩ := by kernel_rfl
theorem QZ (N : Nat) (a0 : List AU) (a1 : List AU) : ∀ (n : Nat) (x : Int) (y : Unit ⊕ Bool), EJ N a0 a1 n x = some y → WX Tryz.prog (fun _ => false) (.loop qJ) ((fun (x : Int) => ⟨AX [(0, .sl 2 (List.map AV a0)), (1, .sl 2 (List.map AV a1)), (5, j6 x)], AX []⟩) x) ((Sum.elim (fun y e s => e = .exit 0 ∧ s = ⟨AX [], AX []⟩) (fun y e s => e = .ret ∧ s = ⟨AX [(4, .bool y)], AX []⟩) : (Unit ⊕ Bool) → Xt → St → Prop) y) := by
 refine FB _ _ (EJ N a0 a1) (FX N a0 a1) (fun _ => rfl) (fun _ _ => rfl) ?_
 rintro rec v5l14 y h
 iterate 2 refine AA ?_
 refine AB ?_
 iterate 2 refine wq rfl ?_
 refine AY rfl (CR rfl) ?_
 refine wq rfl ?_
 refine EN h rfl (fun c2 h => ?_) (fun c2 h => ?_)
 refine BH (AA (CS (AA (Q8 ?_))))
 iterate 2 refine dq rfl ?_
 obtain ⟨BQ, Z8, h⟩ := AQ h
 refine LM rfl (EW (cs := [.str BQ.Attr, .str BQ.Value]) Z8 rfl rfl rfl) ?_
 refine LM (p := AV BQ) rfl rfl ?_
 iterate 2 refine dq rfl ?_
 obtain ⟨iB, nX, h⟩ := AQ h
 refine LM rfl (EW (cs := [.str iB.Attr, .str iB.Value]) nX rfl rfl rfl) ?_
 refine LM (p := AV iB) rfl rfl ?_
 refine LM (p := .bool (!(BQ.Attr == iB.Attr && (BQ.Value == iB.Value && true)))) rfl rfl ?_
 refine EN h rfl (fun c3 h => ?_) (fun c3 h => ?_)
 refine AA (AB ?_)
 refine wq rfl ?_
 obtain rfl := AP h
 exact F4 (st1 := ⟨AX [(4, .bool false)], AX []⟩) (cq rfl) ⟨rfl, rfl⟩
 refine BH (AB ?_)
 refine wq rfl ?_
 refine AY (p := j6 (CE (v5l14 + (1 : Int)))) rfl rfl ?_
 refine wq rfl ?_
 exact ⟨(CE (v5l14 + (1 : Int))), (cq rfl), h⟩
 cases AP h
 exact ED (st1 := ⟨AX [], AX []⟩) (cq rfl) ⟨rfl, rfl⟩
theorem SY (N : Nat) (a0 : List AU) (a1 : List AU) (r : Bool) (h : IZ N a0 a1 = some r) : Sat Tryz.prog 39 AC [.sl 2 (List.map AV a0), .sl 2 (List.map AV a1)] (.bool r) AC := by
 refine EO mixed Tryz.func39 Ji (rs := [.bool r]) rfl rfl ?_
 refine AA (AB ?_)
 refine wq rfl ?_
 iterate 2 refine AA ?_
 refine AB ?_
 refine wq rfl ?_
 refine AY rfl (CR rfl) ?_
 refine wq rfl ?_
 refine AY rfl (CR rfl) ?_
 refine wq rfl ?_
 refine EN h rfl (fun c1 h => ?_) (fun c1 h => ?_)
 refine AA (AB ?_)
 refine wq rfl ?_
 obtain rfl := AP h
 refine BZ ?_
 exact ⟨nofun, rfl, rfl⟩
 refine BH ?_
 iterate 2 refine AA ?_
 refine AB ?_
 refine wq rfl ?_
 refine CS ?_
 obtain ⟨y4, hy4, h⟩ := AQ h
 refine R5 (QZ N a0 a1 N _ _ hy4) (cq rfl) ?_
 clear hy4
 rcases y4 with y4 | y4
 rintro e s ⟨rfl, rfl⟩
 refine AA (AB ?_)
 refine wq rfl ?_
 obtain rfl := AP h
 refine BZ ?_
 exact ⟨nofun, rfl, rfl⟩
 rintro e s ⟨rfl, rfl⟩
 obtain rfl := AP h
 exact ⟨nofun, rfl, rfl⟩
end Go.Gp
end
