/- A part of the proof: functions of the program and what they compute. -/
import Derived.Test.YtbndinjjpafmjaaA6
import Derived.Test.YtbndinjjpafmjaaA7
import Derived.Test.YtbndinjjpafmjaaA5
import Derived.Shelf.Strings.Builder1
import Derived.Shelf.Strings.Builder2
import Derived.Shelf.Strings.OnBuilder
import Derived.Shelf.Small.Strs
import Derived.Shelf.Strings.Search1
import Derived.Shelf.Strings.Search2
import Derived.Shelf.Strings.Cut
import Derived.Shelf.LaysM
import Derived.Shelf.Strings.Shaped
import Derived.Shelf.Strings.Prefix
import Derived.Test.YtbndinjjpafmjaaProg
section
set_option linter.unusedVariables false
set_option maxRecDepth 100000
namespace Go.Gp
open Go.Vd Go.RowKit Go.Proofs
theorem okTypes : okT Try.prog 6 [25, 47] = true := by kernel_rfl
theorem op9 {p : PV} (h : Shp Try.prog 6 9 p) : ∃ a : List UInt8, p = PV.str a ∧ a.length ≤ maxLen := h.str_inv Try.underlying9
theorem op47 (cs : List PV) (hc : cs.length = 2) (hs : ∀ (j : Nat) (u : TypeId) (q : PV), ([9, 9] : List TypeId)[j]? = some u → cs[j]? = some q → Shp Try.prog 6 u q) : ∃ a : api_AVA, mkE true cs = e_api_AVA a ∧ b_api_AVA a := by
  obtain ⟨c0, cs0, rfl, hc0⟩ := cons_of hc
  obtain ⟨c1, cs1, rfl, hc1⟩ := cons_of hc0
  obtain rfl := nil_of hc1
  obtain ⟨x0, rfl, h0⟩ := op9 (hs 0 _ _ rfl rfl)
  obtain ⟨x1, rfl, h1⟩ := op9 (hs 1 _ _ rfl rfl)
  exact ⟨⟨x0, x1⟩, rfl, ⟨h0, h1⟩⟩
theorem op25 {p : PV} (h : Shp Try.prog 6 25 p) : ∃ a : List api_AVA, p = (es 2 e_api_AVA) a ∧ (a.length ≤ maxLen ∧ ∀ y0 ∈ a, b_api_AVA y0) := by
  obtain ⟨xs, rfl, hl, hx⟩ := h.sl_inv (ts := [9, 9]) Try.underlying25 (by kernel_rfl)
  obtain ⟨l, rfl, hb⟩ := map_of (e := e_api_AVA) (B := fun y => b_api_AVA y) xs fun x hx0 => by
    obtain ⟨cs, rfl, hc, hs⟩ := hx x hx0
    have ha : Vd.isAgg Try.prog 47 = true := by kernel_rfl
    rw [ha]
    exact op47 cs hc hs
  exact ⟨l, rfl, by simpa using hl, hb⟩
theorem op23 {p : PV} (h : Shp Try.prog 6 23 p) : ∃ a : List (List api_AVA), p = (es 1 (es 2 e_api_AVA)) a ∧ (a.length ≤ maxLen ∧ ∀ y0 ∈ a, (y0.length ≤ maxLen ∧ ∀ y1 ∈ y0, b_api_AVA y1)) := by
  obtain ⟨xs, rfl, hl, hx⟩ := h.sl_inv (ts := [25]) Try.underlying23 (by kernel_rfl)
  obtain ⟨l, rfl, hb⟩ := map_of (e := (es 2 e_api_AVA)) (B := fun y => (y.length ≤ maxLen ∧ ∀ y0 ∈ y, b_api_AVA y0)) xs fun x hx0 => by
    obtain ⟨cs, rfl, hc, hs⟩ := hx x hx0
    have ha : Vd.isAgg Try.prog 25 = false := by kernel_rfl
    rw [ha]
    obtain ⟨c, cs', rfl, hc'⟩ := cons_of hc
    obtain rfl := nil_of hc'
    exact op25 (hs 0 _ _ rfl rfl)
  exact ⟨l, rfl, by simpa using hl, hb⟩
theorem op5 {p : PV} (h : Shp Try.prog 6 5 p) : ∃ a : UInt8, p = eb a ∧ True := h.u8_inv Try.underlying5
end Go.Gp
end
section
set_option linter.unusedVariables false
set_option linter.unusedSimpArgs false
set_option maxRecDepth 4000
namespace Go.Gp
open Go.Vd Go.RowKit Go.Proofs
def k30_l10 : IC := (.seq (.seq (.reg [⟨(some 8), (.mov (.t 7)), none⟩, ⟨(some 9), (.mov (.t 0)), none⟩, ⟨(some 10), (.len true (.t 9)), none⟩, ⟨(some 11), (.bin .lss (.t 8) (.t 10)), none⟩]) (.cond (.t 11) .skip (.exit 0))) (.seq (.block 1 (.seq (.reg [⟨(some 14), (.mov (.t 0)), none⟩, ⟨(some 15), (.mov (.t 7)), none⟩, ⟨(some 16), (.idxs (.t 14) (.t 15)), none⟩]) (.block 2 (.seq (.reg [⟨(some 18), (.bin .eql (.t 16) (.c (.int .u8 92))), none⟩, ⟨(some 17), (.mov (.t 18)), none⟩]) (.cond (.t 17) (.reg [⟨(some 19), (.mov (.t 7)), none⟩, ⟨(some 20), (.bin .add (.t 19) (.c (.int .i64 1))), none⟩, ⟨(some 7), (.mov (.t 20)), none⟩]) (.seq (.reg [⟨(some 22), (.mov (.t 1)), none⟩, ⟨(some 23), (.bin .eql (.t 16) (.t 22)), none⟩, ⟨(some 21), (.mov (.t 23)), none⟩]) (.cond (.t 21) (.seq (.reg [⟨(some 24), (.mov (.t 5)), none⟩, ⟨(some 25), (.mov (.t 0)), none⟩, ⟨(some 26), (.mov (.t 6)), none⟩, ⟨(some 27), (.mov (.t 7)), none⟩, ⟨(some 28), (.slcs (.t 25) (some (.t 26)) (some (.t 27))), none⟩, ⟨(some 29), (.bsl 1 [(.t 28)]), none⟩, ⟨(some 30), (.app 9 1 16 (.t 24) (.t 29)), none⟩, ⟨(some 5), (.mov (.t 30)), none⟩]) (.reg [⟨(some 31), (.mov (.t 7)), none⟩, ⟨(some 32), (.bin .add (.t 31) (.c (.int .i64 1))), none⟩, ⟨(some 6), (.mov (.t 32)), none⟩])) .skip))))))) (.reg [⟨(some 12), (.mov (.t 7)), none⟩, ⟨(some 13), (.bin .add (.t 12) (.c (.int .i64 1))), none⟩, ⟨(some 7), (.mov (.t 13)), none⟩])))
def k30 : IC := (.seq (.reg [⟨(some 4), (.mov (.c .nl)), none⟩]) (.seq (.reg [⟨(some 5), (.mov (.c .nl)), none⟩]) (.seq (.reg [⟨(some 6), (.mov (.c (.int .i64 0))), none⟩]) (.seq (.seq (.reg [⟨(some 7), (.mov (.c (.int .i64 0))), none⟩]) (.block 0 (.loop k30_l10))) (.seq (.reg [⟨(some 33), (.mov (.t 5)), none⟩, ⟨(some 34), (.mov (.t 0)), none⟩, ⟨(some 35), (.mov (.t 6)), none⟩, ⟨(some 36), (.slcs (.t 34) (some (.t 35)) none), none⟩, ⟨(some 37), (.bsl 1 [(.t 36)]), none⟩, ⟨(some 38), (.app 9 1 16 (.t 33) (.t 37)), none⟩, ⟨(some 4), (.mov (.t 38)), none⟩]) .ret)))))
theorem k30_cf : cfunc Try.prog Try.f30 = some ⟨39, k30, [(.tmp 4)]⟩ := by kernel_rfl
theorem w_dn_cut_l10 (N : Nat) (a0 : List UInt8) (a1 : UInt8) : ∀ (n : Nat) (x : Int × Int × List (List UInt8)) (y : Int × List (List UInt8)), dn_cut_l10 N a0 a1 n x = some y → WX Try.prog (fun _ => false) (.loop k30_l10) ((fun (x : Int × Int × List (List UInt8)) => ⟨ofL [(0, .str a0), (1, eb a1), (5, .slr 1005 0 x.2.2.length), (6, .int .i64 x.1), (7, .int .i64 x.2.1)], ofL [(1005, ⟨1, true, List.map PV.str x.2.2⟩)]⟩) x) ((fun y e s => e = .exit 0 ∧ s = ⟨ofL [(0, .str a0), (5, .slr 1005 0 y.2.length), (6, .int .i64 y.1)], ofL [(1005, ⟨1, true, List.map PV.str y.2⟩)]⟩ : (Int × List (List UInt8)) → Xt → St → Prop) y) := by
  refine xloop (fun (x : Int × Int × List (List UInt8)) => ⟨ofL [(0, .str a0), (1, eb a1), (5, .slr 1005 0 x.2.2.length), (6, .int .i64 x.1), (7, .int .i64 x.2.1)], ofL [(1005, ⟨1, true, List.map PV.str x.2.2⟩)]⟩) _ (dn_cut_l10 N a0 a1) (dn_cut_l10_b N a0 a1) (fun _ => rfl) (fun _ _ => rfl) ?_
  rintro rec ⟨v6l10, v7l10, r1005l10⟩ y h
  refine xseq ?_
  refine xseq ?_
  refine xreg ?_
  refine wpp rfl rfl ?_
  refine wpp rfl rfl ?_
  refine wpp rfl rfl ?_
  refine wpp rfl rfl ?_
  rcases bifS h with ⟨c1, h⟩ | ⟨c1, h⟩
  · refine xcT rfl c1 ?_
    refine xskip ?_
    refine xjoin (fun (x : Int × Int × List (List UInt8)) => ⟨ofL [(0, .str a0), (1, eb a1), (5, .slr 1005 0 x.2.2.length), (6, .int .i64 x.1), (7, .int .i64 x.2.1)], ofL [(1005, ⟨1, true, List.map PV.str x.2.2⟩)]⟩) (fun x => dn_cut_j17 rec x.1 x.2.1 x.2.2 = some y) ?_ ?_
    · rintro ⟨v6j17, v7j17, r1005j17⟩ h
      refine xreg ?_
      refine wpp rfl rfl ?_
      refine wpp (p := .int .i64 (w64 (v7j17 + (1 : Int)))) rfl rfl ?_
      refine wpp rfl rfl ?_
      exact ⟨(v6j17, (w64 (v7j17 + (1 : Int))), r1005j17), (canon0 ⟨rfl, rfl, rfl, rfl, rfl, trivial⟩ ⟨rfl, trivial⟩ rfl rfl), h⟩
    · skip
      refine xblk ?_
      refine xseq ?_
      refine xreg ?_
      refine wpp rfl rfl ?_
      refine wpp rfl rfl ?_
      obtain ⟨x16, hx16, h⟩ := bindS h
      refine wpp rfl (p_idx hx16 rfl rfl) ?_
      refine xblk ?_
      refine xseq ?_
      refine xreg ?_
      refine wpp (p := .bool (((x16).toNat : Int) == (92 : Int))) rfl rfl ?_
      refine wpp rfl rfl ?_
      rcases bifS h with ⟨c2, h⟩ | ⟨c2, h⟩
      · refine xcT rfl c2 ?_
        refine xreg ?_
        refine wpp rfl rfl ?_
        refine wpp (p := .int .i64 (w64 (v7l10 + (1 : Int)))) rfl rfl ?_
        refine wpp rfl rfl ?_
        exact ⟨(v6l10, (w64 (v7l10 + (1 : Int))), r1005l10), (canon0 ⟨rfl, rfl, rfl, rfl, rfl, trivial⟩ ⟨rfl, trivial⟩ rfl rfl), h⟩
      · refine xcF rfl c2 ?_
        refine xseq ?_
        refine xreg ?_
        refine wpp rfl rfl ?_
        refine wpp (p := .bool (((x16).toNat : Int) == ((a1).toNat : Int))) rfl rfl ?_
        refine wpp rfl rfl ?_
        rcases bifS h with ⟨c3, h⟩ | ⟨c3, h⟩
        · refine xcT rfl c3 ?_
          refine xseq ?_
          refine xreg ?_
          refine wpp rfl rfl ?_
          refine wpp rfl rfl ?_
          refine wpp rfl rfl ?_
          refine wpp rfl rfl ?_
          obtain ⟨x28, hx28, h⟩ := bindS h
          refine wpp rfl (p_cut hx28 rfl rfl rfl) ?_
          refine woo rfl (obsl 29 rfl rfl rfl) ?_
          obtain ⟨x30, hx30, h⟩ := bindS h
          refine wapp (f := PV.str) 30 hx30 rfl rfl rfl rfl rfl (el_row rfl (full_row (f := PV.str) (l := [x28]))) rfl rfl rfl rfl ?_
          refine wpp rfl rfl ?_
          refine xreg ?_
          refine wpp rfl rfl ?_
          refine wpp (p := .int .i64 (w64 (v7l10 + (1 : Int)))) rfl rfl ?_
          refine wpp rfl rfl ?_
          exact ⟨((w64 (v7l10 + (1 : Int))), v7l10, x30), (Norm.trans (rename 30 1005 rfl rfl) (canon0 ⟨rfl, rfl, rfl, rfl, rfl, trivial⟩ ⟨rfl, trivial⟩ rfl rfl)), h⟩
        · refine xcF rfl c3 ?_
          refine xskip ?_
          exact ⟨(v6l10, v7l10, r1005l10), (canon0 ⟨rfl, rfl, rfl, rfl, rfl, trivial⟩ ⟨rfl, trivial⟩ rfl rfl), h⟩
  · refine xcF rfl c1 ?_
    obtain rfl := someS h
    exact xexitn (st1 := ⟨ofL [(0, .str a0), (5, .slr 1005 0 r1005l10.length), (6, .int .i64 v6l10)], ofL [(1005, ⟨1, true, List.map PV.str r1005l10⟩)]⟩) (canon0 ⟨rfl, rfl, rfl, trivial⟩ ⟨rfl, trivial⟩ rfl rfl) ⟨rfl, rfl⟩
theorem sat_dn_cut (N : Nat) (a0 : List UInt8) (a1 : UInt8) (r : List (List UInt8)) (h : dn_cut N a0 a1 = some r) : Sat Try.prog 30 noRows [.str a0, eb a1] (.sl 1 (List.map PV.str r)) noRows := by
  refine xsat mixed Try.func30 k30_cf (rs := [.sl 1 (List.map PV.str r)]) rfl rfl ?_
  refine xseq ?_
  refine xreg ?_
  refine wpp rfl rfl ?_
  refine xseq ?_
  refine xreg ?_
  refine wpp rfl rfl ?_
  refine xseq ?_
  refine xreg ?_
  refine wpp rfl rfl ?_
  refine xseq ?_
  refine xseq ?_
  refine xreg ?_
  refine wpp rfl rfl ?_
  refine xblk ?_
  obtain ⟨y4, hy4, h⟩ := bindS h
  refine xloopU (st1 := ⟨ofL [(0, .str a0), (1, eb a1), (5, .slr 1005 0 ([].length)), (6, .int .i64 0), (7, .int .i64 0)], ofL [(1005, ⟨1, true, List.map PV.str []⟩)]⟩) (Norm.trans (nlrow 5 1005 1 true rfl rfl rfl) (canon0 ⟨rfl, rfl, rfl, rfl, rfl, trivial⟩ ⟨rfl, trivial⟩ rfl rfl)) (w_dn_cut_l10 N a0 a1 N _ _ hy4) ?_
  rintro e s ⟨rfl, rfl⟩
  refine xseq ?_
  refine xreg ?_
  refine wpp rfl rfl ?_
  refine wpp rfl rfl ?_
  refine wpp rfl rfl ?_
  obtain ⟨x36, hx36, h⟩ := bindS h
  refine wpp rfl (p_drop hx36 rfl rfl) ?_
  refine woo rfl (obsl 37 rfl rfl rfl) ?_
  obtain ⟨x38, hx38, h⟩ := bindS h
  refine wapp (f := PV.str) 38 hx38 rfl rfl rfl rfl rfl (el_row rfl (full_row (f := PV.str) (l := [x36]))) rfl rfl rfl rfl ?_
  refine wpp rfl rfl ?_
  obtain rfl := someS h
  refine xretn (st1 := ⟨ofL [(4, .sl 1 (List.map PV.str x38))], ofL []⟩) (Norm.trans (Vd.freeze 38 _ rfl rfl rfl) (Norm.trans (nsub 4 (sub_eq (congrArg (PV.sl 1) (full_row (f := PV.str) (l := x38)))) rfl) (canon0 ⟨rfl, trivial⟩ trivial rfl rfl))) ?_
  exact ⟨nofun, rfl, rfl⟩
end Go.Gp
end
section
namespace Go.Proofs
open Go.Shelf
def Try.lays169_ren : Go.Shelf.Ren := ⟨fun | 169 => 53 | n => n, fun | 70 => 69 | 9 => 9 | 0 => 0 | 72 => 71 | 37 => 45 | 127 => 80 | 3 => 3 | 5 => 5 | n => n, fun | n => n⟩
theorem Try.lays169 : Go.Proofs.Lays.n169 Try.prog Try.lays169_ren := {
  mixed := by kernel_rfl
  f169 := Try.func53.trans (congrArg some (by kernel_rfl))
  t0 := Try.underlying0
  a0 := Try.isAgg0
  z0 := Try.sizeOf0
  v0 := Try.zeroValue0
  t3 := Try.underlying3
  a3 := Try.isAgg3
  z3 := Try.sizeOf3
  v3 := Try.zeroValue3
  t9 := Try.underlying9
  a9 := Try.isAgg9
  z9 := Try.sizeOf9
  v9 := Try.zeroValue9
  t37 := Try.underlying45
  a37 := Try.isAgg45
  z37 := Try.sizeOf45
  v37 := Try.zeroValue45
  t70 := Try.underlying69
  a70 := Try.isAgg69
  z70 := Try.sizeOf69
  v70 := Try.zeroValue69
  t72 := Try.underlying71
  a72 := Try.isAgg71
  z72 := Try.sizeOf71
  v72 := Try.zeroValue71
  t127 := Try.underlying80
  a127 := Try.isAgg80
  z127 := Try.sizeOf80
  v127 := Try.zeroValue80 }
theorem Try.Builder_Extra_169 : Builder.Extra Try.prog Try.lays169_ren := {
  sizeBuilder := by kernel_rfl
  liesBuilder := by kernel_rfl
  t5 := Try.underlying5
  a5 := Try.isAgg5
  z5 := Try.sizeOf5
  v5 := Try.zeroValue5
  infoByte := by kernel_rfl
  cellsByte := by kernel_rfl
  sizeByte := by kernel_rfl
  neB5 := by decide }
open Go.RowKit in
theorem Try.Builder_String (B b : Nat) (l : List UInt8) (w : World) (h : Lib.IsBuilder 71 5 B b (Lib.byteCells l) w) (h0 : l ≠ []) :
    Calls Try.prog 53 #[.pointer (some ⟨b, 0, none⟩)] w fun e w' => e = .returned (.string ⟨l.toArray⟩) ∧ Below B w w' := Any.Builder_String Try.lays169 Try.Builder_Extra_169 B b l w h h0
open Go.RowKit in
theorem Try.Builder_String_empty (B b : Nat) (w : World) (h : Lib.IsBuilder 71 5 B b [] w) (hBw : B ≤ w.heap.size) :
    Calls Try.prog 53 #[.pointer (some ⟨b, 0, none⟩)] w fun e w' => e = .returned (.string ⟨#[]⟩) ∧ Below B w w' := Any.Builder_String_empty Try.lays169 Try.Builder_Extra_169 B b w h hBw
open Go.RowKit in
theorem Try.Builder_String_any (B b : Nat) (l : List UInt8) (w : World) (h : Lib.IsBuilder 71 5 B b (Lib.byteCells l) w) (hBw : B ≤ w.heap.size) :
    Calls Try.prog 53 #[.pointer (some ⟨b, 0, none⟩)] w fun e w' => e = .returned (.string ⟨l.toArray⟩) ∧ Below B w w' := Any.Builder_String_any Try.lays169 Try.Builder_Extra_169 B b l w h hBw
def Try.lays241_ren : Go.Shelf.Ren := ⟨fun | 241 => 59 | 277 => 65 | n => n, fun | 70 => 69 | 3 => 3 | 0 => 0 | 72 => 71 | 37 => 45 | 5 => 5 | n => n, fun | n => n⟩
theorem Try.lays241 : Go.Proofs.Lays.n241 Try.prog Try.lays241_ren := {
  mixed := by kernel_rfl
  f241 := Try.func59.trans (congrArg some (by kernel_rfl))
  f277 := Try.func65.trans (congrArg some (by kernel_rfl))
  t0 := Try.underlying0
  a0 := Try.isAgg0
  z0 := Try.sizeOf0
  v0 := Try.zeroValue0
  t3 := Try.underlying3
  a3 := Try.isAgg3
  z3 := Try.sizeOf3
  v3 := Try.zeroValue3
  t37 := Try.underlying45
  a37 := Try.isAgg45
  z37 := Try.sizeOf45
  v37 := Try.zeroValue45
  t70 := Try.underlying69
  a70 := Try.isAgg69
  z70 := Try.sizeOf69
  v70 := Try.zeroValue69
  t72 := Try.underlying71
  a72 := Try.isAgg71
  z72 := Try.sizeOf71
  v72 := Try.zeroValue71 }
theorem Try.Builder_Extra_241 : Builder.Extra Try.prog Try.lays241_ren := {
  sizeBuilder := by kernel_rfl
  liesBuilder := by kernel_rfl
  t5 := Try.underlying5
  a5 := Try.isAgg5
  z5 := Try.sizeOf5
  v5 := Try.zeroValue5
  infoByte := by kernel_rfl
  cellsByte := by kernel_rfl
  sizeByte := by kernel_rfl
  neB5 := by decide }
open Go.RowKit in
theorem Try.Builder_grow_fresh (B b n : Nat) (w : World) (hB : B ≤ b) (hbk : w.heap[b]? = some (.cells #[.pointer (some ⟨b, 0, none⟩), .slice none 0 0] 71 (0, 0))) (hBw : B ≤ w.heap.size) (hn : n ≤ 281474976710656) :
    Calls Try.prog 59 #[.pointer (some ⟨b, 0, none⟩), .int .i64 n] w fun e w' => e = .returned (.tuple #[]) ∧ (Lib.BuilderAt 71 5 B b (.pointer (some ⟨b, 0, none⟩)) [] w' ∧ Below B w w') := Any.Builder_grow_fresh Try.lays241 Try.Builder_Extra_241 B b n w hB hbk hBw hn
def Try.lays165_ren : Go.Shelf.Ren := ⟨fun | 165 => 51 | 240 => 58 | 241 => 59 | 276 => 64 | 277 => 65 | n => n, fun | 70 => 69 | 3 => 3 | 0 => 0 | 4 => 4 | 9 => 9 | 20 => 20 | 72 => 71 | 37 => 45 | 164 => 82 | 5 => 5 | n => n, fun | n => n⟩
theorem Try.lays165 : Go.Proofs.Lays.n165 Try.prog Try.lays165_ren := {
  mixed := by kernel_rfl
  f165 := Try.func51.trans (congrArg some (by kernel_rfl))
  f240 := Try.func58.trans (congrArg some (by kernel_rfl))
  f241 := Try.func59.trans (congrArg some (by kernel_rfl))
  f276 := Try.func64.trans (congrArg some (by kernel_rfl))
  f277 := Try.func65.trans (congrArg some (by kernel_rfl))
  t0 := Try.underlying0
  a0 := Try.isAgg0
  z0 := Try.sizeOf0
  v0 := Try.zeroValue0
  t3 := Try.underlying3
  a3 := Try.isAgg3
  z3 := Try.sizeOf3
  v3 := Try.zeroValue3
  t4 := Try.underlying4
  a4 := Try.isAgg4
  z4 := Try.sizeOf4
  v4 := Try.zeroValue4
  t9 := Try.underlying9
  a9 := Try.isAgg9
  z9 := Try.sizeOf9
  v9 := Try.zeroValue9
  t20 := Try.underlying20
  a20 := Try.isAgg20
  z20 := Try.sizeOf20
  v20 := Try.zeroValue20
  t37 := Try.underlying45
  a37 := Try.isAgg45
  z37 := Try.sizeOf45
  v37 := Try.zeroValue45
  t70 := Try.underlying69
  a70 := Try.isAgg69
  z70 := Try.sizeOf69
  v70 := Try.zeroValue69
  t72 := Try.underlying71
  a72 := Try.isAgg71
  z72 := Try.sizeOf71
  v72 := Try.zeroValue71
  t164 := Try.underlying82
  a164 := Try.isAgg82
  z164 := Try.sizeOf82
  v164 := Try.zeroValue82 }
theorem Try.Builder_Extra_165 : Builder.Extra Try.prog Try.lays165_ren := {
  sizeBuilder := by kernel_rfl
  liesBuilder := by kernel_rfl
  t5 := Try.underlying5
  a5 := Try.isAgg5
  z5 := Try.sizeOf5
  v5 := Try.zeroValue5
  infoByte := by kernel_rfl
  cellsByte := by kernel_rfl
  sizeByte := by kernel_rfl
  neB5 := by decide }
open Go.RowKit in
theorem Try.Builder_Grow_fresh (B b n : Nat) (w : World) (hB : B ≤ b) (hbk : w.heap[b]? = some (.cells #[.pointer none, .slice none 0 0] 71 (0, 0))) (hBw : B ≤ w.heap.size) (hn : n ≤ 281474976710656) :
    Calls Try.prog 51 #[.pointer (some ⟨b, 0, none⟩), .int .i64 n] w fun e w' => e = .returned (.tuple #[]) ∧ (Lib.BuilderAt 71 5 B b (.pointer (some ⟨b, 0, none⟩)) [] w' ∧ Below B w w') := Any.Builder_Grow_fresh Try.lays165 Try.Builder_Extra_165 B b n w hB hbk hBw hn
def Try.lays156_ren : Go.Shelf.Ren := ⟨fun | 156 => 40 | 165 => 51 | 166 => 52 | 169 => 53 | 240 => 58 | 241 => 59 | 276 => 64 | 277 => 65 | n => n, fun | 31 => 50 | 9 => 9 | 3 => 3 | 4 => 4 | 0 => 0 | 20 => 20 | 72 => 71 | 76 => 75 | 70 => 69 | 37 => 45 | 75 => 74 | 127 => 80 | 164 => 82 | 5 => 5 | 80 => 77 | n => n, fun | n => n⟩
theorem Try.lays156 : Go.Proofs.Lays.n156 Try.prog Try.lays156_ren := {
  mixed := by kernel_rfl
  f156 := Try.func40.trans (congrArg some (by kernel_rfl))
  f165 := Try.func51.trans (congrArg some (by kernel_rfl))
  f166 := Try.func52.trans (congrArg some (by kernel_rfl))
  f169 := Try.func53.trans (congrArg some (by kernel_rfl))
  f240 := Try.func58.trans (congrArg some (by kernel_rfl))
  f241 := Try.func59.trans (congrArg some (by kernel_rfl))
  f276 := Try.func64.trans (congrArg some (by kernel_rfl))
  f277 := Try.func65.trans (congrArg some (by kernel_rfl))
  t0 := Try.underlying0
  a0 := Try.isAgg0
  z0 := Try.sizeOf0
  v0 := Try.zeroValue0
  t3 := Try.underlying3
  a3 := Try.isAgg3
  z3 := Try.sizeOf3
  v3 := Try.zeroValue3
  t4 := Try.underlying4
  a4 := Try.isAgg4
  z4 := Try.sizeOf4
  v4 := Try.zeroValue4
  t9 := Try.underlying9
  a9 := Try.isAgg9
  z9 := Try.sizeOf9
  v9 := Try.zeroValue9
  t20 := Try.underlying20
  a20 := Try.isAgg20
  z20 := Try.sizeOf20
  v20 := Try.zeroValue20
  t31 := Try.underlying50
  a31 := Try.isAgg50
  z31 := Try.sizeOf50
  v31 := Try.zeroValue50
  t37 := Try.underlying45
  a37 := Try.isAgg45
  z37 := Try.sizeOf45
  v37 := Try.zeroValue45
  t70 := Try.underlying69
  a70 := Try.isAgg69
  z70 := Try.sizeOf69
  v70 := Try.zeroValue69
  t72 := Try.underlying71
  a72 := Try.isAgg71
  z72 := Try.sizeOf71
  v72 := Try.zeroValue71
  t75 := Try.underlying74
  a75 := Try.isAgg74
  z75 := Try.sizeOf74
  v75 := Try.zeroValue74
  t76 := Try.underlying75
  a76 := Try.isAgg75
  z76 := Try.sizeOf75
  v76 := Try.zeroValue75
  t127 := Try.underlying80
  a127 := Try.isAgg80
  z127 := Try.sizeOf80
  v127 := Try.zeroValue80
  t164 := Try.underlying82
  a164 := Try.isAgg82
  z164 := Try.sizeOf82
  v164 := Try.zeroValue82 }
theorem Try.Builder_Extra_156 : Builder.Extra Try.prog Try.lays156_ren := {
  sizeBuilder := by kernel_rfl
  liesBuilder := by kernel_rfl
  t5 := Try.underlying5
  a5 := Try.isAgg5
  z5 := Try.sizeOf5
  v5 := Try.zeroValue5
  infoByte := by kernel_rfl
  cellsByte := by kernel_rfl
  sizeByte := by kernel_rfl
  neB5 := by decide }
open Go.RowKit in
theorem Try.strings_Join_none (a : Option Addr) (c : Nat) (sep : ByteArray) (w : World) :
    Calls Try.prog 40 #[.slice a 0 c, .string sep] w fun e w' => e = .returned (.string ⟨#[]⟩) ∧ w' = w := Any.strings_Join_none Try.lays156 Try.Builder_Extra_156 a c sep w
open Go.RowKit in
theorem Try.strings_Join (bk o c : Nat) (xs : List ByteArray) (sep : ByteArray) (w : World) (hcells : ∀ (j : Nat) x, xs[j]? = some x → w.cell? ⟨bk, o + j, none⟩ = some (.string x)) (hbk : bk < w.heap.size) (hN : xs.length ≤ 140737488355328) (hcap : xs.length ≤ c) (hlen : (Lib.join (xs.map (·.data.toList)) sep.data.toList).length ≤ 140737488355328) :
    Calls Try.prog 40 #[.slice (some ⟨bk, o, none⟩) xs.length c, .string sep] w fun e w' => e = .returned (.string ⟨(Lib.join (xs.map (·.data.toList)) sep.data.toList).toArray⟩) ∧ Below w.heap.size w w' := Any.strings_Join Try.lays156 Try.Builder_Extra_156 bk o c xs sep w hcells hbk hN hcap hlen
def Try.lays137_ren : Go.Shelf.Ren := ⟨fun | 137 => 45 | 217 => 56 | 266 => 63 | n => n, fun | 9 => 9 | 5 => 5 | 3 => 3 | n => n, fun | n => n⟩
theorem Try.lays137 : Go.Proofs.Lays.n137 Try.prog Try.lays137_ren := {
  mixed := by kernel_rfl
  f137 := Try.func45.trans (congrArg some (by kernel_rfl))
  f217 := Try.func56.trans (congrArg some (by kernel_rfl))
  f266 := Try.func63.trans (congrArg some (by kernel_rfl))
  t3 := Try.underlying3
  a3 := Try.isAgg3
  z3 := Try.sizeOf3
  v3 := Try.zeroValue3
  t5 := Try.underlying5
  a5 := Try.isAgg5
  z5 := Try.sizeOf5
  v5 := Try.zeroValue5
  t9 := Try.underlying9
  a9 := Try.isAgg9
  z9 := Try.sizeOf9
  v9 := Try.zeroValue9 }
open Go.RowKit in
theorem Try.strings_IndexByte (s : ByteArray) (c : Int) (w : World) :
    Calls Try.prog 45 #[.string s, .int .u8 c] w fun e w' => e = .returned (.int .i64 (Lib.indexByte s.data.toList c.toNat.toUInt8)) ∧ w' = w := Any.strings_IndexByte Try.lays137 s c w
def Try.lays217_ren : Go.Shelf.Ren := ⟨fun | 217 => 56 | 266 => 63 | n => n, fun | 9 => 9 | 5 => 5 | 3 => 3 | n => n, fun | n => n⟩
theorem Try.lays217 : Go.Proofs.Lays.n217 Try.prog Try.lays217_ren := {
  mixed := by kernel_rfl
  f217 := Try.func56.trans (congrArg some (by kernel_rfl))
  f266 := Try.func63.trans (congrArg some (by kernel_rfl))
  t3 := Try.underlying3
  a3 := Try.isAgg3
  z3 := Try.sizeOf3
  v3 := Try.zeroValue3
  t5 := Try.underlying5
  a5 := Try.isAgg5
  z5 := Try.sizeOf5
  v5 := Try.zeroValue5
  t9 := Try.underlying9
  a9 := Try.isAgg9
  z9 := Try.sizeOf9
  v9 := Try.zeroValue9 }
open Go.RowKit Go.Lib in
theorem Try.stringslite_IndexByte (s : ByteArray) (c : Int) (w : World) :
    Calls Try.prog 56 #[.string s, .int .u8 c] w fun e w' => e = .returned (.int .i64 (Lib.indexByte s.data.toList c.toNat.toUInt8)) ∧ w' = w := Any.stringslite_IndexByte Try.lays217 s c w
def Try.lays224_ren : Go.Shelf.Ren := ⟨fun | 224 => 61 | n => n, fun | 3 => 3 | n => n, fun | n => n⟩
theorem Try.lays224 : Go.Proofs.Lays.n224 Try.prog Try.lays224_ren := {
  mixed := by kernel_rfl
  f224 := Try.func61.trans (congrArg some (by kernel_rfl))
  t3 := Try.underlying3
  a3 := Try.isAgg3
  z3 := Try.sizeOf3
  v3 := Try.zeroValue3 }
open Go.RowKit Go.Lib in
theorem Try.bytealg_Cutover (n : Int) (h0 : 0 ≤ n) (h1 : n < 4611686018427387904) (w : World) :
    Calls Try.prog 61 #[.int .i64 n] w fun e w' => e = .returned (.int .i64 ((n + 16) / 8)) ∧ w' = w := Any.bytealg_Cutover Try.lays224 n h0 h1 w
def Try.lays314_ren : Go.Shelf.Ren := ⟨fun | 314 => 66 | n => n, fun | 9 => 9 | 51 => 85 | 3 => 3 | 4 => 4 | 5 => 5 | 46 => 48 | n => n, fun | n => n⟩
theorem Try.lays314 : Go.Proofs.Lays.n314 Try.prog Try.lays314_ren := {
  mixed := by kernel_rfl
  f314 := Try.func66.trans (congrArg some (by kernel_rfl))
  t3 := Try.underlying3
  a3 := Try.isAgg3
  z3 := Try.sizeOf3
  v3 := Try.zeroValue3
  t4 := Try.underlying4
  a4 := Try.isAgg4
  z4 := Try.sizeOf4
  v4 := Try.zeroValue4
  t5 := Try.underlying5
  a5 := Try.isAgg5
  z5 := Try.sizeOf5
  v5 := Try.zeroValue5
  t9 := Try.underlying9
  a9 := Try.isAgg9
  z9 := Try.sizeOf9
  v9 := Try.zeroValue9
  t46 := Try.underlying48
  a46 := Try.isAgg48
  z46 := Try.sizeOf48
  v46 := Try.zeroValue48
  t51 := Try.underlying85
  a51 := Try.isAgg85
  z51 := Try.sizeOf85
  v51 := Try.zeroValue85 }
open Go.RowKit Go.Lib in
theorem Try.bytealg_hashStr (sep : ByteArray) (hs : sep.size < 4294967281) (w : World) :
    Calls Try.prog 66 #[.string sep] w fun e w' => e = .returned (.tuple #[.int .u32 (RK.H sep.data.toList % 4294967296), .int .u32 (16777619 ^ sep.size % 4294967296)]) ∧ w' = w := Any.bytealg_hashStr Try.lays314 sep hs w
def Try.lays267_ren : Go.Shelf.Ren := ⟨fun | 267 => 62 | 314 => 66 | n => n, fun | 9 => 9 | 3 => 3 | 146 => 86 | 51 => 85 | 4 => 4 | 5 => 5 | 46 => 48 | n => n, fun | n => n⟩
theorem Try.lays267 : Go.Proofs.Lays.n267 Try.prog Try.lays267_ren := {
  mixed := by kernel_rfl
  f267 := Try.func62.trans (congrArg some (by kernel_rfl))
  f314 := Try.func66.trans (congrArg some (by kernel_rfl))
  t3 := Try.underlying3
  a3 := Try.isAgg3
  z3 := Try.sizeOf3
  v3 := Try.zeroValue3
  t4 := Try.underlying4
  a4 := Try.isAgg4
  z4 := Try.sizeOf4
  v4 := Try.zeroValue4
  t5 := Try.underlying5
  a5 := Try.isAgg5
  z5 := Try.sizeOf5
  v5 := Try.zeroValue5
  t9 := Try.underlying9
  a9 := Try.isAgg9
  z9 := Try.sizeOf9
  v9 := Try.zeroValue9
  t46 := Try.underlying48
  a46 := Try.isAgg48
  z46 := Try.sizeOf48
  v46 := Try.zeroValue48
  t51 := Try.underlying85
  a51 := Try.isAgg85
  z51 := Try.sizeOf85
  v51 := Try.zeroValue85
  t146 := Try.underlying86
  a146 := Try.isAgg86
  z146 := Try.sizeOf86
  v146 := Try.zeroValue86 }
open Go.RowKit Go.Lib in
theorem Try.bytealg_IndexRabinKarp (s sep : ByteArray) (h1 : 1 ≤ sep.size) (h2 : sep.size ≤ s.size) (hs : s.size < 4294967281) (w : World) :
    Calls Try.prog 62 #[.string s, .string sep] w fun e w' => e = .returned (.int .i64 (Lib.index s.data.toList sep.data.toList)) ∧ w' = w := Any.bytealg_IndexRabinKarp Try.lays267 s sep h1 h2 hs w
def Try.lays219_ren : Go.Shelf.Ren := ⟨fun | 219 => 54 | 217 => 56 | 225 => 60 | 224 => 61 | 267 => 62 | 266 => 63 | 314 => 66 | n => n, fun | 9 => 9 | 3 => 3 | 4 => 4 | 5 => 5 | 46 => 48 | 146 => 86 | 51 => 85 | n => n, fun | 1 => 0 | n => n⟩
theorem Try.lays219 : Go.Proofs.Lays.n219 Try.prog Try.lays219_ren := {
  mixed := by kernel_rfl
  f217 := Try.func56.trans (congrArg some (by kernel_rfl))
  f219 := Try.func54.trans (congrArg some (by kernel_rfl))
  f224 := Try.func61.trans (congrArg some (by kernel_rfl))
  f225 := Try.func60.trans (congrArg some (by kernel_rfl))
  f266 := Try.func63.trans (congrArg some (by kernel_rfl))
  f267 := Try.func62.trans (congrArg some (by kernel_rfl))
  f314 := Try.func66.trans (congrArg some (by kernel_rfl))
  t3 := Try.underlying3
  a3 := Try.isAgg3
  z3 := Try.sizeOf3
  v3 := Try.zeroValue3
  t4 := Try.underlying4
  a4 := Try.isAgg4
  z4 := Try.sizeOf4
  v4 := Try.zeroValue4
  t5 := Try.underlying5
  a5 := Try.isAgg5
  z5 := Try.sizeOf5
  v5 := Try.zeroValue5
  t9 := Try.underlying9
  a9 := Try.isAgg9
  z9 := Try.sizeOf9
  v9 := Try.zeroValue9
  t46 := Try.underlying48
  a46 := Try.isAgg48
  z46 := Try.sizeOf48
  v46 := Try.zeroValue48
  t51 := Try.underlying85
  a51 := Try.isAgg85
  z51 := Try.sizeOf85
  v51 := Try.zeroValue85
  t146 := Try.underlying86
  a146 := Try.isAgg86
  z146 := Try.sizeOf86
  v146 := Try.zeroValue86
  g1 := by kernel_rfl }
open Go.RowKit Go.Lib in
theorem Try.stringslite_Index_one (s : ByteArray) (c : UInt8) (w : World) :
    Calls Try.prog 54 #[.string s, .string ⟨#[c]⟩] w fun e w' => e = .returned (.int .i64 (Lib.indexByte s.data.toList c)) ∧ w' = w := Any.stringslite_Index_one Try.lays219 s c w
open Go.RowKit Go.Lib in
theorem Try.stringslite_Index (s sub : ByteArray) (m : Int) (w : World) (hs : s.size < 4294967281) (hm : w.cell? ⟨0, 0, none⟩ = some (.int .i64 m)) :
    Calls Try.prog 54 #[.string s, .string sub] w fun e w' => e = .returned (.int .i64 (Lib.index s.data.toList sub.data.toList)) ∧ w' = w := Any.stringslite_Index Try.lays219 s sub m w hs hm
def Try.lays220_ren : Go.Shelf.Ren := ⟨fun | 220 => 43 | 219 => 54 | 217 => 56 | 225 => 60 | 224 => 61 | 267 => 62 | 266 => 63 | 314 => 66 | n => n, fun | 9 => 9 | 4 => 4 | 3 => 3 | 5 => 5 | 46 => 48 | 146 => 86 | 51 => 85 | n => n, fun | 1 => 0 | n => n⟩
theorem Try.lays220 : Go.Proofs.Lays.n220 Try.prog Try.lays220_ren := {
  mixed := by kernel_rfl
  f217 := Try.func56.trans (congrArg some (by kernel_rfl))
  f219 := Try.func54.trans (congrArg some (by kernel_rfl))
  f220 := Try.func43.trans (congrArg some (by kernel_rfl))
  f224 := Try.func61.trans (congrArg some (by kernel_rfl))
  f225 := Try.func60.trans (congrArg some (by kernel_rfl))
  f266 := Try.func63.trans (congrArg some (by kernel_rfl))
  f267 := Try.func62.trans (congrArg some (by kernel_rfl))
  f314 := Try.func66.trans (congrArg some (by kernel_rfl))
  t3 := Try.underlying3
  a3 := Try.isAgg3
  z3 := Try.sizeOf3
  v3 := Try.zeroValue3
  t4 := Try.underlying4
  a4 := Try.isAgg4
  z4 := Try.sizeOf4
  v4 := Try.zeroValue4
  t5 := Try.underlying5
  a5 := Try.isAgg5
  z5 := Try.sizeOf5
  v5 := Try.zeroValue5
  t9 := Try.underlying9
  a9 := Try.isAgg9
  z9 := Try.sizeOf9
  v9 := Try.zeroValue9
  t46 := Try.underlying48
  a46 := Try.isAgg48
  z46 := Try.sizeOf48
  v46 := Try.zeroValue48
  t51 := Try.underlying85
  a51 := Try.isAgg85
  z51 := Try.sizeOf85
  v51 := Try.zeroValue85
  t146 := Try.underlying86
  a146 := Try.isAgg86
  z146 := Try.sizeOf86
  v146 := Try.zeroValue86
  g1 := by kernel_rfl }
open Go.RowKit Go.Lib in
theorem Try.stringslite_Cut (s sep : ByteArray) (m : Int) (w : World) (hs : s.size < 4294967281) (hm : w.cell? ⟨0, 0, none⟩ = some (.int .i64 m)) :
    Calls Try.prog 43 #[.string s, .string sep] w fun e w' => e = .returned (.tuple #[.string ⟨(Lib.cut s.data.toList sep.data.toList).1.toArray⟩, .string ⟨(Lib.cut s.data.toList sep.data.toList).2.1.toArray⟩, .bool (Lib.cut s.data.toList sep.data.toList).2.2]) ∧ ∃ n, w' = w.drewN n := Any.stringslite_Cut Try.lays220 s sep m w hs hm
def Try.lays145_ren : Go.Shelf.Ren := ⟨fun | 145 => 32 | 220 => 43 | 219 => 54 | 217 => 56 | 225 => 60 | 224 => 61 | 267 => 62 | 266 => 63 | 314 => 66 | n => n, fun | 9 => 9 | 4 => 4 | 59 => 52 | 3 => 3 | 5 => 5 | 46 => 48 | 146 => 86 | 51 => 85 | n => n, fun | 1 => 0 | n => n⟩
theorem Try.lays145 : Go.Proofs.Lays.n145 Try.prog Try.lays145_ren := {
  mixed := by kernel_rfl
  f145 := Try.func32.trans (congrArg some (by kernel_rfl))
  f217 := Try.func56.trans (congrArg some (by kernel_rfl))
  f219 := Try.func54.trans (congrArg some (by kernel_rfl))
  f220 := Try.func43.trans (congrArg some (by kernel_rfl))
  f224 := Try.func61.trans (congrArg some (by kernel_rfl))
  f225 := Try.func60.trans (congrArg some (by kernel_rfl))
  f266 := Try.func63.trans (congrArg some (by kernel_rfl))
  f267 := Try.func62.trans (congrArg some (by kernel_rfl))
  f314 := Try.func66.trans (congrArg some (by kernel_rfl))
  t3 := Try.underlying3
  a3 := Try.isAgg3
  z3 := Try.sizeOf3
  v3 := Try.zeroValue3
  t4 := Try.underlying4
  a4 := Try.isAgg4
  z4 := Try.sizeOf4
  v4 := Try.zeroValue4
  t5 := Try.underlying5
  a5 := Try.isAgg5
  z5 := Try.sizeOf5
  v5 := Try.zeroValue5
  t9 := Try.underlying9
  a9 := Try.isAgg9
  z9 := Try.sizeOf9
  v9 := Try.zeroValue9
  t46 := Try.underlying48
  a46 := Try.isAgg48
  z46 := Try.sizeOf48
  v46 := Try.zeroValue48
  t51 := Try.underlying85
  a51 := Try.isAgg85
  z51 := Try.sizeOf85
  v51 := Try.zeroValue85
  t59 := Try.underlying52
  a59 := Try.isAgg52
  z59 := Try.sizeOf52
  v59 := Try.zeroValue52
  t146 := Try.underlying86
  a146 := Try.isAgg86
  z146 := Try.sizeOf86
  v146 := Try.zeroValue86
  g1 := by kernel_rfl }
open Go.RowKit Go.Lib in
theorem Try.strings_Cut (s sep : ByteArray) (m : Int) (w : World) (hs : s.size < 4294967281) (hm : w.cell? ⟨0, 0, none⟩ = some (.int .i64 m)) :
    Calls Try.prog 32 #[.string s, .string sep] w fun e w' => e = .returned (.tuple #[.string ⟨(Lib.cut s.data.toList sep.data.toList).1.toArray⟩, .string ⟨(Lib.cut s.data.toList sep.data.toList).2.1.toArray⟩, .bool (Lib.cut s.data.toList sep.data.toList).2.2]) ∧ ∃ n, w' = w.drewN n := Any.strings_Cut Try.lays145 s sep m w hs hm
def Try.laysM219_ren : Go.Shelf.Ren := ⟨fun | 219 => 54 | 217 => 56 | 225 => 60 | 224 => 61 | 267 => 62 | 266 => 63 | 314 => 66 | n => n, fun | 9 => 9 | 3 => 3 | 4 => 4 | 5 => 5 | 46 => 48 | 146 => 86 | 51 => 85 | n => n, fun | 1 => 0 | n => n⟩
theorem Try.laysM219 : Go.Proofs.LaysM.n219 Try.prog Try.laysM219_ren := {
  mixed := by kernel_rfl
  f217 := Try.func56.trans (congrArg some (by kernel_rfl))
  f219 := Try.func54.trans (congrArg some (by kernel_rfl))
  f224 := Try.func61.trans (congrArg some (by kernel_rfl))
  f225 := Try.func60.trans (congrArg some (by kernel_rfl))
  f266 := Try.func63.trans (congrArg some (by kernel_rfl))
  f267 := Try.func62.trans (congrArg some (by kernel_rfl))
  f314 := Try.func66.trans (congrArg some (by kernel_rfl))
  t3 := Try.underlying3
  a3 := Try.isAgg3
  z3 := Try.sizeOf3
  v3 := Try.zeroValue3
  t4 := Try.underlying4
  a4 := Try.isAgg4
  z4 := Try.sizeOf4
  v4 := Try.zeroValue4
  t5 := Try.underlying5
  a5 := Try.isAgg5
  z5 := Try.sizeOf5
  v5 := Try.zeroValue5
  t9 := Try.underlying9
  a9 := Try.isAgg9
  z9 := Try.sizeOf9
  v9 := Try.zeroValue9
  t46 := Try.underlying48
  a46 := Try.isAgg48
  z46 := Try.sizeOf48
  v46 := Try.zeroValue48
  t51 := Try.underlying85
  a51 := Try.isAgg85
  z51 := Try.sizeOf85
  v51 := Try.zeroValue85
  t146 := Try.underlying86
  a146 := Try.isAgg86
  z146 := Try.sizeOf86
  v146 := Try.zeroValue86
  g1 := by kernel_rfl
  i3 := by kernel_rfl
  i4 := by kernel_rfl
  i5 := by kernel_rfl
  i9 := by kernel_rfl
  i46 := by kernel_rfl
  i51 := by kernel_rfl
  i146 := by kernel_rfl
  m1 := by kernel_rfl
  s1_3 := fun w h => Go.Proofs.cell_of_shapedOpen_int (zero := #[.int .i64 0]) (t := 3) h (of_decide_eq_true (by kernel_rfl)) (by kernel_rfl) rfl (by kernel_rfl) (by kernel_rfl) Try.underlying3 }
open Go.RowKit Go.Lib in
theorem Try.stringslite_Index_shaped (s sub : ByteArray) (w : World) (h : w.ShapedOpen Try.prog) (hs : s.size < 4294967281) :
    Calls Try.prog 54 #[.string s, .string sub] w fun e w' => e = .returned (.int .i64 (Lib.index s.data.toList sub.data.toList)) ∧ w' = w := Any.stringslite_Index_shaped Try.laysM219 s sub w h hs
def Try.laysM220_ren : Go.Shelf.Ren := ⟨fun | 220 => 43 | 219 => 54 | 217 => 56 | 225 => 60 | 224 => 61 | 267 => 62 | 266 => 63 | 314 => 66 | n => n, fun | 9 => 9 | 4 => 4 | 3 => 3 | 5 => 5 | 46 => 48 | 146 => 86 | 51 => 85 | n => n, fun | 1 => 0 | n => n⟩
theorem Try.laysM220 : Go.Proofs.LaysM.n220 Try.prog Try.laysM220_ren := {
  mixed := by kernel_rfl
  f217 := Try.func56.trans (congrArg some (by kernel_rfl))
  f219 := Try.func54.trans (congrArg some (by kernel_rfl))
  f220 := Try.func43.trans (congrArg some (by kernel_rfl))
  f224 := Try.func61.trans (congrArg some (by kernel_rfl))
  f225 := Try.func60.trans (congrArg some (by kernel_rfl))
  f266 := Try.func63.trans (congrArg some (by kernel_rfl))
  f267 := Try.func62.trans (congrArg some (by kernel_rfl))
  f314 := Try.func66.trans (congrArg some (by kernel_rfl))
  t3 := Try.underlying3
  a3 := Try.isAgg3
  z3 := Try.sizeOf3
  v3 := Try.zeroValue3
  t4 := Try.underlying4
  a4 := Try.isAgg4
  z4 := Try.sizeOf4
  v4 := Try.zeroValue4
  t5 := Try.underlying5
  a5 := Try.isAgg5
  z5 := Try.sizeOf5
  v5 := Try.zeroValue5
  t9 := Try.underlying9
  a9 := Try.isAgg9
  z9 := Try.sizeOf9
  v9 := Try.zeroValue9
  t46 := Try.underlying48
  a46 := Try.isAgg48
  z46 := Try.sizeOf48
  v46 := Try.zeroValue48
  t51 := Try.underlying85
  a51 := Try.isAgg85
  z51 := Try.sizeOf85
  v51 := Try.zeroValue85
  t146 := Try.underlying86
  a146 := Try.isAgg86
  z146 := Try.sizeOf86
  v146 := Try.zeroValue86
  g1 := by kernel_rfl
  i3 := by kernel_rfl
  i4 := by kernel_rfl
  i5 := by kernel_rfl
  i9 := by kernel_rfl
  i46 := by kernel_rfl
  i51 := by kernel_rfl
  i146 := by kernel_rfl
  m1 := by kernel_rfl
  s1_3 := fun w h => Go.Proofs.cell_of_shapedOpen_int (zero := #[.int .i64 0]) (t := 3) h (of_decide_eq_true (by kernel_rfl)) (by kernel_rfl) rfl (by kernel_rfl) (by kernel_rfl) Try.underlying3 }
open Go.RowKit Go.Lib in
theorem Try.stringslite_Cut_shaped (s sep : ByteArray) (w : World) (h : w.ShapedOpen Try.prog) (hs : s.size < 4294967281) :
    Calls Try.prog 43 #[.string s, .string sep] w fun e w' => e = .returned (.tuple #[.string ⟨(Lib.cut s.data.toList sep.data.toList).1.toArray⟩, .string ⟨(Lib.cut s.data.toList sep.data.toList).2.1.toArray⟩, .bool (Lib.cut s.data.toList sep.data.toList).2.2]) ∧ ∃ n, w' = w.drewN n := Any.stringslite_Cut_shaped Try.laysM220 s sep w h hs
def Try.laysM145_ren : Go.Shelf.Ren := ⟨fun | 145 => 32 | 220 => 43 | 219 => 54 | 217 => 56 | 225 => 60 | 224 => 61 | 267 => 62 | 266 => 63 | 314 => 66 | n => n, fun | 9 => 9 | 4 => 4 | 59 => 52 | 3 => 3 | 5 => 5 | 46 => 48 | 146 => 86 | 51 => 85 | n => n, fun | 1 => 0 | n => n⟩
theorem Try.laysM145 : Go.Proofs.LaysM.n145 Try.prog Try.laysM145_ren := {
  mixed := by kernel_rfl
  f145 := Try.func32.trans (congrArg some (by kernel_rfl))
  f217 := Try.func56.trans (congrArg some (by kernel_rfl))
  f219 := Try.func54.trans (congrArg some (by kernel_rfl))
  f220 := Try.func43.trans (congrArg some (by kernel_rfl))
  f224 := Try.func61.trans (congrArg some (by kernel_rfl))
  f225 := Try.func60.trans (congrArg some (by kernel_rfl))
  f266 := Try.func63.trans (congrArg some (by kernel_rfl))
  f267 := Try.func62.trans (congrArg some (by kernel_rfl))
  f314 := Try.func66.trans (congrArg some (by kernel_rfl))
  t3 := Try.underlying3
  a3 := Try.isAgg3
  z3 := Try.sizeOf3
  v3 := Try.zeroValue3
  t4 := Try.underlying4
  a4 := Try.isAgg4
  z4 := Try.sizeOf4
  v4 := Try.zeroValue4
  t5 := Try.underlying5
  a5 := Try.isAgg5
  z5 := Try.sizeOf5
  v5 := Try.zeroValue5
  t9 := Try.underlying9
  a9 := Try.isAgg9
  z9 := Try.sizeOf9
  v9 := Try.zeroValue9
  t46 := Try.underlying48
  a46 := Try.isAgg48
  z46 := Try.sizeOf48
  v46 := Try.zeroValue48
  t51 := Try.underlying85
  a51 := Try.isAgg85
  z51 := Try.sizeOf85
  v51 := Try.zeroValue85
  t59 := Try.underlying52
  a59 := Try.isAgg52
  z59 := Try.sizeOf52
  v59 := Try.zeroValue52
  t146 := Try.underlying86
  a146 := Try.isAgg86
  z146 := Try.sizeOf86
  v146 := Try.zeroValue86
  g1 := by kernel_rfl
  i3 := by kernel_rfl
  i4 := by kernel_rfl
  i5 := by kernel_rfl
  i9 := by kernel_rfl
  i46 := by kernel_rfl
  i51 := by kernel_rfl
  i59 := by kernel_rfl
  i146 := by kernel_rfl
  m1 := by kernel_rfl
  s1_3 := fun w h => Go.Proofs.cell_of_shapedOpen_int (zero := #[.int .i64 0]) (t := 3) h (of_decide_eq_true (by kernel_rfl)) (by kernel_rfl) rfl (by kernel_rfl) (by kernel_rfl) Try.underlying3 }
open Go.RowKit Go.Lib in
theorem Try.strings_Cut_shaped (s sep : ByteArray) (w : World) (h : w.ShapedOpen Try.prog) (hs : s.size < 4294967281) :
    Calls Try.prog 32 #[.string s, .string sep] w fun e w' => e = .returned (.tuple #[.string ⟨(Lib.cut s.data.toList sep.data.toList).1.toArray⟩, .string ⟨(Lib.cut s.data.toList sep.data.toList).2.1.toArray⟩, .bool (Lib.cut s.data.toList sep.data.toList).2.2]) ∧ ∃ n, w' = w.drewN n := Any.strings_Cut_shaped Try.laysM145 s sep w h hs
def Try.lays206_ren : Go.Shelf.Ren := ⟨fun | 206 => 55 | n => n, fun | 9 => 9 | 4 => 4 | 3 => 3 | n => n, fun | n => n⟩
theorem Try.lays206 : Go.Proofs.Lays.n206 Try.prog Try.lays206_ren := {
  mixed := by kernel_rfl
  f206 := Try.func55.trans (congrArg some (by kernel_rfl))
  t3 := Try.underlying3
  a3 := Try.isAgg3
  z3 := Try.sizeOf3
  v3 := Try.zeroValue3
  t4 := Try.underlying4
  a4 := Try.isAgg4
  z4 := Try.sizeOf4
  v4 := Try.zeroValue4
  t9 := Try.underlying9
  a9 := Try.isAgg9
  z9 := Try.sizeOf9
  v9 := Try.zeroValue9 }
open Go.RowKit Go.Lib in
theorem Try.stringslite_HasPrefix (s p : ByteArray) (w : World) :
    Calls Try.prog 55 #[.string s, .string p] w fun e w' => e = .returned (.bool (Lib.hasPrefix s.data.toList p.data.toList)) ∧ w' = w := Any.stringslite_HasPrefix Try.lays206 s p w
def Try.lays99_ren : Go.Shelf.Ren := ⟨fun | 99 => 44 | 206 => 55 | n => n, fun | 9 => 9 | 4 => 4 | 3 => 3 | n => n, fun | n => n⟩
theorem Try.lays99 : Go.Proofs.Lays.n99 Try.prog Try.lays99_ren := {
  mixed := by kernel_rfl
  f99 := Try.func44.trans (congrArg some (by kernel_rfl))
  f206 := Try.func55.trans (congrArg some (by kernel_rfl))
  t3 := Try.underlying3
  a3 := Try.isAgg3
  z3 := Try.sizeOf3
  v3 := Try.zeroValue3
  t4 := Try.underlying4
  a4 := Try.isAgg4
  z4 := Try.sizeOf4
  v4 := Try.zeroValue4
  t9 := Try.underlying9
  a9 := Try.isAgg9
  z9 := Try.sizeOf9
  v9 := Try.zeroValue9 }
open Go.RowKit Go.Lib in
theorem Try.strings_HasPrefix (s p : ByteArray) (w : World) :
    Calls Try.prog 44 #[.string s, .string p] w fun e w' => e = .returned (.bool (Lib.hasPrefix s.data.toList p.data.toList)) ∧ w' = w := Any.strings_HasPrefix Try.lays99 s p w
end Go.Proofs
end
section
set_option linter.unusedVariables false
set_option linter.unusedSimpArgs false
namespace Go.Gp
open Go.Vd Go.RowKit Go.Proofs
theorem sat_strings_IndexByte (N : Nat) (s : List UInt8) (c : UInt8) (r : Int) (h : strings_IndexByte N s c = some r) : Sat Try.prog 45 noRows [.str s, eb c] (.int .i64 r) noRows := by
  cases h
  refine sat_lib1 (vs := [.string ⟨s.toArray⟩, .int .u8 (c.toNat : Int)]) rfl rfl fun w => ?_
  have h := Try.strings_IndexByte ⟨s.toArray⟩ (c.toNat : Int) w
  have e : ((c.toNat : Int)).toNat.toUInt8 = c := by simp
  rw [e] at h
  exact h
theorem sat_stringslite_Index (N : Nat) (s p : List UInt8) (r : Int) (h : stringslite_Index N s p = some r) : Sat Try.prog 54 noRows [.str s, .str p] (.int .i64 r) noRows := by
  obtain ⟨c, rfl, rfl⟩ := stringslite_Index_inv h
  exact sat_lib1 (vs := [.string ⟨s.toArray⟩, .string ⟨#[c]⟩]) rfl rfl fun w => Try.stringslite_Index_one ⟨s.toArray⟩ c w
theorem sat_strings_Join (N : Nat) (xs : List (List UInt8)) (sep r : List UInt8) (h : strings_Join N xs sep = some r) : Sat Try.prog 40 noRows [.sl 1 (List.map PV.str xs), .str sep] (.str r) noRows :=
  sat_join (fun a c sep w => Try.strings_Join_none a c sep w) (fun bk o c xs sep w h1 h2 h3 h4 h5 => Try.strings_Join bk o c xs sep w h1 h2 h3 h4 h5) h
end Go.Gp
end
section
set_option linter.unusedVariables false
set_option linter.unusedSimpArgs false
set_option maxRecDepth 4000
namespace Go.Gp
open Go.Vd Go.RowKit Go.Proofs
def k43 : IC := (.seq (.reg [⟨(some 4), (.mov (.c (.str []))), none⟩, ⟨(some 5), (.mov (.c (.str []))), none⟩, ⟨(some 6), (.mov (.c (.bool false))), none⟩]) (.seq (.seq (.reg [⟨(some 8), (.mov (.t 0)), none⟩, ⟨(some 9), (.mov (.t 1)), none⟩, ⟨(some 10), (.call 54 [(.t 8), (.t 9)]), none⟩, ⟨(some 7), (.mov (.t 10)), none⟩]) (.seq (.reg [⟨(some 11), (.mov (.t 7)), none⟩, ⟨(some 12), (.bin .geq (.t 11) (.c (.int .i64 0))), none⟩]) (.cond (.t 12) (.seq (.regd 12 [⟨(some 13), (.mov (.t 0)), none⟩, ⟨(some 14), (.mov (.t 7)), none⟩, ⟨(some 15), (.slcs (.t 13) none (some (.t 14))), none⟩, ⟨(some 16), (.mov (.t 0)), none⟩, ⟨(some 17), (.mov (.t 7)), none⟩, ⟨(some 18), (.mov (.t 1)), none⟩, ⟨(some 19), (.len true (.t 18)), none⟩, ⟨(some 20), (.bin .add (.t 17) (.t 19)), none⟩, ⟨(some 21), (.slcs (.t 16) (some (.t 20)) none), none⟩, ⟨(some 4), (.mov (.t 15)), none⟩, ⟨(some 5), (.mov (.t 21)), none⟩, ⟨(some 6), (.mov (.c (.bool true))), none⟩]) .ret) .skip))) (.seq (.reg [⟨(some 22), (.mov (.t 0)), none⟩, ⟨(some 4), (.mov (.t 22)), none⟩, ⟨(some 5), (.mov (.c (.str []))), none⟩, ⟨(some 6), (.mov (.c (.bool false))), none⟩]) .ret)))
theorem k43_cf : cfunc Try.prog Try.f43 = some ⟨23, k43, [(.tmp 4), (.tmp 5), (.tmp 6)]⟩ := by kernel_rfl
theorem sat_internal_stringslite_Cut (N : Nat) (a0 : List UInt8) (a1 : List UInt8) (r : List UInt8 × List UInt8 × Bool) (h : internal_stringslite_Cut N a0 a1 = some r) : Sat Try.prog 43 noRows [.str a0, .str a1] (.tup [.str r.1, .str r.2.1, .bool r.2.2]) noRows := by
  refine xsat mixed Try.func43 k43_cf (rs := [.str r.1, .str r.2.1, .bool r.2.2]) rfl rfl ?_
  refine xseq ?_
  refine xreg ?_
  refine wpp rfl rfl ?_
  refine wpp rfl rfl ?_
  refine wpp rfl rfl ?_
  refine xseq ?_
  refine xseq ?_
  refine xreg ?_
  refine wpp rfl rfl ?_
  refine wpp rfl rfl ?_
  obtain ⟨x10, hx10, h⟩ := bindS h
  refine woo rfl (ocal (sat_stringslite_Index N _ _ _ hx10) rfl (.cons sub_rfl (.cons sub_rfl .nil)) rfl rfl rfl) ?_
  refine wpp rfl rfl ?_
  refine xseq ?_
  refine xreg ?_
  refine wpp rfl rfl ?_
  refine wpp rfl rfl ?_
  rcases bifS h with ⟨c1, h⟩ | ⟨c1, h⟩
  · refine xcT rfl c1 ?_
    refine xseq ?_
    refine xregd ?_
    refine wdp rfl rfl ?_
    refine wdp rfl rfl ?_
    obtain ⟨x15, hx15, h⟩ := bindS h
    refine wdp rfl (p_take hx15 rfl rfl) ?_
    refine wdp rfl rfl ?_
    refine wdp rfl rfl ?_
    refine wdp rfl rfl ?_
    refine wdp rfl rfl ?_
    refine wdp (p := .int .i64 (w64 (x10 + (a1.length : Int)))) rfl rfl ?_
    obtain ⟨x21, hx21, h⟩ := bindS h
    refine wdp rfl (p_drop hx21 rfl rfl) ?_
    refine wdp rfl rfl ?_
    refine wdp rfl rfl ?_
    refine wdp rfl rfl ?_
    obtain rfl := someS h
    refine xret ?_
    exact ⟨nofun, rfl, rfl⟩
  · refine xcF rfl c1 ?_
    refine xskip ?_
    refine xseq ?_
    refine xreg ?_
    refine wpp rfl rfl ?_
    refine wpp rfl rfl ?_
    refine wpp rfl rfl ?_
    refine wpp rfl rfl ?_
    obtain rfl := someS h
    refine xret ?_
    exact ⟨nofun, rfl, rfl⟩
end Go.Gp
end
section
set_option linter.unusedVariables false
set_option linter.unusedSimpArgs false
set_option maxRecDepth 4000
namespace Go.Gp
open Go.Vd Go.RowKit Go.Proofs
def k32 : IC := (.seq (.reg [⟨(some 4), (.mov (.c (.str []))), none⟩, ⟨(some 5), (.mov (.c (.str []))), none⟩, ⟨(some 6), (.mov (.c (.bool false))), none⟩]) (.seq (.reg [⟨(some 7), (.mov (.t 0)), none⟩, ⟨(some 8), (.mov (.t 1)), none⟩, ⟨(some 9), (.call 43 [(.t 7), (.t 8)]), none⟩, ⟨(some 10), (.ext 0 (.t 9)), none⟩, ⟨(some 11), (.ext 1 (.t 9)), none⟩, ⟨(some 12), (.ext 2 (.t 9)), none⟩, ⟨(some 4), (.mov (.t 10)), none⟩, ⟨(some 5), (.mov (.t 11)), none⟩, ⟨(some 6), (.mov (.t 12)), none⟩]) .ret))
theorem k32_cf : cfunc Try.prog Try.f32 = some ⟨13, k32, [(.tmp 4), (.tmp 5), (.tmp 6)]⟩ := by kernel_rfl
theorem sat_strings_Cut (N : Nat) (a0 : List UInt8) (a1 : List UInt8) (r : List UInt8 × List UInt8 × Bool) (h : strings_Cut N a0 a1 = some r) : Sat Try.prog 32 noRows [.str a0, .str a1] (.tup [.str r.1, .str r.2.1, .bool r.2.2]) noRows := by
  refine xsat mixed Try.func32 k32_cf (rs := [.str r.1, .str r.2.1, .bool r.2.2]) rfl rfl ?_
  refine xseq ?_
  refine xreg ?_
  refine wpp rfl rfl ?_
  refine wpp rfl rfl ?_
  refine wpp rfl rfl ?_
  refine xseq ?_
  refine xreg ?_
  refine wpp rfl rfl ?_
  refine wpp rfl rfl ?_
  obtain ⟨x9, hx9, h⟩ := bindS h
  refine woo rfl (ocal (sat_internal_stringslite_Cut N _ _ _ hx9) rfl (.cons sub_rfl (.cons sub_rfl .nil)) rfl rfl rfl) ?_
  refine wpp rfl rfl ?_
  refine wpp rfl rfl ?_
  refine wpp rfl rfl ?_
  refine wpp rfl rfl ?_
  refine wpp rfl rfl ?_
  refine wpp rfl rfl ?_
  obtain rfl := someS h
  refine xret ?_
  exact ⟨nofun, rfl, rfl⟩
end Go.Gp
end
section
set_option linter.unusedVariables false
set_option linter.unusedSimpArgs false
set_option maxRecDepth 4000
namespace Go.Gp
open Go.Vd Go.RowKit Go.Proofs
def k55 : IC := (.seq (.reg [⟨(some 4), (.mov (.c (.bool false))), none⟩]) (.seq (.reg [⟨(some 5), (.mov (.t 0)), none⟩, ⟨(some 6), (.len true (.t 5)), none⟩, ⟨(some 7), (.mov (.t 1)), none⟩, ⟨(some 8), (.len true (.t 7)), none⟩, ⟨(some 9), (.bin .geq (.t 6) (.t 8)), none⟩, ⟨(some 10), (.mov (.t 9)), none⟩, ⟨(some 11), (.mov (.t 0)), (some (10, true))⟩, ⟨(some 12), (.mov (.t 1)), (some (10, true))⟩, ⟨(some 13), (.len true (.t 12)), (some (10, true))⟩, ⟨(some 14), (.slcs (.t 11) none (some (.t 13))), (some (10, true))⟩, ⟨(some 15), (.mov (.t 1)), (some (10, true))⟩, ⟨(some 16), (.bin .eql (.t 14) (.t 15)), (some (10, true))⟩, ⟨(some 17), (.pick (.t 10) (.t 16) (.c (.bool false))), none⟩, ⟨(some 4), (.mov (.t 17)), none⟩]) .ret))
theorem k55_cf : cfunc Try.prog Try.f55 = some ⟨18, k55, [(.tmp 4)]⟩ := by kernel_rfl
theorem sat_internal_stringslite_HasPrefix (N : Nat) (a0 : List UInt8) (a1 : List UInt8) (r : Bool) (h : internal_stringslite_HasPrefix N a0 a1 = some r) : Sat Try.prog 55 noRows [.str a0, .str a1] (.bool r) noRows := by
  refine xsat mixed Try.func55 k55_cf (rs := [.bool r]) rfl rfl ?_
  refine xseq ?_
  refine xreg ?_
  refine wpp rfl rfl ?_
  obtain ⟨g1, hg1, h⟩ := bindS h
  refine xseg ⟨ofL [(4, .bool g1)], ofL []⟩ ?_ ?_
  · have h := hg1
    refine xreg ?_
    refine wpp rfl rfl ?_
    refine wpp rfl rfl ?_
    refine wpp rfl rfl ?_
    refine wpp rfl rfl ?_
    refine wpp rfl rfl ?_
    refine wpp rfl rfl ?_
    rcases bifS h with ⟨c2, h⟩ | ⟨c2, h⟩
    · skip
      refine wpp (gy rfl c2) rfl ?_
      refine wpp (gy rfl c2) rfl ?_
      refine wpp (gy rfl c2) rfl ?_
      obtain ⟨x14, hx14, h⟩ := bindS h
      refine wpp (gy rfl c2) (p_take hx14 rfl rfl) ?_
      refine wpp (gy rfl c2) rfl ?_
      refine wpp (gy rfl c2) rfl ?_
      refine wpp rfl (p_pick1 c2 rfl rfl) ?_
      refine wpp rfl rfl ?_
      obtain rfl := someS h
      exact (canon0 ⟨rfl, trivial⟩ trivial rfl rfl)
    · skip
      refine wsk (gn rfl c2) ?_
      refine wsk (gn rfl c2) ?_
      refine wsk (gn rfl c2) ?_
      refine wsk (gn rfl c2) ?_
      refine wsk (gn rfl c2) ?_
      refine wsk (gn rfl c2) ?_
      refine wpp rfl (p_pick0 c2 rfl rfl) ?_
      refine wpp rfl rfl ?_
      obtain rfl := someS h
      exact (canon0 ⟨rfl, trivial⟩ trivial rfl rfl)
  · clear hg1
    obtain rfl := someS h
    refine xret ?_
    exact ⟨nofun, rfl, rfl⟩
end Go.Gp
end
section
set_option linter.unusedVariables false
set_option linter.unusedSimpArgs false
set_option maxRecDepth 4000
namespace Go.Gp
open Go.Vd Go.RowKit Go.Proofs
def k44 : IC := (.seq (.reg [⟨(some 4), (.mov (.c (.bool false))), none⟩]) (.seq (.reg [⟨(some 5), (.mov (.t 0)), none⟩, ⟨(some 6), (.mov (.t 1)), none⟩, ⟨(some 7), (.call 55 [(.t 5), (.t 6)]), none⟩, ⟨(some 4), (.mov (.t 7)), none⟩]) .ret))
theorem k44_cf : cfunc Try.prog Try.f44 = some ⟨8, k44, [(.tmp 4)]⟩ := by kernel_rfl
theorem sat_strings_HasPrefix (N : Nat) (a0 : List UInt8) (a1 : List UInt8) (r : Bool) (h : strings_HasPrefix N a0 a1 = some r) : Sat Try.prog 44 noRows [.str a0, .str a1] (.bool r) noRows := by
  refine xsat mixed Try.func44 k44_cf (rs := [.bool r]) rfl rfl ?_
  refine xseq ?_
  refine xreg ?_
  refine wpp rfl rfl ?_
  refine xseq ?_
  refine xreg ?_
  refine wpp rfl rfl ?_
  refine wpp rfl rfl ?_
  obtain ⟨x7, hx7, h⟩ := bindS h
  refine woo rfl (ocal (sat_internal_stringslite_HasPrefix N _ _ _ hx7) rfl (.cons sub_rfl (.cons sub_rfl .nil)) rfl rfl rfl) ?_
  refine wpp rfl rfl ?_
  obtain rfl := someS h
  refine xret ?_
  exact ⟨nofun, rfl, rfl⟩
end Go.Gp
end
section
set_option linter.unusedVariables false
set_option linter.unusedSimpArgs false
set_option maxRecDepth 4000
namespace Go.Gp
open Go.Vd Go.RowKit Go.Proofs
def k27_l8 : IC := (.seq (.reg [⟨(some 11), (.bin .lss (.t 10) (.t 9)), none⟩]) (.seq (.cond (.t 11) .skip (.exit 0)) (.seq (.block 1 (.seq (.reg [⟨(some 12), (.mov (.t 10)), none⟩, ⟨(some 13), (.ixp 1 (.t 8) (.t 10)), none⟩, ⟨(some 14), (.load 1 false (.t 13)), none⟩, ⟨(some 4), (.mov (.t 12)), none⟩, ⟨(some 5), (.mov (.t 14)), none⟩]) (.seq (.reg [⟨(some 15), (.mov (.t 5)), none⟩, ⟨(some 16), (.bin .geq (.t 15) (.c (.int .u8 65))), none⟩, ⟨(some 17), (.mov (.t 16)), none⟩, ⟨(some 18), (.mov (.t 5)), (some (17, true))⟩, ⟨(some 19), (.bin .leq (.t 18) (.c (.int .u8 90))), (some (17, true))⟩, ⟨(some 20), (.pick (.t 17) (.t 19) (.c (.bool false))), none⟩]) (.cond (.t 20) (.reg [⟨(some 21), (.mov (.t 3)), none⟩, ⟨(some 22), (.mov (.t 4)), none⟩, ⟨(some 23), (.mov (.t 5)), none⟩, ⟨(some 24), (.bin .add (.t 23) (.c (.int .u8 32))), none⟩, ⟨(some 25), (.ixp 1 (.t 21) (.t 22)), none⟩, ⟨none, (.store 1 (.t 25) (.t 24)), none⟩]) .skip)))) (.reg [⟨(some 26), (.bin .add (.t 10) (.c (.int .i64 1))), none⟩, ⟨(some 10), (.mov (.t 26)), none⟩]))))
def k27 : IC := (.seq (.reg [⟨(some 2), (.mov (.c (.str []))), none⟩]) (.seq (.reg [⟨(some 6), (.mov (.t 0)), none⟩, ⟨(some 7), (.cvs (.t 6)), none⟩, ⟨(some 3), (.mov (.t 7)), none⟩]) (.seq (.seq (.reg [⟨(some 8), (.mov (.t 3)), none⟩, ⟨(some 9), (.len false (.t 8)), none⟩, ⟨(some 10), (.mov (.c (.int .i64 0))), none⟩]) (.block 0 (.loop k27_l8))) (.seq (.reg [⟨(some 27), (.mov (.t 3)), none⟩, ⟨(some 28), (.cvb (.t 27)), none⟩, ⟨(some 2), (.mov (.t 28)), none⟩]) .ret))))
theorem k27_cf : cfunc Try.prog Try.f27 = some ⟨29, k27, [(.tmp 2)]⟩ := by kernel_rfl
theorem w_dn_Lower_l8 (N : Nat) (a0 : List UInt8) : ∀ (n : Nat) (x : Int × List UInt8) (y : List UInt8), dn_Lower_l8 N a0 n x = some y → WX Try.prog (fun _ => false) (.loop k27_l8) ((fun (x : Int × List UInt8) => ⟨ofL [(3, .slr 7 0 x.2.length), (8, .slr 7 0 x.2.length), (9, .int .i64 (a0.length : Int)), (10, .int .i64 x.1)], ofL [(7, ⟨1, true, List.map eb x.2⟩)]⟩) x) ((fun y e s => e = .exit 0 ∧ s = ⟨ofL [(3, .slr 7 0 y.length)], ofL [(7, ⟨1, true, List.map eb y⟩)]⟩ : (List UInt8) → Xt → St → Prop) y) := by
  refine xloop (fun (x : Int × List UInt8) => ⟨ofL [(3, .slr 7 0 x.2.length), (8, .slr 7 0 x.2.length), (9, .int .i64 (a0.length : Int)), (10, .int .i64 x.1)], ofL [(7, ⟨1, true, List.map eb x.2⟩)]⟩) _ (dn_Lower_l8 N a0) (dn_Lower_l8_b N a0) (fun _ => rfl) (fun _ _ => rfl) ?_
  rintro rec ⟨v10l8, r7l8⟩ y h
  refine xseq ?_
  refine xreg ?_
  refine wpp rfl rfl ?_
  refine xseq ?_
  rcases bifS h with ⟨c1, h⟩ | ⟨c1, h⟩
  · refine xcT rfl c1 ?_
    refine xskip ?_
    refine xjoin (fun (x : List UInt8) => ⟨ofL [(3, .slr 7 0 x.length), (8, .slr 7 0 x.length), (9, .int .i64 (a0.length : Int)), (10, .int .i64 v10l8)], ofL [(7, ⟨1, true, List.map eb x⟩)]⟩) (fun x => dn_Lower_j15 v10l8 rec x = some y) ?_ ?_
    · rintro r7j15 h
      refine xreg ?_
      refine wpp (p := .int .i64 (w64 (v10l8 + (1 : Int)))) rfl rfl ?_
      refine wpp rfl rfl ?_
      exact ⟨((w64 (v10l8 + (1 : Int))), r7j15), (canon0 ⟨rfl, rfl, rfl, rfl, trivial⟩ ⟨rfl, trivial⟩ rfl rfl), h⟩
    · skip
      refine xblk ?_
      refine xseq ?_
      refine xreg ?_
      refine wpp rfl rfl ?_
      obtain ⟨x13, hx13, h⟩ := bindS h
      refine wpp rfl (p_ixr hx13 rfl rfl rfl rfl) ?_
      obtain ⟨x14, hx14, h⟩ := bindS h
      refine wpp rfl (p_ldr (f := eb) (v := eb x14) hx14 rfl rfl rfl) ?_
      refine wpp rfl rfl ?_
      refine wpp rfl rfl ?_
      obtain ⟨g2, hg2, h⟩ := bindS h
      refine xseg ⟨ofL [(3, .slr 7 0 r7l8.length), (4, .int .i64 v10l8), (5, eb x14), (8, .slr 7 0 r7l8.length), (9, .int .i64 (a0.length : Int)), (10, .int .i64 v10l8), (20, .bool g2)], ofL [(7, ⟨1, true, List.map eb r7l8⟩)]⟩ ?_ ?_
      · have h := hg2
        refine xreg ?_
        refine wpp rfl rfl ?_
        refine wpp (p := .bool (decide (((x14).toNat : Int) ≥ (65 : Int)))) rfl rfl ?_
        refine wpp rfl rfl ?_
        rcases bifS h with ⟨c3, h⟩ | ⟨c3, h⟩
        · skip
          refine wpp (gy rfl c3) rfl ?_
          refine wpp (p := .bool (decide (((x14).toNat : Int) ≤ (90 : Int)))) (gy rfl c3) rfl ?_
          refine wpp rfl (p_pick1 c3 rfl rfl) ?_
          obtain rfl := someS h
          exact (canon0 ⟨rfl, rfl, rfl, rfl, rfl, rfl, rfl, trivial⟩ ⟨rfl, trivial⟩ rfl rfl)
        · skip
          refine wsk (gn rfl c3) ?_
          refine wsk (gn rfl c3) ?_
          refine wpp rfl (p_pick0 c3 rfl rfl) ?_
          obtain rfl := someS h
          exact (canon0 ⟨rfl, rfl, rfl, rfl, rfl, rfl, rfl, trivial⟩ ⟨rfl, trivial⟩ rfl rfl)
      · clear hg2
        rcases bifS h with ⟨c4, h⟩ | ⟨c4, h⟩
        · refine xcT rfl c4 ?_
          refine xreg ?_
          refine wpp rfl rfl ?_
          refine wpp rfl rfl ?_
          refine wpp rfl rfl ?_
          refine wpp rfl (p_u8add (a := x14) (b := (32 : UInt8)) rfl rfl) ?_
          obtain ⟨x25, hx25, h⟩ := bindS h
          refine wpp rfl (p_ixr hx25 rfl rfl rfl rfl) ?_
          obtain ⟨x9004, hx9004, h⟩ := bindS h
          refine wsto (f := eb) (e' := (x14 + (32 : UInt8))) hx9004 rfl rfl rfl rfl rfl rfl rfl rfl (fun _ => rfl) rfl ?_
          exact ⟨(r7l8.set x25 (x14 + (32 : UInt8))), (Norm.trans (nsub 3 (sub_eq (congrArg (PV.slr 7 0) (by simp only [List.length_set, List.length_replicate] : r7l8.length = (r7l8.set x25 (x14 + (32 : UInt8))).length))) rfl) (Norm.trans (nsub 8 (sub_eq (congrArg (PV.slr 7 0) (by simp only [List.length_set, List.length_replicate] : r7l8.length = (r7l8.set x25 (x14 + (32 : UInt8))).length))) rfl) (canon0 ⟨rfl, rfl, rfl, rfl, trivial⟩ ⟨rfl, trivial⟩ rfl rfl))), h⟩
        · refine xcF rfl c4 ?_
          refine xskip ?_
          exact ⟨r7l8, (canon0 ⟨rfl, rfl, rfl, rfl, trivial⟩ ⟨rfl, trivial⟩ rfl rfl), h⟩
  · refine xcF rfl c1 ?_
    obtain rfl := someS h
    exact xexitn (st1 := ⟨ofL [(3, .slr 7 0 r7l8.length)], ofL [(7, ⟨1, true, List.map eb r7l8⟩)]⟩) (canon0 ⟨rfl, trivial⟩ ⟨rfl, trivial⟩ rfl rfl) ⟨rfl, rfl⟩
theorem sat_dn_Lower (N : Nat) (a0 : List UInt8) (r : List UInt8) (h : dn_Lower N a0 = some r) : Sat Try.prog 27 noRows [.str a0] (.str r) noRows := by
  refine xsat mixed Try.func27 k27_cf (rs := [.str r]) rfl rfl ?_
  refine xseq ?_
  refine xreg ?_
  refine wpp rfl rfl ?_
  refine xseq ?_
  refine xreg ?_
  refine wpp rfl rfl ?_
  refine woo rfl (ocvs 7 rfl rfl) ?_
  refine wpp rfl rfl ?_
  refine xseq ?_
  refine xseq ?_
  refine xreg ?_
  refine wpp rfl rfl ?_
  refine wpp rfl rfl ?_
  refine wpp rfl rfl ?_
  refine xblk ?_
  obtain ⟨y6, hy6, h⟩ := bindS h
  refine xloopU (st1 := ⟨ofL [(3, .slr 7 0 a0.length), (8, .slr 7 0 a0.length), (9, .int .i64 (a0.length : Int)), (10, .int .i64 0)], ofL [(7, ⟨1, true, List.map eb a0⟩)]⟩) (canon0 ⟨rfl, rfl, rfl, rfl, trivial⟩ ⟨rfl, trivial⟩ rfl rfl) (w_dn_Lower_l8 N a0 N _ _ hy6) ?_
  rintro e s ⟨rfl, rfl⟩
  refine xseq ?_
  refine xreg ?_
  refine wpp rfl rfl ?_
  refine wpp rfl (p_cvbr (l := y6) rfl rfl (full_row (f := eb) (l := y6))) ?_
  refine wpp rfl rfl ?_
  obtain rfl := someS h
  refine xret ?_
  exact ⟨nofun, rfl, rfl⟩
end Go.Gp
end
section
set_option linter.unusedVariables false
set_option linter.unusedSimpArgs false
set_option maxRecDepth 4000
namespace Go.Gp
open Go.Vd Go.RowKit Go.Proofs
def k46 : IC := (.seq (.reg [⟨(some 4), (.mov (.c (.int .u8 0))), none⟩, ⟨(some 5), (.mov (.c (.bool false))), none⟩]) (.seq (.seq (.reg [⟨(some 7), (.mov (.t 1)), none⟩, ⟨(some 8), (.mov (.t 0)), none⟩, ⟨(some 9), (.len true (.t 8)), none⟩, ⟨(some 10), (.bin .geq (.t 7) (.t 9)), none⟩]) (.cond (.t 10) (.seq (.reg [⟨(some 4), (.mov (.c (.int .u8 0))), none⟩, ⟨(some 5), (.mov (.c (.bool false))), none⟩]) .ret) .skip)) (.seq (.reg [⟨(some 11), (.mov (.t 0)), none⟩, ⟨(some 12), (.mov (.t 1)), none⟩, ⟨(some 13), (.mov (.t 1)), none⟩, ⟨(some 14), (.bin .add (.t 13) (.c (.int .i64 1))), none⟩, ⟨(some 15), (.slcs (.t 11) (some (.t 12)) (some (.t 14))), none⟩, ⟨(some 16), (.call 27 [(.t 15)]), none⟩, ⟨(some 17), (.idxs (.t 16) (.c (.int .i64 0))), none⟩, ⟨(some 18), (.call 45 [(.c (.str [48, 49, 50, 51, 52, 53, 54, 55, 56, 57, 97, 98, 99, 100, 101, 102])), (.t 17)]), none⟩, ⟨(some 6), (.mov (.t 18)), none⟩]) (.seq (.reg [⟨(some 19), (.mov (.t 6)), none⟩, ⟨(some 20), (.mm true (.t 19) [(.c (.int .i64 0))]), none⟩, ⟨(some 21), (.cvi .u8 (.t 20)), none⟩, ⟨(some 22), (.mov (.t 6)), none⟩, ⟨(some 23), (.bin .geq (.t 22) (.c (.int .i64 0))), none⟩, ⟨(some 4), (.mov (.t 21)), none⟩, ⟨(some 5), (.mov (.t 23)), none⟩]) .ret))))
theorem k46_cf : cfunc Try.prog Try.f46 = some ⟨24, k46, [(.tmp 4), (.tmp 5)]⟩ := by kernel_rfl
theorem sat_dn_digit (N : Nat) (a0 : List UInt8) (a1 : Int) (r : UInt8 × Bool) (h : dn_digit N a0 a1 = some r) : Sat Try.prog 46 noRows [.str a0, .int .i64 a1] (.tup [eb r.1, .bool r.2]) noRows := by
  refine xsat mixed Try.func46 k46_cf (rs := [eb r.1, .bool r.2]) rfl rfl ?_
  refine xseq ?_
  refine xreg ?_
  refine wpp rfl rfl ?_
  refine wpp rfl rfl ?_
  refine xseq ?_
  refine xseq ?_
  refine xreg ?_
  refine wpp rfl rfl ?_
  refine wpp rfl rfl ?_
  refine wpp rfl rfl ?_
  refine wpp rfl rfl ?_
  rcases bifS h with ⟨c1, h⟩ | ⟨c1, h⟩
  · refine xcT rfl c1 ?_
    refine xseq ?_
    refine xreg ?_
    refine wpp rfl rfl ?_
    refine wpp rfl rfl ?_
    obtain rfl := someS h
    refine xret ?_
    exact ⟨nofun, rfl, rfl⟩
  · refine xcF rfl c1 ?_
    refine xskip ?_
    refine xseq ?_
    refine xreg ?_
    refine wpp rfl rfl ?_
    refine wpp rfl rfl ?_
    refine wpp rfl rfl ?_
    refine wpp (p := .int .i64 (w64 (a1 + (1 : Int)))) rfl rfl ?_
    obtain ⟨x15, hx15, h⟩ := bindS h
    refine wpp rfl (p_cut hx15 rfl rfl rfl) ?_
    obtain ⟨x16, hx16, h⟩ := bindS h
    refine woo rfl (ocal (sat_dn_Lower N _ _ hx16) rfl (.cons sub_rfl .nil) rfl rfl rfl) ?_
    obtain ⟨x17, hx17, h⟩ := bindS h
    refine wpp rfl (p_idx hx17 rfl rfl) ?_
    obtain ⟨x18, hx18, h⟩ := bindS h
    refine woo rfl (ocal (sat_strings_IndexByte N _ _ _ hx18) rfl (.cons sub_rfl (.cons sub_rfl .nil)) rfl rfl rfl) ?_
    refine wpp rfl rfl ?_
    refine xseq ?_
    refine xreg ?_
    refine wpp rfl rfl ?_
    refine wpp (p := .int .i64 (mx x18 (0 : Int))) rfl rfl ?_
    refine wpp rfl (p_cvu8 rfl) ?_
    refine wpp rfl rfl ?_
    refine wpp rfl rfl ?_
    refine wpp rfl rfl ?_
    refine wpp rfl rfl ?_
    obtain rfl := someS h
    refine xret ?_
    exact ⟨nofun, rfl, rfl⟩
end Go.Gp
end
section
set_option linter.unusedVariables false
set_option linter.unusedSimpArgs false
set_option maxRecDepth 4000
namespace Go.Gp
open Go.Vd Go.RowKit Go.Proofs
def k33_l18 : IC := (.seq (.seq (.reg [⟨(some 18), (.mov (.t 6)), none⟩, ⟨(some 19), (.mov (.t 0)), none⟩, ⟨(some 20), (.len true (.t 19)), none⟩, ⟨(some 21), (.bin .lss (.t 18) (.t 20)), none⟩]) (.cond (.t 21) .skip (.exit 0))) (.seq (.block 1 (.seq (.reg [⟨(some 24), (.mov (.t 0)), none⟩, ⟨(some 25), (.mov (.t 6)), none⟩, ⟨(some 26), (.idxs (.t 24) (.t 25)), none⟩, ⟨(some 7), (.mov (.t 26)), none⟩]) (.seq (.reg [⟨(some 27), (.mov (.t 7)), none⟩, ⟨(some 28), (.bin .eql (.t 27) (.c (.int .u8 32))), none⟩, ⟨(some 5), (.mov (.t 28)), none⟩]) (.block 2 (.seq (.reg [⟨(some 34), (.mov (.t 7)), none⟩, ⟨(some 35), (.bin .eql (.t 34) (.c (.int .u8 92))), none⟩, ⟨(some 33), (.mov (.t 35)), none⟩]) (.cond (.t 33) (.seq (.reg [⟨(some 36), (.mov (.t 6)), none⟩, ⟨(some 37), (.bin .add (.t 36) (.c (.int .i64 1))), none⟩, ⟨(some 6), (.mov (.t 37)), none⟩]) (.seq (.seq (.reg [⟨(some 38), (.mov (.t 6)), none⟩, ⟨(some 39), (.mov (.t 0)), none⟩, ⟨(some 40), (.len true (.t 39)), none⟩, ⟨(some 41), (.bin .lss (.t 38) (.t 40)), none⟩, ⟨(some 42), (.mov (.t 41)), none⟩, ⟨(some 43), (.mov (.t 0)), (some (42, true))⟩, ⟨(some 44), (.mov (.t 6)), (some (42, true))⟩, ⟨(some 45), (.idxs (.t 43) (.t 44)), (some (42, true))⟩, ⟨(some 46), (.call 45 [(.c (.str [44, 43, 34, 92, 60, 62, 59, 35, 61, 32])), (.t 45)]), (some (42, true))⟩, ⟨(some 47), (.bin .geq (.t 46) (.c (.int .i64 0))), (some (42, true))⟩, ⟨(some 48), (.pick (.t 42) (.t 47) (.c (.bool false))), none⟩]) (.cond (.t 48) (.seq (.reg [⟨(some 49), (.mov (.t 4)), none⟩, ⟨(some 50), (.mov (.t 0)), none⟩, ⟨(some 51), (.mov (.t 6)), none⟩, ⟨(some 52), (.idxs (.t 50) (.t 51)), none⟩, ⟨(some 53), (.bsl 1 [(.t 52)]), none⟩, ⟨(some 54), (.app 5 1 1 (.t 49) (.t 53)), none⟩, ⟨(some 4), (.mov (.t 54)), none⟩]) (.exit 1)) .skip)) (.seq (.reg [⟨(some 56), (.mov (.t 0)), none⟩, ⟨(some 57), (.mov (.t 6)), none⟩, ⟨(some 58), (.call 46 [(.t 56), (.t 57)]), none⟩, ⟨(some 55), (.mov (.t 58)), none⟩, ⟨(some 59), (.ext 0 (.t 55)), none⟩, ⟨(some 60), (.ext 1 (.t 55)), none⟩, ⟨(some 8), (.mov (.t 59)), none⟩, ⟨(some 9), (.mov (.t 60)), none⟩]) (.seq (.reg [⟨(some 62), (.mov (.t 0)), none⟩, ⟨(some 63), (.mov (.t 6)), none⟩, ⟨(some 64), (.bin .add (.t 63) (.c (.int .i64 1))), none⟩, ⟨(some 65), (.call 46 [(.t 62), (.t 64)]), none⟩, ⟨(some 61), (.mov (.t 65)), none⟩, ⟨(some 66), (.ext 0 (.t 61)), none⟩, ⟨(some 67), (.ext 1 (.t 61)), none⟩, ⟨(some 10), (.mov (.t 66)), none⟩, ⟨(some 11), (.mov (.t 67)), none⟩]) (.seq (.seq (.reg [⟨(some 68), (.mov (.t 9)), none⟩, ⟨(some 69), (.un .not (.t 68)), none⟩, ⟨(some 70), (.mov (.t 69)), none⟩, ⟨(some 71), (.mov (.t 11)), (some (70, false))⟩, ⟨(some 72), (.un .not (.t 71)), (some (70, false))⟩, ⟨(some 73), (.pick (.t 70) (.c (.bool true)) (.t 72)), none⟩]) (.cond (.t 73) (.seq (.reg [⟨(some 2), (.mov (.c (.str []))), none⟩, ⟨(some 3), (.mov (.c (.bool false))), none⟩]) .ret) .skip)) (.seq (.reg [⟨(some 74), (.mov (.t 4)), none⟩, ⟨(some 75), (.mov (.t 8)), none⟩, ⟨(some 76), (.bin .shl (.t 75) (.c (.int .u64 4))), none⟩, ⟨(some 77), (.mov (.t 10)), none⟩, ⟨(some 78), (.bin .or (.t 76) (.t 77)), none⟩, ⟨(some 79), (.bsl 1 [(.t 78)]), none⟩, ⟨(some 80), (.app 5 1 1 (.t 74) (.t 79)), none⟩, ⟨(some 4), (.mov (.t 80)), none⟩]) (.reg [⟨(some 81), (.mov (.t 6)), none⟩, ⟨(some 82), (.bin .add (.t 81) (.c (.int .i64 1))), none⟩, ⟨(some 6), (.mov (.t 82)), none⟩]))))))) (.seq (.reg [⟨(some 84), (.mov (.t 7)), none⟩, ⟨(some 85), (.call 45 [(.c (.str [44, 43, 34, 92, 60, 62, 59])), (.t 84)]), none⟩, ⟨(some 86), (.bin .geq (.t 85) (.c (.int .i64 0))), none⟩, ⟨(some 83), (.mov (.t 86)), none⟩]) (.cond (.t 83) (.seq (.reg [⟨(some 2), (.mov (.c (.str []))), none⟩, ⟨(some 3), (.mov (.c (.bool false))), none⟩]) .ret) (.reg [⟨(some 29), (.mov (.t 4)), none⟩, ⟨(some 30), (.mov (.t 7)), none⟩, ⟨(some 31), (.bsl 1 [(.t 30)]), none⟩, ⟨(some 32), (.app 5 1 1 (.t 29) (.t 31)), none⟩, ⟨(some 4), (.mov (.t 32)), none⟩]))))))))) (.reg [⟨(some 22), (.mov (.t 6)), none⟩, ⟨(some 23), (.bin .add (.t 22) (.c (.int .i64 1))), none⟩, ⟨(some 6), (.mov (.t 23)), none⟩])))
def k33 : IC := (.seq (.reg [⟨(some 2), (.mov (.c (.str []))), none⟩, ⟨(some 3), (.mov (.c (.bool false))), none⟩]) (.seq (.seq (.reg [⟨(some 12), (.mov (.t 0)), none⟩, ⟨(some 13), (.call 44 [(.t 12), (.c (.str [35]))]), none⟩, ⟨(some 14), (.mov (.t 13)), none⟩, ⟨(some 15), (.mov (.t 0)), (some (14, false))⟩, ⟨(some 16), (.call 44 [(.t 15), (.c (.str [32]))]), (some (14, false))⟩, ⟨(some 17), (.pick (.t 14) (.c (.bool true)) (.t 16)), none⟩]) (.cond (.t 17) (.seq (.reg [⟨(some 2), (.mov (.c (.str []))), none⟩, ⟨(some 3), (.mov (.c (.bool false))), none⟩]) .ret) .skip)) (.seq (.reg [⟨(some 4), (.mov (.c .nl)), none⟩]) (.seq (.reg [⟨(some 5), (.mov (.c (.bool false))), none⟩]) (.seq (.seq (.reg [⟨(some 6), (.mov (.c (.int .i64 0))), none⟩]) (.block 0 (.loop k33_l18))) (.seq (.reg [⟨(some 87), (.mov (.t 4)), none⟩, ⟨(some 88), (.cvb (.t 87)), none⟩, ⟨(some 89), (.mov (.t 5)), none⟩, ⟨(some 90), (.un .not (.t 89)), none⟩, ⟨(some 2), (.mov (.t 88)), none⟩, ⟨(some 3), (.mov (.t 90)), none⟩]) .ret))))))
theorem k33_cf : cfunc Try.prog Try.f33 = some ⟨91, k33, [(.tmp 2), (.tmp 3)]⟩ := by kernel_rfl
theorem w_dn_unescape_l18 (N : Nat) (a0 : List UInt8) : ∀ (n : Nat) (x : Bool × Int × List UInt8) (y : (Bool × List UInt8) ⊕ (List UInt8 × Bool)), dn_unescape_l18 N a0 n x = some y → WX Try.prog (fun _ => false) (.loop k33_l18) ((fun (x : Bool × Int × List UInt8) => ⟨ofL [(0, .str a0), (4, .slr 1004 0 x.2.2.length), (5, .bool x.1), (6, .int .i64 x.2.1)], ofL [(1004, ⟨1, true, List.map eb x.2.2⟩)]⟩) x) ((Sum.elim (fun y e s => e = .exit 0 ∧ s = ⟨ofL [(4, .slr 1004 0 y.2.length), (5, .bool y.1)], ofL [(1004, ⟨1, true, List.map eb y.2⟩)]⟩) (fun y e s => e = .ret ∧ s = ⟨ofL [(2, .str y.1), (3, .bool y.2)], ofL []⟩) : ((Bool × List UInt8) ⊕ (List UInt8 × Bool)) → Xt → St → Prop) y) := by
  refine xloop (fun (x : Bool × Int × List UInt8) => ⟨ofL [(0, .str a0), (4, .slr 1004 0 x.2.2.length), (5, .bool x.1), (6, .int .i64 x.2.1)], ofL [(1004, ⟨1, true, List.map eb x.2.2⟩)]⟩) _ (dn_unescape_l18 N a0) (dn_unescape_l18_b N a0) (fun _ => rfl) (fun _ _ => rfl) ?_
  rintro rec ⟨v5l18, v6l18, r1004l18⟩ y h
  refine xseq ?_
  refine xseq ?_
  refine xreg ?_
  refine wpp rfl rfl ?_
  refine wpp rfl rfl ?_
  refine wpp rfl rfl ?_
  refine wpp rfl rfl ?_
  rcases bifS h with ⟨c4, h⟩ | ⟨c4, h⟩
  · refine xcT rfl c4 ?_
    refine xskip ?_
    refine xjoin (fun (x : Bool × Int × List UInt8) => ⟨ofL [(0, .str a0), (4, .slr 1004 0 x.2.2.length), (5, .bool x.1), (6, .int .i64 x.2.1)], ofL [(1004, ⟨1, true, List.map eb x.2.2⟩)]⟩) (fun x => dn_unescape_j25 rec x.1 x.2.1 x.2.2 = some y) ?_ ?_
    · rintro ⟨v5j25, v6j25, r1004j25⟩ h
      refine xreg ?_
      refine wpp rfl rfl ?_
      refine wpp (p := .int .i64 (w64 (v6j25 + (1 : Int)))) rfl rfl ?_
      refine wpp rfl rfl ?_
      exact ⟨(v5j25, (w64 (v6j25 + (1 : Int))), r1004j25), (canon0 ⟨rfl, rfl, rfl, rfl, trivial⟩ ⟨rfl, trivial⟩ rfl rfl), h⟩
    · skip
      refine xblk ?_
      refine xseq ?_
      refine xreg ?_
      refine wpp rfl rfl ?_
      refine wpp rfl rfl ?_
      obtain ⟨x26, hx26, h⟩ := bindS h
      refine wpp rfl (p_idx hx26 rfl rfl) ?_
      refine wpp rfl rfl ?_
      refine xseq ?_
      refine xreg ?_
      refine wpp rfl rfl ?_
      refine wpp (p := .bool (((x26).toNat : Int) == (32 : Int))) rfl rfl ?_
      refine wpp rfl rfl ?_
      refine xblk ?_
      refine xseq ?_
      refine xreg ?_
      refine wpp rfl rfl ?_
      refine wpp (p := .bool (((x26).toNat : Int) == (92 : Int))) rfl rfl ?_
      refine wpp rfl rfl ?_
      rcases bifS h with ⟨c5, h⟩ | ⟨c5, h⟩
      · refine xcT rfl c5 ?_
        refine xseq ?_
        refine xreg ?_
        refine wpp rfl rfl ?_
        refine wpp (p := .int .i64 (w64 (v6l18 + (1 : Int)))) rfl rfl ?_
        refine wpp rfl rfl ?_
        refine xseq ?_
        obtain ⟨g6, hg6, h⟩ := bindS h
        refine xseg ⟨ofL [(0, .str a0), (4, .slr 1004 0 r1004l18.length), (5, .bool (((x26).toNat : Int) == (32 : Int))), (6, .int .i64 (w64 (v6l18 + (1 : Int)))), (48, .bool g6)], ofL [(1004, ⟨1, true, List.map eb r1004l18⟩)]⟩ ?_ ?_
        · have h := hg6
          refine xreg ?_
          refine wpp rfl rfl ?_
          refine wpp rfl rfl ?_
          refine wpp rfl rfl ?_
          refine wpp rfl rfl ?_
          refine wpp rfl rfl ?_
          rcases bifS h with ⟨c7, h⟩ | ⟨c7, h⟩
          · skip
            refine wpp (gy rfl c7) rfl ?_
            refine wpp (gy rfl c7) rfl ?_
            obtain ⟨x45, hx45, h⟩ := bindS h
            refine wpp (gy rfl c7) (p_idx hx45 rfl rfl) ?_
            obtain ⟨x46, hx46, h⟩ := bindS h
            refine woo (gy rfl c7) (ocal (sat_strings_IndexByte N _ _ _ hx46) rfl (.cons sub_rfl (.cons sub_rfl .nil)) rfl rfl rfl) ?_
            refine wpp (gy rfl c7) rfl ?_
            refine wpp rfl (p_pick1 c7 rfl rfl) ?_
            obtain rfl := someS h
            exact (canon0 ⟨rfl, rfl, rfl, rfl, rfl, trivial⟩ ⟨rfl, trivial⟩ rfl rfl)
          · skip
            refine wsk (gn rfl c7) ?_
            refine wsk (gn rfl c7) ?_
            refine wsk (gn rfl c7) ?_
            refine wsk (gn rfl c7) ?_
            refine wsk (gn rfl c7) ?_
            refine wpp rfl (p_pick0 c7 rfl rfl) ?_
            obtain rfl := someS h
            exact (canon0 ⟨rfl, rfl, rfl, rfl, rfl, trivial⟩ ⟨rfl, trivial⟩ rfl rfl)
        · clear hg6
          rcases bifS h with ⟨c8, h⟩ | ⟨c8, h⟩
          · refine xcT rfl c8 ?_
            refine xseq ?_
            refine xreg ?_
            refine wpp rfl rfl ?_
            refine wpp rfl rfl ?_
            refine wpp rfl rfl ?_
            obtain ⟨x52, hx52, h⟩ := bindS h
            refine wpp rfl (p_idx hx52 rfl rfl) ?_
            refine woo rfl (obsl 53 rfl rfl rfl) ?_
            obtain ⟨x54, hx54, h⟩ := bindS h
            refine wapp (f := eb) 54 hx54 rfl rfl rfl rfl rfl (el_row rfl (full_row (f := eb) (l := [x52]))) rfl rfl rfl rfl ?_
            refine wpp rfl rfl ?_
            refine xexit ?_
            exact ⟨((((x26).toNat : Int) == (32 : Int)), (w64 (v6l18 + (1 : Int))), x54), (Norm.trans (rename 54 1004 rfl rfl) (canon0 ⟨rfl, rfl, rfl, rfl, trivial⟩ ⟨rfl, trivial⟩ rfl rfl)), h⟩
          · refine xcF rfl c8 ?_
            refine xskip ?_
            refine xseq ?_
            refine xreg ?_
            refine wpp rfl rfl ?_
            refine wpp rfl rfl ?_
            obtain ⟨x58, hx58, h⟩ := bindS h
            refine woo rfl (ocal (sat_dn_digit N _ _ _ hx58) rfl (.cons sub_rfl (.cons sub_rfl .nil)) rfl rfl rfl) ?_
            refine wpp rfl rfl ?_
            refine wpp rfl rfl ?_
            refine wpp rfl rfl ?_
            refine wpp rfl rfl ?_
            refine wpp rfl rfl ?_
            refine xseq ?_
            refine xreg ?_
            refine wpp rfl rfl ?_
            refine wpp rfl rfl ?_
            refine wpp (p := .int .i64 (w64 ((w64 (v6l18 + (1 : Int))) + (1 : Int)))) rfl rfl ?_
            obtain ⟨x65, hx65, h⟩ := bindS h
            refine woo rfl (ocal (sat_dn_digit N _ _ _ hx65) rfl (.cons sub_rfl (.cons sub_rfl .nil)) rfl rfl rfl) ?_
            refine wpp rfl rfl ?_
            refine wpp rfl rfl ?_
            refine wpp rfl rfl ?_
            refine wpp rfl rfl ?_
            refine wpp rfl rfl ?_
            refine xseq ?_
            obtain ⟨g9, hg9, h⟩ := bindS h
            refine xseg ⟨ofL [(0, .str a0), (4, .slr 1004 0 r1004l18.length), (5, .bool (((x26).toNat : Int) == (32 : Int))), (6, .int .i64 (w64 (v6l18 + (1 : Int)))), (8, eb x58.1), (10, eb x65.1), (73, .bool g9)], ofL [(1004, ⟨1, true, List.map eb r1004l18⟩)]⟩ ?_ ?_
            · have h := hg9
              refine xreg ?_
              refine wpp rfl rfl ?_
              refine wpp rfl rfl ?_
              refine wpp rfl rfl ?_
              rcases bifS h with ⟨c10, h⟩ | ⟨c10, h⟩
              · skip
                refine wsk (gn rfl c10) ?_
                refine wsk (gn rfl c10) ?_
                refine wpp rfl (p_pick1 c10 rfl rfl) ?_
                obtain rfl := someS h
                exact (canon0 ⟨rfl, rfl, rfl, rfl, rfl, rfl, rfl, trivial⟩ ⟨rfl, trivial⟩ rfl rfl)
              · skip
                refine wpp (gy rfl c10) rfl ?_
                refine wpp (gy rfl c10) rfl ?_
                refine wpp rfl (p_pick0 c10 rfl rfl) ?_
                obtain rfl := someS h
                exact (canon0 ⟨rfl, rfl, rfl, rfl, rfl, rfl, rfl, trivial⟩ ⟨rfl, trivial⟩ rfl rfl)
            · clear hg9
              rcases bifS h with ⟨c11, h⟩ | ⟨c11, h⟩
              · refine xcT rfl c11 ?_
                refine xseq ?_
                refine xreg ?_
                refine wpp rfl rfl ?_
                refine wpp rfl rfl ?_
                obtain rfl := someS h
                exact xretn (st1 := ⟨ofL [(2, .str ([] : List UInt8)), (3, .bool false)], ofL []⟩) (canon0 ⟨rfl, rfl, trivial⟩ trivial rfl rfl) ⟨rfl, rfl⟩
              · refine xcF rfl c11 ?_
                refine xskip ?_
                refine xseq ?_
                refine xreg ?_
                refine wpp rfl rfl ?_
                refine wpp rfl rfl ?_
                refine wpp rfl (p_u8shl (a := x58.1) (by decide) rfl rfl) ?_
                refine wpp rfl rfl ?_
                refine wpp rfl (p_u8or (a := (shlB x58.1 4)) (b := x65.1) rfl rfl) ?_
                refine woo rfl (obsl 79 rfl rfl rfl) ?_
                obtain ⟨x80, hx80, h⟩ := bindS h
                refine wapp (f := eb) 80 hx80 rfl rfl rfl rfl rfl (el_row rfl (full_row (f := eb) (l := [((shlB x58.1 4) ||| x65.1)]))) rfl rfl rfl rfl ?_
                refine wpp rfl rfl ?_
                refine xreg ?_
                refine wpp rfl rfl ?_
                refine wpp (p := .int .i64 (w64 ((w64 (v6l18 + (1 : Int))) + (1 : Int)))) rfl rfl ?_
                refine wpp rfl rfl ?_
                exact ⟨((((x26).toNat : Int) == (32 : Int)), (w64 ((w64 (v6l18 + (1 : Int))) + (1 : Int))), x80), (Norm.trans (rename 80 1004 rfl rfl) (canon0 ⟨rfl, rfl, rfl, rfl, trivial⟩ ⟨rfl, trivial⟩ rfl rfl)), h⟩
      · refine xcF rfl c5 ?_
        refine xseq ?_
        refine xreg ?_
        refine wpp rfl rfl ?_
        obtain ⟨x85, hx85, h⟩ := bindS h
        refine woo rfl (ocal (sat_strings_IndexByte N _ _ _ hx85) rfl (.cons sub_rfl (.cons sub_rfl .nil)) rfl rfl rfl) ?_
        refine wpp rfl rfl ?_
        refine wpp rfl rfl ?_
        rcases bifS h with ⟨c12, h⟩ | ⟨c12, h⟩
        · refine xcT rfl c12 ?_
          refine xseq ?_
          refine xreg ?_
          refine wpp rfl rfl ?_
          refine wpp rfl rfl ?_
          obtain rfl := someS h
          exact xretn (st1 := ⟨ofL [(2, .str ([] : List UInt8)), (3, .bool false)], ofL []⟩) (canon0 ⟨rfl, rfl, trivial⟩ trivial rfl rfl) ⟨rfl, rfl⟩
        · refine xcF rfl c12 ?_
          refine xreg ?_
          refine wpp rfl rfl ?_
          refine wpp rfl rfl ?_
          refine woo rfl (obsl 31 rfl rfl rfl) ?_
          obtain ⟨x32, hx32, h⟩ := bindS h
          refine wapp (f := eb) 32 hx32 rfl rfl rfl rfl rfl (el_row rfl (full_row (f := eb) (l := [x26]))) rfl rfl rfl rfl ?_
          refine wpp rfl rfl ?_
          exact ⟨((((x26).toNat : Int) == (32 : Int)), v6l18, x32), (Norm.trans (rename 32 1004 rfl rfl) (canon0 ⟨rfl, rfl, rfl, rfl, trivial⟩ ⟨rfl, trivial⟩ rfl rfl)), h⟩
  · refine xcF rfl c4 ?_
    obtain rfl := someS h
    exact xexitn (st1 := ⟨ofL [(4, .slr 1004 0 r1004l18.length), (5, .bool v5l18)], ofL [(1004, ⟨1, true, List.map eb r1004l18⟩)]⟩) (canon0 ⟨rfl, rfl, trivial⟩ ⟨rfl, trivial⟩ rfl rfl) ⟨rfl, rfl⟩
theorem sat_dn_unescape (N : Nat) (a0 : List UInt8) (r : List UInt8 × Bool) (h : dn_unescape N a0 = some r) : Sat Try.prog 33 noRows [.str a0] (.tup [.str r.1, .bool r.2]) noRows := by
  refine xsat mixed Try.func33 k33_cf (rs := [.str r.1, .bool r.2]) rfl rfl ?_
  refine xseq ?_
  refine xreg ?_
  refine wpp rfl rfl ?_
  refine wpp rfl rfl ?_
  refine xseq ?_
  obtain ⟨g1, hg1, h⟩ := bindS h
  refine xseg ⟨ofL [(0, .str a0), (17, .bool g1)], ofL []⟩ ?_ ?_
  · have h := hg1
    refine xreg ?_
    refine wpp rfl rfl ?_
    obtain ⟨x13, hx13, h⟩ := bindS h
    refine woo rfl (ocal (sat_strings_HasPrefix N _ _ _ hx13) rfl (.cons sub_rfl (.cons sub_rfl .nil)) rfl rfl rfl) ?_
    refine wpp rfl rfl ?_
    rcases bifS h with ⟨c2, h⟩ | ⟨c2, h⟩
    · skip
      refine wsk (gn rfl c2) ?_
      refine wsk (gn rfl c2) ?_
      refine wpp rfl (p_pick1 c2 rfl rfl) ?_
      obtain rfl := someS h
      exact (canon0 ⟨rfl, rfl, trivial⟩ trivial rfl rfl)
    · skip
      refine wpp (gy rfl c2) rfl ?_
      obtain ⟨x16, hx16, h⟩ := bindS h
      refine woo (gy rfl c2) (ocal (sat_strings_HasPrefix N _ _ _ hx16) rfl (.cons sub_rfl (.cons sub_rfl .nil)) rfl rfl rfl) ?_
      refine wpp rfl (p_pick0 c2 rfl rfl) ?_
      obtain rfl := someS h
      exact (canon0 ⟨rfl, rfl, trivial⟩ trivial rfl rfl)
  · clear hg1
    rcases bifS h with ⟨c3, h⟩ | ⟨c3, h⟩
    · refine xcT rfl c3 ?_
      refine xseq ?_
      refine xreg ?_
      refine wpp rfl rfl ?_
      refine wpp rfl rfl ?_
      obtain rfl := someS h
      refine xret ?_
      exact ⟨nofun, rfl, rfl⟩
    · refine xcF rfl c3 ?_
      refine xskip ?_
      refine xseq ?_
      refine xreg ?_
      refine wpp rfl rfl ?_
      refine xseq ?_
      refine xreg ?_
      refine wpp rfl rfl ?_
      refine xseq ?_
      refine xseq ?_
      refine xreg ?_
      refine wpp rfl rfl ?_
      refine xblk ?_
      obtain ⟨y13, hy13, h⟩ := bindS h
      refine xloopU (st1 := ⟨ofL [(0, .str a0), (4, .slr 1004 0 ([].length)), (5, .bool false), (6, .int .i64 0)], ofL [(1004, ⟨1, true, List.map eb []⟩)]⟩) (Norm.trans (nlrow 4 1004 1 true rfl rfl rfl) (canon0 ⟨rfl, rfl, rfl, rfl, trivial⟩ ⟨rfl, trivial⟩ rfl rfl)) (w_dn_unescape_l18 N a0 N _ _ hy13) ?_
      clear hy13
      rcases y13 with y13 | y13
      · rintro e s ⟨rfl, rfl⟩
        refine xseq ?_
        refine xreg ?_
        refine wpp rfl rfl ?_
        refine wpp rfl (p_cvbr (l := y13.2) rfl rfl (full_row (f := eb) (l := y13.2))) ?_
        refine wpp rfl rfl ?_
        refine wpp rfl rfl ?_
        refine wpp rfl rfl ?_
        refine wpp rfl rfl ?_
        obtain rfl := someS h
        refine xret ?_
        exact ⟨nofun, rfl, rfl⟩
      · rintro e s ⟨rfl, rfl⟩
        obtain rfl := someS h
        exact ⟨nofun, rfl, rfl⟩
end Go.Gp
end
section
set_option linter.unusedVariables false
set_option linter.unusedSimpArgs false
set_option maxRecDepth 4000
namespace Go.Gp
open Go.Vd Go.RowKit Go.Proofs
def k25_l14 : IC := (.seq (.reg [⟨(some 26), (.bin .lss (.t 25) (.t 24)), none⟩]) (.seq (.cond (.t 26) .skip (.exit 0)) (.seq (.block 1 (.seq (.reg [⟨(some 27), (.ixp 1 (.t 23) (.t 25)), none⟩, ⟨(some 28), (.load 1 false (.t 27)), none⟩, ⟨(some 4), (.mov (.t 28)), none⟩]) (.block 2 (.seq (.block 5 (.seq (.block 4 (.block 3 (.seq (.seq (.seq (.reg [⟨(some 30), (.mov (.t 4)), none⟩, ⟨(some 31), (.bin .geq (.t 30) (.c (.int .u8 97))), none⟩, ⟨(some 32), (.mov (.t 31)), none⟩, ⟨(some 33), (.mov (.t 4)), (some (32, true))⟩, ⟨(some 34), (.bin .leq (.t 33) (.c (.int .u8 122))), (some (32, true))⟩, ⟨(some 35), (.pick (.t 32) (.t 34) (.c (.bool false))), none⟩, ⟨(some 29), (.mov (.t 35)), none⟩]) (.cond (.t 29) (.exit 3) .skip)) (.seq (.seq (.reg [⟨(some 37), (.mov (.t 4)), none⟩, ⟨(some 38), (.bin .geq (.t 37) (.c (.int .u8 48))), none⟩, ⟨(some 39), (.mov (.t 38)), none⟩, ⟨(some 40), (.mov (.t 4)), (some (39, true))⟩, ⟨(some 41), (.bin .leq (.t 40) (.c (.int .u8 57))), (some (39, true))⟩, ⟨(some 42), (.pick (.t 39) (.t 41) (.c (.bool false))), none⟩, ⟨(some 36), (.mov (.t 42)), none⟩]) (.cond (.t 36) .skip (.reg [⟨(some 43), (.mov (.t 4)), none⟩, ⟨(some 44), (.bin .eql (.t 43) (.c (.int .u8 45))), none⟩, ⟨(some 36), (.mov (.t 44)), none⟩]))) (.cond (.t 36) (.exit 4) .skip))) (.exit 5)))) (.exit 2))) (.seq (.seq (.reg [⟨(some 2), (.mov (.c (.bool false))), none⟩]) .ret) (.exit 2)))))) (.reg [⟨(some 45), (.bin .add (.t 25) (.c (.int .i64 1))), none⟩, ⟨(some 25), (.mov (.t 45)), none⟩]))))
def k25 : IC := (.seq (.reg [⟨(some 2), (.mov (.c (.bool false))), none⟩]) (.seq (.seq (.reg [⟨(some 5), (.mov (.t 0)), none⟩, ⟨(some 6), (.bin .eql (.t 5) (.c (.str []))), none⟩, ⟨(some 7), (.mov (.t 6)), none⟩, ⟨(some 8), (.mov (.t 0)), (some (7, false))⟩, ⟨(some 9), (.len true (.t 8)), (some (7, false))⟩, ⟨(some 10), (.bin .gtr (.t 9) (.c (.int .i64 16))), (some (7, false))⟩, ⟨(some 11), (.pick (.t 7) (.c (.bool true)) (.t 10)), none⟩, ⟨(some 12), (.mov (.t 11)), none⟩, ⟨(some 13), (.mov (.t 0)), (some (12, false))⟩, ⟨(some 14), (.idxs (.t 13) (.c (.int .i64 0))), (some (12, false))⟩, ⟨(some 15), (.bin .lss (.t 14) (.c (.int .u8 97))), (some (12, false))⟩, ⟨(some 16), (.pick (.t 12) (.c (.bool true)) (.t 15)), none⟩, ⟨(some 17), (.mov (.t 16)), none⟩, ⟨(some 18), (.mov (.t 0)), (some (17, false))⟩, ⟨(some 19), (.idxs (.t 18) (.c (.int .i64 0))), (some (17, false))⟩, ⟨(some 20), (.bin .gtr (.t 19) (.c (.int .u8 122))), (some (17, false))⟩, ⟨(some 21), (.pick (.t 17) (.c (.bool true)) (.t 20)), none⟩]) (.cond (.t 21) (.seq (.reg [⟨(some 2), (.mov (.c (.bool false))), none⟩]) .ret) .skip)) (.seq (.seq (.reg [⟨(some 22), (.mov (.t 0)), none⟩, ⟨(some 23), (.cvs (.t 22)), none⟩, ⟨(some 24), (.len false (.t 23)), none⟩, ⟨(some 25), (.mov (.c (.int .i64 0))), none⟩]) (.block 0 (.loop k25_l14))) (.seq (.reg [⟨(some 2), (.mov (.c (.bool true))), none⟩]) .ret))))
theorem k25_cf : cfunc Try.prog Try.f25 = some ⟨46, k25, [(.tmp 2)]⟩ := by kernel_rfl
theorem w_dn_IsType_l14 (N : Nat) (a0 : List UInt8) : ∀ (n : Nat) (x : Int) (y : Unit ⊕ Bool), dn_IsType_l14 N a0 n x = some y → WX Try.prog (fun _ => false) (.loop k25_l14) ((fun (x : Int) => ⟨ofL [(23, .slr 23 0 a0.length), (24, .int .i64 (a0.length : Int)), (25, .int .i64 x)], ofL [(23, ⟨1, true, List.map eb a0⟩)]⟩) x) ((Sum.elim (fun y e s => e = .exit 0 ∧ s = ⟨ofL [], ofL []⟩) (fun y e s => e = .ret ∧ s = ⟨ofL [(2, .bool y)], ofL []⟩) : (Unit ⊕ Bool) → Xt → St → Prop) y) := by
  refine xloop (fun (x : Int) => ⟨ofL [(23, .slr 23 0 a0.length), (24, .int .i64 (a0.length : Int)), (25, .int .i64 x)], ofL [(23, ⟨1, true, List.map eb a0⟩)]⟩) _ (dn_IsType_l14 N a0) (dn_IsType_l14_b N a0) (fun _ => rfl) (fun _ _ => rfl) ?_
  rintro rec v25l14 y h
  refine xseq ?_
  refine xreg ?_
  refine wpp rfl rfl ?_
  refine xseq ?_
  rcases bifS h with ⟨c6, h⟩ | ⟨c6, h⟩
  · refine xcT rfl c6 ?_
    refine xskip ?_
    refine xseq ?_
    refine xblk ?_
    refine xseq ?_
    refine xreg ?_
    obtain ⟨x27, hx27, h⟩ := bindS h
    refine wpp rfl (p_ixr hx27 rfl rfl rfl rfl) ?_
    obtain ⟨x28, hx28, h⟩ := bindS h
    refine wpp rfl (p_ldr (f := eb) (v := eb x28) hx28 rfl rfl rfl) ?_
    refine wpp rfl rfl ?_
    refine xblk ?_
    refine xseq ?_
    refine xblk ?_
    refine xjoin (fun (x : Unit) => ⟨ofL [(23, .slr 23 0 a0.length), (24, .int .i64 (a0.length : Int)), (25, .int .i64 v25l14)], ofL [(23, ⟨1, true, List.map eb a0⟩)]⟩) (fun x => dn_IsType_j28 v25l14 rec = some y) ?_ ?_
    · rintro ⟨⟩ h
      refine xexit ?_
      refine xreg ?_
      refine wpp (p := .int .i64 (w64 (v25l14 + (1 : Int)))) rfl rfl ?_
      refine wpp rfl rfl ?_
      exact ⟨(w64 (v25l14 + (1 : Int))), (canon0 ⟨rfl, rfl, rfl, trivial⟩ ⟨rfl, trivial⟩ rfl rfl), h⟩
    · skip
      refine xblk ?_
      refine xblk ?_
      refine xseq ?_
      refine xseq ?_
      obtain ⟨g7, hg7, h⟩ := bindS h
      refine xseg ⟨ofL [(4, eb x28), (23, .slr 23 0 a0.length), (24, .int .i64 (a0.length : Int)), (25, .int .i64 v25l14), (29, .bool g7)], ofL [(23, ⟨1, true, List.map eb a0⟩)]⟩ ?_ ?_
      · have h := hg7
        refine xreg ?_
        refine wpp rfl rfl ?_
        refine wpp (p := .bool (decide (((x28).toNat : Int) ≥ (97 : Int)))) rfl rfl ?_
        refine wpp rfl rfl ?_
        rcases bifS h with ⟨c8, h⟩ | ⟨c8, h⟩
        · skip
          refine wpp (gy rfl c8) rfl ?_
          refine wpp (p := .bool (decide (((x28).toNat : Int) ≤ (122 : Int)))) (gy rfl c8) rfl ?_
          refine wpp rfl (p_pick1 c8 rfl rfl) ?_
          refine wpp rfl rfl ?_
          obtain rfl := someS h
          exact (canon0 ⟨rfl, rfl, rfl, rfl, rfl, trivial⟩ ⟨rfl, trivial⟩ rfl rfl)
        · skip
          refine wsk (gn rfl c8) ?_
          refine wsk (gn rfl c8) ?_
          refine wpp rfl (p_pick0 c8 rfl rfl) ?_
          refine wpp rfl rfl ?_
          obtain rfl := someS h
          exact (canon0 ⟨rfl, rfl, rfl, rfl, rfl, trivial⟩ ⟨rfl, trivial⟩ rfl rfl)
      · clear hg7
        rcases bifS h with ⟨c9, h⟩ | ⟨c9, h⟩
        · refine xcT rfl c9 ?_
          refine xexit ?_
          exact ⟨(), (canon0 ⟨rfl, rfl, rfl, trivial⟩ ⟨rfl, trivial⟩ rfl rfl), h⟩
        · refine xcF rfl c9 ?_
          refine xskip ?_
          refine xjoin (fun (x : Bool) => ⟨ofL [(23, .slr 23 0 a0.length), (24, .int .i64 (a0.length : Int)), (25, .int .i64 v25l14), (36, .bool x)], ofL [(23, ⟨1, true, List.map eb a0⟩)]⟩) (fun x => dn_IsType_j38 v25l14 rec x = some y) ?_ ?_
          · rintro v36j38 h
            rcases bifS h with ⟨c10, h⟩ | ⟨c10, h⟩
            · refine xcT rfl c10 ?_
              refine xexit ?_
              exact ⟨(), (canon0 ⟨rfl, rfl, rfl, trivial⟩ ⟨rfl, trivial⟩ rfl rfl), h⟩
            · refine xcF rfl c10 ?_
              refine xskip ?_
              refine xexit ?_
              refine xseq ?_
              refine xseq ?_
              refine xreg ?_
              refine wpp rfl rfl ?_
              obtain rfl := someS h
              exact xretn (st1 := ⟨ofL [(2, .bool false)], ofL []⟩) (canon0 ⟨rfl, trivial⟩ trivial rfl rfl) ⟨rfl, rfl⟩
          · skip
            obtain ⟨g11, hg11, h⟩ := bindS h
            refine xseg ⟨ofL [(4, eb x28), (23, .slr 23 0 a0.length), (24, .int .i64 (a0.length : Int)), (25, .int .i64 v25l14), (36, .bool g11)], ofL [(23, ⟨1, true, List.map eb a0⟩)]⟩ ?_ ?_
            · have h := hg11
              refine xreg ?_
              refine wpp rfl rfl ?_
              refine wpp (p := .bool (decide (((x28).toNat : Int) ≥ (48 : Int)))) rfl rfl ?_
              refine wpp rfl rfl ?_
              rcases bifS h with ⟨c12, h⟩ | ⟨c12, h⟩
              · skip
                refine wpp (gy rfl c12) rfl ?_
                refine wpp (p := .bool (decide (((x28).toNat : Int) ≤ (57 : Int)))) (gy rfl c12) rfl ?_
                refine wpp rfl (p_pick1 c12 rfl rfl) ?_
                refine wpp rfl rfl ?_
                obtain rfl := someS h
                exact (canon0 ⟨rfl, rfl, rfl, rfl, rfl, trivial⟩ ⟨rfl, trivial⟩ rfl rfl)
              · skip
                refine wsk (gn rfl c12) ?_
                refine wsk (gn rfl c12) ?_
                refine wpp rfl (p_pick0 c12 rfl rfl) ?_
                refine wpp rfl rfl ?_
                obtain rfl := someS h
                exact (canon0 ⟨rfl, rfl, rfl, rfl, rfl, trivial⟩ ⟨rfl, trivial⟩ rfl rfl)
            · clear hg11
              rcases bifS h with ⟨c13, h⟩ | ⟨c13, h⟩
              · refine xcT rfl c13 ?_
                refine xskip ?_
                exact ⟨g11, (canon0 ⟨rfl, rfl, rfl, rfl, trivial⟩ ⟨rfl, trivial⟩ rfl rfl), h⟩
              · refine xcF rfl c13 ?_
                refine xreg ?_
                refine wpp rfl rfl ?_
                refine wpp (p := .bool (((x28).toNat : Int) == (45 : Int))) rfl rfl ?_
                refine wpp rfl rfl ?_
                exact ⟨(((x28).toNat : Int) == (45 : Int)), (canon0 ⟨rfl, rfl, rfl, rfl, trivial⟩ ⟨rfl, trivial⟩ rfl rfl), h⟩
  · refine xcF rfl c6 ?_
    obtain rfl := someS h
    exact xexitn (st1 := ⟨ofL [], ofL []⟩) (canon0 trivial trivial rfl rfl) ⟨rfl, rfl⟩
theorem sat_dn_IsType (N : Nat) (a0 : List UInt8) (r : Bool) (h : dn_IsType N a0 = some r) : Sat Try.prog 25 noRows [.str a0] (.bool r) noRows := by
  refine xsat mixed Try.func25 k25_cf (rs := [.bool r]) rfl rfl ?_
  refine xseq ?_
  refine xreg ?_
  refine wpp rfl rfl ?_
  refine xseq ?_
  obtain ⟨g1, hg1, h⟩ := bindS h
  refine xseg ⟨ofL [(0, .str a0), (21, .bool g1)], ofL []⟩ ?_ ?_
  · have h := hg1
    refine xreg ?_
    refine wpp rfl rfl ?_
    refine wpp rfl rfl ?_
    refine wpp rfl rfl ?_
    rcases bifS h with ⟨c2, h⟩ | ⟨c2, h⟩
    · skip
      refine wsk (gn rfl c2) ?_
      refine wsk (gn rfl c2) ?_
      refine wsk (gn rfl c2) ?_
      refine wpp rfl (p_pick1 c2 rfl rfl) ?_
      refine wpp rfl rfl ?_
      refine wsk rfl ?_
      refine wsk rfl ?_
      refine wsk rfl ?_
      refine wpp rfl rfl ?_
      refine wpp rfl rfl ?_
      refine wsk rfl ?_
      refine wsk rfl ?_
      refine wsk rfl ?_
      refine wpp rfl rfl ?_
      obtain rfl := someS h
      exact (canon0 ⟨rfl, rfl, trivial⟩ trivial rfl rfl)
    · skip
      refine wpp (gy rfl c2) rfl ?_
      refine wpp (gy rfl c2) rfl ?_
      refine wpp (gy rfl c2) rfl ?_
      refine wpp rfl (p_pick0 c2 rfl rfl) ?_
      refine wpp rfl rfl ?_
      rcases bifS h with ⟨c3, h⟩ | ⟨c3, h⟩
      · skip
        refine wsk (gn rfl c3) ?_
        refine wsk (gn rfl c3) ?_
        refine wsk (gn rfl c3) ?_
        refine wpp rfl (p_pick1 c3 rfl rfl) ?_
        refine wpp rfl rfl ?_
        refine wsk rfl ?_
        refine wsk rfl ?_
        refine wsk rfl ?_
        refine wpp rfl rfl ?_
        obtain rfl := someS h
        exact (canon0 ⟨rfl, rfl, trivial⟩ trivial rfl rfl)
      · skip
        refine wpp (gy rfl c3) rfl ?_
        obtain ⟨x14, hx14, h⟩ := bindS h
        refine wpp (gy rfl c3) (p_idx hx14 rfl rfl) ?_
        refine wpp (p := .bool (decide (((x14).toNat : Int) < (97 : Int)))) (gy rfl c3) rfl ?_
        refine wpp rfl (p_pick0 c3 rfl rfl) ?_
        refine wpp rfl rfl ?_
        rcases bifS h with ⟨c4, h⟩ | ⟨c4, h⟩
        · skip
          refine wsk (gn rfl c4) ?_
          refine wsk (gn rfl c4) ?_
          refine wsk (gn rfl c4) ?_
          refine wpp rfl (p_pick1 c4 rfl rfl) ?_
          obtain rfl := someS h
          exact (canon0 ⟨rfl, rfl, trivial⟩ trivial rfl rfl)
        · skip
          refine wpp (gy rfl c4) rfl ?_
          obtain ⟨x19, hx19, h⟩ := bindS h
          refine wpp (gy rfl c4) (p_idx hx19 rfl rfl) ?_
          refine wpp (p := .bool (decide (((x19).toNat : Int) > (122 : Int)))) (gy rfl c4) rfl ?_
          refine wpp rfl (p_pick0 c4 rfl rfl) ?_
          obtain rfl := someS h
          exact (canon0 ⟨rfl, rfl, trivial⟩ trivial rfl rfl)
  · clear hg1
    rcases bifS h with ⟨c5, h⟩ | ⟨c5, h⟩
    · refine xcT rfl c5 ?_
      refine xseq ?_
      refine xreg ?_
      refine wpp rfl rfl ?_
      obtain rfl := someS h
      refine xret ?_
      exact ⟨nofun, rfl, rfl⟩
    · refine xcF rfl c5 ?_
      refine xskip ?_
      refine xseq ?_
      refine xseq ?_
      refine xreg ?_
      refine wpp rfl rfl ?_
      refine woo rfl (ocvs 23 rfl rfl) ?_
      refine wpp rfl rfl ?_
      refine wpp rfl rfl ?_
      refine xblk ?_
      obtain ⟨y14, hy14, h⟩ := bindS h
      refine xloopU (st1 := ⟨ofL [(23, .slr 23 0 a0.length), (24, .int .i64 (a0.length : Int)), (25, .int .i64 0)], ofL [(23, ⟨1, true, List.map eb a0⟩)]⟩) (canon0 ⟨rfl, rfl, rfl, trivial⟩ ⟨rfl, trivial⟩ rfl rfl) (w_dn_IsType_l14 N a0 N _ _ hy14) ?_
      clear hy14
      rcases y14 with y14 | y14
      · rintro e s ⟨rfl, rfl⟩
        refine xseq ?_
        refine xreg ?_
        refine wpp rfl rfl ?_
        obtain rfl := someS h
        refine xret ?_
        exact ⟨nofun, rfl, rfl⟩
      · rintro e s ⟨rfl, rfl⟩
        obtain rfl := someS h
        exact ⟨nofun, rfl, rfl⟩
end Go.Gp
end
section
set_option linter.unusedVariables false
set_option linter.unusedSimpArgs false
set_option maxRecDepth 4000
namespace Go.Gp
open Go.Vd Go.RowKit Go.Proofs
def k38 : IC := (.seq (.reg [⟨(some 2), (.box 47 (.t 0)), none⟩, ⟨(some 3), (.mov (.c (.bool false))), none⟩]) (.seq (.reg [⟨(some 4), (.fda 0 (.t 2)), none⟩, ⟨(some 5), (.load 1 false (.t 4)), none⟩, ⟨(some 6), (.fda 0 (.t 1)), none⟩, ⟨(some 7), (.load 1 false (.t 6)), none⟩, ⟨(some 8), (.bin .eql (.t 5) (.t 7)), none⟩, ⟨(some 3), (.mov (.t 8)), none⟩]) .ret))
theorem k38_cf : cfunc Try.prog Try.f38 = some ⟨9, k38, [(.tmp 3)]⟩ := by kernel_rfl
theorem sat_dn_IsRDN_1 (N : Nat) (a0 : api_AVA) (c0 : api_AVA) (r : Bool) (h : dn_IsRDN_1 N a0 c0 = some r) : Sat Try.prog 38 noRows [e_api_AVA a0, .ep [.str c0.Attr, .str c0.Value]] (.bool r) noRows := by
  refine xsat mixed Try.func38 k38_cf (rs := [.bool r]) rfl rfl ?_
  refine xseq ?_
  refine xreg ?_
  refine woo rfl (obox 2 rfl rfl rfl rfl rfl) ?_
  refine wpp rfl rfl ?_
  refine xseq ?_
  refine xreg ?_
  refine wpp rfl rfl ?_
  refine wpp rfl rfl ?_
  refine wpp (p := .ep [.str c0.Attr, .str c0.Value]) rfl rfl ?_
  refine wpp rfl rfl ?_
  refine wpp rfl rfl ?_
  refine wpp rfl rfl ?_
  obtain rfl := someS h
  refine xret ?_
  exact ⟨nofun, rfl, rfl⟩
end Go.Gp
end
section
set_option linter.unusedVariables false
set_option linter.unusedSimpArgs false
set_option maxRecDepth 4000
namespace Go.Gp
open Go.Vd Go.RowKit Go.Proofs
def k49c38_l6 : IC := (.seq (.reg [⟨(some 9), (.bin .lss (.t 8) (.t 7)), none⟩]) (.seq (.cond (.t 9) .skip (.exit 0)) (.seq (.block 1 (.seq (.reg [⟨(some 10), (.mov (.t 8)), none⟩, ⟨(some 5), (.mov (.t 10)), none⟩]) (.seq (.reg [⟨(some 11), (.mov (.t 1)), none⟩, ⟨(some 12), (.mov (.t 0)), none⟩, ⟨(some 13), (.mov (.t 5)), none⟩, ⟨(some 14), (.ixp 2 (.t 12) (.t 13)), none⟩, ⟨(some 15), (.load 2 true (.t 14)), none⟩, ⟨(some 16), (.calv (.t 11) [(.t 15)]), none⟩]) (.cond (.t 16) (.seq (.reg [⟨(some 17), (.mov (.t 5)), none⟩, ⟨(some 4), (.mov (.t 17)), none⟩]) .ret) .skip)))) (.reg [⟨(some 18), (.bin .add (.t 8) (.c (.int .i64 1))), none⟩, ⟨(some 8), (.mov (.t 18)), none⟩]))))
def k49c38 : IC := (.seq (.reg [⟨(some 4), (.mov (.c (.int .i64 0))), none⟩]) (.seq (.seq (.reg [⟨(some 6), (.mov (.t 0)), none⟩, ⟨(some 7), (.len false (.t 6)), none⟩, ⟨(some 8), (.mov (.c (.int .i64 0))), none⟩]) (.block 0 (.loop k49c38_l6))) (.seq (.reg [⟨(some 4), (.mov (.c (.int .i64 (-1)))), none⟩]) .ret)))
theorem k49c38_cf : cfunc Try.prog Try.f49 = some ⟨19, k49c38, [(.tmp 4)]⟩ := by kernel_rfl
theorem w_slices_IndexFunc_api_RDN_api_AVA_c38_l6 (N : Nat) (a0 : List api_AVA) (a1_0 : api_AVA) : ∀ (n : Nat) (x : Int) (y : Unit ⊕ Int), slices_IndexFunc_api_RDN_api_AVA_c38_l6 N a0 a1_0 n x = some y → WX Try.prog (fun _ => false) (.loop k49c38_l6) ((fun (x : Int) => ⟨ofL [(0, .sl 2 (List.map e_api_AVA a0)), (1, .clo 38 [.ep [.str a1_0.Attr, .str a1_0.Value]]), (7, .int .i64 (a0.length : Int)), (8, .int .i64 x)], ofL []⟩) x) ((Sum.elim (fun y e s => e = .exit 0 ∧ s = ⟨ofL [], ofL []⟩) (fun y e s => e = .ret ∧ s = ⟨ofL [(4, .int .i64 y)], ofL []⟩) : (Unit ⊕ Int) → Xt → St → Prop) y) := by
  refine xloop (fun (x : Int) => ⟨ofL [(0, .sl 2 (List.map e_api_AVA a0)), (1, .clo 38 [.ep [.str a1_0.Attr, .str a1_0.Value]]), (7, .int .i64 (a0.length : Int)), (8, .int .i64 x)], ofL []⟩) _ (slices_IndexFunc_api_RDN_api_AVA_c38_l6 N a0 a1_0) (slices_IndexFunc_api_RDN_api_AVA_c38_l6_b N a0 a1_0) (fun _ => rfl) (fun _ _ => rfl) ?_
  rintro rec v8l6 y h
  refine xseq ?_
  refine xreg ?_
  refine wpp rfl rfl ?_
  refine xseq ?_
  rcases bifS h with ⟨c1, h⟩ | ⟨c1, h⟩
  · refine xcT rfl c1 ?_
    refine xskip ?_
    refine xseq ?_
    refine xblk ?_
    refine xseq ?_
    refine xreg ?_
    refine wpp rfl rfl ?_
    refine wpp rfl rfl ?_
    refine xseq ?_
    refine xreg ?_
    refine wpp rfl rfl ?_
    refine wpp rfl rfl ?_
    refine wpp rfl rfl ?_
    obtain ⟨x14, hx14, h⟩ := bindS h
    refine wpp rfl (p_ixs (cs := [.str x14.Attr, .str x14.Value]) hx14 rfl rfl rfl) ?_
    refine wpp (p := e_api_AVA x14) rfl rfl ?_
    obtain ⟨x16, hx16, h⟩ := bindS h
    refine woo rfl (ocalv (sat_dn_IsRDN_1 N _ _ _ hx16) rfl rfl rfl (.cons sub_rfl (.cons sub_rfl .nil)) rfl rfl rfl) ?_
    rcases bifS h with ⟨c2, h⟩ | ⟨c2, h⟩
    · refine xcT rfl c2 ?_
      refine xseq ?_
      refine xreg ?_
      refine wpp rfl rfl ?_
      refine wpp rfl rfl ?_
      obtain rfl := someS h
      exact xretn (st1 := ⟨ofL [(4, .int .i64 v8l6)], ofL []⟩) (canon0 ⟨rfl, trivial⟩ trivial rfl rfl) ⟨rfl, rfl⟩
    · refine xcF rfl c2 ?_
      refine xskip ?_
      refine xreg ?_
      refine wpp (p := .int .i64 (w64 (v8l6 + (1 : Int)))) rfl rfl ?_
      refine wpp rfl rfl ?_
      exact ⟨(w64 (v8l6 + (1 : Int))), (canon0 ⟨rfl, rfl, rfl, rfl, trivial⟩ trivial rfl rfl), h⟩
  · refine xcF rfl c1 ?_
    obtain rfl := someS h
    exact xexitn (st1 := ⟨ofL [], ofL []⟩) (canon0 trivial trivial rfl rfl) ⟨rfl, rfl⟩
theorem sat_slices_IndexFunc_api_RDN_api_AVA_c38 (N : Nat) (a0 : List api_AVA) (a1_0 : api_AVA) (r : Int) (h : slices_IndexFunc_api_RDN_api_AVA_c38 N a0 a1_0 = some r) : Sat Try.prog 49 noRows [.sl 2 (List.map e_api_AVA a0), .clo 38 [.ep [.str a1_0.Attr, .str a1_0.Value]]] (.int .i64 r) noRows := by
  refine xsat mixed Try.func49 k49c38_cf (rs := [.int .i64 r]) rfl rfl ?_
  refine xseq ?_
  refine xreg ?_
  refine wpp rfl rfl ?_
  refine xseq ?_
  refine xseq ?_
  refine xreg ?_
  refine wpp rfl rfl ?_
  refine wpp rfl (p_lens rfl) ?_
  refine wpp rfl rfl ?_
  refine xblk ?_
  obtain ⟨y3, hy3, h⟩ := bindS h
  refine xloopU (st1 := ⟨ofL [(0, .sl 2 (List.map e_api_AVA a0)), (1, .clo 38 [.ep [.str a1_0.Attr, .str a1_0.Value]]), (7, .int .i64 (a0.length : Int)), (8, .int .i64 0)], ofL []⟩) (canon0 ⟨rfl, rfl, rfl, rfl, trivial⟩ trivial rfl rfl) (w_slices_IndexFunc_api_RDN_api_AVA_c38_l6 N a0 a1_0 N _ _ hy3) ?_
  clear hy3
  rcases y3 with y3 | y3
  · rintro e s ⟨rfl, rfl⟩
    refine xseq ?_
    refine xreg ?_
    refine wpp rfl rfl ?_
    obtain rfl := someS h
    refine xret ?_
    exact ⟨nofun, rfl, rfl⟩
  · rintro e s ⟨rfl, rfl⟩
    obtain rfl := someS h
    exact ⟨nofun, rfl, rfl⟩
end Go.Gp
end
section
set_option linter.unusedVariables false
set_option linter.unusedSimpArgs false
set_option maxRecDepth 4000
namespace Go.Gp
open Go.Vd Go.RowKit Go.Proofs
def k37c38 : IC := (.seq (.reg [⟨(some 4), (.mov (.c (.bool false))), none⟩]) (.seq (.reg [⟨(some 5), (.mov (.t 0)), none⟩, ⟨(some 6), (.mov (.t 1)), none⟩, ⟨(some 7), (.call 49 [(.t 5), (.t 6)]), none⟩, ⟨(some 8), (.bin .geq (.t 7) (.c (.int .i64 0))), none⟩, ⟨(some 4), (.mov (.t 8)), none⟩]) .ret))
theorem k37c38_cf : cfunc Try.prog Try.f37 = some ⟨9, k37c38, [(.tmp 4)]⟩ := by kernel_rfl
theorem sat_slices_ContainsFunc_api_RDN_api_AVA_c38 (N : Nat) (a0 : List api_AVA) (a1_0 : api_AVA) (r : Bool) (h : slices_ContainsFunc_api_RDN_api_AVA_c38 N a0 a1_0 = some r) : Sat Try.prog 37 noRows [.sl 2 (List.map e_api_AVA a0), .clo 38 [.ep [.str a1_0.Attr, .str a1_0.Value]]] (.bool r) noRows := by
  refine xsat mixed Try.func37 k37c38_cf (rs := [.bool r]) rfl rfl ?_
  refine xseq ?_
  refine xreg ?_
  refine wpp rfl rfl ?_
  refine xseq ?_
  refine xreg ?_
  refine wpp rfl rfl ?_
  refine wpp rfl rfl ?_
  obtain ⟨x7, hx7, h⟩ := bindS h
  refine woo rfl (ocal (sat_slices_IndexFunc_api_RDN_api_AVA_c38 N _ _ _ hx7) rfl (.cons sub_rfl (.cons sub_rfl .nil)) rfl rfl rfl) ?_
  refine wpp rfl rfl ?_
  refine wpp rfl rfl ?_
  obtain rfl := someS h
  refine xret ?_
  exact ⟨nofun, rfl, rfl⟩
end Go.Gp
end
