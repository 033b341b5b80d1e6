/- A part of the proof: functions of the program and what they compute. -/
import Derived.Test.YtbndinjjpafmjaaDoorA6
import Derived.Test.YtbndinjjpafmjaaDoorA11
import Derived.Test.YtbndinjjpafmjaaDoorA10
import Derived.Test.YtbndinjjpafmjaaDoorA8
section
set_option linter.unusedVariables false
set_option linter.unusedSimpArgs false
set_option maxRecDepth 4000
namespace Go.Gp
open Go.Vd Go.RowKit Go.Proofs
def k67_l34 : IC := (.seq (.seq (.reg [⟨(some 44), (.mov (.t 4)), none⟩, ⟨(some 45), (.mov (.t 3)), none⟩, ⟨(some 46), (.bin .lss (.t 44) (.t 45)), none⟩]) (.cond (.t 46) .skip (.exit 2))) (.seq (.block 3 (.seq (.regd 11 [⟨(some 49), (.mov (.t 0)), none⟩, ⟨(some 50), (.mov (.t 4)), none⟩, ⟨(some 51), (.ixp 2 (.t 49) (.t 50)), none⟩, ⟨(some 52), (.fda 0 (.t 51)), none⟩, ⟨(some 53), (.load 1 false (.t 52)), none⟩, ⟨(some 54), (.mov (.t 0)), none⟩, ⟨(some 55), (.mov (.t 3)), none⟩, ⟨(some 56), (.ixp 2 (.t 54) (.t 55)), none⟩, ⟨(some 57), (.fda 0 (.t 56)), none⟩, ⟨(some 58), (.load 1 false (.t 57)), none⟩, ⟨(some 59), (.bin .eql (.t 53) (.t 58)), none⟩]) (.cond (.t 59) (.seq (.reg [⟨(some 2), (.mov (.c (.bool false))), none⟩]) .ret) .skip))) (.reg [⟨(some 47), (.mov (.t 4)), none⟩, ⟨(some 48), (.bin .add (.t 47) (.c (.int .i64 1))), none⟩, ⟨(some 4), (.mov (.t 48)), none⟩])))
def k67_l14 : IC := (.seq (.seq (.reg [⟨(some 13), (.mov (.t 3)), none⟩, ⟨(some 14), (.mov (.t 0)), none⟩, ⟨(some 15), (.len false (.t 14)), none⟩, ⟨(some 16), (.bin .lss (.t 13) (.t 15)), none⟩]) (.cond (.t 16) .skip (.exit 0))) (.seq (.block 1 (.seq (.seq (.reg [⟨(some 19), (.mov (.t 0)), none⟩, ⟨(some 20), (.mov (.t 3)), none⟩, ⟨(some 21), (.ixp 2 (.t 19) (.t 20)), none⟩, ⟨(some 22), (.fda 0 (.t 21)), none⟩, ⟨(some 23), (.load 1 false (.t 22)), none⟩, ⟨(some 24), (.call 88 [(.t 23)]), none⟩, ⟨(some 25), (.un .not (.t 24)), none⟩, ⟨(some 26), (.mov (.t 25)), none⟩, ⟨(some 27), (.mov (.t 0)), (some (26, false))⟩, ⟨(some 28), (.mov (.t 3)), (some (26, false))⟩, ⟨(some 29), (.ixp 2 (.t 27) (.t 28)), (some (26, false))⟩, ⟨(some 30), (.fda 1 (.t 29)), (some (26, false))⟩, ⟨(some 31), (.load 1 false (.t 30)), (some (26, false))⟩, ⟨(some 32), (.len true (.t 31)), (some (26, false))⟩, ⟨(some 33), (.bin .lss (.t 32) (.c (.int .i64 1))), (some (26, false))⟩, ⟨(some 34), (.pick (.t 26) (.c (.bool true)) (.t 33)), none⟩, ⟨(some 35), (.mov (.t 34)), none⟩, ⟨(some 36), (.mov (.t 0)), (some (35, false))⟩, ⟨(some 37), (.mov (.t 3)), (some (35, false))⟩, ⟨(some 38), (.ixp 2 (.t 36) (.t 37)), (some (35, false))⟩, ⟨(some 39), (.fda 1 (.t 38)), (some (35, false))⟩, ⟨(some 40), (.load 1 false (.t 39)), (some (35, false))⟩, ⟨(some 41), (.len true (.t 40)), (some (35, false))⟩, ⟨(some 42), (.bin .gtr (.t 41) (.c (.int .i64 60))), (some (35, false))⟩, ⟨(some 43), (.pick (.t 35) (.c (.bool true)) (.t 42)), none⟩]) (.cond (.t 43) (.seq (.reg [⟨(some 2), (.mov (.c (.bool false))), none⟩]) .ret) .skip)) (.seq (.reg [⟨(some 4), (.mov (.c (.int .i64 0))), none⟩]) (.block 2 (.loop k67_l34))))) (.reg [⟨(some 17), (.mov (.t 3)), none⟩, ⟨(some 18), (.bin .add (.t 17) (.c (.int .i64 1))), none⟩, ⟨(some 3), (.mov (.t 18)), none⟩])))
def k67 : IC := (.seq (.reg [⟨(some 2), (.mov (.c (.bool false))), none⟩]) (.seq (.seq (.reg [⟨(some 5), (.mov (.t 0)), none⟩, ⟨(some 6), (.len false (.t 5)), none⟩, ⟨(some 7), (.bin .lss (.t 6) (.c (.int .i64 1))), none⟩, ⟨(some 8), (.mov (.t 7)), none⟩, ⟨(some 9), (.mov (.t 0)), (some (8, false))⟩, ⟨(some 10), (.len false (.t 9)), (some (8, false))⟩, ⟨(some 11), (.bin .gtr (.t 10) (.c (.int .i64 4))), (some (8, false))⟩, ⟨(some 12), (.pick (.t 8) (.c (.bool true)) (.t 11)), none⟩]) (.cond (.t 12) (.seq (.reg [⟨(some 2), (.mov (.c (.bool false))), none⟩]) .ret) .skip)) (.seq (.seq (.reg [⟨(some 3), (.mov (.c (.int .i64 0))), none⟩]) (.block 0 (.loop k67_l14))) (.seq (.reg [⟨(some 2), (.mov (.c (.bool true))), none⟩]) .ret))))
theorem k67_cf : cfunc Tryd.prog Tryd.f67 = some ⟨60, k67, [(.tmp 2)]⟩ := by kernel_rfl
theorem w_prefectref4_IsRDN_l34 (N : Nat) (a0 : List api_AVA) (v3l14 : Int) : ∀ (n : Nat) (x : Int) (y : Unit ⊕ Bool), prefectref4_IsRDN_l34 N a0 v3l14 n x = some y → WX Tryd.prog (fun _ => false) (.loop k67_l34) ((fun (x : Int) => ⟨ofL [(0, .sl 2 (List.map e_api_AVA a0)), (3, .int .i64 v3l14), (4, .int .i64 x)], ofL []⟩) x) ((Sum.elim (fun y e s => e = .exit 2 ∧ s = ⟨ofL [(0, .sl 2 (List.map e_api_AVA a0)), (3, .int .i64 v3l14)], ofL []⟩) (fun y e s => e = .ret ∧ s = ⟨ofL [(2, .bool y)], ofL []⟩) : (Unit ⊕ Bool) → Xt → St → Prop) y) := by
  refine xloop (fun (x : Int) => ⟨ofL [(0, .sl 2 (List.map e_api_AVA a0)), (3, .int .i64 v3l14), (4, .int .i64 x)], ofL []⟩) _ (prefectref4_IsRDN_l34 N a0 v3l14) (prefectref4_IsRDN_l34_b N a0 v3l14) (fun _ => rfl) (fun _ _ => rfl) ?_
  rintro rec v4l34 y h
  refine xseq ?_
  refine xseq ?_
  refine xreg ?_
  refine wpp rfl rfl ?_
  refine wpp rfl rfl ?_
  refine wpp rfl rfl ?_
  rcases bifS h with ⟨c9, h⟩ | ⟨c9, h⟩
  · refine xcT rfl c9 ?_
    refine xskip ?_
    refine xseq ?_
    refine xblk ?_
    refine xseq ?_
    refine xregd ?_
    refine wdp rfl rfl ?_
    refine wdp rfl rfl ?_
    obtain ⟨x51, hx51, h⟩ := bindS h
    refine wdp rfl (p_ixs (cs := [.str x51.Attr, .str x51.Value]) hx51 rfl rfl rfl) ?_
    refine wdp (p := .ep [.str x51.Attr, .str x51.Value]) rfl rfl ?_
    refine wdp rfl rfl ?_
    refine wdp rfl rfl ?_
    refine wdp rfl rfl ?_
    obtain ⟨x56, hx56, h⟩ := bindS h
    refine wdp rfl (p_ixs (cs := [.str x56.Attr, .str x56.Value]) hx56 rfl rfl rfl) ?_
    refine wdp (p := .ep [.str x56.Attr, .str x56.Value]) rfl rfl ?_
    refine wdp rfl rfl ?_
    refine wdp rfl rfl ?_
    rcases bifS h with ⟨c10, h⟩ | ⟨c10, h⟩
    · refine xcT rfl c10 ?_
      refine xseq ?_
      refine xreg ?_
      refine wpp rfl rfl ?_
      obtain rfl := someS h
      exact xretn (st1 := ⟨ofL [(2, .bool false)], ofL []⟩) (canon0 ⟨rfl, trivial⟩ trivial rfl rfl) ⟨rfl, rfl⟩
    · refine xcF rfl c10 ?_
      refine xskip ?_
      refine xreg ?_
      refine wpp rfl rfl ?_
      refine wpp (p := .int .i64 (w64 (v4l34 + (1 : Int)))) rfl rfl ?_
      refine wpp rfl rfl ?_
      exact ⟨(w64 (v4l34 + (1 : Int))), (canon0 ⟨rfl, rfl, rfl, trivial⟩ trivial rfl rfl), h⟩
  · refine xcF rfl c9 ?_
    obtain rfl := someS h
    exact xexitn (st1 := ⟨ofL [(0, .sl 2 (List.map e_api_AVA a0)), (3, .int .i64 v3l14)], ofL []⟩) (canon0 ⟨rfl, rfl, trivial⟩ trivial rfl rfl) ⟨rfl, rfl⟩
theorem w_prefectref4_IsRDN_l14 (N : Nat) (a0 : List api_AVA) : ∀ (n : Nat) (x : Int) (y : Unit ⊕ Bool), prefectref4_IsRDN_l14 N a0 n x = some y → WX Tryd.prog (fun _ => false) (.loop k67_l14) ((fun (x : Int) => ⟨ofL [(0, .sl 2 (List.map e_api_AVA a0)), (3, .int .i64 x)], ofL []⟩) x) ((Sum.elim (fun y e s => e = .exit 0 ∧ s = ⟨ofL [], ofL []⟩) (fun y e s => e = .ret ∧ s = ⟨ofL [(2, .bool y)], ofL []⟩) : (Unit ⊕ Bool) → Xt → St → Prop) y) := by
  refine xloop (fun (x : Int) => ⟨ofL [(0, .sl 2 (List.map e_api_AVA a0)), (3, .int .i64 x)], ofL []⟩) _ (prefectref4_IsRDN_l14 N a0) (prefectref4_IsRDN_l14_b N a0) (fun _ => rfl) (fun _ _ => rfl) ?_
  rintro rec v3l14 y h
  refine xseq ?_
  refine xseq ?_
  refine xreg ?_
  refine wpp rfl rfl ?_
  refine wpp rfl rfl ?_
  refine wpp rfl (p_lens rfl) ?_
  refine wpp rfl rfl ?_
  rcases bifS h with ⟨c4, h⟩ | ⟨c4, h⟩
  · refine xcT rfl c4 ?_
    refine xskip ?_
    refine xseq ?_
    refine xblk ?_
    refine xseq ?_
    obtain ⟨g5, hg5, h⟩ := bindS h
    refine xseg ⟨ofL [(0, .sl 2 (List.map e_api_AVA a0)), (3, .int .i64 v3l14), (43, .bool g5)], ofL []⟩ ?_ ?_
    · have h := hg5
      refine xreg ?_
      refine wpp rfl rfl ?_
      refine wpp rfl rfl ?_
      obtain ⟨x21, hx21, h⟩ := bindS h
      refine wpp rfl (p_ixs (cs := [.str x21.Attr, .str x21.Value]) hx21 rfl rfl rfl) ?_
      refine wpp (p := .ep [.str x21.Attr, .str x21.Value]) rfl rfl ?_
      refine wpp rfl rfl ?_
      obtain ⟨x24, hx24, h⟩ := bindS h
      refine woo rfl (ocal (sat_prefectref4_IsType N _ _ hx24) rfl (.cons sub_rfl .nil) rfl rfl rfl) ?_
      refine wpp rfl rfl ?_
      refine wpp rfl rfl ?_
      rcases bifS h with ⟨c6, h⟩ | ⟨c6, h⟩
      · skip
        refine wsk (gn rfl c6) ?_
        refine wsk (gn rfl c6) ?_
        refine wsk (gn rfl c6) ?_
        refine wsk (gn rfl c6) ?_
        refine wsk (gn rfl c6) ?_
        refine wsk (gn rfl c6) ?_
        refine wsk (gn rfl c6) ?_
        refine wpp rfl (p_pick1 c6 rfl rfl) ?_
        refine wpp rfl rfl ?_
        refine wsk rfl ?_
        refine wsk rfl ?_
        refine wsk rfl ?_
        refine wsk rfl ?_
        refine wsk rfl ?_
        refine wsk rfl ?_
        refine wsk rfl ?_
        refine wpp rfl rfl ?_
        obtain rfl := someS h
        exact (canon0 ⟨rfl, rfl, rfl, trivial⟩ trivial rfl rfl)
      · skip
        refine wpp (gy rfl c6) rfl ?_
        refine wpp (gy rfl c6) rfl ?_
        obtain ⟨x29, hx29, h⟩ := bindS h
        refine wpp (gy rfl c6) (p_ixs (cs := [.str x29.Attr, .str x29.Value]) hx29 rfl rfl rfl) ?_
        refine wpp (p := .ep [.str x29.Value]) (gy rfl c6) rfl ?_
        refine wpp (gy rfl c6) rfl ?_
        refine wpp (gy rfl c6) rfl ?_
        refine wpp (gy rfl c6) rfl ?_
        refine wpp rfl (p_pick0 c6 rfl rfl) ?_
        refine wpp rfl rfl ?_
        rcases bifS h with ⟨c7, h⟩ | ⟨c7, h⟩
        · skip
          refine wsk (gn rfl c7) ?_
          refine wsk (gn rfl c7) ?_
          refine wsk (gn rfl c7) ?_
          refine wsk (gn rfl c7) ?_
          refine wsk (gn rfl c7) ?_
          refine wsk (gn rfl c7) ?_
          refine wsk (gn rfl c7) ?_
          refine wpp rfl (p_pick1 c7 rfl rfl) ?_
          obtain rfl := someS h
          exact (canon0 ⟨rfl, rfl, rfl, trivial⟩ trivial rfl rfl)
        · skip
          refine wpp (gy rfl c7) rfl ?_
          refine wpp (gy rfl c7) rfl ?_
          obtain ⟨x38, hx38, h⟩ := bindS h
          refine wpp (gy rfl c7) (p_ixs (cs := [.str x38.Attr, .str x38.Value]) hx38 rfl rfl rfl) ?_
          refine wpp (p := .ep [.str x38.Value]) (gy rfl c7) rfl ?_
          refine wpp (gy rfl c7) rfl ?_
          refine wpp (gy rfl c7) rfl ?_
          refine wpp (gy rfl c7) rfl ?_
          refine wpp rfl (p_pick0 c7 rfl rfl) ?_
          obtain rfl := someS h
          exact (canon0 ⟨rfl, rfl, rfl, trivial⟩ trivial rfl rfl)
    · clear hg5
      rcases bifS h with ⟨c8, h⟩ | ⟨c8, h⟩
      · refine xcT rfl c8 ?_
        refine xseq ?_
        refine xreg ?_
        refine wpp rfl rfl ?_
        obtain rfl := someS h
        exact xretn (st1 := ⟨ofL [(2, .bool false)], ofL []⟩) (canon0 ⟨rfl, trivial⟩ trivial rfl rfl) ⟨rfl, rfl⟩
      · refine xcF rfl c8 ?_
        refine xskip ?_
        refine xseq ?_
        refine xreg ?_
        refine wpp rfl rfl ?_
        refine xblk ?_
        obtain ⟨y11, hy11, h⟩ := bindS h
        refine xloopU (st1 := ⟨ofL [(0, .sl 2 (List.map e_api_AVA a0)), (3, .int .i64 v3l14), (4, .int .i64 0)], ofL []⟩) (canon0 ⟨rfl, rfl, rfl, trivial⟩ trivial rfl rfl) (w_prefectref4_IsRDN_l34 N a0 v3l14 N _ _ hy11) ?_
        clear hy11
        rcases y11 with y11 | y11
        · rintro e s ⟨rfl, rfl⟩
          refine xreg ?_
          refine wpp rfl rfl ?_
          refine wpp (p := .int .i64 (w64 (v3l14 + (1 : Int)))) rfl rfl ?_
          refine wpp rfl rfl ?_
          exact ⟨(w64 (v3l14 + (1 : Int))), (canon0 ⟨rfl, rfl, trivial⟩ trivial rfl rfl), h⟩
        · rintro e s ⟨rfl, rfl⟩
          obtain rfl := someS h
          exact ⟨rfl, rfl⟩
  · refine xcF rfl c4 ?_
    obtain rfl := someS h
    exact xexitn (st1 := ⟨ofL [], ofL []⟩) (canon0 trivial trivial rfl rfl) ⟨rfl, rfl⟩
theorem sat_prefectref4_IsRDN (N : Nat) (a0 : List api_AVA) (r : Bool) (h : prefectref4_IsRDN N a0 = some r) : Sat Tryd.prog 67 noRows [.sl 2 (List.map e_api_AVA a0)] (.bool r) noRows := by
  refine xsat mixed Tryd.func67 k67_cf (rs := [.bool r]) rfl rfl ?_
  refine xseq ?_
  refine xreg ?_
  refine wpp rfl rfl ?_
  refine xseq ?_
  obtain ⟨g1, hg1, h⟩ := bindS h
  refine xseg ⟨ofL [(0, .sl 2 (List.map e_api_AVA a0)), (12, .bool g1)], ofL []⟩ ?_ ?_
  · have h := hg1
    refine xreg ?_
    refine wpp rfl rfl ?_
    refine wpp rfl (p_lens rfl) ?_
    refine wpp rfl rfl ?_
    refine wpp rfl rfl ?_
    rcases bifS h with ⟨c2, h⟩ | ⟨c2, h⟩
    · skip
      refine wsk (gn rfl c2) ?_
      refine wsk (gn rfl c2) ?_
      refine wsk (gn rfl c2) ?_
      refine wpp rfl (p_pick1 c2 rfl rfl) ?_
      obtain rfl := someS h
      exact (canon0 ⟨rfl, rfl, trivial⟩ trivial rfl rfl)
    · skip
      refine wpp (gy rfl c2) rfl ?_
      refine wpp (gy rfl c2) (p_lens rfl) ?_
      refine wpp (gy rfl c2) rfl ?_
      refine wpp rfl (p_pick0 c2 rfl rfl) ?_
      obtain rfl := someS h
      exact (canon0 ⟨rfl, rfl, trivial⟩ trivial rfl rfl)
  · clear hg1
    rcases bifS h with ⟨c3, h⟩ | ⟨c3, h⟩
    · refine xcT rfl c3 ?_
      refine xseq ?_
      refine xreg ?_
      refine wpp rfl rfl ?_
      obtain rfl := someS h
      refine xret ?_
      exact ⟨nofun, rfl, rfl⟩
    · refine xcF rfl c3 ?_
      refine xskip ?_
      refine xseq ?_
      refine xseq ?_
      refine xreg ?_
      refine wpp rfl rfl ?_
      refine xblk ?_
      obtain ⟨y12, hy12, h⟩ := bindS h
      refine xloopU (st1 := ⟨ofL [(0, .sl 2 (List.map e_api_AVA a0)), (3, .int .i64 0)], ofL []⟩) (canon0 ⟨rfl, rfl, trivial⟩ trivial rfl rfl) (w_prefectref4_IsRDN_l14 N a0 N _ _ hy12) ?_
      clear hy12
      rcases y12 with y12 | y12
      · rintro e s ⟨rfl, rfl⟩
        refine xseq ?_
        refine xreg ?_
        refine wpp rfl rfl ?_
        obtain rfl := someS h
        refine xret ?_
        exact ⟨nofun, rfl, rfl⟩
      · rintro e s ⟨rfl, rfl⟩
        obtain rfl := someS h
        exact ⟨nofun, rfl, rfl⟩
end Go.Gp
end
section
set_option linter.unusedVariables false
set_option linter.unusedSimpArgs false
set_option maxRecDepth 4000
namespace Go.Gp
open Go.Vd Go.RowKit Go.Proofs
def k46_l23 : IC := (.seq (.seq (.reg [⟨(some 18), (.mov (.t 7)), none⟩, ⟨(some 19), (.mov (.t 5)), none⟩, ⟨(some 20), (.mov (.t 6)), none⟩, ⟨(some 21), (.ixp 1 (.t 19) (.t 20)), none⟩, ⟨(some 22), (.load 1 false (.t 21)), none⟩, ⟨(some 23), (.len true (.t 22)), none⟩, ⟨(some 24), (.bin .lss (.t 18) (.t 23)), none⟩, ⟨(some 25), (.mov (.t 24)), none⟩, ⟨(some 26), (.mov (.t 5)), (some (25, true))⟩, ⟨(some 27), (.mov (.t 6)), (some (25, true))⟩, ⟨(some 28), (.ixp 1 (.t 26) (.t 27)), (some (25, true))⟩, ⟨(some 29), (.load 1 false (.t 28)), (some (25, true))⟩, ⟨(some 30), (.mov (.t 7)), (some (25, true))⟩, ⟨(some 31), (.idxs (.t 29) (.t 30)), (some (25, true))⟩, ⟨(some 32), (.bin .neq (.t 31) (.c (.int .u8 61))), (some (25, true))⟩, ⟨(some 33), (.pick (.t 25) (.t 32) (.c (.bool false))), none⟩]) (.cond (.t 33) .skip (.exit 2))) (.block 3 (.reg [⟨(some 34), (.mov (.t 7)), none⟩, ⟨(some 35), (.bin .add (.t 34) (.c (.int .i64 1))), none⟩, ⟨(some 7), (.mov (.t 35)), none⟩])))
def k46_l10 : IC := (.seq (.seq (.reg [⟨(some 12), (.mov (.t 6)), none⟩, ⟨(some 13), (.mov (.t 5)), none⟩, ⟨(some 14), (.len false (.t 13)), none⟩, ⟨(some 15), (.bin .lss (.t 12) (.t 14)), none⟩]) (.cond (.t 15) .skip (.exit 0))) (.seq (.block 1 (.seq (.reg [⟨(some 7), (.mov (.c (.int .i64 0))), none⟩]) (.seq (.block 2 (.loop k46_l23)) (.seq (.seq (.reg [⟨(some 36), (.mov (.t 7)), none⟩, ⟨(some 37), (.mov (.t 5)), none⟩, ⟨(some 38), (.mov (.t 6)), none⟩, ⟨(some 39), (.ixp 1 (.t 37) (.t 38)), none⟩, ⟨(some 40), (.load 1 false (.t 39)), none⟩, ⟨(some 41), (.len true (.t 40)), none⟩, ⟨(some 42), (.bin .eql (.t 36) (.t 41)), none⟩, ⟨(some 43), (.mov (.t 42)), none⟩, ⟨(some 44), (.mov (.t 5)), (some (43, false))⟩, ⟨(some 45), (.mov (.t 6)), (some (43, false))⟩, ⟨(some 46), (.ixp 1 (.t 44) (.t 45)), (some (43, false))⟩, ⟨(some 47), (.load 1 false (.t 46)), (some (43, false))⟩, ⟨(some 48), (.call 45 [(.t 47), (.c (.int .u8 44))]), (some (43, false))⟩, ⟨(some 49), (.len false (.t 48)), (some (43, false))⟩, ⟨(some 50), (.bin .gtr (.t 49) (.c (.int .i64 1))), (some (43, false))⟩, ⟨(some 51), (.pick (.t 43) (.c (.bool true)) (.t 50)), none⟩]) (.cond (.t 51) (.seq (.reg [⟨(some 2), (.mov (.c .nl)), none⟩, ⟨(some 3), (.mov (.c (.bool false))), none⟩]) .ret) .skip)) (.seq (.reg [⟨(some 53), (.mov (.t 5)), none⟩, ⟨(some 54), (.mov (.t 6)), none⟩, ⟨(some 55), (.ixp 1 (.t 53) (.t 54)), none⟩, ⟨(some 56), (.load 1 false (.t 55)), none⟩, ⟨(some 57), (.mov (.t 7)), none⟩, ⟨(some 58), (.bin .add (.t 57) (.c (.int .i64 1))), none⟩, ⟨(some 59), (.slcs (.t 56) (some (.t 58)) none), none⟩, ⟨(some 60), (.call 66 [(.t 59)]), none⟩, ⟨(some 52), (.mov (.t 60)), none⟩, ⟨(some 61), (.ext 0 (.t 52)), none⟩, ⟨(some 62), (.ext 1 (.t 52)), none⟩, ⟨(some 8), (.mov (.t 61)), none⟩, ⟨(some 9), (.mov (.t 62)), none⟩]) (.seq (.seq (.reg [⟨(some 63), (.mov (.t 9)), none⟩, ⟨(some 64), (.un .not (.t 63)), none⟩]) (.cond (.t 64) (.seq (.reg [⟨(some 2), (.mov (.c .nl)), none⟩, ⟨(some 3), (.mov (.c (.bool false))), none⟩]) .ret) .skip)) (.reg [⟨(some 65), (.mov (.t 4)), none⟩, ⟨(some 66), (.mov (.t 5)), none⟩, ⟨(some 67), (.mov (.t 6)), none⟩, ⟨(some 68), (.ixp 1 (.t 66) (.t 67)), none⟩, ⟨(some 69), (.load 1 false (.t 68)), none⟩, ⟨(some 70), (.mov (.t 7)), none⟩, ⟨(some 71), (.slcs (.t 69) none (some (.t 70))), none⟩, ⟨(some 72), (.call 29 [(.t 71)]), none⟩, ⟨(some 73), (.mov (.t 8)), none⟩, ⟨(some 74), (.build [(.str []), (.str [])] [(0, (1, (.t 72))), (1, (1, (.t 73)))]), none⟩, ⟨(some 75), (.bsl 2 [(.t 74)]), none⟩, ⟨(some 76), (.app 101 2 32 (.t 65) (.t 75)), none⟩, ⟨(some 4), (.mov (.t 76)), none⟩]))))))) (.reg [⟨(some 16), (.mov (.t 6)), none⟩, ⟨(some 17), (.bin .add (.t 16) (.c (.int .i64 1))), none⟩, ⟨(some 6), (.mov (.t 17)), none⟩])))
def k46 : IC := (.seq (.reg [⟨(some 2), (.mov (.c .nl)), none⟩, ⟨(some 3), (.mov (.c (.bool false))), none⟩]) (.seq (.reg [⟨(some 4), (.mov (.c .nl)), none⟩]) (.seq (.reg [⟨(some 10), (.mov (.t 0)), none⟩, ⟨(some 11), (.call 45 [(.t 10), (.c (.int .u8 43))]), none⟩, ⟨(some 5), (.mov (.t 11)), none⟩]) (.seq (.seq (.reg [⟨(some 6), (.mov (.c (.int .i64 0))), none⟩]) (.block 0 (.loop k46_l10))) (.seq (.seq (.reg [⟨(some 77), (.mov (.t 4)), none⟩, ⟨(some 78), (.call 67 [(.t 77)]), none⟩, ⟨(some 79), (.un .not (.t 78)), none⟩]) (.cond (.t 79) (.seq (.reg [⟨(some 2), (.mov (.c .nl)), none⟩, ⟨(some 3), (.mov (.c (.bool false))), none⟩]) .ret) .skip)) (.seq (.reg [⟨(some 80), (.mov (.t 4)), none⟩, ⟨(some 2), (.mov (.t 80)), none⟩, ⟨(some 3), (.mov (.c (.bool true))), none⟩]) .ret))))))
theorem k46_cf : cfunc Tryd.prog Tryd.f46 = some ⟨81, k46, [(.tmp 2), (.tmp 3)]⟩ := by kernel_rfl
theorem w_prefectref4_ParseRDN_l23 (N : Nat) (x11 : List (List UInt8)) (v6l10 : Int) (r1004l10 : List api_AVA) : ∀ (n : Nat) (x : Int) (y : Int), prefectref4_ParseRDN_l23 N x11 v6l10 r1004l10 n x = some y → WX Tryd.prog (fun _ => false) (.loop k46_l23) ((fun (x : Int) => ⟨ofL [(4, .slr 1004 0 r1004l10.length), (5, .sl 1 (List.map PV.str x11)), (6, .int .i64 v6l10), (7, .int .i64 x)], ofL [(1004, ⟨2, true, List.map e_api_AVA r1004l10⟩)]⟩) x) ((fun y e s => e = .exit 2 ∧ s = ⟨ofL [(4, .slr 1004 0 r1004l10.length), (5, .sl 1 (List.map PV.str x11)), (6, .int .i64 v6l10), (7, .int .i64 y)], ofL [(1004, ⟨2, true, List.map e_api_AVA r1004l10⟩)]⟩ : Int → Xt → St → Prop) y) := by
  refine xloop (fun (x : Int) => ⟨ofL [(4, .slr 1004 0 r1004l10.length), (5, .sl 1 (List.map PV.str x11)), (6, .int .i64 v6l10), (7, .int .i64 x)], ofL [(1004, ⟨2, true, List.map e_api_AVA r1004l10⟩)]⟩) _ (prefectref4_ParseRDN_l23 N x11 v6l10 r1004l10) (prefectref4_ParseRDN_l23_b N x11 v6l10 r1004l10) (fun _ => rfl) (fun _ _ => rfl) ?_
  rintro rec v7l23 y h
  refine xseq ?_
  obtain ⟨g2, hg2, h⟩ := bindS h
  refine xseg ⟨ofL [(4, .slr 1004 0 r1004l10.length), (5, .sl 1 (List.map PV.str x11)), (6, .int .i64 v6l10), (7, .int .i64 v7l23), (33, .bool g2)], ofL [(1004, ⟨2, true, List.map e_api_AVA r1004l10⟩)]⟩ ?_ ?_
  · have h := hg2
    refine xreg ?_
    refine wpp rfl rfl ?_
    refine wpp rfl rfl ?_
    refine wpp rfl rfl ?_
    obtain ⟨x21, hx21, h⟩ := bindS h
    refine wpp rfl (p_ixs (cs := [.str x21]) hx21 rfl rfl rfl) ?_
    refine wpp rfl rfl ?_
    refine wpp rfl rfl ?_
    refine wpp rfl rfl ?_
    refine wpp rfl rfl ?_
    rcases bifS h with ⟨c3, h⟩ | ⟨c3, h⟩
    · skip
      refine wpp (gy rfl c3) rfl ?_
      refine wpp (gy rfl c3) rfl ?_
      obtain ⟨x28, hx28, h⟩ := bindS h
      refine wpp (gy rfl c3) (p_ixs (cs := [.str x28]) hx28 rfl rfl rfl) ?_
      refine wpp (gy rfl c3) rfl ?_
      refine wpp (gy rfl c3) rfl ?_
      obtain ⟨x31, hx31, h⟩ := bindS h
      refine wpp (gy rfl c3) (p_idx hx31 rfl rfl) ?_
      refine wpp (p := .bool (((x31).toNat : Int) != (61 : Int))) (gy rfl c3) rfl ?_
      refine wpp rfl (p_pick1 c3 rfl rfl) ?_
      obtain rfl := someS h
      exact (canon0 ⟨rfl, rfl, rfl, rfl, rfl, trivial⟩ ⟨rfl, trivial⟩ rfl rfl)
    · skip
      refine wsk (gn rfl c3) ?_
      refine wsk (gn rfl c3) ?_
      refine wsk (gn rfl c3) ?_
      refine wsk (gn rfl c3) ?_
      refine wsk (gn rfl c3) ?_
      refine wsk (gn rfl c3) ?_
      refine wsk (gn rfl c3) ?_
      refine wpp rfl (p_pick0 c3 rfl rfl) ?_
      obtain rfl := someS h
      exact (canon0 ⟨rfl, rfl, rfl, rfl, rfl, trivial⟩ ⟨rfl, trivial⟩ rfl rfl)
  · clear hg2
    rcases bifS h with ⟨c4, h⟩ | ⟨c4, h⟩
    · refine xcT rfl c4 ?_
      refine xskip ?_
      refine xblk ?_
      refine xreg ?_
      refine wpp rfl rfl ?_
      refine wpp (p := .int .i64 (w64 (v7l23 + (1 : Int)))) rfl rfl ?_
      refine wpp rfl rfl ?_
      exact ⟨(w64 (v7l23 + (1 : Int))), (canon0 ⟨rfl, rfl, rfl, rfl, trivial⟩ ⟨rfl, trivial⟩ rfl rfl), h⟩
    · refine xcF rfl c4 ?_
      obtain rfl := someS h
      exact xexitn (st1 := ⟨ofL [(4, .slr 1004 0 r1004l10.length), (5, .sl 1 (List.map PV.str x11)), (6, .int .i64 v6l10), (7, .int .i64 v7l23)], ofL [(1004, ⟨2, true, List.map e_api_AVA r1004l10⟩)]⟩) (canon0 ⟨rfl, rfl, rfl, rfl, trivial⟩ ⟨rfl, trivial⟩ rfl rfl) ⟨rfl, rfl⟩
theorem w_prefectref4_ParseRDN_l10 (N : Nat) (x11 : List (List UInt8)) : ∀ (n : Nat) (x : Int × List api_AVA) (y : (List api_AVA) ⊕ (List api_AVA × Bool)), prefectref4_ParseRDN_l10 N x11 n x = some y → WX Tryd.prog (fun _ => false) (.loop k46_l10) ((fun (x : Int × List api_AVA) => ⟨ofL [(4, .slr 1004 0 x.2.length), (5, .sl 1 (List.map PV.str x11)), (6, .int .i64 x.1)], ofL [(1004, ⟨2, true, List.map e_api_AVA x.2⟩)]⟩) x) ((Sum.elim (fun y e s => e = .exit 0 ∧ s = ⟨ofL [(4, .slr 1004 0 y.length)], ofL [(1004, ⟨2, true, List.map e_api_AVA y⟩)]⟩) (fun y e s => e = .ret ∧ s = ⟨ofL [(2, .sl 2 (List.map e_api_AVA y.1)), (3, .bool y.2)], ofL []⟩) : ((List api_AVA) ⊕ (List api_AVA × Bool)) → Xt → St → Prop) y) := by
  refine xloop (fun (x : Int × List api_AVA) => ⟨ofL [(4, .slr 1004 0 x.2.length), (5, .sl 1 (List.map PV.str x11)), (6, .int .i64 x.1)], ofL [(1004, ⟨2, true, List.map e_api_AVA x.2⟩)]⟩) _ (prefectref4_ParseRDN_l10 N x11) (prefectref4_ParseRDN_l10_b N x11) (fun _ => rfl) (fun _ _ => rfl) ?_
  rintro rec ⟨v6l10, r1004l10⟩ y h
  refine xseq ?_
  refine xseq ?_
  refine xreg ?_
  refine wpp rfl rfl ?_
  refine wpp rfl rfl ?_
  refine wpp rfl (p_lens rfl) ?_
  refine wpp rfl rfl ?_
  rcases bifS h with ⟨c1, h⟩ | ⟨c1, h⟩
  · refine xcT rfl c1 ?_
    refine xskip ?_
    refine xseq ?_
    refine xblk ?_
    refine xseq ?_
    refine xreg ?_
    refine wpp rfl rfl ?_
    refine xseq ?_
    refine xblk ?_
    obtain ⟨y5, hy5, h⟩ := bindS h
    refine xloopU (st1 := ⟨ofL [(4, .slr 1004 0 r1004l10.length), (5, .sl 1 (List.map PV.str x11)), (6, .int .i64 v6l10), (7, .int .i64 0)], ofL [(1004, ⟨2, true, List.map e_api_AVA r1004l10⟩)]⟩) (canon0 ⟨rfl, rfl, rfl, rfl, trivial⟩ ⟨rfl, trivial⟩ rfl rfl) (w_prefectref4_ParseRDN_l23 N x11 v6l10 r1004l10 N _ _ hy5) ?_
    rintro e s ⟨rfl, rfl⟩
    refine xseq ?_
    obtain ⟨g6, hg6, h⟩ := bindS h
    refine xseg ⟨ofL [(4, .slr 1004 0 r1004l10.length), (5, .sl 1 (List.map PV.str x11)), (6, .int .i64 v6l10), (7, .int .i64 y5), (51, .bool g6)], ofL [(1004, ⟨2, true, List.map e_api_AVA r1004l10⟩)]⟩ ?_ ?_
    · have h := hg6
      refine xreg ?_
      refine wpp rfl rfl ?_
      refine wpp rfl rfl ?_
      refine wpp rfl rfl ?_
      obtain ⟨x39, hx39, h⟩ := bindS h
      refine wpp rfl (p_ixs (cs := [.str x39]) hx39 rfl rfl rfl) ?_
      refine wpp rfl rfl ?_
      refine wpp rfl rfl ?_
      refine wpp rfl rfl ?_
      refine wpp rfl rfl ?_
      rcases bifS h with ⟨c7, h⟩ | ⟨c7, h⟩
      · skip
        refine wsk (gn rfl c7) ?_
        refine wsk (gn rfl c7) ?_
        refine wsk (gn rfl c7) ?_
        refine wsk (gn rfl c7) ?_
        refine wsk (gn rfl c7) ?_
        refine wsk (gn rfl c7) ?_
        refine wsk (gn rfl c7) ?_
        refine wpp rfl (p_pick1 c7 rfl rfl) ?_
        obtain rfl := someS h
        exact (canon0 ⟨rfl, rfl, rfl, rfl, rfl, trivial⟩ ⟨rfl, trivial⟩ rfl rfl)
      · skip
        refine wpp (gy rfl c7) rfl ?_
        refine wpp (gy rfl c7) rfl ?_
        obtain ⟨x46, hx46, h⟩ := bindS h
        refine wpp (gy rfl c7) (p_ixs (cs := [.str x46]) hx46 rfl rfl rfl) ?_
        refine wpp (gy rfl c7) rfl ?_
        obtain ⟨x48, hx48, h⟩ := bindS h
        refine woo (gy rfl c7) (ocal (sat_prefectref4_cut N _ _ _ hx48) rfl (.cons sub_rfl (.cons sub_rfl .nil)) rfl rfl rfl) ?_
        refine wpp (gy rfl c7) (p_lens rfl) ?_
        refine wpp (gy rfl c7) rfl ?_
        refine wpp rfl (p_pick0 c7 rfl rfl) ?_
        obtain rfl := someS h
        exact (canon0 ⟨rfl, rfl, rfl, rfl, rfl, trivial⟩ ⟨rfl, trivial⟩ rfl rfl)
    · clear hg6
      rcases bifS h with ⟨c8, h⟩ | ⟨c8, h⟩
      · refine xcT rfl c8 ?_
        refine xseq ?_
        refine xreg ?_
        refine wpp rfl rfl ?_
        refine wpp rfl rfl ?_
        obtain rfl := someS h
        exact xretn (st1 := ⟨ofL [(2, .sl 2 (List.map e_api_AVA [])), (3, .bool false)], ofL []⟩) (Norm.trans (nsub 2 (sub_nl 2) rfl) (canon0 ⟨rfl, rfl, trivial⟩ trivial rfl rfl)) ⟨rfl, rfl⟩
      · refine xcF rfl c8 ?_
        refine xskip ?_
        refine xseq ?_
        refine xreg ?_
        refine wpp rfl rfl ?_
        refine wpp rfl rfl ?_
        obtain ⟨x55, hx55, h⟩ := bindS h
        refine wpp rfl (p_ixs (cs := [.str x55]) hx55 rfl rfl rfl) ?_
        refine wpp rfl rfl ?_
        refine wpp rfl rfl ?_
        refine wpp (p := .int .i64 (w64 (y5 + (1 : Int)))) rfl rfl ?_
        obtain ⟨x59, hx59, h⟩ := bindS h
        refine wpp rfl (p_drop hx59 rfl rfl) ?_
        obtain ⟨x60, hx60, h⟩ := bindS h
        refine woo rfl (ocal (sat_prefectref4_plain N _ _ hx60) rfl (.cons sub_rfl .nil) rfl rfl rfl) ?_
        refine wpp rfl rfl ?_
        refine wpp rfl rfl ?_
        refine wpp rfl rfl ?_
        refine wpp rfl rfl ?_
        refine wpp rfl rfl ?_
        refine xseq ?_
        refine xseq ?_
        refine xreg ?_
        refine wpp rfl rfl ?_
        refine wpp rfl rfl ?_
        rcases bifS h with ⟨c9, h⟩ | ⟨c9, h⟩
        · refine xcT rfl c9 ?_
          refine xseq ?_
          refine xreg ?_
          refine wpp rfl rfl ?_
          refine wpp rfl rfl ?_
          obtain rfl := someS h
          exact xretn (st1 := ⟨ofL [(2, .sl 2 (List.map e_api_AVA [])), (3, .bool false)], ofL []⟩) (Norm.trans (nsub 2 (sub_nl 2) rfl) (canon0 ⟨rfl, rfl, trivial⟩ trivial rfl rfl)) ⟨rfl, rfl⟩
        · refine xcF rfl c9 ?_
          refine xskip ?_
          refine xreg ?_
          refine wpp rfl rfl ?_
          refine wpp rfl rfl ?_
          refine wpp rfl rfl ?_
          obtain ⟨x68, hx68, h⟩ := bindS h
          refine wpp rfl (p_ixs (cs := [.str x68]) hx68 rfl rfl rfl) ?_
          refine wpp rfl rfl ?_
          refine wpp rfl rfl ?_
          obtain ⟨x71, hx71, h⟩ := bindS h
          refine wpp rfl (p_take hx71 rfl rfl) ?_
          obtain ⟨x72, hx72, h⟩ := bindS h
          refine woo rfl (ocal (sat_prefectref4_Lower N _ _ hx72) rfl (.cons sub_rfl .nil) rfl rfl rfl) ?_
          refine wpp rfl rfl ?_
          refine wpp (p := .agg [.str x72, .str x60.1]) rfl rfl ?_
          refine woo rfl (obsl 75 rfl rfl rfl) ?_
          obtain ⟨x76, hx76, h⟩ := bindS h
          refine wapp (f := e_api_AVA) 76 hx76 rfl rfl rfl rfl rfl (el_row rfl (full_row (f := e_api_AVA) (l := [(⟨x72, x60.1⟩ : api_AVA)]))) rfl rfl rfl rfl ?_
          refine wpp rfl rfl ?_
          refine xreg ?_
          refine wpp rfl rfl ?_
          refine wpp (p := .int .i64 (w64 (v6l10 + (1 : Int)))) rfl rfl ?_
          refine wpp rfl rfl ?_
          exact ⟨((w64 (v6l10 + (1 : Int))), x76), (Norm.trans (rename 76 1004 rfl rfl) (canon0 ⟨rfl, rfl, rfl, trivial⟩ ⟨rfl, trivial⟩ rfl rfl)), h⟩
  · refine xcF rfl c1 ?_
    obtain rfl := someS h
    exact xexitn (st1 := ⟨ofL [(4, .slr 1004 0 r1004l10.length)], ofL [(1004, ⟨2, true, List.map e_api_AVA r1004l10⟩)]⟩) (canon0 ⟨rfl, trivial⟩ ⟨rfl, trivial⟩ rfl rfl) ⟨rfl, rfl⟩
theorem sat_prefectref4_ParseRDN (N : Nat) (a0 : List UInt8) (r : List api_AVA × Bool) (h : prefectref4_ParseRDN N a0 = some r) : Sat Tryd.prog 46 noRows [.str a0] (.tup [.sl 2 (List.map e_api_AVA r.1), .bool r.2]) noRows := by
  refine xsat mixed Tryd.func46 k46_cf (rs := [.sl 2 (List.map e_api_AVA r.1), .bool r.2]) rfl rfl ?_
  refine xseq ?_
  refine xreg ?_
  refine wpp rfl rfl ?_
  refine wpp rfl rfl ?_
  refine xseq ?_
  refine xreg ?_
  refine wpp rfl rfl ?_
  refine xseq ?_
  refine xreg ?_
  refine wpp rfl rfl ?_
  obtain ⟨x11, hx11, h⟩ := bindS h
  refine woo rfl (ocal (sat_prefectref4_cut N _ _ _ hx11) rfl (.cons sub_rfl (.cons sub_rfl .nil)) rfl rfl rfl) ?_
  refine wpp rfl rfl ?_
  refine xseq ?_
  refine xseq ?_
  refine xreg ?_
  refine wpp rfl rfl ?_
  refine xblk ?_
  obtain ⟨y10, hy10, h⟩ := bindS h
  refine xloopU (st1 := ⟨ofL [(4, .slr 1004 0 ([].length)), (5, .sl 1 (List.map PV.str x11)), (6, .int .i64 0)], ofL [(1004, ⟨2, true, List.map e_api_AVA []⟩)]⟩) (Norm.trans (nlrow 4 1004 2 true rfl rfl rfl) (canon0 ⟨rfl, rfl, rfl, trivial⟩ ⟨rfl, trivial⟩ rfl rfl)) (w_prefectref4_ParseRDN_l10 N x11 N _ _ hy10) ?_
  clear hy10
  rcases y10 with y10 | y10
  · rintro e s ⟨rfl, rfl⟩
    refine xseq ?_
    refine xseq ?_
    refine xreg ?_
    refine wpp rfl rfl ?_
    obtain ⟨x78, hx78, h⟩ := bindS h
    refine woo rfl (ocal (sat_prefectref4_IsRDN N _ _ hx78) rfl (.cons (bor_row rfl (full_row (f := e_api_AVA) (l := y10))) .nil) rfl rfl rfl) ?_
    refine wpp rfl rfl ?_
    rcases bifS h with ⟨c11, h⟩ | ⟨c11, h⟩
    · refine xcT rfl c11 ?_
      refine xseq ?_
      refine xreg ?_
      refine wpp rfl rfl ?_
      refine wpp rfl rfl ?_
      obtain rfl := someS h
      refine xretn (st1 := ⟨ofL [(2, .sl 2 (List.map e_api_AVA [])), (3, .bool false)], ofL []⟩) (Norm.trans (nsub 2 (sub_nl 2) rfl) (canon0 ⟨rfl, rfl, trivial⟩ trivial rfl rfl)) ?_
      exact ⟨nofun, rfl, rfl⟩
    · refine xcF rfl c11 ?_
      refine xskip ?_
      refine xseq ?_
      refine xreg ?_
      refine wpp rfl rfl ?_
      refine wpp rfl rfl ?_
      refine wpp rfl rfl ?_
      obtain rfl := someS h
      refine xretn (st1 := ⟨ofL [(2, .sl 2 (List.map e_api_AVA y10)), (3, .bool true)], ofL []⟩) (Norm.trans (Vd.freeze 1004 _ rfl rfl rfl) (Norm.trans (nsub 2 (sub_eq (congrArg (PV.sl 2) (full_row (f := e_api_AVA) (l := y10)))) rfl) (canon0 ⟨rfl, rfl, trivial⟩ trivial rfl rfl))) ?_
      exact ⟨nofun, rfl, rfl⟩
  · rintro e s ⟨rfl, rfl⟩
    obtain rfl := someS h
    exact ⟨nofun, rfl, rfl⟩
end Go.Gp
end
section
set_option linter.unusedVariables false
set_option linter.unusedSimpArgs false
set_option maxRecDepth 4000
namespace Go.Gp
open Go.Vd Go.RowKit Go.Proofs
def k47_l14 : IC := (.seq (.seq (.reg [⟨(some 7), (.mov (.t 3)), none⟩, ⟨(some 8), (.mov (.t 0)), none⟩, ⟨(some 9), (.len false (.t 8)), none⟩, ⟨(some 10), (.bin .lss (.t 7) (.t 9)), none⟩]) (.cond (.t 10) .skip (.exit 0))) (.seq (.block 1 (.seq (.reg [⟨(some 13), (.mov (.t 0)), none⟩, ⟨(some 14), (.mov (.t 3)), none⟩, ⟨(some 15), (.ixp 1 (.t 13) (.t 14)), none⟩, ⟨(some 16), (.load 1 false (.t 15)), none⟩, ⟨(some 17), (.call 67 [(.t 16)]), none⟩, ⟨(some 18), (.un .not (.t 17)), none⟩]) (.cond (.t 18) (.seq (.reg [⟨(some 2), (.mov (.c (.bool false))), none⟩]) .ret) .skip))) (.reg [⟨(some 11), (.mov (.t 3)), none⟩, ⟨(some 12), (.bin .add (.t 11) (.c (.int .i64 1))), none⟩, ⟨(some 3), (.mov (.t 12)), none⟩])))
def k47 : IC := (.seq (.reg [⟨(some 2), (.mov (.c (.bool false))), none⟩]) (.seq (.seq (.reg [⟨(some 4), (.mov (.t 0)), none⟩, ⟨(some 5), (.len false (.t 4)), none⟩, ⟨(some 6), (.bin .gtr (.t 5) (.c (.int .i64 8))), none⟩]) (.cond (.t 6) (.seq (.reg [⟨(some 2), (.mov (.c (.bool false))), none⟩]) .ret) .skip)) (.seq (.seq (.reg [⟨(some 3), (.mov (.c (.int .i64 0))), none⟩]) (.block 0 (.loop k47_l14))) (.seq (.reg [⟨(some 2), (.mov (.c (.bool true))), none⟩]) .ret))))
theorem k47_cf : cfunc Tryd.prog Tryd.f47 = some ⟨19, k47, [(.tmp 2)]⟩ := by kernel_rfl
theorem w_prefectref4_Is_l14 (N : Nat) (a0 : List (List api_AVA)) : ∀ (n : Nat) (x : Int) (y : Unit ⊕ Bool), prefectref4_Is_l14 N a0 n x = some y → WX Tryd.prog (fun _ => false) (.loop k47_l14) ((fun (x : Int) => ⟨ofL [(0, .sl 1 (List.map (es 2 e_api_AVA) a0)), (3, .int .i64 x)], ofL []⟩) x) ((Sum.elim (fun y e s => e = .exit 0 ∧ s = ⟨ofL [], ofL []⟩) (fun y e s => e = .ret ∧ s = ⟨ofL [(2, .bool y)], ofL []⟩) : (Unit ⊕ Bool) → Xt → St → Prop) y) := by
  refine xloop (fun (x : Int) => ⟨ofL [(0, .sl 1 (List.map (es 2 e_api_AVA) a0)), (3, .int .i64 x)], ofL []⟩) _ (prefectref4_Is_l14 N a0) (prefectref4_Is_l14_b N a0) (fun _ => rfl) (fun _ _ => rfl) ?_
  rintro rec v3l14 y h
  refine xseq ?_
  refine xseq ?_
  refine xreg ?_
  refine wpp rfl rfl ?_
  refine wpp rfl rfl ?_
  refine wpp rfl (p_lens rfl) ?_
  refine wpp rfl rfl ?_
  rcases bifS h with ⟨c2, h⟩ | ⟨c2, h⟩
  · refine xcT rfl c2 ?_
    refine xskip ?_
    refine xseq ?_
    refine xblk ?_
    refine xseq ?_
    refine xreg ?_
    refine wpp rfl rfl ?_
    refine wpp rfl rfl ?_
    obtain ⟨x15, hx15, h⟩ := bindS h
    refine wpp rfl (p_ixs (cs := [.sl 2 (List.map e_api_AVA x15)]) hx15 rfl rfl rfl) ?_
    refine wpp rfl rfl ?_
    obtain ⟨x17, hx17, h⟩ := bindS h
    refine woo rfl (ocal (sat_prefectref4_IsRDN N _ _ hx17) rfl (.cons sub_rfl .nil) rfl rfl rfl) ?_
    refine wpp rfl rfl ?_
    rcases bifS h with ⟨c3, h⟩ | ⟨c3, h⟩
    · refine xcT rfl c3 ?_
      refine xseq ?_
      refine xreg ?_
      refine wpp rfl rfl ?_
      obtain rfl := someS h
      exact xretn (st1 := ⟨ofL [(2, .bool false)], ofL []⟩) (canon0 ⟨rfl, trivial⟩ trivial rfl rfl) ⟨rfl, rfl⟩
    · refine xcF rfl c3 ?_
      refine xskip ?_
      refine xreg ?_
      refine wpp rfl rfl ?_
      refine wpp (p := .int .i64 (w64 (v3l14 + (1 : Int)))) rfl rfl ?_
      refine wpp rfl rfl ?_
      exact ⟨(w64 (v3l14 + (1 : Int))), (canon0 ⟨rfl, rfl, trivial⟩ trivial rfl rfl), h⟩
  · refine xcF rfl c2 ?_
    obtain rfl := someS h
    exact xexitn (st1 := ⟨ofL [], ofL []⟩) (canon0 trivial trivial rfl rfl) ⟨rfl, rfl⟩
theorem sat_prefectref4_Is (N : Nat) (a0 : List (List api_AVA)) (r : Bool) (h : prefectref4_Is N a0 = some r) : Sat Tryd.prog 47 noRows [.sl 1 (List.map (es 2 e_api_AVA) a0)] (.bool r) noRows := by
  refine xsat mixed Tryd.func47 k47_cf (rs := [.bool r]) rfl rfl ?_
  refine xseq ?_
  refine xreg ?_
  refine wpp rfl rfl ?_
  refine xseq ?_
  refine xseq ?_
  refine xreg ?_
  refine wpp rfl rfl ?_
  refine wpp rfl (p_lens rfl) ?_
  refine wpp rfl rfl ?_
  rcases bifS h with ⟨c1, h⟩ | ⟨c1, h⟩
  · refine xcT rfl c1 ?_
    refine xseq ?_
    refine xreg ?_
    refine wpp rfl rfl ?_
    obtain rfl := someS h
    refine xret ?_
    exact ⟨nofun, rfl, rfl⟩
  · refine xcF rfl c1 ?_
    refine xskip ?_
    refine xseq ?_
    refine xseq ?_
    refine xreg ?_
    refine wpp rfl rfl ?_
    refine xblk ?_
    obtain ⟨y4, hy4, h⟩ := bindS h
    refine xloopU (st1 := ⟨ofL [(0, .sl 1 (List.map (es 2 e_api_AVA) a0)), (3, .int .i64 0)], ofL []⟩) (canon0 ⟨rfl, rfl, trivial⟩ trivial rfl rfl) (w_prefectref4_Is_l14 N a0 N _ _ hy4) ?_
    clear hy4
    rcases y4 with y4 | y4
    · rintro e s ⟨rfl, rfl⟩
      refine xseq ?_
      refine xreg ?_
      refine wpp rfl rfl ?_
      obtain rfl := someS h
      refine xret ?_
      exact ⟨nofun, rfl, rfl⟩
    · rintro e s ⟨rfl, rfl⟩
      obtain rfl := someS h
      exact ⟨nofun, rfl, rfl⟩
end Go.Gp
end
section
set_option linter.unusedVariables false
set_option linter.unusedSimpArgs false
set_option maxRecDepth 4000
namespace Go.Gp
open Go.Vd Go.RowKit Go.Proofs
def k31_l18 : IC := (.seq (.seq (.reg [⟨(some 13), (.mov (.t 6)), none⟩, ⟨(some 14), (.mov (.t 5)), none⟩, ⟨(some 15), (.len false (.t 14)), none⟩, ⟨(some 16), (.bin .lss (.t 13) (.t 15)), none⟩]) (.cond (.t 16) .skip (.exit 0))) (.seq (.block 1 (.seq (.reg [⟨(some 20), (.mov (.t 5)), none⟩, ⟨(some 21), (.mov (.t 6)), none⟩, ⟨(some 22), (.ixp 1 (.t 20) (.t 21)), none⟩, ⟨(some 23), (.load 1 false (.t 22)), none⟩, ⟨(some 24), (.call 46 [(.t 23)]), none⟩, ⟨(some 19), (.mov (.t 24)), none⟩, ⟨(some 25), (.ext 0 (.t 19)), none⟩, ⟨(some 26), (.ext 1 (.t 19)), none⟩, ⟨(some 7), (.mov (.t 25)), none⟩, ⟨(some 8), (.mov (.t 26)), none⟩]) (.seq (.seq (.reg [⟨(some 27), (.mov (.t 8)), none⟩, ⟨(some 28), (.un .not (.t 27)), none⟩]) (.cond (.t 28) (.seq (.reg [⟨(some 2), (.mov (.c .nl)), none⟩, ⟨(some 3), (.mov (.c (.bool false))), none⟩]) .ret) .skip)) (.reg [⟨(some 29), (.mov (.t 4)), none⟩, ⟨(some 30), (.mov (.t 7)), none⟩, ⟨(some 31), (.bsl 1 [(.t 30)]), none⟩, ⟨(some 32), (.app 72 1 24 (.t 29) (.t 31)), none⟩, ⟨(some 4), (.mov (.t 32)), none⟩])))) (.reg [⟨(some 17), (.mov (.t 6)), none⟩, ⟨(some 18), (.bin .add (.t 17) (.c (.int .i64 1))), none⟩, ⟨(some 6), (.mov (.t 18)), none⟩])))
def k31 : IC := (.seq (.reg [⟨(some 2), (.mov (.c .nl)), none⟩, ⟨(some 3), (.mov (.c (.bool false))), none⟩]) (.seq (.seq (.reg [⟨(some 9), (.mov (.t 0)), none⟩, ⟨(some 10), (.bin .eql (.t 9) (.c (.str []))), none⟩]) (.cond (.t 10) (.seq (.reg [⟨(some 2), (.mov (.c .nl)), none⟩, ⟨(some 3), (.mov (.c (.bool true))), none⟩]) .ret) .skip)) (.seq (.reg [⟨(some 4), (.mov (.c .nl)), none⟩]) (.seq (.reg [⟨(some 11), (.mov (.t 0)), none⟩, ⟨(some 12), (.call 45 [(.t 11), (.c (.int .u8 44))]), none⟩, ⟨(some 5), (.mov (.t 12)), none⟩]) (.seq (.seq (.reg [⟨(some 6), (.mov (.c (.int .i64 0))), none⟩]) (.block 0 (.loop k31_l18))) (.seq (.seq (.reg [⟨(some 33), (.mov (.t 4)), none⟩, ⟨(some 34), (.call 47 [(.t 33)]), none⟩, ⟨(some 35), (.un .not (.t 34)), none⟩]) (.cond (.t 35) (.seq (.reg [⟨(some 2), (.mov (.c .nl)), none⟩, ⟨(some 3), (.mov (.c (.bool false))), none⟩]) .ret) .skip)) (.seq (.reg [⟨(some 36), (.mov (.t 4)), none⟩, ⟨(some 2), (.mov (.t 36)), none⟩, ⟨(some 3), (.mov (.c (.bool true))), none⟩]) .ret)))))))
theorem k31_cf : cfunc Tryd.prog Tryd.f31 = some ⟨37, k31, [(.tmp 2), (.tmp 3)]⟩ := by kernel_rfl
theorem w_prefectref4_Parse_l18 (N : Nat) (x12 : List (List UInt8)) : ∀ (n : Nat) (x : Int × List (List api_AVA)) (y : (List (List api_AVA)) ⊕ (List (List api_AVA) × Bool)), prefectref4_Parse_l18 N x12 n x = some y → WX Tryd.prog (fun _ => false) (.loop k31_l18) ((fun (x : Int × List (List api_AVA)) => ⟨ofL [(4, .slr 1004 0 x.2.length), (5, .sl 1 (List.map PV.str x12)), (6, .int .i64 x.1)], ofL [(1004, ⟨1, true, List.map (es 2 e_api_AVA) x.2⟩)]⟩) x) ((Sum.elim (fun y e s => e = .exit 0 ∧ s = ⟨ofL [(4, .slr 1004 0 y.length)], ofL [(1004, ⟨1, true, List.map (es 2 e_api_AVA) y⟩)]⟩) (fun y e s => e = .ret ∧ s = ⟨ofL [(2, .sl 1 (List.map (es 2 e_api_AVA) y.1)), (3, .bool y.2)], ofL []⟩) : ((List (List api_AVA)) ⊕ (List (List api_AVA) × Bool)) → Xt → St → Prop) y) := by
  refine xloop (fun (x : Int × List (List api_AVA)) => ⟨ofL [(4, .slr 1004 0 x.2.length), (5, .sl 1 (List.map PV.str x12)), (6, .int .i64 x.1)], ofL [(1004, ⟨1, true, List.map (es 2 e_api_AVA) x.2⟩)]⟩) _ (prefectref4_Parse_l18 N x12) (prefectref4_Parse_l18_b N x12) (fun _ => rfl) (fun _ _ => rfl) ?_
  rintro rec ⟨v6l18, r1004l18⟩ y h
  refine xseq ?_
  refine xseq ?_
  refine xreg ?_
  refine wpp rfl rfl ?_
  refine wpp rfl rfl ?_
  refine wpp rfl (p_lens rfl) ?_
  refine wpp rfl rfl ?_
  rcases bifS h with ⟨c2, h⟩ | ⟨c2, h⟩
  · refine xcT rfl c2 ?_
    refine xskip ?_
    refine xseq ?_
    refine xblk ?_
    refine xseq ?_
    refine xreg ?_
    refine wpp rfl rfl ?_
    refine wpp rfl rfl ?_
    obtain ⟨x22, hx22, h⟩ := bindS h
    refine wpp rfl (p_ixs (cs := [.str x22]) hx22 rfl rfl rfl) ?_
    refine wpp rfl rfl ?_
    obtain ⟨x24, hx24, h⟩ := bindS h
    refine woo rfl (ocal (sat_prefectref4_ParseRDN N _ _ hx24) rfl (.cons sub_rfl .nil) rfl rfl rfl) ?_
    refine wpp rfl rfl ?_
    refine wpp rfl rfl ?_
    refine wpp rfl rfl ?_
    refine wpp rfl rfl ?_
    refine wpp rfl rfl ?_
    refine xseq ?_
    refine xseq ?_
    refine xreg ?_
    refine wpp rfl rfl ?_
    refine wpp rfl rfl ?_
    rcases bifS h with ⟨c3, h⟩ | ⟨c3, h⟩
    · refine xcT rfl c3 ?_
      refine xseq ?_
      refine xreg ?_
      refine wpp rfl rfl ?_
      refine wpp rfl rfl ?_
      obtain rfl := someS h
      exact xretn (st1 := ⟨ofL [(2, .sl 1 (List.map (es 2 e_api_AVA) [])), (3, .bool false)], ofL []⟩) (Norm.trans (nsub 2 (sub_nl 1) rfl) (canon0 ⟨rfl, rfl, trivial⟩ trivial rfl rfl)) ⟨rfl, rfl⟩
    · refine xcF rfl c3 ?_
      refine xskip ?_
      refine xreg ?_
      refine wpp rfl rfl ?_
      refine wpp rfl rfl ?_
      refine woo rfl (obsl 31 rfl rfl rfl) ?_
      obtain ⟨x32, hx32, h⟩ := bindS h
      refine wapp (f := (es 2 e_api_AVA)) 32 hx32 rfl rfl rfl rfl rfl (el_row rfl (full_row (f := (es 2 e_api_AVA)) (l := [x24.1]))) rfl rfl rfl rfl ?_
      refine wpp rfl rfl ?_
      refine xreg ?_
      refine wpp rfl rfl ?_
      refine wpp (p := .int .i64 (w64 (v6l18 + (1 : Int)))) rfl rfl ?_
      refine wpp rfl rfl ?_
      exact ⟨((w64 (v6l18 + (1 : Int))), x32), (Norm.trans (rename 32 1004 rfl rfl) (canon0 ⟨rfl, rfl, rfl, trivial⟩ ⟨rfl, trivial⟩ rfl rfl)), h⟩
  · refine xcF rfl c2 ?_
    obtain rfl := someS h
    exact xexitn (st1 := ⟨ofL [(4, .slr 1004 0 r1004l18.length)], ofL [(1004, ⟨1, true, List.map (es 2 e_api_AVA) r1004l18⟩)]⟩) (canon0 ⟨rfl, trivial⟩ ⟨rfl, trivial⟩ rfl rfl) ⟨rfl, rfl⟩
theorem sat_prefectref4_Parse (N : Nat) (a0 : List UInt8) (r : List (List api_AVA) × Bool) (h : prefectref4_Parse N a0 = some r) : Sat Tryd.prog 31 noRows [.str a0] (.tup [.sl 1 (List.map (es 2 e_api_AVA) r.1), .bool r.2]) noRows := by
  refine xsat mixed Tryd.func31 k31_cf (rs := [.sl 1 (List.map (es 2 e_api_AVA) r.1), .bool r.2]) rfl rfl ?_
  refine xseq ?_
  refine xreg ?_
  refine wpp rfl rfl ?_
  refine wpp rfl rfl ?_
  refine xseq ?_
  refine xseq ?_
  refine xreg ?_
  refine wpp rfl rfl ?_
  refine wpp rfl rfl ?_
  rcases bifS h with ⟨c1, h⟩ | ⟨c1, h⟩
  · refine xcT rfl c1 ?_
    refine xseq ?_
    refine xreg ?_
    refine wpp rfl rfl ?_
    refine wpp rfl rfl ?_
    obtain rfl := someS h
    refine xretn (st1 := ⟨ofL [(2, .sl 1 (List.map (es 2 e_api_AVA) [])), (3, .bool true)], ofL []⟩) (Norm.trans (nsub 2 (sub_nl 1) rfl) (canon0 ⟨rfl, rfl, trivial⟩ trivial rfl rfl)) ?_
    exact ⟨nofun, rfl, rfl⟩
  · refine xcF rfl c1 ?_
    refine xskip ?_
    refine xseq ?_
    refine xreg ?_
    refine wpp rfl rfl ?_
    refine xseq ?_
    refine xreg ?_
    refine wpp rfl rfl ?_
    obtain ⟨x12, hx12, h⟩ := bindS h
    refine woo rfl (ocal (sat_prefectref4_cut N _ _ _ hx12) rfl (.cons sub_rfl (.cons sub_rfl .nil)) rfl rfl rfl) ?_
    refine wpp rfl rfl ?_
    refine xseq ?_
    refine xseq ?_
    refine xreg ?_
    refine wpp rfl rfl ?_
    refine xblk ?_
    obtain ⟨y4, hy4, h⟩ := bindS h
    refine xloopU (st1 := ⟨ofL [(4, .slr 1004 0 ([].length)), (5, .sl 1 (List.map PV.str x12)), (6, .int .i64 0)], ofL [(1004, ⟨1, true, List.map (es 2 e_api_AVA) []⟩)]⟩) (Norm.trans (nlrow 4 1004 1 true rfl rfl rfl) (canon0 ⟨rfl, rfl, rfl, trivial⟩ ⟨rfl, trivial⟩ rfl rfl)) (w_prefectref4_Parse_l18 N x12 N _ _ hy4) ?_
    clear hy4
    rcases y4 with y4 | y4
    · rintro e s ⟨rfl, rfl⟩
      refine xseq ?_
      refine xseq ?_
      refine xreg ?_
      refine wpp rfl rfl ?_
      obtain ⟨x34, hx34, h⟩ := bindS h
      refine woo rfl (ocal (sat_prefectref4_Is N _ _ hx34) rfl (.cons (bor_row rfl (full_row (f := (es 2 e_api_AVA)) (l := y4))) .nil) rfl rfl rfl) ?_
      refine wpp rfl rfl ?_
      rcases bifS h with ⟨c5, h⟩ | ⟨c5, h⟩
      · refine xcT rfl c5 ?_
        refine xseq ?_
        refine xreg ?_
        refine wpp rfl rfl ?_
        refine wpp rfl rfl ?_
        obtain rfl := someS h
        refine xretn (st1 := ⟨ofL [(2, .sl 1 (List.map (es 2 e_api_AVA) [])), (3, .bool false)], ofL []⟩) (Norm.trans (nsub 2 (sub_nl 1) rfl) (canon0 ⟨rfl, rfl, trivial⟩ trivial rfl rfl)) ?_
        exact ⟨nofun, rfl, rfl⟩
      · refine xcF rfl c5 ?_
        refine xskip ?_
        refine xseq ?_
        refine xreg ?_
        refine wpp rfl rfl ?_
        refine wpp rfl rfl ?_
        refine wpp rfl rfl ?_
        obtain rfl := someS h
        refine xretn (st1 := ⟨ofL [(2, .sl 1 (List.map (es 2 e_api_AVA) y4)), (3, .bool true)], ofL []⟩) (Norm.trans (Vd.freeze 1004 _ rfl rfl rfl) (Norm.trans (nsub 2 (sub_eq (congrArg (PV.sl 1) (full_row (f := (es 2 e_api_AVA)) (l := y4)))) rfl) (canon0 ⟨rfl, rfl, trivial⟩ trivial rfl rfl))) ?_
        exact ⟨nofun, rfl, rfl⟩
    · rintro e s ⟨rfl, rfl⟩
      obtain rfl := someS h
      exact ⟨nofun, rfl, rfl⟩
end Go.Gp
end
section
set_option linter.unusedVariables false
set_option linter.unusedSimpArgs false
set_option maxRecDepth 4000
namespace Go.Gp
open Go.Vd Go.RowKit Go.Proofs
def k13_l28 : IC := (.seq (.seq (.reg [⟨(some 25), (.mov (.t 9)), none⟩, ⟨(some 26), (.mov (.t 1)), none⟩, ⟨(some 27), (.len true (.t 26)), none⟩, ⟨(some 28), (.bin .lss (.t 25) (.t 27)), none⟩]) (.cond (.t 28) .skip (.exit 0))) (.seq (.block 1 (.seq (.reg [⟨(some 31), (.mov (.t 7)), none⟩, ⟨(some 32), (.mov (.t 31)), none⟩, ⟨(some 33), (.mov (.t 1)), (some (32, true))⟩, ⟨(some 34), (.mov (.t 9)), (some (32, true))⟩, ⟨(some 35), (.idxs (.t 33) (.t 34)), (some (32, true))⟩, ⟨(some 36), (.bin .geq (.t 35) (.c (.int .u8 32))), (some (32, true))⟩, ⟨(some 37), (.pick (.t 32) (.t 36) (.c (.bool false))), none⟩, ⟨(some 38), (.mov (.t 37)), none⟩, ⟨(some 39), (.mov (.t 1)), (some (38, true))⟩, ⟨(some 40), (.mov (.t 9)), (some (38, true))⟩, ⟨(some 41), (.idxs (.t 39) (.t 40)), (some (38, true))⟩, ⟨(some 42), (.bin .leq (.t 41) (.c (.int .u8 126))), (some (38, true))⟩, ⟨(some 43), (.pick (.t 38) (.t 42) (.c (.bool false))), none⟩, ⟨(some 7), (.mov (.t 43)), none⟩]) (.reg [⟨(some 44), (.mov (.t 8)), none⟩, ⟨(some 45), (.mov (.t 44)), none⟩, ⟨(some 46), (.mov (.t 1)), (some (45, false))⟩, ⟨(some 47), (.mov (.t 9)), (some (45, false))⟩, ⟨(some 48), (.idxs (.t 46) (.t 47)), (some (45, false))⟩, ⟨(some 49), (.bin .neq (.t 48) (.c (.int .u8 32))), (some (45, false))⟩, ⟨(some 50), (.pick (.t 45) (.c (.bool true)) (.t 49)), none⟩, ⟨(some 8), (.mov (.t 50)), none⟩]))) (.reg [⟨(some 29), (.mov (.t 9)), none⟩, ⟨(some 30), (.bin .add (.t 29) (.c (.int .i64 1))), none⟩, ⟨(some 9), (.mov (.t 30)), none⟩])))
def k13 : IC := (.seq (.reg [⟨(some 4), (.mov (.c (.int .i64 0))), none⟩]) (.seq (.reg [⟨(some 11), (.mov (.t 0)), none⟩, ⟨(some 12), (.call 11 [(.t 11)]), none⟩, ⟨(some 10), (.mov (.t 12)), none⟩, ⟨(some 13), (.ext 0 (.t 10)), none⟩, ⟨(some 14), (.ext 1 (.t 10)), none⟩, ⟨(some 5), (.box 24 (.c (.agg [(.str []), (.int .i64 0), (.bool false)]))), none⟩, ⟨none, (.store 3 (.t 5) (.t 13)), none⟩, ⟨(some 6), (.mov (.t 14)), none⟩]) (.seq (.seq (.reg [⟨(some 15), (.mov (.t 6)), none⟩, ⟨(some 16), (.un .not (.t 15)), none⟩]) (.cond (.t 16) (.seq (.reg [⟨(some 4), (.mov (.c (.int .i64 16))), none⟩]) .ret) .skip)) (.seq (.seq (.reg [⟨(some 17), (.mov (.t 1)), none⟩, ⟨(some 18), (.len true (.t 17)), none⟩, ⟨(some 19), (.bin .lss (.t 18) (.c (.int .i64 1))), none⟩, ⟨(some 20), (.mov (.t 19)), none⟩, ⟨(some 21), (.mov (.t 1)), (some (20, false))⟩, ⟨(some 22), (.len true (.t 21)), (some (20, false))⟩, ⟨(some 23), (.bin .gtr (.t 22) (.c (.int .i64 60))), (some (20, false))⟩, ⟨(some 24), (.pick (.t 20) (.c (.bool true)) (.t 23)), none⟩]) (.cond (.t 24) (.seq (.reg [⟨(some 4), (.mov (.c (.int .i64 17))), none⟩]) .ret) .skip)) (.seq (.reg [⟨(some 7), (.mov (.c (.bool true))), none⟩]) (.seq (.reg [⟨(some 8), (.mov (.c (.bool false))), none⟩]) (.seq (.seq (.reg [⟨(some 9), (.mov (.c (.int .i64 0))), none⟩]) (.block 0 (.loop k13_l28))) (.seq (.seq (.reg [⟨(some 51), (.fda 1 (.t 5)), none⟩, ⟨(some 52), (.load 1 false (.t 51)), none⟩]) (.block 2 (.seq (.reg [⟨(some 54), (.bin .eql (.t 52) (.c (.int .i64 1))), none⟩, ⟨(some 53), (.mov (.t 54)), none⟩]) (.cond (.t 53) (.reg [⟨(some 55), (.mov (.t 7)), none⟩, ⟨(some 56), (.mov (.t 55)), none⟩, ⟨(some 57), (.mov (.t 8)), (some (56, true))⟩, ⟨(some 58), (.pick (.t 56) (.t 57) (.c (.bool false))), none⟩, ⟨(some 7), (.mov (.t 58)), none⟩]) (.seq (.reg [⟨(some 60), (.bin .eql (.t 52) (.c (.int .i64 3))), none⟩, ⟨(some 59), (.mov (.t 60)), none⟩]) (.cond (.t 59) (.reg [⟨(some 61), (.mov (.t 1)), none⟩, ⟨(some 62), (.call 15 [(.t 61)]), none⟩, ⟨(some 7), (.mov (.t 62)), none⟩]) (.seq (.reg [⟨(some 64), (.bin .eql (.t 52) (.c (.int .i64 4))), none⟩, ⟨(some 63), (.mov (.t 64)), none⟩]) (.cond (.t 63) (.reg [⟨(some 7), (.mov (.c (.bool true))), none⟩]) (.seq (.reg [⟨(some 66), (.bin .eql (.t 52) (.c (.int .i64 5))), none⟩, ⟨(some 65), (.mov (.t 66)), none⟩]) (.cond (.t 65) (.reg [⟨(some 68), (.mov (.t 1)), none⟩, ⟨(some 69), (.call 31 [(.t 68)]), none⟩, ⟨(some 67), (.mov (.t 69)), none⟩, ⟨(some 70), (.ext 0 (.t 67)), none⟩, ⟨(some 71), (.ext 1 (.t 67)), none⟩, ⟨(some 7), (.mov (.t 71)), none⟩]) .skip)))))))))) (.seq (.seq (.reg [⟨(some 72), (.mov (.t 7)), none⟩, ⟨(some 73), (.un .not (.t 72)), none⟩]) (.cond (.t 73) (.seq (.reg [⟨(some 4), (.mov (.c (.int .i64 17))), none⟩]) .ret) .skip)) (.seq (.reg [⟨(some 4), (.mov (.c (.int .i64 0))), none⟩]) .ret))))))))))
theorem k13_cf : cfunc Tryd.prog Tryd.f13 = some ⟨74, k13, [(.tmp 4)]⟩ := by kernel_rfl
theorem w_prefectref4_Check_l28 (N : Nat) (a1 : List UInt8) (x12 : api_Type × Bool) : ∀ (n : Nat) (x : Bool × Bool × Int) (y : Bool × Bool), prefectref4_Check_l28 N a1 x12 n x = some y → WX Tryd.prog (fun _ => false) (.loop k13_l28) ((fun (x : Bool × Bool × Int) => ⟨ofL [(1, .str a1), (5, .ptr 5 0 0), (7, .bool x.1), (8, .bool x.2.1), (9, .int .i64 x.2.2)], ofL [(5, ⟨3, false, [e_api_Type x12.1]⟩)]⟩) x) ((fun y e s => e = .exit 0 ∧ s = ⟨ofL [(1, .str a1), (5, .ptr 5 0 0), (7, .bool y.1), (8, .bool y.2)], ofL [(5, ⟨3, false, [e_api_Type x12.1]⟩)]⟩ : (Bool × Bool) → Xt → St → Prop) y) := by
  refine xloop (fun (x : Bool × Bool × Int) => ⟨ofL [(1, .str a1), (5, .ptr 5 0 0), (7, .bool x.1), (8, .bool x.2.1), (9, .int .i64 x.2.2)], ofL [(5, ⟨3, false, [e_api_Type x12.1]⟩)]⟩) _ (prefectref4_Check_l28 N a1 x12) (prefectref4_Check_l28_b N a1 x12) (fun _ => rfl) (fun _ _ => rfl) ?_
  rintro rec ⟨v7l28, v8l28, v9l28⟩ y h
  refine xseq ?_
  refine xseq ?_
  refine xreg ?_
  refine wpp rfl rfl ?_
  refine wpp rfl rfl ?_
  refine wpp rfl rfl ?_
  refine wpp rfl rfl ?_
  rcases bifS h with ⟨c5, h⟩ | ⟨c5, h⟩
  · refine xcT rfl c5 ?_
    refine xskip ?_
    refine xseq ?_
    refine xblk ?_
    obtain ⟨g6, hg6, h⟩ := bindS h
    refine xseg ⟨ofL [(1, .str a1), (5, .ptr 5 0 0), (7, .bool g6), (8, .bool v8l28), (9, .int .i64 v9l28)], ofL [(5, ⟨3, false, [e_api_Type x12.1]⟩)]⟩ ?_ ?_
    · have h := hg6
      refine xreg ?_
      refine wpp rfl rfl ?_
      refine wpp rfl rfl ?_
      rcases bifS h with ⟨c7, h⟩ | ⟨c7, h⟩
      · skip
        refine wpp (gy rfl c7) rfl ?_
        refine wpp (gy rfl c7) rfl ?_
        obtain ⟨x35, hx35, h⟩ := bindS h
        refine wpp (gy rfl c7) (p_idx hx35 rfl rfl) ?_
        refine wpp (p := .bool (decide (((x35).toNat : Int) ≥ (32 : Int)))) (gy rfl c7) rfl ?_
        refine wpp rfl (p_pick1 c7 rfl rfl) ?_
        refine wpp rfl rfl ?_
        rcases bifS h with ⟨c8, h⟩ | ⟨c8, h⟩
        · skip
          refine wpp (gy rfl c8) rfl ?_
          refine wpp (gy rfl c8) rfl ?_
          obtain ⟨x41, hx41, h⟩ := bindS h
          refine wpp (gy rfl c8) (p_idx hx41 rfl rfl) ?_
          refine wpp (p := .bool (decide (((x41).toNat : Int) ≤ (126 : Int)))) (gy rfl c8) rfl ?_
          refine wpp rfl (p_pick1 c8 rfl rfl) ?_
          refine wpp rfl rfl ?_
          obtain rfl := someS h
          exact (canon0 ⟨rfl, rfl, rfl, rfl, rfl, trivial⟩ ⟨rfl, trivial⟩ rfl rfl)
        · skip
          refine wsk (gn rfl c8) ?_
          refine wsk (gn rfl c8) ?_
          refine wsk (gn rfl c8) ?_
          refine wsk (gn rfl c8) ?_
          refine wpp rfl (p_pick0 c8 rfl rfl) ?_
          refine wpp rfl rfl ?_
          obtain rfl := someS h
          exact (canon0 ⟨rfl, rfl, rfl, rfl, rfl, trivial⟩ ⟨rfl, trivial⟩ rfl rfl)
      · skip
        refine wsk (gn rfl c7) ?_
        refine wsk (gn rfl c7) ?_
        refine wsk (gn rfl c7) ?_
        refine wsk (gn rfl c7) ?_
        refine wpp rfl (p_pick0 c7 rfl rfl) ?_
        refine wpp rfl rfl ?_
        refine wsk rfl ?_
        refine wsk rfl ?_
        refine wsk rfl ?_
        refine wsk rfl ?_
        refine wpp rfl rfl ?_
        refine wpp rfl rfl ?_
        obtain rfl := someS h
        exact (canon0 ⟨rfl, rfl, rfl, rfl, rfl, trivial⟩ ⟨rfl, trivial⟩ rfl rfl)
    · clear hg6
      refine xreg ?_
      refine wpp rfl rfl ?_
      refine wpp rfl rfl ?_
      rcases bifS h with ⟨c9, h⟩ | ⟨c9, h⟩
      · skip
        refine wsk (gn rfl c9) ?_
        refine wsk (gn rfl c9) ?_
        refine wsk (gn rfl c9) ?_
        refine wsk (gn rfl c9) ?_
        refine wpp rfl (p_pick1 c9 rfl rfl) ?_
        refine wpp rfl rfl ?_
        refine xreg ?_
        refine wpp rfl rfl ?_
        refine wpp (p := .int .i64 (w64 (v9l28 + (1 : Int)))) rfl rfl ?_
        refine wpp rfl rfl ?_
        exact ⟨(g6, true, (w64 (v9l28 + (1 : Int)))), (canon0 ⟨rfl, rfl, rfl, rfl, rfl, trivial⟩ ⟨rfl, trivial⟩ rfl rfl), h⟩
      · skip
        refine wpp (gy rfl c9) rfl ?_
        refine wpp (gy rfl c9) rfl ?_
        obtain ⟨x48, hx48, h⟩ := bindS h
        refine wpp (gy rfl c9) (p_idx hx48 rfl rfl) ?_
        refine wpp (p := .bool (((x48).toNat : Int) != (32 : Int))) (gy rfl c9) rfl ?_
        refine wpp rfl (p_pick0 c9 rfl rfl) ?_
        refine wpp rfl rfl ?_
        refine xreg ?_
        refine wpp rfl rfl ?_
        refine wpp (p := .int .i64 (w64 (v9l28 + (1 : Int)))) rfl rfl ?_
        refine wpp rfl rfl ?_
        exact ⟨(g6, (((x48).toNat : Int) != (32 : Int)), (w64 (v9l28 + (1 : Int)))), (canon0 ⟨rfl, rfl, rfl, rfl, rfl, trivial⟩ ⟨rfl, trivial⟩ rfl rfl), h⟩
  · refine xcF rfl c5 ?_
    obtain rfl := someS h
    exact xexitn (st1 := ⟨ofL [(1, .str a1), (5, .ptr 5 0 0), (7, .bool v7l28), (8, .bool v8l28)], ofL [(5, ⟨3, false, [e_api_Type x12.1]⟩)]⟩) (canon0 ⟨rfl, rfl, rfl, rfl, trivial⟩ ⟨rfl, trivial⟩ rfl rfl) ⟨rfl, rfl⟩
theorem sat_prefectref4_Check (N : Nat) (a0 : List UInt8) (a1 : List UInt8) (r : Int) (h : prefectref4_Check N a0 a1 = some r) : Sat Tryd.prog 13 noRows [.str a0, .str a1] (.int .i64 r) noRows := by
  refine xsat mixed Tryd.func13 k13_cf (rs := [.int .i64 r]) rfl rfl ?_
  refine xseq ?_
  refine xreg ?_
  refine wpp rfl rfl ?_
  refine xseq ?_
  refine xreg ?_
  refine wpp rfl rfl ?_
  obtain ⟨x12, hx12, h⟩ := bindS h
  refine woo rfl (ocal (sat_prefectref4_Find N _ _ hx12) rfl (.cons sub_rfl .nil) rfl rfl rfl) ?_
  refine wpp rfl rfl ?_
  refine wpp rfl rfl ?_
  refine wpp rfl rfl ?_
  refine woo rfl (obox 5 rfl rfl rfl rfl rfl) ?_
  refine wstb (e' := e_api_Type x12.1) rfl rfl rfl rfl rfl rfl rfl rfl nofun rfl ?_
  refine wpp rfl rfl ?_
  refine xseq ?_
  refine xseq ?_
  refine xreg ?_
  refine wpp rfl rfl ?_
  refine wpp rfl rfl ?_
  rcases bifS h with ⟨c1, h⟩ | ⟨c1, h⟩
  · refine xcT rfl c1 ?_
    refine xseq ?_
    refine xreg ?_
    refine wpp rfl rfl ?_
    obtain rfl := someS h
    refine xret ?_
    exact ⟨nofun, rfl, rfl⟩
  · refine xcF rfl c1 ?_
    refine xskip ?_
    refine xseq ?_
    obtain ⟨g2, hg2, h⟩ := bindS h
    refine xseg ⟨ofL [(1, .str a1), (5, .ptr 5 0 0), (24, .bool g2)], ofL [(5, ⟨3, false, [e_api_Type x12.1]⟩)]⟩ ?_ ?_
    · have h := hg2
      refine xreg ?_
      refine wpp rfl rfl ?_
      refine wpp rfl rfl ?_
      refine wpp rfl rfl ?_
      refine wpp rfl rfl ?_
      rcases bifS h with ⟨c3, h⟩ | ⟨c3, h⟩
      · skip
        refine wsk (gn rfl c3) ?_
        refine wsk (gn rfl c3) ?_
        refine wsk (gn rfl c3) ?_
        refine wpp rfl (p_pick1 c3 rfl rfl) ?_
        obtain rfl := someS h
        exact (canon0 ⟨rfl, rfl, rfl, trivial⟩ ⟨rfl, trivial⟩ rfl rfl)
      · skip
        refine wpp (gy rfl c3) rfl ?_
        refine wpp (gy rfl c3) rfl ?_
        refine wpp (gy rfl c3) rfl ?_
        refine wpp rfl (p_pick0 c3 rfl rfl) ?_
        obtain rfl := someS h
        exact (canon0 ⟨rfl, rfl, rfl, trivial⟩ ⟨rfl, trivial⟩ rfl rfl)
    · clear hg2
      rcases bifS h with ⟨c4, h⟩ | ⟨c4, h⟩
      · refine xcT rfl c4 ?_
        refine xseq ?_
        refine xreg ?_
        refine wpp rfl rfl ?_
        obtain rfl := someS h
        refine xret ?_
        exact ⟨nofun, rfl, rfl⟩
      · refine xcF rfl c4 ?_
        refine xskip ?_
        refine xseq ?_
        refine xreg ?_
        refine wpp rfl rfl ?_
        refine xseq ?_
        refine xreg ?_
        refine wpp rfl rfl ?_
        refine xseq ?_
        refine xseq ?_
        refine xreg ?_
        refine wpp rfl rfl ?_
        refine xblk ?_
        obtain ⟨y10, hy10, h⟩ := bindS h
        refine xloopU (st1 := ⟨ofL [(1, .str a1), (5, .ptr 5 0 0), (7, .bool true), (8, .bool false), (9, .int .i64 0)], ofL [(5, ⟨3, false, [e_api_Type x12.1]⟩)]⟩) (canon0 ⟨rfl, rfl, rfl, rfl, rfl, trivial⟩ ⟨rfl, trivial⟩ rfl rfl) (w_prefectref4_Check_l28 N a1 x12 N _ _ hy10) ?_
        rintro e s ⟨rfl, rfl⟩
        refine xjoin (fun (x : Bool) => ⟨ofL [(7, .bool x)], ofL []⟩) (fun x => prefectref4_Check_j41 x = some r) ?_ ?_
        · rintro v7j41 h
          refine xseq ?_
          refine xseq ?_
          refine xreg ?_
          refine wpp rfl rfl ?_
          refine wpp rfl rfl ?_
          rcases bifS h with ⟨c11, h⟩ | ⟨c11, h⟩
          · refine xcT rfl c11 ?_
            refine xseq ?_
            refine xreg ?_
            refine wpp rfl rfl ?_
            obtain rfl := someS h
            refine xret ?_
            exact ⟨nofun, rfl, rfl⟩
          · refine xcF rfl c11 ?_
            refine xskip ?_
            refine xseq ?_
            refine xreg ?_
            refine wpp rfl rfl ?_
            obtain rfl := someS h
            refine xret ?_
            exact ⟨nofun, rfl, rfl⟩
        · skip
          refine xseq ?_
          refine xreg ?_
          refine wpp rfl rfl ?_
          refine wpp rfl rfl ?_
          refine xblk ?_
          refine xseq ?_
          refine xreg ?_
          refine wpp rfl rfl ?_
          refine wpp rfl rfl ?_
          rcases bifS h with ⟨c12, h⟩ | ⟨c12, h⟩
          · refine xcT rfl c12 ?_
            refine xreg ?_
            refine wpp rfl rfl ?_
            refine wpp rfl rfl ?_
            rcases bifS h with ⟨c13, h⟩ | ⟨c13, h⟩
            · skip
              refine wpp (gy rfl c13) rfl ?_
              refine wpp rfl (p_pick1 c13 rfl rfl) ?_
              refine wpp rfl rfl ?_
              exact ⟨y10.2, (canon0 ⟨rfl, trivial⟩ trivial rfl rfl), h⟩
            · skip
              refine wsk (gn rfl c13) ?_
              refine wpp rfl (p_pick0 c13 rfl rfl) ?_
              refine wpp rfl rfl ?_
              exact ⟨false, (canon0 ⟨rfl, trivial⟩ trivial rfl rfl), h⟩
          · refine xcF rfl c12 ?_
            refine xseq ?_
            refine xreg ?_
            refine wpp rfl rfl ?_
            refine wpp rfl rfl ?_
            rcases bifS h with ⟨c14, h⟩ | ⟨c14, h⟩
            · refine xcT rfl c14 ?_
              refine xreg ?_
              refine wpp rfl rfl ?_
              obtain ⟨x62, hx62, h⟩ := bindS h
              refine woo rfl (ocal (sat_prefectref4_IsInt N _ _ hx62) rfl (.cons sub_rfl .nil) rfl rfl rfl) ?_
              refine wpp rfl rfl ?_
              exact ⟨x62, (canon0 ⟨rfl, trivial⟩ trivial rfl rfl), h⟩
            · refine xcF rfl c14 ?_
              refine xseq ?_
              refine xreg ?_
              refine wpp rfl rfl ?_
              refine wpp rfl rfl ?_
              rcases bifS h with ⟨c15, h⟩ | ⟨c15, h⟩
              · refine xcT rfl c15 ?_
                refine xreg ?_
                refine wpp rfl rfl ?_
                exact ⟨true, (canon0 ⟨rfl, trivial⟩ trivial rfl rfl), h⟩
              · refine xcF rfl c15 ?_
                refine xseq ?_
                refine xreg ?_
                refine wpp rfl rfl ?_
                refine wpp rfl rfl ?_
                rcases bifS h with ⟨c16, h⟩ | ⟨c16, h⟩
                · refine xcT rfl c16 ?_
                  refine xreg ?_
                  refine wpp rfl rfl ?_
                  obtain ⟨x69, hx69, h⟩ := bindS h
                  refine woo rfl (ocal (sat_prefectref4_Parse N _ _ hx69) rfl (.cons sub_rfl .nil) rfl rfl rfl) ?_
                  refine wpp rfl rfl ?_
                  refine wpp rfl rfl ?_
                  refine wpp rfl rfl ?_
                  refine wpp rfl rfl ?_
                  exact ⟨x69.2, (canon0 ⟨rfl, trivial⟩ trivial rfl rfl), h⟩
                · refine xcF rfl c16 ?_
                  refine xskip ?_
                  exact ⟨y10.1, (canon0 ⟨rfl, trivial⟩ trivial rfl rfl), h⟩
end Go.Gp
end
section
set_option linter.unusedVariables false
set_option linter.unusedSimpArgs false
set_option maxRecDepth 4000
namespace Go.Gp
open Go.Vd Go.RowKit Go.Proofs
def k4_l32 : IC := (.seq (.seq (.reg [⟨(some 27), (.mov (.t 9)), none⟩, ⟨(some 28), (.mov (.t 7)), none⟩, ⟨(some 29), (.len false (.t 28)), none⟩, ⟨(some 30), (.bin .lss (.t 27) (.t 29)), none⟩]) (.cond (.t 30) .skip (.exit 0))) (.seq (.block 1 (.seq (.regd 9 [⟨(some 33), (.mov (.t 7)), none⟩, ⟨(some 34), (.mov (.t 9)), none⟩, ⟨(some 35), (.ixp 3 (.t 33) (.t 34)), none⟩, ⟨(some 36), (.load 3 true (.t 35)), none⟩, ⟨(some 37), (.mov (.t 8)), none⟩, ⟨(some 38), (.mov (.t 9)), none⟩, ⟨(some 39), (.ixp 3 (.t 37) (.t 38)), none⟩, ⟨(some 40), (.load 3 true (.t 39)), none⟩, ⟨(some 41), (.eqs true [.s, (.i .i64), .b] (.t 36) (.t 40)), none⟩]) (.cond (.t 41) (.seq (.reg [⟨(some 6), (.mov (.c (.bool false))), none⟩]) .ret) .skip))) (.reg [⟨(some 31), (.mov (.t 9)), none⟩, ⟨(some 32), (.bin .add (.t 31) (.c (.int .i64 1))), none⟩, ⟨(some 9), (.mov (.t 32)), none⟩])))
def k4_l57 : IC := (.seq (.seq (.reg [⟨(some 53), (.mov (.t 12)), none⟩, ⟨(some 54), (.mov (.t 11)), none⟩, ⟨(some 55), (.len false (.t 54)), none⟩, ⟨(some 56), (.bin .lss (.t 53) (.t 55)), none⟩]) (.cond (.t 56) .skip (.exit 2))) (.seq (.block 3 (.seq (.reg [⟨(some 59), (.mov (.t 1)), none⟩, ⟨(some 60), (.mov (.t 12)), none⟩, ⟨(some 61), (.cvi .u64 (.t 60)), none⟩, ⟨(some 62), (.bin .shr (.t 59) (.t 61)), none⟩, ⟨(some 63), (.bin .and (.t 62) (.c (.int .u16 1))), none⟩, ⟨(some 64), (.bin .eql (.t 63) (.c (.int .u16 1))), none⟩, ⟨(some 65), (.mov (.t 64)), none⟩, ⟨(some 66), (.mov (.t 11)), (some (65, true))⟩, ⟨(some 67), (.mov (.t 12)), (some (65, true))⟩, ⟨(some 68), (.ixp 1 (.t 66) (.t 67)), (some (65, true))⟩, ⟨(some 69), (.load 1 false (.t 68)), (some (65, true))⟩, ⟨(some 70), (.bin .geq (.t 69) (.c (.int .u8 97))), (some (65, true))⟩, ⟨(some 71), (.pick (.t 65) (.t 70) (.c (.bool false))), none⟩, ⟨(some 72), (.mov (.t 71)), none⟩, ⟨(some 73), (.mov (.t 11)), (some (72, true))⟩, ⟨(some 74), (.mov (.t 12)), (some (72, true))⟩, ⟨(some 75), (.ixp 1 (.t 73) (.t 74)), (some (72, true))⟩, ⟨(some 76), (.load 1 false (.t 75)), (some (72, true))⟩, ⟨(some 77), (.bin .leq (.t 76) (.c (.int .u8 122))), (some (72, true))⟩, ⟨(some 78), (.pick (.t 72) (.t 77) (.c (.bool false))), none⟩]) (.cond (.t 78) (.reg [⟨(some 79), (.mov (.t 11)), none⟩, ⟨(some 80), (.mov (.t 12)), none⟩, ⟨(some 81), (.mov (.t 11)), none⟩, ⟨(some 82), (.mov (.t 12)), none⟩, ⟨(some 83), (.ixp 1 (.t 81) (.t 82)), none⟩, ⟨(some 84), (.load 1 false (.t 83)), none⟩, ⟨(some 85), (.bin .sub (.t 84) (.c (.int .u8 32))), none⟩, ⟨(some 86), (.ixp 1 (.t 79) (.t 80)), none⟩, ⟨none, (.store 1 (.t 86) (.t 85)), none⟩]) .skip))) (.reg [⟨(some 57), (.mov (.t 12)), none⟩, ⟨(some 58), (.bin .add (.t 57) (.c (.int .i64 1))), none⟩, ⟨(some 12), (.mov (.t 58)), none⟩])))
def k4 : IC := (.seq (.reg [⟨(some 6), (.mov (.c (.bool false))), none⟩]) (.seq (.seq (.reg [⟨(some 15), (.call 9 []), none⟩, ⟨(some 16), (.un .not (.t 15)), none⟩]) (.cond (.t 16) (.seq (.reg [⟨(some 6), (.mov (.c (.bool false))), none⟩]) .ret) .skip)) (.seq (.seq (.reg [⟨(some 17), (.mov (.t 2)), none⟩, ⟨(some 18), (.len true (.t 17)), none⟩, ⟨(some 19), (.bin .gtr (.t 18) (.c (.int .i64 100))), none⟩]) (.cond (.t 19) (.seq (.reg [⟨(some 6), (.mov (.c (.bool true))), none⟩]) .ret) .skip)) (.seq (.reg [⟨(some 20), (.call 16 []), none⟩, ⟨(some 21), (.call 17 []), none⟩, ⟨(some 7), (.mov (.t 20)), none⟩, ⟨(some 8), (.mov (.t 21)), none⟩]) (.seq (.seq (.reg [⟨(some 22), (.mov (.t 7)), none⟩, ⟨(some 23), (.len false (.t 22)), none⟩, ⟨(some 24), (.mov (.t 8)), none⟩, ⟨(some 25), (.len false (.t 24)), none⟩, ⟨(some 26), (.bin .neq (.t 23) (.t 25)), none⟩]) (.cond (.t 26) (.seq (.reg [⟨(some 6), (.mov (.c (.bool false))), none⟩]) .ret) .skip)) (.seq (.seq (.reg [⟨(some 9), (.mov (.c (.int .i64 0))), none⟩]) (.block 0 (.loop k4_l32))) (.seq (.reg [⟨(some 42), (.mov (.t 8)), none⟩, ⟨(some 43), (.mov (.t 0)), none⟩, ⟨(some 44), (.cvi .i64 (.t 43)), none⟩, ⟨(some 45), (.mov (.t 8)), none⟩, ⟨(some 46), (.len false (.t 45)), none⟩, ⟨(some 47), (.bin .rem (.t 44) (.t 46)), none⟩, ⟨(some 48), (.ixp 3 (.t 42) (.t 47)), none⟩, ⟨(some 49), (.load 3 true (.t 48)), none⟩, ⟨(some 10), (.box 24 (.c (.agg [(.str []), (.int .i64 0), (.bool false)]))), none⟩, ⟨none, (.store 3 (.t 10) (.t 49)), none⟩]) (.seq (.reg [⟨(some 50), (.fda 0 (.t 10)), none⟩, ⟨(some 51), (.load 1 false (.t 50)), none⟩, ⟨(some 52), (.cvs (.t 51)), none⟩, ⟨(some 11), (.mov (.t 52)), none⟩]) (.seq (.seq (.reg [⟨(some 12), (.mov (.c (.int .i64 0))), none⟩]) (.block 2 (.loop k4_l57))) (.seq (.reg [⟨(some 88), (.mov (.t 11)), none⟩, ⟨(some 89), (.cvb (.t 88)), none⟩, ⟨(some 90), (.call 10 [(.t 89)]), none⟩, ⟨(some 87), (.mov (.t 90)), none⟩, ⟨(some 91), (.ext 0 (.t 87)), none⟩, ⟨(some 92), (.ext 1 (.t 87)), none⟩, ⟨(some 13), (.box 24 (.c (.agg [(.str []), (.int .i64 0), (.bool false)]))), none⟩, ⟨none, (.store 3 (.t 13) (.t 91)), none⟩, ⟨(some 14), (.mov (.t 92)), none⟩]) (.seq (.regd 18 [⟨(some 93), (.mov (.t 14)), none⟩, ⟨(some 94), (.mov (.t 93)), none⟩, ⟨(some 95), (.load 3 true (.t 13)), (some (94, true))⟩, ⟨(some 96), (.load 3 true (.t 10)), (some (94, true))⟩, ⟨(some 97), (.eqs false [.s, (.i .i64), .b] (.t 95) (.t 96)), (some (94, true))⟩, ⟨(some 98), (.pick (.t 94) (.t 97) (.c (.bool false))), none⟩, ⟨(some 99), (.mov (.t 98)), none⟩, ⟨(some 100), (.mov (.t 11)), (some (99, true))⟩, ⟨(some 101), (.cvb (.t 100)), (some (99, true))⟩, ⟨(some 102), (.mov (.t 2)), (some (99, true))⟩, ⟨(some 103), (.call 12 [(.t 101), (.t 102)]), (some (99, true))⟩, ⟨(some 104), (.fda 0 (.t 10)), (some (99, true))⟩, ⟨(some 105), (.load 1 false (.t 104)), (some (99, true))⟩, ⟨(some 106), (.mov (.t 2)), (some (99, true))⟩, ⟨(some 107), (.call 13 [(.t 105), (.t 106)]), (some (99, true))⟩, ⟨(some 108), (.bin .eql (.t 103) (.t 107)), (some (99, true))⟩, ⟨(some 109), (.pick (.t 99) (.t 108) (.c (.bool false))), none⟩, ⟨(some 6), (.mov (.t 109)), none⟩]) .ret)))))))))))
theorem k4_cf : cfunc Tryd.prog Tryd.f4 = some ⟨110, k4, [(.tmp 6)]⟩ := by kernel_rfl
theorem w_prefectlaw5_SchemaAll_l32 (N : Nat) (a0 : UInt8) (a1 : Int) (a2 : List UInt8) (x20 : List api_Type) (x21 : List api_Type) : ∀ (n : Nat) (x : Int) (y : Unit ⊕ Bool), prefectlaw5_SchemaAll_l32 N a0 a1 a2 x20 x21 n x = some y → WX Tryd.prog (fun _ => false) (.loop k4_l32) ((fun (x : Int) => ⟨ofL [(0, eb a0), (1, .int .u16 a1), (2, .str a2), (7, .sl 3 (List.map e_api_Type x20)), (8, .sl 3 (List.map e_api_Type x21)), (9, .int .i64 x)], ofL []⟩) x) ((Sum.elim (fun y e s => e = .exit 0 ∧ s = ⟨ofL [(0, eb a0), (1, .int .u16 a1), (2, .str a2), (8, .sl 3 (List.map e_api_Type x21))], ofL []⟩) (fun y e s => e = .ret ∧ s = ⟨ofL [(6, .bool y)], ofL []⟩) : (Unit ⊕ Bool) → Xt → St → Prop) y) := by
  refine xloop (fun (x : Int) => ⟨ofL [(0, eb a0), (1, .int .u16 a1), (2, .str a2), (7, .sl 3 (List.map e_api_Type x20)), (8, .sl 3 (List.map e_api_Type x21)), (9, .int .i64 x)], ofL []⟩) _ (prefectlaw5_SchemaAll_l32 N a0 a1 a2 x20 x21) (prefectlaw5_SchemaAll_l32_b N a0 a1 a2 x20 x21) (fun _ => rfl) (fun _ _ => rfl) ?_
  rintro rec v9l32 y h
  refine xseq ?_
  refine xseq ?_
  refine xreg ?_
  refine wpp rfl rfl ?_
  refine wpp rfl rfl ?_
  refine wpp rfl (p_lens rfl) ?_
  refine wpp rfl rfl ?_
  rcases bifS h with ⟨c4, h⟩ | ⟨c4, h⟩
  · refine xcT rfl c4 ?_
    refine xskip ?_
    refine xseq ?_
    refine xblk ?_
    refine xseq ?_
    refine xregd ?_
    refine wdp rfl rfl ?_
    refine wdp rfl rfl ?_
    obtain ⟨x35, hx35, h⟩ := bindS h
    refine wdp rfl (p_ixs (cs := [.str x35.Name, .int .i64 x35.Syntax, .bool x35.Single]) hx35 rfl rfl rfl) ?_
    refine wdp (p := e_api_Type x35) rfl rfl ?_
    refine wdp rfl rfl ?_
    refine wdp rfl rfl ?_
    obtain ⟨x39, hx39, h⟩ := bindS h
    refine wdp rfl (p_ixs (cs := [.str x39.Name, .int .i64 x39.Syntax, .bool x39.Single]) hx39 rfl rfl rfl) ?_
    refine wdp (p := e_api_Type x39) rfl rfl ?_
    refine wdp (p := .bool (!(x35.Name == x39.Name && (x35.Syntax == x39.Syntax && (x35.Single == x39.Single && true))))) rfl rfl ?_
    rcases bifS h with ⟨c5, h⟩ | ⟨c5, h⟩
    · refine xcT rfl c5 ?_
      refine xseq ?_
      refine xreg ?_
      refine wpp rfl rfl ?_
      obtain rfl := someS h
      exact xretn (st1 := ⟨ofL [(6, .bool false)], ofL []⟩) (canon0 ⟨rfl, trivial⟩ trivial rfl rfl) ⟨rfl, rfl⟩
    · refine xcF rfl c5 ?_
      refine xskip ?_
      refine xreg ?_
      refine wpp rfl rfl ?_
      refine wpp (p := .int .i64 (w64 (v9l32 + (1 : Int)))) rfl rfl ?_
      refine wpp rfl rfl ?_
      exact ⟨(w64 (v9l32 + (1 : Int))), (canon0 ⟨rfl, rfl, rfl, rfl, rfl, rfl, trivial⟩ trivial rfl rfl), h⟩
  · refine xcF rfl c4 ?_
    obtain rfl := someS h
    exact xexitn (st1 := ⟨ofL [(0, eb a0), (1, .int .u16 a1), (2, .str a2), (8, .sl 3 (List.map e_api_Type x21))], ofL []⟩) (canon0 ⟨rfl, rfl, rfl, rfl, trivial⟩ trivial rfl rfl) ⟨rfl, rfl⟩
theorem w_prefectlaw5_SchemaAll_l57 (N : Nat) (a1 : Int) (a2 : List UInt8) (x48 : api_Type) : ∀ (n : Nat) (x : Int × List UInt8) (y : List UInt8), prefectlaw5_SchemaAll_l57 N a1 a2 x48 n x = some y → WX Tryd.prog (fun _ => false) (.loop k4_l57) ((fun (x : Int × List UInt8) => ⟨ofL [(1, .int .u16 a1), (2, .str a2), (10, .ptr 10 0 0), (11, .slr 52 0 x.2.length), (12, .int .i64 x.1)], ofL [(10, ⟨3, false, [e_api_Type x48]⟩), (52, ⟨1, true, List.map eb x.2⟩)]⟩) x) ((fun y e s => e = .exit 2 ∧ s = ⟨ofL [(2, .str a2), (10, .ptr 10 0 0), (11, .slr 52 0 y.length)], ofL [(10, ⟨3, false, [e_api_Type x48]⟩), (52, ⟨1, true, List.map eb y⟩)]⟩ : (List UInt8) → Xt → St → Prop) y) := by
  refine xloop (fun (x : Int × List UInt8) => ⟨ofL [(1, .int .u16 a1), (2, .str a2), (10, .ptr 10 0 0), (11, .slr 52 0 x.2.length), (12, .int .i64 x.1)], ofL [(10, ⟨3, false, [e_api_Type x48]⟩), (52, ⟨1, true, List.map eb x.2⟩)]⟩) _ (prefectlaw5_SchemaAll_l57 N a1 a2 x48) (prefectlaw5_SchemaAll_l57_b N a1 a2 x48) (fun _ => rfl) (fun _ _ => rfl) ?_
  rintro rec ⟨v12l57, r52l57⟩ y h
  refine xseq ?_
  refine xseq ?_
  refine xreg ?_
  refine wpp rfl rfl ?_
  refine wpp rfl rfl ?_
  refine wpp rfl rfl ?_
  refine wpp rfl rfl ?_
  rcases bifS h with ⟨c7, h⟩ | ⟨c7, h⟩
  · refine xcT rfl c7 ?_
    refine xskip ?_
    refine xjoin (fun (x : List UInt8) => ⟨ofL [(1, .int .u16 a1), (2, .str a2), (10, .ptr 10 0 0), (11, .slr 52 0 x.length), (12, .int .i64 v12l57)], ofL [(10, ⟨3, false, [e_api_Type x48]⟩), (52, ⟨1, true, List.map eb x⟩)]⟩) (fun x => prefectlaw5_SchemaAll_j64 v12l57 rec x = some y) ?_ ?_
    · rintro r52j64 h
      refine xreg ?_
      refine wpp rfl rfl ?_
      refine wpp (p := .int .i64 (w64 (v12l57 + (1 : Int)))) rfl rfl ?_
      refine wpp rfl rfl ?_
      exact ⟨((w64 (v12l57 + (1 : Int))), r52j64), (canon0 ⟨rfl, rfl, rfl, rfl, rfl, trivial⟩ ⟨rfl, rfl, trivial⟩ rfl rfl), h⟩
    · skip
      refine xblk ?_
      obtain ⟨g8, hg8, h⟩ := bindS h
      refine xseg ⟨ofL [(1, .int .u16 a1), (2, .str a2), (10, .ptr 10 0 0), (11, .slr 52 0 r52l57.length), (12, .int .i64 v12l57), (78, .bool g8)], ofL [(10, ⟨3, false, [e_api_Type x48]⟩), (52, ⟨1, true, List.map eb r52l57⟩)]⟩ ?_ ?_
      · have h := hg8
        refine xreg ?_
        refine wpp rfl rfl ?_
        refine wpp rfl rfl ?_
        refine wpp (p := .int .u64 (IntKind.u64.wrap v12l57)) rfl rfl ?_
        obtain ⟨x62, hx62, h⟩ := bindS h
        refine wpp rfl (p_shrK (nn_inv hx62) rfl rfl) ?_
        refine wpp (p := .int .u16 (iop .and .u16 (shrK .u16 a1 (IntKind.u64.wrap v12l57)) (1 : Int))) rfl rfl ?_
        refine wpp rfl rfl ?_
        refine wpp rfl rfl ?_
        rcases bifS h with ⟨c9, h⟩ | ⟨c9, h⟩
        · skip
          refine wpp (gy rfl c9) rfl ?_
          refine wpp (gy rfl c9) rfl ?_
          obtain ⟨x68, hx68, h⟩ := bindS h
          refine wpp (gy rfl c9) (p_ixr hx68 rfl rfl rfl rfl) ?_
          obtain ⟨x69, hx69, h⟩ := bindS h
          refine wpp (gy rfl c9) (p_ldr (f := eb) (v := eb x69) hx69 rfl rfl rfl) ?_
          refine wpp (p := .bool (decide (((x69).toNat : Int) ≥ (97 : Int)))) (gy rfl c9) rfl ?_
          refine wpp rfl (p_pick1 c9 rfl rfl) ?_
          refine wpp rfl rfl ?_
          rcases bifS h with ⟨c10, h⟩ | ⟨c10, h⟩
          · skip
            refine wpp (gy rfl c10) rfl ?_
            refine wpp (gy rfl c10) rfl ?_
            obtain ⟨x75, hx75, h⟩ := bindS h
            refine wpp (gy rfl c10) (p_ixr hx75 rfl rfl rfl rfl) ?_
            obtain ⟨x76, hx76, h⟩ := bindS h
            refine wpp (gy rfl c10) (p_ldr (f := eb) (v := eb x76) hx76 rfl rfl rfl) ?_
            refine wpp (p := .bool (decide (((x76).toNat : Int) ≤ (122 : Int)))) (gy rfl c10) rfl ?_
            refine wpp rfl (p_pick1 c10 rfl rfl) ?_
            obtain rfl := someS h
            exact (canon0 ⟨rfl, rfl, rfl, rfl, rfl, rfl, trivial⟩ ⟨rfl, rfl, trivial⟩ rfl rfl)
          · skip
            refine wsk (gn rfl c10) ?_
            refine wsk (gn rfl c10) ?_
            refine wsk (gn rfl c10) ?_
            refine wsk (gn rfl c10) ?_
            refine wsk (gn rfl c10) ?_
            refine wpp rfl (p_pick0 c10 rfl rfl) ?_
            obtain rfl := someS h
            exact (canon0 ⟨rfl, rfl, rfl, rfl, rfl, rfl, trivial⟩ ⟨rfl, rfl, trivial⟩ rfl rfl)
        · skip
          refine wsk (gn rfl c9) ?_
          refine wsk (gn rfl c9) ?_
          refine wsk (gn rfl c9) ?_
          refine wsk (gn rfl c9) ?_
          refine wsk (gn rfl c9) ?_
          refine wpp rfl (p_pick0 c9 rfl rfl) ?_
          refine wpp rfl rfl ?_
          refine wsk rfl ?_
          refine wsk rfl ?_
          refine wsk rfl ?_
          refine wsk rfl ?_
          refine wsk rfl ?_
          refine wpp rfl rfl ?_
          obtain rfl := someS h
          exact (canon0 ⟨rfl, rfl, rfl, rfl, rfl, rfl, trivial⟩ ⟨rfl, rfl, trivial⟩ rfl rfl)
      · clear hg8
        rcases bifS h with ⟨c11, h⟩ | ⟨c11, h⟩
        · refine xcT rfl c11 ?_
          refine xreg ?_
          refine wpp rfl rfl ?_
          refine wpp rfl rfl ?_
          refine wpp rfl rfl ?_
          refine wpp rfl rfl ?_
          obtain ⟨x83, hx83, h⟩ := bindS h
          refine wpp rfl (p_ixr hx83 rfl rfl rfl rfl) ?_
          obtain ⟨x84, hx84, h⟩ := bindS h
          refine wpp rfl (p_ldr (f := eb) (v := eb x84) hx84 rfl rfl rfl) ?_
          refine wpp rfl (p_u8sub (a := x84) (b := (32 : UInt8)) rfl rfl) ?_
          obtain ⟨x86, hx86, h⟩ := bindS h
          refine wpp rfl (p_ixr hx86 rfl rfl rfl rfl) ?_
          obtain ⟨x9011, hx9011, h⟩ := bindS h
          refine wsto (f := eb) (e' := (x84 - (32 : UInt8))) hx9011 rfl rfl rfl rfl rfl rfl rfl rfl (fun _ => rfl) rfl ?_
          exact ⟨(r52l57.set x86 (x84 - (32 : UInt8))), (Norm.trans (nsub 11 (sub_eq (congrArg (PV.slr 52 0) (by simp only [List.length_set, List.length_replicate] : r52l57.length = (r52l57.set x86 (x84 - (32 : UInt8))).length))) rfl) (canon0 ⟨rfl, rfl, rfl, rfl, rfl, trivial⟩ ⟨rfl, rfl, trivial⟩ rfl rfl)), h⟩
        · refine xcF rfl c11 ?_
          refine xskip ?_
          exact ⟨r52l57, (canon0 ⟨rfl, rfl, rfl, rfl, rfl, trivial⟩ ⟨rfl, rfl, trivial⟩ rfl rfl), h⟩
  · refine xcF rfl c7 ?_
    obtain rfl := someS h
    exact xexitn (st1 := ⟨ofL [(2, .str a2), (10, .ptr 10 0 0), (11, .slr 52 0 r52l57.length)], ofL [(10, ⟨3, false, [e_api_Type x48]⟩), (52, ⟨1, true, List.map eb r52l57⟩)]⟩) (canon0 ⟨rfl, rfl, rfl, trivial⟩ ⟨rfl, rfl, trivial⟩ rfl rfl) ⟨rfl, rfl⟩
theorem sat_prefectlaw5_SchemaAll (N : Nat) (a0 : UInt8) (a1 : Int) (a2 : List UInt8) (r : Bool) (h : prefectlaw5_SchemaAll N a0 a1 a2 = some r) : Sat Tryd.prog 4 noRows [eb a0, .int .u16 a1, .str a2] (.bool r) noRows := by
  refine xsat mixed Tryd.func4 k4_cf (rs := [.bool r]) rfl rfl ?_
  refine xseq ?_
  refine xreg ?_
  refine wpp rfl rfl ?_
  refine xseq ?_
  refine xseq ?_
  refine xreg ?_
  obtain ⟨x15, hx15, h⟩ := bindS h
  refine woo rfl (ocal (sat_prefectlaw5_known N _ hx15) rfl .nil rfl rfl rfl) ?_
  refine wpp rfl rfl ?_
  rcases bifS h with ⟨c1, h⟩ | ⟨c1, h⟩
  · refine xcT rfl c1 ?_
    refine xseq ?_
    refine xreg ?_
    refine wpp rfl rfl ?_
    obtain rfl := someS h
    refine xret ?_
    exact ⟨nofun, rfl, rfl⟩
  · refine xcF rfl c1 ?_
    refine xskip ?_
    refine xseq ?_
    refine xseq ?_
    refine xreg ?_
    refine wpp rfl rfl ?_
    refine wpp rfl rfl ?_
    refine wpp rfl rfl ?_
    rcases bifS h with ⟨c2, h⟩ | ⟨c2, h⟩
    · refine xcT rfl c2 ?_
      refine xseq ?_
      refine xreg ?_
      refine wpp rfl rfl ?_
      obtain rfl := someS h
      refine xret ?_
      exact ⟨nofun, rfl, rfl⟩
    · refine xcF rfl c2 ?_
      refine xskip ?_
      refine xseq ?_
      refine xreg ?_
      obtain ⟨x20, hx20, h⟩ := bindS h
      refine woo rfl (ocal (sat_schema_All N _ hx20) rfl .nil rfl rfl rfl) ?_
      obtain ⟨x21, hx21, h⟩ := bindS h
      refine woo rfl (ocal (sat_prefectref4_All N _ hx21) rfl .nil rfl rfl rfl) ?_
      refine wpp rfl rfl ?_
      refine wpp rfl rfl ?_
      refine xseq ?_
      refine xseq ?_
      refine xreg ?_
      refine wpp rfl rfl ?_
      refine wpp rfl (p_lens rfl) ?_
      refine wpp rfl rfl ?_
      refine wpp rfl (p_lens rfl) ?_
      refine wpp rfl rfl ?_
      rcases bifS h with ⟨c3, h⟩ | ⟨c3, h⟩
      · refine xcT rfl c3 ?_
        refine xseq ?_
        refine xreg ?_
        refine wpp rfl rfl ?_
        obtain rfl := someS h
        refine xret ?_
        exact ⟨nofun, rfl, rfl⟩
      · refine xcF rfl c3 ?_
        refine xskip ?_
        refine xseq ?_
        refine xseq ?_
        refine xreg ?_
        refine wpp rfl rfl ?_
        refine xblk ?_
        obtain ⟨y6, hy6, h⟩ := bindS h
        refine xloopU (st1 := ⟨ofL [(0, eb a0), (1, .int .u16 a1), (2, .str a2), (7, .sl 3 (List.map e_api_Type x20)), (8, .sl 3 (List.map e_api_Type x21)), (9, .int .i64 0)], ofL []⟩) (canon0 ⟨rfl, rfl, rfl, rfl, rfl, rfl, trivial⟩ trivial rfl rfl) (w_prefectlaw5_SchemaAll_l32 N a0 a1 a2 x20 x21 N _ _ hy6) ?_
        clear hy6
        rcases y6 with y6 | y6
        · rintro e s ⟨rfl, rfl⟩
          refine xseq ?_
          refine xreg ?_
          refine wpp rfl rfl ?_
          refine wpp rfl rfl ?_
          refine wpp rfl (p_u8cv (a := a0) rfl) ?_
          refine wpp rfl rfl ?_
          refine wpp rfl (p_lens rfl) ?_
          obtain ⟨x47, hx47, h⟩ := bindS h
          refine wpp rfl (p_rem hx47 rfl rfl) ?_
          obtain ⟨x48, hx48, h⟩ := bindS h
          refine wpp rfl (p_ixs (cs := [.str x48.Name, .int .i64 x48.Syntax, .bool x48.Single]) hx48 rfl rfl rfl) ?_
          refine wpp (p := e_api_Type x48) rfl rfl ?_
          refine woo rfl (obox 10 rfl rfl rfl rfl rfl) ?_
          refine wstb (e' := e_api_Type x48) rfl rfl rfl rfl rfl rfl rfl rfl nofun rfl ?_
          refine xseq ?_
          refine xreg ?_
          refine wpp rfl rfl ?_
          refine wpp rfl rfl ?_
          refine woo rfl (ocvs 52 rfl rfl) ?_
          refine wpp rfl rfl ?_
          refine xseq ?_
          refine xseq ?_
          refine xreg ?_
          refine wpp rfl rfl ?_
          refine xblk ?_
          obtain ⟨y13, hy13, h⟩ := bindS h
          refine xloopU (st1 := ⟨ofL [(1, .int .u16 a1), (2, .str a2), (10, .ptr 10 0 0), (11, .slr 52 0 x48.Name.length), (12, .int .i64 0)], ofL [(10, ⟨3, false, [e_api_Type x48]⟩), (52, ⟨1, true, List.map eb x48.Name⟩)]⟩) (canon0 ⟨rfl, rfl, rfl, rfl, rfl, trivial⟩ ⟨rfl, rfl, trivial⟩ rfl rfl) (w_prefectlaw5_SchemaAll_l57 N a1 a2 x48 N _ _ hy13) ?_
          rintro e s ⟨rfl, rfl⟩
          refine xseq ?_
          refine xreg ?_
          refine wpp rfl rfl ?_
          refine wpp rfl (p_cvbr (l := y13) rfl rfl (full_row (f := eb) (l := y13))) ?_
          obtain ⟨x90, hx90, h⟩ := bindS h
          refine woo rfl (ocal (sat_schema_Find N _ _ hx90) rfl (.cons sub_rfl .nil) rfl rfl rfl) ?_
          refine wpp rfl rfl ?_
          refine wpp rfl rfl ?_
          refine wpp rfl rfl ?_
          refine woo rfl (obox 13 rfl rfl rfl rfl rfl) ?_
          refine wstb (e' := e_api_Type x90.1) rfl rfl rfl rfl rfl rfl rfl rfl nofun rfl ?_
          refine wpp rfl rfl ?_
          obtain ⟨g14, hg14, h⟩ := bindS h
          refine xseg ⟨ofL [(6, .bool g14)], ofL []⟩ ?_ ?_
          · have h := hg14
            refine xregd ?_
            refine wdp rfl rfl ?_
            refine wdp rfl rfl ?_
            rcases bifS h with ⟨c15, h⟩ | ⟨c15, h⟩
            · skip
              refine wdp (p := e_api_Type x90.1) (gy rfl c15) rfl ?_
              refine wdp (p := e_api_Type x48) (gy rfl c15) rfl ?_
              refine wdp (p := .bool (x90.1.Name == x48.Name && (x90.1.Syntax == x48.Syntax && (x90.1.Single == x48.Single && true)))) (gy rfl c15) rfl ?_
              refine wdp rfl (p_pick1 c15 rfl rfl) ?_
              refine wdp rfl rfl ?_
              rcases bifS h with ⟨c16, h⟩ | ⟨c16, h⟩
              · skip
                refine wdp (gy rfl c16) rfl ?_
                refine wdp (gy rfl c16) (p_cvbr (l := y13) rfl rfl (full_row (f := eb) (l := y13))) ?_
                refine wdp (gy rfl c16) rfl ?_
                obtain ⟨x103, hx103, h⟩ := bindS h
                refine wdN (gy rfl c16) (pcal (sat_schema_Check N _ _ _ hx103) rfl (.cons sub_rfl (.cons sub_rfl .nil)) rfl rfl rfl) no_fresh ?_
                refine wdp (gy rfl c16) rfl ?_
                refine wdp (gy rfl c16) rfl ?_
                refine wdp (gy rfl c16) rfl ?_
                obtain ⟨x107, hx107, h⟩ := bindS h
                refine wdN (gy rfl c16) (pcal (sat_prefectref4_Check N _ _ _ hx107) rfl (.cons sub_rfl (.cons sub_rfl .nil)) rfl rfl rfl) no_fresh ?_
                refine wdp (gy rfl c16) rfl ?_
                refine wdp rfl (p_pick1 c16 rfl rfl) ?_
                refine wdp rfl rfl ?_
                obtain rfl := someS h
                exact (canon0 ⟨rfl, trivial⟩ trivial rfl rfl)
              · skip
                refine wdn (gn rfl c16) ?_
                refine wdn (gn rfl c16) ?_
                refine wdn (gn rfl c16) ?_
                refine wdn (gn rfl c16) ?_
                refine wdn (gn rfl c16) ?_
                refine wdn (gn rfl c16) ?_
                refine wdn (gn rfl c16) ?_
                refine wdn (gn rfl c16) ?_
                refine wdn (gn rfl c16) ?_
                refine wdp rfl (p_pick0 c16 rfl rfl) ?_
                refine wdp rfl rfl ?_
                obtain rfl := someS h
                exact (canon0 ⟨rfl, trivial⟩ trivial rfl rfl)
            · skip
              refine wdn (gn rfl c15) ?_
              refine wdn (gn rfl c15) ?_
              refine wdn (gn rfl c15) ?_
              refine wdp rfl (p_pick0 c15 rfl rfl) ?_
              refine wdp rfl rfl ?_
              refine wdn rfl ?_
              refine wdn rfl ?_
              refine wdn rfl ?_
              refine wdn rfl ?_
              refine wdn rfl ?_
              refine wdn rfl ?_
              refine wdn rfl ?_
              refine wdn rfl ?_
              refine wdn rfl ?_
              refine wdp rfl rfl ?_
              refine wdp rfl rfl ?_
              obtain rfl := someS h
              exact (canon0 ⟨rfl, trivial⟩ trivial rfl rfl)
          · clear hg14
            obtain rfl := someS h
            refine xret ?_
            exact ⟨nofun, rfl, rfl⟩
        · rintro e s ⟨rfl, rfl⟩
          obtain rfl := someS h
          exact ⟨nofun, rfl, rfl⟩
end Go.Gp
end
