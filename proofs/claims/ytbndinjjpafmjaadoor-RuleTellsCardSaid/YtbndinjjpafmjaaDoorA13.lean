/- A part of the proof: functions of the program and what they compute. -/
import Derived.Test.YtbndinjjpafmjaaDoorA5
import Derived.Test.YtbndinjjpafmjaaDoorA11
import Derived.Test.YtbndinjjpafmjaaDoorA12
import Derived.Test.YtbndinjjpafmjaaDoorA10
section
set_option linter.unusedVariables false
set_option linter.unusedSimpArgs false
set_option maxRecDepth 4000
set_option maxHeartbeats 4000000
namespace Go.Gp
open Go.Vd Go.RowKit Go.Proofs
def k20_l19 : IC := (.seq (.seq (.regd 11 [⟨(some 17), (.mov (.t 3)), none⟩, ⟨(some 18), (.bin .lss (.t 17) (.c (.int .i64 6))), none⟩, ⟨(some 19), (.mov (.t 18)), none⟩, ⟨(some 20), (.mov (.t 3)), (some (19, true))⟩, ⟨(some 21), (.idxs (.c (.str [114, 115, 99, 119, 97, 100])) (.t 20)), (some (19, true))⟩, ⟨(some 22), (.fda 1 (.t 1)), (some (19, true))⟩, ⟨(some 23), (.load 1 false (.t 22)), (some (19, true))⟩, ⟨(some 24), (.mov (.t 4)), (some (19, true))⟩, ⟨(some 25), (.idxs (.t 23) (.t 24)), (some (19, true))⟩, ⟨(some 26), (.bin .neq (.t 21) (.t 25)), (some (19, true))⟩, ⟨(some 27), (.pick (.t 19) (.t 26) (.c (.bool false))), none⟩]) (.cond (.t 27) .skip (.exit 2))) (.block 3 (.reg [⟨(some 28), (.mov (.t 3)), none⟩, ⟨(some 29), (.bin .add (.t 28) (.c (.int .i64 1))), none⟩, ⟨(some 3), (.mov (.t 29)), none⟩])))
def k20_l8 : IC := (.seq (.seq (.reg [⟨(some 10), (.mov (.t 4)), none⟩, ⟨(some 11), (.fda 1 (.t 1)), none⟩, ⟨(some 12), (.load 1 false (.t 11)), none⟩, ⟨(some 13), (.len true (.t 12)), none⟩, ⟨(some 14), (.bin .lss (.t 10) (.t 13)), none⟩]) (.cond (.t 14) .skip (.exit 0))) (.seq (.block 1 (.seq (.block 2 (.loop k20_l19)) (.seq (.seq (.reg [⟨(some 30), (.mov (.t 3)), none⟩, ⟨(some 31), (.bin .eql (.t 30) (.c (.int .i64 6))), none⟩]) (.cond (.t 31) (.seq (.reg [⟨(some 2), (.mov (.c (.bool false))), none⟩]) .ret) .skip)) (.reg [⟨(some 32), (.mov (.t 3)), none⟩, ⟨(some 33), (.bin .add (.t 32) (.c (.int .i64 1))), none⟩, ⟨(some 3), (.mov (.t 33)), none⟩])))) (.reg [⟨(some 15), (.mov (.t 4)), none⟩, ⟨(some 16), (.bin .add (.t 15) (.c (.int .i64 1))), none⟩, ⟨(some 4), (.mov (.t 16)), none⟩])))
def k20_l42 : IC := (.seq (.seq (.reg [⟨(some 34), (.mov (.t 5)), none⟩, ⟨(some 35), (.fda 4 (.t 1)), none⟩, ⟨(some 36), (.load 1 false (.t 35)), none⟩, ⟨(some 37), (.len false (.t 36)), none⟩, ⟨(some 38), (.bin .lss (.t 34) (.t 37)), none⟩]) (.cond (.t 38) .skip (.exit 4))) (.seq (.block 5 (.seq (.reg [⟨(some 42), (.fda 4 (.t 1)), none⟩, ⟨(some 43), (.load 1 false (.t 42)), none⟩, ⟨(some 44), (.mov (.t 5)), none⟩, ⟨(some 45), (.ixp 1 (.t 43) (.t 44)), none⟩, ⟨(some 46), (.load 1 false (.t 45)), none⟩, ⟨(some 47), (.call 11 [(.t 46)]), none⟩, ⟨(some 41), (.mov (.t 47)), none⟩, ⟨(some 48), (.ext 0 (.t 41)), none⟩, ⟨(some 49), (.ext 1 (.t 41)), none⟩, ⟨(some 6), (.box 24 (.c (.agg [(.str []), (.int .i64 0), (.bool false)]))), none⟩, ⟨none, (.store 3 (.t 6) (.t 48)), none⟩, ⟨(some 7), (.mov (.t 49)), none⟩]) (.seq (.regd 30 [⟨(some 50), (.mov (.t 7)), none⟩, ⟨(some 51), (.un .not (.t 50)), none⟩, ⟨(some 52), (.mov (.t 51)), none⟩, ⟨(some 53), (.fda 0 (.t 6)), (some (52, false))⟩, ⟨(some 54), (.load 1 false (.t 53)), (some (52, false))⟩, ⟨(some 55), (.fda 4 (.t 1)), (some (52, false))⟩, ⟨(some 56), (.load 1 false (.t 55)), (some (52, false))⟩, ⟨(some 57), (.mov (.t 5)), (some (52, false))⟩, ⟨(some 58), (.ixp 1 (.t 56) (.t 57)), (some (52, false))⟩, ⟨(some 59), (.load 1 false (.t 58)), (some (52, false))⟩, ⟨(some 60), (.bin .neq (.t 54) (.t 59)), (some (52, false))⟩, ⟨(some 61), (.pick (.t 52) (.c (.bool true)) (.t 60)), none⟩, ⟨(some 62), (.mov (.t 61)), none⟩, ⟨(some 63), (.mov (.t 5)), (some (62, false))⟩, ⟨(some 64), (.bin .gtr (.t 63) (.c (.int .i64 0))), (some (62, false))⟩, ⟨(some 65), (.mov (.t 64)), (some (62, false))⟩, ⟨(some 66), (.fda 4 (.t 1)), (some (65, true))⟩, ⟨(some 67), (.load 1 false (.t 66)), (some (65, true))⟩, ⟨(some 68), (.mov (.t 5)), (some (65, true))⟩, ⟨(some 69), (.ixp 1 (.t 67) (.t 68)), (some (65, true))⟩, ⟨(some 70), (.load 1 false (.t 69)), (some (65, true))⟩, ⟨(some 71), (.fda 4 (.t 1)), (some (65, true))⟩, ⟨(some 72), (.load 1 false (.t 71)), (some (65, true))⟩, ⟨(some 73), (.mov (.t 5)), (some (65, true))⟩, ⟨(some 74), (.bin .sub (.t 73) (.c (.int .i64 1))), (some (65, true))⟩, ⟨(some 75), (.ixp 1 (.t 72) (.t 74)), (some (65, true))⟩, ⟨(some 76), (.load 1 false (.t 75)), (some (65, true))⟩, ⟨(some 77), (.bin .leq (.t 70) (.t 76)), (some (65, true))⟩, ⟨(some 78), (.pick (.t 65) (.t 77) (.c (.bool false))), (some (62, false))⟩, ⟨(some 79), (.pick (.t 62) (.c (.bool true)) (.t 78)), none⟩]) (.cond (.t 79) (.seq (.reg [⟨(some 2), (.mov (.c (.bool false))), none⟩]) .ret) .skip)))) (.reg [⟨(some 39), (.mov (.t 5)), none⟩, ⟨(some 40), (.bin .add (.t 39) (.c (.int .i64 1))), none⟩, ⟨(some 5), (.mov (.t 40)), none⟩])))
def k20 : IC := (.seq (.reg [⟨(some 1), (.box 41 (.t 0)), none⟩, ⟨(some 2), (.mov (.c (.bool false))), none⟩]) (.seq (.reg [⟨(some 3), (.mov (.c (.int .i64 0))), none⟩]) (.seq (.seq (.reg [⟨(some 4), (.mov (.c (.int .i64 0))), none⟩]) (.block 0 (.loop k20_l8))) (.seq (.seq (.reg [⟨(some 5), (.mov (.c (.int .i64 0))), none⟩]) (.block 4 (.loop k20_l42))) (.seq (.seq (.reg [⟨(some 80), (.fda 1 (.t 1)), none⟩, ⟨(some 81), (.load 1 false (.t 80)), none⟩, ⟨(some 82), (.len true (.t 81)), none⟩, ⟨(some 83), (.bin .eql (.t 82) (.c (.int .i64 0))), none⟩]) (.cond (.t 83) (.seq (.reg [⟨(some 2), (.mov (.c (.bool false))), none⟩]) .ret) .skip)) (.seq (.seq (.reg [⟨(some 84), (.fda 3 (.t 1)), none⟩, ⟨(some 85), (.load 1 false (.t 84)), none⟩, ⟨(some 86), (.bin .eql (.t 85) (.c (.str [97, 110, 121]))), none⟩, ⟨(some 87), (.mov (.t 86)), none⟩, ⟨(some 88), (.fda 3 (.t 1)), (some (87, false))⟩, ⟨(some 89), (.load 1 false (.t 88)), (some (87, false))⟩, ⟨(some 90), (.bin .eql (.t 89) (.c (.str [115, 101, 108, 102]))), (some (87, false))⟩, ⟨(some 91), (.pick (.t 87) (.c (.bool true)) (.t 90)), none⟩]) (.cond (.t 91) (.seq (.reg [⟨(some 2), (.mov (.c (.bool true))), none⟩]) .ret) .skip)) (.seq (.seq (.reg [⟨(some 92), (.fda 3 (.t 1)), none⟩, ⟨(some 93), (.load 1 false (.t 92)), none⟩, ⟨(some 94), (.len true (.t 93)), none⟩, ⟨(some 95), (.bin .lss (.t 94) (.c (.int .i64 4))), none⟩, ⟨(some 96), (.mov (.t 95)), none⟩, ⟨(some 97), (.fda 3 (.t 1)), (some (96, false))⟩, ⟨(some 98), (.load 1 false (.t 97)), (some (96, false))⟩, ⟨(some 99), (.slcs (.t 98) none (some (.c (.int .i64 3)))), (some (96, false))⟩, ⟨(some 100), (.bin .neq (.t 99) (.c (.str [100, 110, 58]))), (some (96, false))⟩, ⟨(some 101), (.pick (.t 96) (.c (.bool true)) (.t 100)), none⟩]) (.cond (.t 101) (.seq (.reg [⟨(some 2), (.mov (.c (.bool false))), none⟩]) .ret) .skip)) (.seq (.reg [⟨(some 103), (.fda 3 (.t 1)), none⟩, ⟨(some 104), (.load 1 false (.t 103)), none⟩, ⟨(some 105), (.slcs (.t 104) (some (.c (.int .i64 3))) none), none⟩, ⟨(some 106), (.call 31 [(.t 105)]), none⟩, ⟨(some 102), (.mov (.t 106)), none⟩, ⟨(some 107), (.ext 0 (.t 102)), none⟩, ⟨(some 108), (.ext 1 (.t 102)), none⟩, ⟨(some 8), (.mov (.t 107)), none⟩, ⟨(some 9), (.mov (.t 108)), none⟩]) (.seq (.regd 10 [⟨(some 109), (.mov (.t 9)), none⟩, ⟨(some 110), (.mov (.t 109)), none⟩, ⟨(some 111), (.mov (.t 8)), (some (110, true))⟩, ⟨(some 112), (.call 33 [(.t 111)]), (some (110, true))⟩, ⟨(some 113), (.fda 3 (.t 1)), (some (110, true))⟩, ⟨(some 114), (.load 1 false (.t 113)), (some (110, true))⟩, ⟨(some 115), (.slcs (.t 114) (some (.c (.int .i64 3))) none), (some (110, true))⟩, ⟨(some 116), (.bin .eql (.t 112) (.t 115)), (some (110, true))⟩, ⟨(some 117), (.pick (.t 110) (.t 116) (.c (.bool false))), none⟩, ⟨(some 2), (.mov (.t 117)), none⟩]) .ret)))))))))
theorem k20_cf : cfunc Tryd.prog Tryd.f20 = some ⟨118, k20, [(.tmp 2)]⟩ := by kernel_rfl
theorem w_prefectref17_IsRule_l19 (N : Nat) (a0 : api_Rule) (v4l8 : Int) : ∀ (n : Nat) (x : Int) (y : Int), prefectref17_IsRule_l19 N a0 v4l8 n x = some y → WX Tryd.prog (fun _ => false) (.loop k20_l19) ((fun (x : Int) => ⟨ofL [(1, .ptr 1 0 0), (3, .int .i64 x), (4, .int .i64 v4l8)], ofL [(1, ⟨5, false, [e_api_Rule a0]⟩)]⟩) x) ((fun y e s => e = .exit 2 ∧ s = ⟨ofL [(1, .ptr 1 0 0), (3, .int .i64 y), (4, .int .i64 v4l8)], ofL [(1, ⟨5, false, [e_api_Rule a0]⟩)]⟩ : Int → Xt → St → Prop) y) := by
  refine xloop (fun (x : Int) => ⟨ofL [(1, .ptr 1 0 0), (3, .int .i64 x), (4, .int .i64 v4l8)], ofL [(1, ⟨5, false, [e_api_Rule a0]⟩)]⟩) _ (prefectref17_IsRule_l19 N a0 v4l8) (prefectref17_IsRule_l19_b N a0 v4l8) (fun _ => rfl) (fun _ _ => rfl) ?_
  rintro rec v3l19 y h
  refine xseq ?_
  obtain ⟨g2, hg2, h⟩ := bindS h
  refine xseg ⟨ofL [(1, .ptr 1 0 0), (3, .int .i64 v3l19), (4, .int .i64 v4l8), (27, .bool g2)], ofL [(1, ⟨5, false, [e_api_Rule a0]⟩)]⟩ ?_ ?_
  · have h := hg2
    refine xregd ?_
    refine wdp rfl rfl ?_
    refine wdp rfl rfl ?_
    refine wdp rfl rfl ?_
    rcases bifS h with ⟨c3, h⟩ | ⟨c3, h⟩
    · skip
      refine wdp (gy rfl c3) rfl ?_
      obtain ⟨x21, hx21, h⟩ := bindS h
      refine wdp (gy rfl c3) (p_idx hx21 rfl rfl) ?_
      refine wdp (gy rfl c3) rfl ?_
      refine wdp (gy rfl c3) rfl ?_
      refine wdp (gy rfl c3) rfl ?_
      obtain ⟨x25, hx25, h⟩ := bindS h
      refine wdp (gy rfl c3) (p_idx hx25 rfl rfl) ?_
      refine wdp (p := .bool (((x21).toNat : Int) != ((x25).toNat : Int))) (gy rfl c3) rfl ?_
      refine wdp rfl (p_pick1 c3 rfl rfl) ?_
      obtain rfl := someS h
      exact (canon0 ⟨rfl, rfl, rfl, rfl, trivial⟩ ⟨rfl, trivial⟩ rfl rfl)
    · skip
      refine wdn (gn rfl c3) ?_
      refine wdn (gn rfl c3) ?_
      refine wdn (gn rfl c3) ?_
      refine wdn (gn rfl c3) ?_
      refine wdn (gn rfl c3) ?_
      refine wdn (gn rfl c3) ?_
      refine wdn (gn rfl c3) ?_
      refine wdp rfl (p_pick0 c3 rfl rfl) ?_
      obtain rfl := someS h
      exact (canon0 ⟨rfl, rfl, rfl, rfl, trivial⟩ ⟨rfl, trivial⟩ rfl rfl)
  · clear hg2
    rcases bifS h with ⟨c4, h⟩ | ⟨c4, h⟩
    · refine xcT rfl c4 ?_
      refine xskip ?_
      refine xblk ?_
      refine xreg ?_
      refine wpp rfl rfl ?_
      refine wpp (p := .int .i64 (w64 (v3l19 + (1 : Int)))) rfl rfl ?_
      refine wpp rfl rfl ?_
      exact ⟨(w64 (v3l19 + (1 : Int))), (canon0 ⟨rfl, rfl, rfl, trivial⟩ ⟨rfl, trivial⟩ rfl rfl), h⟩
    · refine xcF rfl c4 ?_
      obtain rfl := someS h
      exact xexitn (st1 := ⟨ofL [(1, .ptr 1 0 0), (3, .int .i64 v3l19), (4, .int .i64 v4l8)], ofL [(1, ⟨5, false, [e_api_Rule a0]⟩)]⟩) (canon0 ⟨rfl, rfl, rfl, trivial⟩ ⟨rfl, trivial⟩ rfl rfl) ⟨rfl, rfl⟩
theorem w_prefectref17_IsRule_l8 (N : Nat) (a0 : api_Rule) : ∀ (n : Nat) (x : Int × Int) (y : Unit ⊕ Bool), prefectref17_IsRule_l8 N a0 n x = some y → WX Tryd.prog (fun _ => false) (.loop k20_l8) ((fun (x : Int × Int) => ⟨ofL [(1, .ptr 1 0 0), (3, .int .i64 x.1), (4, .int .i64 x.2)], ofL [(1, ⟨5, false, [e_api_Rule a0]⟩)]⟩) x) ((Sum.elim (fun y e s => e = .exit 0 ∧ s = ⟨ofL [(1, .ptr 1 0 0)], ofL [(1, ⟨5, false, [e_api_Rule a0]⟩)]⟩) (fun y e s => e = .ret ∧ s = ⟨ofL [(2, .bool y)], ofL []⟩) : (Unit ⊕ Bool) → Xt → St → Prop) y) := by
  refine xloop (fun (x : Int × Int) => ⟨ofL [(1, .ptr 1 0 0), (3, .int .i64 x.1), (4, .int .i64 x.2)], ofL [(1, ⟨5, false, [e_api_Rule a0]⟩)]⟩) _ (prefectref17_IsRule_l8 N a0) (prefectref17_IsRule_l8_b N a0) (fun _ => rfl) (fun _ _ => rfl) ?_
  rintro rec ⟨v3l8, v4l8⟩ y h
  refine xseq ?_
  refine xseq ?_
  refine xreg ?_
  refine wpp rfl rfl ?_
  refine wpp rfl rfl ?_
  refine wpp rfl rfl ?_
  refine wpp rfl rfl ?_
  refine wpp rfl rfl ?_
  rcases bifS h with ⟨c1, h⟩ | ⟨c1, h⟩
  · refine xcT rfl c1 ?_
    refine xskip ?_
    refine xseq ?_
    refine xblk ?_
    refine xseq ?_
    refine xblk ?_
    obtain ⟨y5, hy5, h⟩ := bindS h
    refine xloopU (st1 := ⟨ofL [(1, .ptr 1 0 0), (3, .int .i64 v3l8), (4, .int .i64 v4l8)], ofL [(1, ⟨5, false, [e_api_Rule a0]⟩)]⟩) (canon0 ⟨rfl, rfl, rfl, trivial⟩ ⟨rfl, trivial⟩ rfl rfl) (w_prefectref17_IsRule_l19 N a0 v4l8 N _ _ hy5) ?_
    rintro e s ⟨rfl, rfl⟩
    refine xseq ?_
    refine xseq ?_
    refine xreg ?_
    refine wpp rfl rfl ?_
    refine wpp rfl rfl ?_
    rcases bifS h with ⟨c6, h⟩ | ⟨c6, h⟩
    · refine xcT rfl c6 ?_
      refine xseq ?_
      refine xreg ?_
      refine wpp rfl rfl ?_
      obtain rfl := someS h
      exact xretn (st1 := ⟨ofL [(2, .bool false)], ofL []⟩) (canon0 ⟨rfl, trivial⟩ trivial rfl rfl) ⟨rfl, rfl⟩
    · refine xcF rfl c6 ?_
      refine xskip ?_
      refine xreg ?_
      refine wpp rfl rfl ?_
      refine wpp (p := .int .i64 (w64 (y5 + (1 : Int)))) rfl rfl ?_
      refine wpp rfl rfl ?_
      refine xreg ?_
      refine wpp rfl rfl ?_
      refine wpp (p := .int .i64 (w64 (v4l8 + (1 : Int)))) rfl rfl ?_
      refine wpp rfl rfl ?_
      exact ⟨((w64 (y5 + (1 : Int))), (w64 (v4l8 + (1 : Int)))), (canon0 ⟨rfl, rfl, rfl, trivial⟩ ⟨rfl, trivial⟩ rfl rfl), h⟩
  · refine xcF rfl c1 ?_
    obtain rfl := someS h
    exact xexitn (st1 := ⟨ofL [(1, .ptr 1 0 0)], ofL [(1, ⟨5, false, [e_api_Rule a0]⟩)]⟩) (canon0 ⟨rfl, trivial⟩ ⟨rfl, trivial⟩ rfl rfl) ⟨rfl, rfl⟩
theorem w_prefectref17_IsRule_l42 (N : Nat) (a0 : api_Rule) : ∀ (n : Nat) (x : Int) (y : Unit ⊕ Bool), prefectref17_IsRule_l42 N a0 n x = some y → WX Tryd.prog (fun _ => false) (.loop k20_l42) ((fun (x : Int) => ⟨ofL [(1, .ptr 1 0 0), (5, .int .i64 x)], ofL [(1, ⟨5, false, [e_api_Rule a0]⟩)]⟩) x) ((Sum.elim (fun y e s => e = .exit 4 ∧ s = ⟨ofL [(1, .ptr 1 0 0)], ofL [(1, ⟨5, false, [e_api_Rule a0]⟩)]⟩) (fun y e s => e = .ret ∧ s = ⟨ofL [(2, .bool y)], ofL []⟩) : (Unit ⊕ Bool) → Xt → St → Prop) y) := by
  refine xloop (fun (x : Int) => ⟨ofL [(1, .ptr 1 0 0), (5, .int .i64 x)], ofL [(1, ⟨5, false, [e_api_Rule a0]⟩)]⟩) _ (prefectref17_IsRule_l42 N a0) (prefectref17_IsRule_l42_b N a0) (fun _ => rfl) (fun _ _ => rfl) ?_
  rintro rec v5l42 y h
  refine xseq ?_
  refine xseq ?_
  refine xreg ?_
  refine wpp rfl rfl ?_
  refine wpp rfl rfl ?_
  refine wpp rfl rfl ?_
  refine wpp rfl (p_lens rfl) ?_
  refine wpp rfl rfl ?_
  rcases bifS h with ⟨c8, h⟩ | ⟨c8, h⟩
  · refine xcT rfl c8 ?_
    refine xskip ?_
    refine xseq ?_
    refine xblk ?_
    refine xseq ?_
    refine xreg ?_
    refine wpp rfl rfl ?_
    refine wpp rfl rfl ?_
    refine wpp rfl rfl ?_
    obtain ⟨x45, hx45, h⟩ := bindS h
    refine wpp rfl (p_ixs (cs := [.str x45]) hx45 rfl rfl rfl) ?_
    refine wpp rfl rfl ?_
    obtain ⟨x47, hx47, h⟩ := bindS h
    refine woo rfl (ocal (sat_prefectref4_Find N _ _ hx47) rfl (.cons sub_rfl .nil) rfl rfl rfl) ?_
    refine wpp rfl rfl ?_
    refine wpp rfl rfl ?_
    refine wpp rfl rfl ?_
    refine woo rfl (obox 6 rfl rfl rfl rfl rfl) ?_
    refine wstb (e' := e_api_Type x47.1) rfl rfl rfl rfl rfl rfl rfl rfl nofun rfl ?_
    refine wpp rfl rfl ?_
    obtain ⟨g9, hg9, h⟩ := bindS h
    refine xseg ⟨ofL [(1, .ptr 1 0 0), (5, .int .i64 v5l42), (79, .bool g9)], ofL [(1, ⟨5, false, [e_api_Rule a0]⟩)]⟩ ?_ ?_
    · have h := hg9
      refine xregd ?_
      refine wdp rfl rfl ?_
      refine wdp rfl rfl ?_
      refine wdp rfl rfl ?_
      rcases bifS h with ⟨c10, h⟩ | ⟨c10, h⟩
      · skip
        refine wdn (gn rfl c10) ?_
        refine wdn (gn rfl c10) ?_
        refine wdn (gn rfl c10) ?_
        refine wdn (gn rfl c10) ?_
        refine wdn (gn rfl c10) ?_
        refine wdn (gn rfl c10) ?_
        refine wdn (gn rfl c10) ?_
        refine wdn (gn rfl c10) ?_
        refine wdp rfl (p_pick1 c10 rfl rfl) ?_
        refine wdp rfl rfl ?_
        refine wdn rfl ?_
        refine wdn rfl ?_
        refine wdn rfl ?_
        refine wdn (gu rfl) ?_
        refine wdn (gu rfl) ?_
        refine wdn (gu rfl) ?_
        refine wdn (gu rfl) ?_
        refine wdn (gu rfl) ?_
        refine wdn (gu rfl) ?_
        refine wdn (gu rfl) ?_
        refine wdn (gu rfl) ?_
        refine wdn (gu rfl) ?_
        refine wdn (gu rfl) ?_
        refine wdn (gu rfl) ?_
        refine wdn (gu rfl) ?_
        refine wdn rfl ?_
        refine wdp rfl rfl ?_
        obtain rfl := someS h
        exact (canon0 ⟨rfl, rfl, rfl, trivial⟩ ⟨rfl, trivial⟩ rfl rfl)
      · skip
        refine wdp (gy rfl c10) rfl ?_
        refine wdp (gy rfl c10) rfl ?_
        refine wdp (gy rfl c10) rfl ?_
        refine wdp (gy rfl c10) rfl ?_
        refine wdp (gy rfl c10) rfl ?_
        obtain ⟨x58, hx58, h⟩ := bindS h
        refine wdp (gy rfl c10) (p_ixs (cs := [.str x58]) hx58 rfl rfl rfl) ?_
        refine wdp (gy rfl c10) rfl ?_
        refine wdp (gy rfl c10) rfl ?_
        refine wdp rfl (p_pick0 c10 rfl rfl) ?_
        refine wdp rfl rfl ?_
        rcases bifS h with ⟨c11, h⟩ | ⟨c11, h⟩
        · skip
          refine wdn (gn rfl c11) ?_
          refine wdn (gn rfl c11) ?_
          refine wdn (gn rfl c11) ?_
          refine wdn (gu rfl) ?_
          refine wdn (gu rfl) ?_
          refine wdn (gu rfl) ?_
          refine wdn (gu rfl) ?_
          refine wdn (gu rfl) ?_
          refine wdn (gu rfl) ?_
          refine wdn (gu rfl) ?_
          refine wdn (gu rfl) ?_
          refine wdn (gu rfl) ?_
          refine wdn (gu rfl) ?_
          refine wdn (gu rfl) ?_
          refine wdn (gu rfl) ?_
          refine wdn (gn rfl c11) ?_
          refine wdp rfl (p_pick1 c11 rfl rfl) ?_
          obtain rfl := someS h
          exact (canon0 ⟨rfl, rfl, rfl, trivial⟩ ⟨rfl, trivial⟩ rfl rfl)
        · skip
          refine wdp (gy rfl c11) rfl ?_
          refine wdp (gy rfl c11) rfl ?_
          refine wdp (gy rfl c11) rfl ?_
          rcases bifS h with ⟨c12, h⟩ | ⟨c12, h⟩
          · skip
            refine wdp (gy rfl c12) rfl ?_
            refine wdp (gy rfl c12) rfl ?_
            refine wdp (gy rfl c12) rfl ?_
            obtain ⟨x69, hx69, h⟩ := bindS h
            refine wdp (gy rfl c12) (p_ixs (cs := [.str x69]) hx69 rfl rfl rfl) ?_
            refine wdp (gy rfl c12) rfl ?_
            refine wdp (gy rfl c12) rfl ?_
            refine wdp (gy rfl c12) rfl ?_
            refine wdp (gy rfl c12) rfl ?_
            refine wdp (p := .int .i64 (w64 (v5l42 - (1 : Int)))) (gy rfl c12) rfl ?_
            obtain ⟨x75, hx75, h⟩ := bindS h
            refine wdp (gy rfl c12) (p_ixs (cs := [.str x75]) hx75 rfl rfl rfl) ?_
            refine wdp (gy rfl c12) rfl ?_
            refine wdp (gy rfl c12) rfl ?_
            refine wdp (gy rfl c11) (p_pick1 c12 rfl rfl) ?_
            refine wdp rfl (p_pick0 c11 rfl rfl) ?_
            obtain rfl := someS h
            exact (canon0 ⟨rfl, rfl, rfl, trivial⟩ ⟨rfl, trivial⟩ rfl rfl)
          · skip
            refine wdn (gn rfl c12) ?_
            refine wdn (gn rfl c12) ?_
            refine wdn (gn rfl c12) ?_
            refine wdn (gn rfl c12) ?_
            refine wdn (gn rfl c12) ?_
            refine wdn (gn rfl c12) ?_
            refine wdn (gn rfl c12) ?_
            refine wdn (gn rfl c12) ?_
            refine wdn (gn rfl c12) ?_
            refine wdn (gn rfl c12) ?_
            refine wdn (gn rfl c12) ?_
            refine wdn (gn rfl c12) ?_
            refine wdp (gy rfl c11) (p_pick0 c12 rfl rfl) ?_
            refine wdp rfl (p_pick0 c11 rfl rfl) ?_
            obtain rfl := someS h
            exact (canon0 ⟨rfl, rfl, rfl, trivial⟩ ⟨rfl, trivial⟩ rfl rfl)
    · clear hg9
      rcases bifS h with ⟨c13, h⟩ | ⟨c13, h⟩
      · refine xcT rfl c13 ?_
        refine xseq ?_
        refine xreg ?_
        refine wpp rfl rfl ?_
        obtain rfl := someS h
        exact xretn (st1 := ⟨ofL [(2, .bool false)], ofL []⟩) (canon0 ⟨rfl, trivial⟩ trivial rfl rfl) ⟨rfl, rfl⟩
      · refine xcF rfl c13 ?_
        refine xskip ?_
        refine xreg ?_
        refine wpp rfl rfl ?_
        refine wpp (p := .int .i64 (w64 (v5l42 + (1 : Int)))) rfl rfl ?_
        refine wpp rfl rfl ?_
        exact ⟨(w64 (v5l42 + (1 : Int))), (canon0 ⟨rfl, rfl, trivial⟩ ⟨rfl, trivial⟩ rfl rfl), h⟩
  · refine xcF rfl c8 ?_
    obtain rfl := someS h
    exact xexitn (st1 := ⟨ofL [(1, .ptr 1 0 0)], ofL [(1, ⟨5, false, [e_api_Rule a0]⟩)]⟩) (canon0 ⟨rfl, trivial⟩ ⟨rfl, trivial⟩ rfl rfl) ⟨rfl, rfl⟩
theorem sat_prefectref17_IsRule (N : Nat) (a0 : api_Rule) (r : Bool) (h : prefectref17_IsRule N a0 = some r) : Sat Tryd.prog 20 noRows [e_api_Rule a0] (.bool r) noRows := by
  refine xsat mixed Tryd.func20 k20_cf (rs := [.bool r]) rfl rfl ?_
  refine xseq ?_
  refine xreg ?_
  refine woo rfl (obox 1 rfl rfl rfl rfl rfl) ?_
  refine wpp rfl rfl ?_
  refine xseq ?_
  refine xreg ?_
  refine wpp rfl rfl ?_
  refine xseq ?_
  refine xseq ?_
  refine xreg ?_
  refine wpp rfl rfl ?_
  refine xblk ?_
  obtain ⟨y7, hy7, h⟩ := bindS h
  refine xloopU (st1 := ⟨ofL [(1, .ptr 1 0 0), (3, .int .i64 0), (4, .int .i64 0)], ofL [(1, ⟨5, false, [e_api_Rule a0]⟩)]⟩) (canon0 ⟨rfl, rfl, rfl, trivial⟩ ⟨rfl, trivial⟩ rfl rfl) (w_prefectref17_IsRule_l8 N a0 N _ _ hy7) ?_
  clear hy7
  rcases y7 with y7 | y7
  · rintro e s ⟨rfl, rfl⟩
    refine xseq ?_
    refine xseq ?_
    refine xreg ?_
    refine wpp rfl rfl ?_
    refine xblk ?_
    obtain ⟨y14, hy14, h⟩ := bindS h
    refine xloopU (st1 := ⟨ofL [(1, .ptr 1 0 0), (5, .int .i64 0)], ofL [(1, ⟨5, false, [e_api_Rule a0]⟩)]⟩) (canon0 ⟨rfl, rfl, trivial⟩ ⟨rfl, trivial⟩ rfl rfl) (w_prefectref17_IsRule_l42 N a0 N _ _ hy14) ?_
    clear hy14
    rcases y14 with y14 | y14
    · rintro e s ⟨rfl, rfl⟩
      refine xseq ?_
      refine xseq ?_
      refine xreg ?_
      refine wpp rfl rfl ?_
      refine wpp rfl rfl ?_
      refine wpp rfl rfl ?_
      refine wpp rfl rfl ?_
      rcases bifS h with ⟨c15, h⟩ | ⟨c15, h⟩
      · refine xcT rfl c15 ?_
        refine xseq ?_
        refine xreg ?_
        refine wpp rfl rfl ?_
        obtain rfl := someS h
        refine xret ?_
        exact ⟨nofun, rfl, rfl⟩
      · refine xcF rfl c15 ?_
        refine xskip ?_
        refine xseq ?_
        obtain ⟨g16, hg16, h⟩ := bindS h
        refine xseg ⟨ofL [(1, .ptr 1 0 0), (91, .bool g16)], ofL [(1, ⟨5, false, [e_api_Rule a0]⟩)]⟩ ?_ ?_
        · have h := hg16
          refine xreg ?_
          refine wpp rfl rfl ?_
          refine wpp rfl rfl ?_
          refine wpp rfl rfl ?_
          refine wpp rfl rfl ?_
          rcases bifS h with ⟨c17, h⟩ | ⟨c17, h⟩
          · skip
            refine wsk (gn rfl c17) ?_
            refine wsk (gn rfl c17) ?_
            refine wsk (gn rfl c17) ?_
            refine wpp rfl (p_pick1 c17 rfl rfl) ?_
            obtain rfl := someS h
            exact (canon0 ⟨rfl, rfl, trivial⟩ ⟨rfl, trivial⟩ rfl rfl)
          · skip
            refine wpp (gy rfl c17) rfl ?_
            refine wpp (gy rfl c17) rfl ?_
            refine wpp (gy rfl c17) rfl ?_
            refine wpp rfl (p_pick0 c17 rfl rfl) ?_
            obtain rfl := someS h
            exact (canon0 ⟨rfl, rfl, trivial⟩ ⟨rfl, trivial⟩ rfl rfl)
        · clear hg16
          rcases bifS h with ⟨c18, h⟩ | ⟨c18, h⟩
          · refine xcT rfl c18 ?_
            refine xseq ?_
            refine xreg ?_
            refine wpp rfl rfl ?_
            obtain rfl := someS h
            refine xret ?_
            exact ⟨nofun, rfl, rfl⟩
          · refine xcF rfl c18 ?_
            refine xskip ?_
            refine xseq ?_
            obtain ⟨g19, hg19, h⟩ := bindS h
            refine xseg ⟨ofL [(1, .ptr 1 0 0), (101, .bool g19)], ofL [(1, ⟨5, false, [e_api_Rule a0]⟩)]⟩ ?_ ?_
            · have h := hg19
              refine xreg ?_
              refine wpp rfl rfl ?_
              refine wpp rfl rfl ?_
              refine wpp rfl rfl ?_
              refine wpp rfl rfl ?_
              refine wpp rfl rfl ?_
              rcases bifS h with ⟨c20, h⟩ | ⟨c20, h⟩
              · skip
                refine wsk (gn rfl c20) ?_
                refine wsk (gn rfl c20) ?_
                refine wsk (gn rfl c20) ?_
                refine wsk (gn rfl c20) ?_
                refine wpp rfl (p_pick1 c20 rfl rfl) ?_
                obtain rfl := someS h
                exact (canon0 ⟨rfl, rfl, trivial⟩ ⟨rfl, trivial⟩ rfl rfl)
              · skip
                refine wpp (gy rfl c20) rfl ?_
                refine wpp (gy rfl c20) rfl ?_
                obtain ⟨x99, hx99, h⟩ := bindS h
                refine wpp (gy rfl c20) (p_take hx99 rfl rfl) ?_
                refine wpp (gy rfl c20) rfl ?_
                refine wpp rfl (p_pick0 c20 rfl rfl) ?_
                obtain rfl := someS h
                exact (canon0 ⟨rfl, rfl, trivial⟩ ⟨rfl, trivial⟩ rfl rfl)
            · clear hg19
              rcases bifS h with ⟨c21, h⟩ | ⟨c21, h⟩
              · refine xcT rfl c21 ?_
                refine xseq ?_
                refine xreg ?_
                refine wpp rfl rfl ?_
                obtain rfl := someS h
                refine xret ?_
                exact ⟨nofun, rfl, rfl⟩
              · refine xcF rfl c21 ?_
                refine xskip ?_
                refine xseq ?_
                refine xreg ?_
                refine wpp rfl rfl ?_
                refine wpp rfl rfl ?_
                obtain ⟨x105, hx105, h⟩ := bindS h
                refine wpp rfl (p_drop hx105 rfl rfl) ?_
                obtain ⟨x106, hx106, h⟩ := bindS h
                refine woo rfl (ocal (sat_prefectref4_Parse N _ _ hx106) rfl (.cons sub_rfl .nil) rfl rfl rfl) ?_
                refine wpp rfl rfl ?_
                refine wpp rfl rfl ?_
                refine wpp rfl rfl ?_
                refine wpp rfl rfl ?_
                refine wpp rfl rfl ?_
                obtain ⟨g22, hg22, h⟩ := bindS h
                refine xseg ⟨ofL [(2, .bool g22)], ofL []⟩ ?_ ?_
                · have h := hg22
                  refine xregd ?_
                  refine wdp rfl rfl ?_
                  refine wdp rfl rfl ?_
                  rcases bifS h with ⟨c23, h⟩ | ⟨c23, h⟩
                  · skip
                    refine wdp (gy rfl c23) rfl ?_
                    obtain ⟨x112, hx112, h⟩ := bindS h
                    refine wdN (gy rfl c23) (pcal (sat_prefectref4_Print N _ _ hx112) rfl (.cons sub_rfl .nil) rfl rfl rfl) no_fresh ?_
                    refine wdp (gy rfl c23) rfl ?_
                    refine wdp (gy rfl c23) rfl ?_
                    obtain ⟨x115, hx115, h⟩ := bindS h
                    refine wdp (gy rfl c23) (p_drop hx115 rfl rfl) ?_
                    refine wdp (gy rfl c23) rfl ?_
                    refine wdp rfl (p_pick1 c23 rfl rfl) ?_
                    refine wdp rfl rfl ?_
                    obtain rfl := someS h
                    exact (canon0 ⟨rfl, trivial⟩ trivial rfl rfl)
                  · skip
                    refine wdn (gn rfl c23) ?_
                    refine wdn (gn rfl c23) ?_
                    refine wdn (gn rfl c23) ?_
                    refine wdn (gn rfl c23) ?_
                    refine wdn (gn rfl c23) ?_
                    refine wdn (gn rfl c23) ?_
                    refine wdp rfl (p_pick0 c23 rfl rfl) ?_
                    refine wdp rfl rfl ?_
                    obtain rfl := someS h
                    exact (canon0 ⟨rfl, trivial⟩ trivial rfl rfl)
                · clear hg22
                  obtain rfl := someS h
                  refine xret ?_
                  exact ⟨nofun, rfl, rfl⟩
    · rintro e s ⟨rfl, rfl⟩
      obtain rfl := someS h
      exact ⟨nofun, rfl, rfl⟩
  · rintro e s ⟨rfl, rfl⟩
    obtain rfl := someS h
    exact ⟨nofun, rfl, rfl⟩
end Go.Gp
end
section
set_option linter.unusedVariables false
set_option linter.unusedSimpArgs false
set_option maxRecDepth 4000
namespace Go.Gp
open Go.Vd Go.RowKit Go.Proofs
def k21_l28 : IC := (.seq (.seq (.reg [⟨(some 23), (.mov (.t 4)), none⟩, ⟨(some 24), (.fda 4 (.t 1)), none⟩, ⟨(some 25), (.load 1 false (.t 24)), none⟩, ⟨(some 26), (.len false (.t 25)), none⟩, ⟨(some 27), (.bin .lss (.t 23) (.t 26)), none⟩]) (.cond (.t 27) .skip (.exit 0))) (.seq (.block 1 (.seq (.seq (.reg [⟨(some 30), (.mov (.t 4)), none⟩, ⟨(some 31), (.bin .gtr (.t 30) (.c (.int .i64 0))), none⟩]) (.cond (.t 31) (.reg [⟨(some 32), (.mov (.t 3)), none⟩, ⟨(some 33), (.bin .add (.t 32) (.c (.str [44]))), none⟩, ⟨(some 3), (.mov (.t 33)), none⟩]) .skip)) (.reg [⟨(some 34), (.mov (.t 3)), none⟩, ⟨(some 35), (.fda 4 (.t 1)), none⟩, ⟨(some 36), (.load 1 false (.t 35)), none⟩, ⟨(some 37), (.mov (.t 4)), none⟩, ⟨(some 38), (.ixp 1 (.t 36) (.t 37)), none⟩, ⟨(some 39), (.load 1 false (.t 38)), none⟩, ⟨(some 40), (.bin .add (.t 34) (.t 39)), none⟩, ⟨(some 3), (.mov (.t 40)), none⟩]))) (.reg [⟨(some 28), (.mov (.t 4)), none⟩, ⟨(some 29), (.bin .add (.t 28) (.c (.int .i64 1))), none⟩, ⟨(some 4), (.mov (.t 29)), none⟩])))
def k21 : IC := (.seq (.reg [⟨(some 1), (.box 41 (.t 0)), none⟩, ⟨(some 2), (.mov (.c (.str []))), none⟩]) (.seq (.reg [⟨(some 3), (.mov (.c (.str [103, 114, 97, 110, 116, 32]))), none⟩]) (.seq (.seq (.reg [⟨(some 5), (.fda 0 (.t 1)), none⟩, ⟨(some 6), (.load 1 false (.t 5)), none⟩]) (.cond (.t 6) (.reg [⟨(some 3), (.mov (.c (.str [100, 101, 110, 121, 32]))), none⟩]) .skip)) (.seq (.reg [⟨(some 7), (.mov (.t 3)), none⟩, ⟨(some 8), (.fda 1 (.t 1)), none⟩, ⟨(some 9), (.load 1 false (.t 8)), none⟩, ⟨(some 10), (.bin .add (.t 7) (.t 9)), none⟩, ⟨(some 3), (.mov (.t 10)), none⟩]) (.seq (.seq (.reg [⟨(some 11), (.fda 2 (.t 1)), none⟩, ⟨(some 12), (.load 1 false (.t 11)), none⟩]) (.cond (.t 12) (.reg [⟨(some 13), (.mov (.t 3)), none⟩, ⟨(some 14), (.bin .add (.t 13) (.c (.str [32, 115, 117, 98, 32]))), none⟩, ⟨(some 3), (.mov (.t 14)), none⟩]) (.reg [⟨(some 15), (.mov (.t 3)), none⟩, ⟨(some 16), (.bin .add (.t 15) (.c (.str [32, 98, 97, 115, 101, 32]))), none⟩, ⟨(some 3), (.mov (.t 16)), none⟩]))) (.seq (.seq (.reg [⟨(some 17), (.fda 4 (.t 1)), none⟩, ⟨(some 18), (.load 1 false (.t 17)), none⟩, ⟨(some 19), (.len false (.t 18)), none⟩, ⟨(some 20), (.bin .eql (.t 19) (.c (.int .i64 0))), none⟩]) (.cond (.t 20) (.reg [⟨(some 21), (.mov (.t 3)), none⟩, ⟨(some 22), (.bin .add (.t 21) (.c (.str [42]))), none⟩, ⟨(some 3), (.mov (.t 22)), none⟩]) .skip)) (.seq (.seq (.reg [⟨(some 4), (.mov (.c (.int .i64 0))), none⟩]) (.block 0 (.loop k21_l28))) (.seq (.reg [⟨(some 41), (.mov (.t 3)), none⟩, ⟨(some 42), (.bin .add (.t 41) (.c (.str [32]))), none⟩, ⟨(some 43), (.fda 3 (.t 1)), none⟩, ⟨(some 44), (.load 1 false (.t 43)), none⟩, ⟨(some 45), (.bin .add (.t 42) (.t 44)), none⟩, ⟨(some 2), (.mov (.t 45)), none⟩]) .ret))))))))
theorem k21_cf : cfunc Tryd.prog Tryd.f21 = some ⟨46, k21, [(.tmp 2)]⟩ := by kernel_rfl
theorem w_prefectref17_Print_l28 (N : Nat) (a0 : api_Rule) : ∀ (n : Nat) (x : List UInt8 × Int) (y : List UInt8), prefectref17_Print_l28 N a0 n x = some y → WX Tryd.prog (fun _ => false) (.loop k21_l28) ((fun (x : List UInt8 × Int) => ⟨ofL [(1, .ptr 1 0 0), (3, .str x.1), (4, .int .i64 x.2)], ofL [(1, ⟨5, false, [e_api_Rule a0]⟩)]⟩) x) ((fun y e s => e = .exit 0 ∧ s = ⟨ofL [(1, .ptr 1 0 0), (3, .str y)], ofL [(1, ⟨5, false, [e_api_Rule a0]⟩)]⟩ : (List UInt8) → Xt → St → Prop) y) := by
  refine xloop (fun (x : List UInt8 × Int) => ⟨ofL [(1, .ptr 1 0 0), (3, .str x.1), (4, .int .i64 x.2)], ofL [(1, ⟨5, false, [e_api_Rule a0]⟩)]⟩) _ (prefectref17_Print_l28 N a0) (prefectref17_Print_l28_b N a0) (fun _ => rfl) (fun _ _ => rfl) ?_
  rintro rec ⟨v3l28, v4l28⟩ y h
  refine xseq ?_
  refine xseq ?_
  refine xreg ?_
  refine wpp rfl rfl ?_
  refine wpp rfl rfl ?_
  refine wpp rfl rfl ?_
  refine wpp rfl (p_lens rfl) ?_
  refine wpp rfl rfl ?_
  rcases bifS h with ⟨c1, h⟩ | ⟨c1, h⟩
  · refine xcT rfl c1 ?_
    refine xskip ?_
    refine xseq ?_
    refine xblk ?_
    refine xjoin (fun (x : List UInt8) => ⟨ofL [(1, .ptr 1 0 0), (3, .str x), (4, .int .i64 v4l28)], ofL [(1, ⟨5, false, [e_api_Rule a0]⟩)]⟩) (fun x => prefectref17_Print_j37 a0 v4l28 rec x = some y) ?_ ?_
    · rintro v3j37 h
      refine xreg ?_
      refine wpp rfl rfl ?_
      refine wpp rfl rfl ?_
      refine wpp rfl rfl ?_
      refine wpp rfl rfl ?_
      obtain ⟨x38, hx38, h⟩ := bindS h
      refine wpp rfl (p_ixs (cs := [.str x38]) hx38 rfl rfl rfl) ?_
      refine wpp rfl rfl ?_
      obtain ⟨x40, hx40, h⟩ := bindS h
      refine wpp rfl (p_cat hx40 rfl rfl) ?_
      refine wpp rfl rfl ?_
      refine xreg ?_
      refine wpp rfl rfl ?_
      refine wpp (p := .int .i64 (w64 (v4l28 + (1 : Int)))) rfl rfl ?_
      refine wpp rfl rfl ?_
      exact ⟨(x40, (w64 (v4l28 + (1 : Int)))), (canon0 ⟨rfl, rfl, rfl, trivial⟩ ⟨rfl, trivial⟩ rfl rfl), h⟩
    · skip
      refine xseq ?_
      refine xreg ?_
      refine wpp rfl rfl ?_
      refine wpp rfl rfl ?_
      rcases bifS h with ⟨c2, h⟩ | ⟨c2, h⟩
      · refine xcT rfl c2 ?_
        refine xreg ?_
        refine wpp rfl rfl ?_
        obtain ⟨x33, hx33, h⟩ := bindS h
        refine wpp rfl (p_cat hx33 rfl rfl) ?_
        refine wpp rfl rfl ?_
        exact ⟨x33, (canon0 ⟨rfl, rfl, rfl, trivial⟩ ⟨rfl, trivial⟩ rfl rfl), h⟩
      · refine xcF rfl c2 ?_
        refine xskip ?_
        exact ⟨v3l28, (canon0 ⟨rfl, rfl, rfl, trivial⟩ ⟨rfl, trivial⟩ rfl rfl), h⟩
  · refine xcF rfl c1 ?_
    obtain rfl := someS h
    exact xexitn (st1 := ⟨ofL [(1, .ptr 1 0 0), (3, .str v3l28)], ofL [(1, ⟨5, false, [e_api_Rule a0]⟩)]⟩) (canon0 ⟨rfl, rfl, trivial⟩ ⟨rfl, trivial⟩ rfl rfl) ⟨rfl, rfl⟩
theorem sat_prefectref17_Print (N : Nat) (a0 : api_Rule) (r : List UInt8) (h : prefectref17_Print N a0 = some r) : Sat Tryd.prog 21 noRows [e_api_Rule a0] (.str r) noRows := by
  refine xsat mixed Tryd.func21 k21_cf (rs := [.str r]) rfl rfl ?_
  refine xseq ?_
  refine xreg ?_
  refine woo rfl (obox 1 rfl rfl rfl rfl rfl) ?_
  refine wpp rfl rfl ?_
  refine xseq ?_
  refine xreg ?_
  refine wpp rfl rfl ?_
  refine xjoin (fun (x : List UInt8) => ⟨ofL [(1, .ptr 1 0 0), (3, .str x)], ofL [(1, ⟨5, false, [e_api_Rule a0]⟩)]⟩) (fun x => prefectref17_Print_j4 a0 N x = some r) ?_ ?_
  · rintro v3j4 h
    refine xseq ?_
    refine xreg ?_
    refine wpp rfl rfl ?_
    refine wpp rfl rfl ?_
    refine wpp rfl rfl ?_
    obtain ⟨x10, hx10, h⟩ := bindS h
    refine wpp rfl (p_cat hx10 rfl rfl) ?_
    refine wpp rfl rfl ?_
    refine xjoin (fun (x : List UInt8) => ⟨ofL [(1, .ptr 1 0 0), (3, .str x)], ofL [(1, ⟨5, false, [e_api_Rule a0]⟩)]⟩) (fun x => prefectref17_Print_j12 a0 N x = some r) ?_ ?_
    · rintro v3j12 h
      refine xjoin (fun (x : List UInt8) => ⟨ofL [(1, .ptr 1 0 0), (3, .str x)], ofL [(1, ⟨5, false, [e_api_Rule a0]⟩)]⟩) (fun x => prefectref17_Print_j18 a0 N x = some r) ?_ ?_
      · rintro v3j18 h
        refine xseq ?_
        refine xseq ?_
        refine xreg ?_
        refine wpp rfl rfl ?_
        refine xblk ?_
        obtain ⟨y3, hy3, h⟩ := bindS h
        refine xloopU (st1 := ⟨ofL [(1, .ptr 1 0 0), (3, .str v3j18), (4, .int .i64 0)], ofL [(1, ⟨5, false, [e_api_Rule a0]⟩)]⟩) (canon0 ⟨rfl, rfl, rfl, trivial⟩ ⟨rfl, trivial⟩ rfl rfl) (w_prefectref17_Print_l28 N a0 N _ _ hy3) ?_
        rintro e s ⟨rfl, rfl⟩
        refine xseq ?_
        refine xreg ?_
        refine wpp rfl rfl ?_
        obtain ⟨x42, hx42, h⟩ := bindS h
        refine wpp rfl (p_cat hx42 rfl rfl) ?_
        refine wpp rfl rfl ?_
        refine wpp rfl rfl ?_
        obtain ⟨x45, hx45, h⟩ := bindS h
        refine wpp rfl (p_cat hx45 rfl rfl) ?_
        refine wpp rfl rfl ?_
        obtain rfl := someS h
        refine xret ?_
        exact ⟨nofun, rfl, rfl⟩
      · skip
        refine xseq ?_
        refine xreg ?_
        refine wpp rfl rfl ?_
        refine wpp rfl rfl ?_
        refine wpp rfl (p_lens rfl) ?_
        refine wpp rfl rfl ?_
        rcases bifS h with ⟨c4, h⟩ | ⟨c4, h⟩
        · refine xcT rfl c4 ?_
          refine xreg ?_
          refine wpp rfl rfl ?_
          obtain ⟨x22, hx22, h⟩ := bindS h
          refine wpp rfl (p_cat hx22 rfl rfl) ?_
          refine wpp rfl rfl ?_
          exact ⟨x22, (canon0 ⟨rfl, rfl, trivial⟩ ⟨rfl, trivial⟩ rfl rfl), h⟩
        · refine xcF rfl c4 ?_
          refine xskip ?_
          exact ⟨v3j12, (canon0 ⟨rfl, rfl, trivial⟩ ⟨rfl, trivial⟩ rfl rfl), h⟩
    · skip
      refine xseq ?_
      refine xreg ?_
      refine wpp rfl rfl ?_
      refine wpp rfl rfl ?_
      rcases bifS h with ⟨c5, h⟩ | ⟨c5, h⟩
      · refine xcT rfl c5 ?_
        refine xreg ?_
        refine wpp rfl rfl ?_
        obtain ⟨x14, hx14, h⟩ := bindS h
        refine wpp rfl (p_cat hx14 rfl rfl) ?_
        refine wpp rfl rfl ?_
        exact ⟨x14, (canon0 ⟨rfl, rfl, trivial⟩ ⟨rfl, trivial⟩ rfl rfl), h⟩
      · refine xcF rfl c5 ?_
        refine xreg ?_
        refine wpp rfl rfl ?_
        obtain ⟨x16, hx16, h⟩ := bindS h
        refine wpp rfl (p_cat hx16 rfl rfl) ?_
        refine wpp rfl rfl ?_
        exact ⟨x16, (canon0 ⟨rfl, rfl, trivial⟩ ⟨rfl, trivial⟩ rfl rfl), h⟩
  · skip
    refine xseq ?_
    refine xreg ?_
    refine wpp rfl rfl ?_
    refine wpp rfl rfl ?_
    rcases bifS h with ⟨c6, h⟩ | ⟨c6, h⟩
    · refine xcT rfl c6 ?_
      refine xreg ?_
      refine wpp rfl rfl ?_
      exact ⟨([100, 101, 110, 121, 32] : List UInt8), (canon0 ⟨rfl, rfl, trivial⟩ ⟨rfl, trivial⟩ rfl rfl), h⟩
    · refine xcF rfl c6 ?_
      refine xskip ?_
      exact ⟨([103, 114, 97, 110, 116, 32] : List UInt8), (canon0 ⟨rfl, rfl, trivial⟩ ⟨rfl, trivial⟩ rfl rfl), h⟩
end Go.Gp
end
section
set_option linter.unusedVariables false
set_option linter.unusedSimpArgs false
set_option maxRecDepth 4000
namespace Go.Gp
open Go.Vd Go.RowKit Go.Proofs
def k36_l6 : IC := (.seq (.seq (.reg [⟨(some 6), (.mov (.t 5)), none⟩, ⟨(some 7), (.mov (.t 0)), none⟩, ⟨(some 8), (.len true (.t 7)), none⟩, ⟨(some 9), (.bin .lss (.t 6) (.t 8)), none⟩]) (.cond (.t 9) .skip (.exit 0))) (.seq (.block 1 (.seq (.reg [⟨(some 12), (.mov (.t 0)), none⟩, ⟨(some 13), (.mov (.t 5)), none⟩, ⟨(some 14), (.idxs (.t 12) (.t 13)), none⟩, ⟨(some 15), (.bin .eql (.t 14) (.c (.int .u8 32))), none⟩]) (.cond (.t 15) (.seq (.regd 10 [⟨(some 16), (.mov (.t 0)), none⟩, ⟨(some 17), (.mov (.t 5)), none⟩, ⟨(some 18), (.slcs (.t 16) none (some (.t 17))), none⟩, ⟨(some 19), (.mov (.t 0)), none⟩, ⟨(some 20), (.mov (.t 5)), none⟩, ⟨(some 21), (.bin .add (.t 20) (.c (.int .i64 1))), none⟩, ⟨(some 22), (.slcs (.t 19) (some (.t 21)) none), none⟩, ⟨(some 2), (.mov (.t 18)), none⟩, ⟨(some 3), (.mov (.t 22)), none⟩, ⟨(some 4), (.mov (.c (.bool true))), none⟩]) .ret) .skip))) (.reg [⟨(some 10), (.mov (.t 5)), none⟩, ⟨(some 11), (.bin .add (.t 10) (.c (.int .i64 1))), none⟩, ⟨(some 5), (.mov (.t 11)), none⟩])))
def k36 : IC := (.seq (.reg [⟨(some 2), (.mov (.c (.str []))), none⟩, ⟨(some 3), (.mov (.c (.str []))), none⟩, ⟨(some 4), (.mov (.c (.bool false))), none⟩]) (.seq (.seq (.reg [⟨(some 5), (.mov (.c (.int .i64 0))), none⟩]) (.block 0 (.loop k36_l6))) (.seq (.reg [⟨(some 2), (.mov (.c (.str []))), none⟩, ⟨(some 3), (.mov (.c (.str []))), none⟩, ⟨(some 4), (.mov (.c (.bool false))), none⟩]) .ret)))
theorem k36_cf : cfunc Tryd.prog Tryd.f36 = some ⟨23, k36, [(.tmp 2), (.tmp 3), (.tmp 4)]⟩ := by kernel_rfl
theorem w_prefectref17_word_l6 (N : Nat) (a0 : List UInt8) : ∀ (n : Nat) (x : Int) (y : Unit ⊕ (List UInt8 × List UInt8 × Bool)), prefectref17_word_l6 N a0 n x = some y → WX Tryd.prog (fun _ => false) (.loop k36_l6) ((fun (x : Int) => ⟨ofL [(0, .str a0), (5, .int .i64 x)], ofL []⟩) x) ((Sum.elim (fun y e s => e = .exit 0 ∧ s = ⟨ofL [], ofL []⟩) (fun y e s => e = .ret ∧ s = ⟨ofL [(2, .str y.1), (3, .str y.2.1), (4, .bool y.2.2)], ofL []⟩) : (Unit ⊕ (List UInt8 × List UInt8 × Bool)) → Xt → St → Prop) y) := by
  refine xloop (fun (x : Int) => ⟨ofL [(0, .str a0), (5, .int .i64 x)], ofL []⟩) _ (prefectref17_word_l6 N a0) (prefectref17_word_l6_b N a0) (fun _ => rfl) (fun _ _ => rfl) ?_
  rintro rec v5l6 y h
  refine xseq ?_
  refine xseq ?_
  refine xreg ?_
  refine wpp rfl rfl ?_
  refine wpp rfl rfl ?_
  refine wpp rfl rfl ?_
  refine wpp rfl rfl ?_
  rcases bifS h with ⟨c1, h⟩ | ⟨c1, h⟩
  · refine xcT rfl c1 ?_
    refine xskip ?_
    refine xseq ?_
    refine xblk ?_
    refine xseq ?_
    refine xreg ?_
    refine wpp rfl rfl ?_
    refine wpp rfl rfl ?_
    obtain ⟨x14, hx14, h⟩ := bindS h
    refine wpp rfl (p_idx hx14 rfl rfl) ?_
    refine wpp (p := .bool (((x14).toNat : Int) == (32 : Int))) rfl rfl ?_
    rcases bifS h with ⟨c2, h⟩ | ⟨c2, h⟩
    · refine xcT rfl c2 ?_
      refine xseq ?_
      refine xregd ?_
      refine wdp rfl rfl ?_
      refine wdp rfl rfl ?_
      obtain ⟨x18, hx18, h⟩ := bindS h
      refine wdp rfl (p_take hx18 rfl rfl) ?_
      refine wdp rfl rfl ?_
      refine wdp rfl rfl ?_
      refine wdp (p := .int .i64 (w64 (v5l6 + (1 : Int)))) rfl rfl ?_
      obtain ⟨x22, hx22, h⟩ := bindS h
      refine wdp rfl (p_drop hx22 rfl rfl) ?_
      refine wdp rfl rfl ?_
      refine wdp rfl rfl ?_
      refine wdp rfl rfl ?_
      obtain rfl := someS h
      exact xretn (st1 := ⟨ofL [(2, .str x18), (3, .str x22), (4, .bool true)], ofL []⟩) (canon0 ⟨rfl, rfl, rfl, trivial⟩ trivial rfl rfl) ⟨rfl, rfl⟩
    · refine xcF rfl c2 ?_
      refine xskip ?_
      refine xreg ?_
      refine wpp rfl rfl ?_
      refine wpp (p := .int .i64 (w64 (v5l6 + (1 : Int)))) rfl rfl ?_
      refine wpp rfl rfl ?_
      exact ⟨(w64 (v5l6 + (1 : Int))), (canon0 ⟨rfl, rfl, trivial⟩ trivial rfl rfl), h⟩
  · refine xcF rfl c1 ?_
    obtain rfl := someS h
    exact xexitn (st1 := ⟨ofL [], ofL []⟩) (canon0 trivial trivial rfl rfl) ⟨rfl, rfl⟩
theorem sat_prefectref17_word (N : Nat) (a0 : List UInt8) (r : List UInt8 × List UInt8 × Bool) (h : prefectref17_word N a0 = some r) : Sat Tryd.prog 36 noRows [.str a0] (.tup [.str r.1, .str r.2.1, .bool r.2.2]) noRows := by
  refine xsat mixed Tryd.func36 k36_cf (rs := [.str r.1, .str r.2.1, .bool r.2.2]) rfl rfl ?_
  refine xseq ?_
  refine xreg ?_
  refine wpp rfl rfl ?_
  refine wpp rfl rfl ?_
  refine wpp rfl rfl ?_
  refine xseq ?_
  refine xseq ?_
  refine xreg ?_
  refine wpp rfl rfl ?_
  refine xblk ?_
  obtain ⟨y3, hy3, h⟩ := bindS h
  refine xloopU (st1 := ⟨ofL [(0, .str a0), (5, .int .i64 0)], ofL []⟩) (canon0 ⟨rfl, rfl, trivial⟩ trivial rfl rfl) (w_prefectref17_word_l6 N a0 N _ _ hy3) ?_
  clear hy3
  rcases y3 with y3 | y3
  · rintro e s ⟨rfl, rfl⟩
    refine xseq ?_
    refine xreg ?_
    refine wpp rfl rfl ?_
    refine wpp rfl rfl ?_
    refine wpp rfl rfl ?_
    obtain rfl := someS h
    refine xret ?_
    exact ⟨nofun, rfl, rfl⟩
  · rintro e s ⟨rfl, rfl⟩
    obtain rfl := someS h
    exact ⟨nofun, rfl, rfl⟩
end Go.Gp
end
section
set_option linter.unusedVariables false
set_option linter.unusedSimpArgs false
set_option maxRecDepth 4000
namespace Go.Gp
open Go.Vd Go.RowKit Go.Proofs
def k37_l10 : IC := (.seq (.seq (.reg [⟨(some 6), (.mov (.t 5)), none⟩, ⟨(some 7), (.mov (.t 0)), none⟩, ⟨(some 8), (.len true (.t 7)), none⟩, ⟨(some 9), (.bin .leq (.t 6) (.t 8)), none⟩]) (.cond (.t 9) .skip (.exit 0))) (.seq (.block 1 (.seq (.reg [⟨(some 12), (.mov (.t 5)), none⟩, ⟨(some 13), (.mov (.t 0)), none⟩, ⟨(some 14), (.len true (.t 13)), none⟩, ⟨(some 15), (.bin .eql (.t 12) (.t 14)), none⟩, ⟨(some 16), (.mov (.t 15)), none⟩, ⟨(some 17), (.mov (.t 0)), (some (16, false))⟩, ⟨(some 18), (.mov (.t 5)), (some (16, false))⟩, ⟨(some 19), (.idxs (.t 17) (.t 18)), (some (16, false))⟩, ⟨(some 20), (.bin .eql (.t 19) (.c (.int .u8 44))), (some (16, false))⟩, ⟨(some 21), (.pick (.t 16) (.c (.bool true)) (.t 20)), none⟩]) (.cond (.t 21) (.seq (.reg [⟨(some 22), (.mov (.t 3)), none⟩, ⟨(some 23), (.mov (.t 0)), none⟩, ⟨(some 24), (.mov (.t 4)), none⟩, ⟨(some 25), (.mov (.t 5)), none⟩, ⟨(some 26), (.slcs (.t 23) (some (.t 24)) (some (.t 25))), none⟩, ⟨(some 27), (.bsl 1 [(.t 26)]), none⟩, ⟨(some 28), (.app 9 1 16 (.t 22) (.t 27)), none⟩, ⟨(some 3), (.mov (.t 28)), none⟩]) (.reg [⟨(some 29), (.mov (.t 5)), none⟩, ⟨(some 30), (.bin .add (.t 29) (.c (.int .i64 1))), none⟩, ⟨(some 4), (.mov (.t 30)), none⟩])) .skip))) (.reg [⟨(some 10), (.mov (.t 5)), none⟩, ⟨(some 11), (.bin .add (.t 10) (.c (.int .i64 1))), none⟩, ⟨(some 5), (.mov (.t 11)), none⟩])))
def k37 : IC := (.seq (.reg [⟨(some 2), (.mov (.c .nl)), none⟩]) (.seq (.reg [⟨(some 3), (.mov (.c .nl)), none⟩]) (.seq (.reg [⟨(some 4), (.mov (.c (.int .i64 0))), none⟩]) (.seq (.seq (.reg [⟨(some 5), (.mov (.c (.int .i64 0))), none⟩]) (.block 0 (.loop k37_l10))) (.seq (.reg [⟨(some 31), (.mov (.t 3)), none⟩, ⟨(some 2), (.mov (.t 31)), none⟩]) .ret)))))
theorem k37_cf : cfunc Tryd.prog Tryd.f37 = some ⟨32, k37, [(.tmp 2)]⟩ := by kernel_rfl
theorem w_prefectref17_split_l10 (N : Nat) (a0 : List UInt8) : ∀ (n : Nat) (x : Int × Int × List (List UInt8)) (y : List (List UInt8)), prefectref17_split_l10 N a0 n x = some y → WX Tryd.prog (fun _ => false) (.loop k37_l10) ((fun (x : Int × Int × List (List UInt8)) => ⟨ofL [(0, .str a0), (3, .slr 1003 0 x.2.2.length), (4, .int .i64 x.1), (5, .int .i64 x.2.1)], ofL [(1003, ⟨1, true, List.map PV.str x.2.2⟩)]⟩) x) ((fun y e s => e = .exit 0 ∧ s = ⟨ofL [(3, .slr 1003 0 y.length)], ofL [(1003, ⟨1, true, List.map PV.str y⟩)]⟩ : (List (List UInt8)) → Xt → St → Prop) y) := by
  refine xloop (fun (x : Int × Int × List (List UInt8)) => ⟨ofL [(0, .str a0), (3, .slr 1003 0 x.2.2.length), (4, .int .i64 x.1), (5, .int .i64 x.2.1)], ofL [(1003, ⟨1, true, List.map PV.str x.2.2⟩)]⟩) _ (prefectref17_split_l10 N a0) (prefectref17_split_l10_b N a0) (fun _ => rfl) (fun _ _ => rfl) ?_
  rintro rec ⟨v4l10, v5l10, r1003l10⟩ y h
  refine xseq ?_
  refine xseq ?_
  refine xreg ?_
  refine wpp rfl rfl ?_
  refine wpp rfl rfl ?_
  refine wpp rfl rfl ?_
  refine wpp rfl rfl ?_
  rcases bifS h with ⟨c1, h⟩ | ⟨c1, h⟩
  · refine xcT rfl c1 ?_
    refine xskip ?_
    refine xjoin (fun (x : Int × List (List UInt8)) => ⟨ofL [(0, .str a0), (3, .slr 1003 0 x.2.length), (4, .int .i64 x.1), (5, .int .i64 v5l10)], ofL [(1003, ⟨1, true, List.map PV.str x.2⟩)]⟩) (fun x => prefectref17_split_j17 v5l10 rec x.1 x.2 = some y) ?_ ?_
    · rintro ⟨v4j17, r1003j17⟩ h
      refine xreg ?_
      refine wpp rfl rfl ?_
      refine wpp (p := .int .i64 (w64 (v5l10 + (1 : Int)))) rfl rfl ?_
      refine wpp rfl rfl ?_
      exact ⟨(v4j17, (w64 (v5l10 + (1 : Int))), r1003j17), (canon0 ⟨rfl, rfl, rfl, rfl, trivial⟩ ⟨rfl, trivial⟩ rfl rfl), h⟩
    · skip
      refine xblk ?_
      obtain ⟨g2, hg2, h⟩ := bindS h
      refine xseg ⟨ofL [(0, .str a0), (3, .slr 1003 0 r1003l10.length), (4, .int .i64 v4l10), (5, .int .i64 v5l10), (21, .bool g2)], ofL [(1003, ⟨1, true, List.map PV.str r1003l10⟩)]⟩ ?_ ?_
      · have h := hg2
        refine xreg ?_
        refine wpp rfl rfl ?_
        refine wpp rfl rfl ?_
        refine wpp rfl rfl ?_
        refine wpp rfl rfl ?_
        refine wpp rfl rfl ?_
        rcases bifS h with ⟨c3, h⟩ | ⟨c3, h⟩
        · skip
          refine wsk (gn rfl c3) ?_
          refine wsk (gn rfl c3) ?_
          refine wsk (gn rfl c3) ?_
          refine wsk (gn rfl c3) ?_
          refine wpp rfl (p_pick1 c3 rfl rfl) ?_
          obtain rfl := someS h
          exact (canon0 ⟨rfl, rfl, rfl, rfl, rfl, trivial⟩ ⟨rfl, trivial⟩ rfl rfl)
        · skip
          refine wpp (gy rfl c3) rfl ?_
          refine wpp (gy rfl c3) rfl ?_
          obtain ⟨x19, hx19, h⟩ := bindS h
          refine wpp (gy rfl c3) (p_idx hx19 rfl rfl) ?_
          refine wpp (p := .bool (((x19).toNat : Int) == (44 : Int))) (gy rfl c3) rfl ?_
          refine wpp rfl (p_pick0 c3 rfl rfl) ?_
          obtain rfl := someS h
          exact (canon0 ⟨rfl, rfl, rfl, rfl, rfl, trivial⟩ ⟨rfl, trivial⟩ rfl rfl)
      · clear hg2
        rcases bifS h with ⟨c4, h⟩ | ⟨c4, h⟩
        · refine xcT rfl c4 ?_
          refine xseq ?_
          refine xreg ?_
          refine wpp rfl rfl ?_
          refine wpp rfl rfl ?_
          refine wpp rfl rfl ?_
          refine wpp rfl rfl ?_
          obtain ⟨x26, hx26, h⟩ := bindS h
          refine wpp rfl (p_cut hx26 rfl rfl rfl) ?_
          refine woo rfl (obsl 27 rfl rfl rfl) ?_
          obtain ⟨x28, hx28, h⟩ := bindS h
          refine wapp (f := PV.str) 28 hx28 rfl rfl rfl rfl rfl (el_row rfl (full_row (f := PV.str) (l := [x26]))) rfl rfl rfl rfl ?_
          refine wpp rfl rfl ?_
          refine xreg ?_
          refine wpp rfl rfl ?_
          refine wpp (p := .int .i64 (w64 (v5l10 + (1 : Int)))) rfl rfl ?_
          refine wpp rfl rfl ?_
          exact ⟨((w64 (v5l10 + (1 : Int))), x28), (Norm.trans (rename 28 1003 rfl rfl) (canon0 ⟨rfl, rfl, rfl, rfl, trivial⟩ ⟨rfl, trivial⟩ rfl rfl)), h⟩
        · refine xcF rfl c4 ?_
          refine xskip ?_
          exact ⟨(v4l10, r1003l10), (canon0 ⟨rfl, rfl, rfl, rfl, trivial⟩ ⟨rfl, trivial⟩ rfl rfl), h⟩
  · refine xcF rfl c1 ?_
    obtain rfl := someS h
    exact xexitn (st1 := ⟨ofL [(3, .slr 1003 0 r1003l10.length)], ofL [(1003, ⟨1, true, List.map PV.str r1003l10⟩)]⟩) (canon0 ⟨rfl, trivial⟩ ⟨rfl, trivial⟩ rfl rfl) ⟨rfl, rfl⟩
theorem sat_prefectref17_split (N : Nat) (a0 : List UInt8) (r : List (List UInt8)) (h : prefectref17_split N a0 = some r) : Sat Tryd.prog 37 noRows [.str a0] (.sl 1 (List.map PV.str r)) noRows := by
  refine xsat mixed Tryd.func37 k37_cf (rs := [.sl 1 (List.map PV.str r)]) rfl rfl ?_
  refine xseq ?_
  refine xreg ?_
  refine wpp rfl rfl ?_
  refine xseq ?_
  refine xreg ?_
  refine wpp rfl rfl ?_
  refine xseq ?_
  refine xreg ?_
  refine wpp rfl rfl ?_
  refine xseq ?_
  refine xseq ?_
  refine xreg ?_
  refine wpp rfl rfl ?_
  refine xblk ?_
  obtain ⟨y5, hy5, h⟩ := bindS h
  refine xloopU (st1 := ⟨ofL [(0, .str a0), (3, .slr 1003 0 ([].length)), (4, .int .i64 0), (5, .int .i64 0)], ofL [(1003, ⟨1, true, List.map PV.str []⟩)]⟩) (Norm.trans (nlrow 3 1003 1 true rfl rfl rfl) (canon0 ⟨rfl, rfl, rfl, rfl, trivial⟩ ⟨rfl, trivial⟩ rfl rfl)) (w_prefectref17_split_l10 N a0 N _ _ hy5) ?_
  rintro e s ⟨rfl, rfl⟩
  refine xseq ?_
  refine xreg ?_
  refine wpp rfl rfl ?_
  refine wpp rfl rfl ?_
  obtain rfl := someS h
  refine xretn (st1 := ⟨ofL [(2, .sl 1 (List.map PV.str y5))], ofL []⟩) (Norm.trans (Vd.freeze 1003 _ rfl rfl rfl) (Norm.trans (nsub 2 (sub_eq (congrArg (PV.sl 1) (full_row (f := PV.str) (l := y5)))) rfl) (canon0 ⟨rfl, trivial⟩ trivial rfl rfl))) ?_
  exact ⟨nofun, rfl, rfl⟩
end Go.Gp
end
section
set_option linter.unusedVariables false
set_option linter.unusedSimpArgs false
set_option maxRecDepth 4000
namespace Go.Gp
open Go.Vd Go.RowKit Go.Proofs
def k23 : IC := (.seq (.reg [⟨(some 2), (.box 41 (.c (.agg [(.bool false), (.str []), (.bool false), (.str []), .nl]))), none⟩, ⟨(some 3), (.mov (.c (.bool false))), none⟩]) (.seq (.reg [⟨(some 18), (.mov (.t 0)), none⟩, ⟨(some 19), (.call 36 [(.t 18)]), none⟩, ⟨(some 17), (.mov (.t 19)), none⟩, ⟨(some 20), (.ext 0 (.t 17)), none⟩, ⟨(some 21), (.ext 1 (.t 17)), none⟩, ⟨(some 22), (.ext 2 (.t 17)), none⟩, ⟨(some 4), (.mov (.t 20)), none⟩, ⟨(some 5), (.mov (.t 21)), none⟩, ⟨(some 6), (.mov (.t 22)), none⟩]) (.seq (.reg [⟨(some 24), (.mov (.t 5)), none⟩, ⟨(some 25), (.call 36 [(.t 24)]), none⟩, ⟨(some 23), (.mov (.t 25)), none⟩, ⟨(some 26), (.ext 0 (.t 23)), none⟩, ⟨(some 27), (.ext 1 (.t 23)), none⟩, ⟨(some 28), (.ext 2 (.t 23)), none⟩, ⟨(some 7), (.mov (.t 26)), none⟩, ⟨(some 8), (.mov (.t 27)), none⟩, ⟨(some 9), (.mov (.t 28)), none⟩]) (.seq (.reg [⟨(some 30), (.mov (.t 8)), none⟩, ⟨(some 31), (.call 36 [(.t 30)]), none⟩, ⟨(some 29), (.mov (.t 31)), none⟩, ⟨(some 32), (.ext 0 (.t 29)), none⟩, ⟨(some 33), (.ext 1 (.t 29)), none⟩, ⟨(some 34), (.ext 2 (.t 29)), none⟩, ⟨(some 10), (.mov (.t 32)), none⟩, ⟨(some 11), (.mov (.t 33)), none⟩, ⟨(some 12), (.mov (.t 34)), none⟩]) (.seq (.reg [⟨(some 36), (.mov (.t 11)), none⟩, ⟨(some 37), (.call 36 [(.t 36)]), none⟩, ⟨(some 35), (.mov (.t 37)), none⟩, ⟨(some 38), (.ext 0 (.t 35)), none⟩, ⟨(some 39), (.ext 1 (.t 35)), none⟩, ⟨(some 40), (.ext 2 (.t 35)), none⟩, ⟨(some 13), (.mov (.t 38)), none⟩, ⟨(some 14), (.mov (.t 39)), none⟩, ⟨(some 15), (.mov (.t 40)), none⟩]) (.seq (.reg [⟨(some 41), (.mov (.t 4)), none⟩, ⟨(some 42), (.bin .eql (.t 41) (.c (.str [100, 101, 110, 121]))), none⟩, ⟨(some 43), (.mov (.t 7)), none⟩, ⟨(some 44), (.mov (.t 10)), none⟩, ⟨(some 45), (.bin .eql (.t 44) (.c (.str [115, 117, 98]))), none⟩, ⟨(some 46), (.mov (.t 14)), none⟩, ⟨(some 47), (.build [(.bool false), (.str []), (.bool false), (.str []), .nl] [(0, (1, (.t 42))), (1, (1, (.t 43))), (2, (1, (.t 45))), (3, (1, (.t 46)))]), none⟩, ⟨(some 16), (.box 41 (.c (.agg [(.bool false), (.str []), (.bool false), (.str []), .nl]))), none⟩, ⟨none, (.store 5 (.t 16) (.t 47)), none⟩]) (.seq (.seq (.reg [⟨(some 48), (.mov (.t 13)), none⟩, ⟨(some 49), (.bin .neq (.t 48) (.c (.str [42]))), none⟩]) (.cond (.t 49) (.reg [⟨(some 50), (.mov (.t 13)), none⟩, ⟨(some 51), (.call 37 [(.t 50)]), none⟩, ⟨(some 52), (.fda 4 (.t 16)), none⟩, ⟨none, (.store 1 (.t 52) (.t 51)), none⟩]) .skip)) (.seq (.seq (.reg [⟨(some 53), (.mov (.t 6)), none⟩, ⟨(some 54), (.un .not (.t 53)), none⟩, ⟨(some 55), (.mov (.t 54)), none⟩, ⟨(some 56), (.mov (.t 9)), (some (55, false))⟩, ⟨(some 57), (.un .not (.t 56)), (some (55, false))⟩, ⟨(some 58), (.pick (.t 55) (.c (.bool true)) (.t 57)), none⟩, ⟨(some 59), (.mov (.t 58)), none⟩, ⟨(some 60), (.mov (.t 12)), (some (59, false))⟩, ⟨(some 61), (.un .not (.t 60)), (some (59, false))⟩, ⟨(some 62), (.pick (.t 59) (.c (.bool true)) (.t 61)), none⟩, ⟨(some 63), (.mov (.t 62)), none⟩, ⟨(some 64), (.mov (.t 15)), (some (63, false))⟩, ⟨(some 65), (.un .not (.t 64)), (some (63, false))⟩, ⟨(some 66), (.pick (.t 63) (.c (.bool true)) (.t 65)), none⟩, ⟨(some 67), (.mov (.t 66)), none⟩, ⟨(some 68), (.load 5 true (.t 16)), (some (67, false))⟩, ⟨(some 69), (.call 20 [(.t 68)]), (some (67, false))⟩, ⟨(some 70), (.un .not (.t 69)), (some (67, false))⟩, ⟨(some 71), (.pick (.t 67) (.c (.bool true)) (.t 70)), none⟩, ⟨(some 72), (.mov (.t 71)), none⟩, ⟨(some 73), (.load 5 true (.t 16)), (some (72, false))⟩, ⟨(some 74), (.call 21 [(.t 73)]), (some (72, false))⟩, ⟨(some 75), (.mov (.t 0)), (some (72, false))⟩, ⟨(some 76), (.bin .neq (.t 74) (.t 75)), (some (72, false))⟩, ⟨(some 77), (.pick (.t 72) (.c (.bool true)) (.t 76)), none⟩]) (.cond (.t 77) (.seq (.reg [⟨(some 78), (.build [(.bool false), (.str []), (.bool false), (.str []), .nl] []), none⟩, ⟨none, (.store 5 (.t 2) (.t 78)), none⟩, ⟨(some 3), (.mov (.c (.bool false))), none⟩]) .ret) .skip)) (.seq (.reg [⟨(some 79), (.load 5 true (.t 16)), none⟩, ⟨none, (.store 5 (.t 2) (.t 79)), none⟩, ⟨(some 3), (.mov (.c (.bool true))), none⟩]) .ret)))))))))
theorem k23_cf : cfunc Tryd.prog Tryd.f23 = some ⟨80, k23, [(.cell 5 true 2), (.tmp 3)]⟩ := by kernel_rfl
theorem sat_prefectref17_Parse (N : Nat) (a0 : List UInt8) (r : api_Rule × Bool) (h : prefectref17_Parse N a0 = some r) : Sat Tryd.prog 23 noRows [.str a0] (.tup [e_api_Rule r.1, .bool r.2]) noRows := by
  refine xsat mixed Tryd.func23 k23_cf (rs := [e_api_Rule r.1, .bool r.2]) rfl rfl ?_
  refine xseq ?_
  refine xreg ?_
  refine woo rfl (obox 2 rfl rfl rfl rfl rfl) ?_
  refine wpp rfl rfl ?_
  refine xseq ?_
  refine xreg ?_
  refine wpp rfl rfl ?_
  obtain ⟨x19, hx19, h⟩ := bindS h
  refine woo rfl (ocal (sat_prefectref17_word N _ _ hx19) rfl (.cons sub_rfl .nil) rfl rfl rfl) ?_
  refine wpp rfl rfl ?_
  refine wpp rfl rfl ?_
  refine wpp rfl rfl ?_
  refine wpp rfl rfl ?_
  refine wpp rfl rfl ?_
  refine wpp rfl rfl ?_
  refine wpp rfl rfl ?_
  refine xseq ?_
  refine xreg ?_
  refine wpp rfl rfl ?_
  obtain ⟨x25, hx25, h⟩ := bindS h
  refine woo rfl (ocal (sat_prefectref17_word N _ _ hx25) rfl (.cons sub_rfl .nil) rfl rfl rfl) ?_
  refine wpp rfl rfl ?_
  refine wpp rfl rfl ?_
  refine wpp rfl rfl ?_
  refine wpp rfl rfl ?_
  refine wpp rfl rfl ?_
  refine wpp rfl rfl ?_
  refine wpp rfl rfl ?_
  refine xseq ?_
  refine xreg ?_
  refine wpp rfl rfl ?_
  obtain ⟨x31, hx31, h⟩ := bindS h
  refine woo rfl (ocal (sat_prefectref17_word N _ _ hx31) rfl (.cons sub_rfl .nil) rfl rfl rfl) ?_
  refine wpp rfl rfl ?_
  refine wpp rfl rfl ?_
  refine wpp rfl rfl ?_
  refine wpp rfl rfl ?_
  refine wpp rfl rfl ?_
  refine wpp rfl rfl ?_
  refine wpp rfl rfl ?_
  refine xseq ?_
  refine xreg ?_
  refine wpp rfl rfl ?_
  obtain ⟨x37, hx37, h⟩ := bindS h
  refine woo rfl (ocal (sat_prefectref17_word N _ _ hx37) rfl (.cons sub_rfl .nil) rfl rfl rfl) ?_
  refine wpp rfl rfl ?_
  refine wpp rfl rfl ?_
  refine wpp rfl rfl ?_
  refine wpp rfl rfl ?_
  refine wpp rfl rfl ?_
  refine wpp rfl rfl ?_
  refine wpp rfl rfl ?_
  refine xseq ?_
  refine xreg ?_
  refine wpp rfl rfl ?_
  refine wpp rfl rfl ?_
  refine wpp rfl rfl ?_
  refine wpp rfl rfl ?_
  refine wpp rfl rfl ?_
  refine wpp rfl rfl ?_
  refine wpp (p := .agg [.bool (x19.1 == ([100, 101, 110, 121] : List UInt8)), .str x25.1, .bool (x31.1 == ([115, 117, 98] : List UInt8)), .str x37.2.1, .nl]) rfl rfl ?_
  refine wnK (nsub 47 (sub_agg (.cons sub_rfl (.cons sub_rfl (.cons sub_rfl (.cons sub_rfl (.cons (sub_nl 1) .nil))))) rfl) rfl) ?_
  refine woo rfl (obox 16 rfl rfl rfl rfl rfl) ?_
  refine wstb (e' := .agg [.bool (x19.1 == ([100, 101, 110, 121] : List UInt8)), .str x25.1, .bool (x31.1 == ([115, 117, 98] : List UInt8)), .str x37.2.1, .sl 1 (List.map PV.str [])]) rfl rfl rfl rfl rfl rfl rfl rfl nofun rfl ?_
  refine xjoin (fun (x : api_Rule) => ⟨ofL [(0, .str a0), (2, .ptr 2 0 0), (6, .bool x19.2.2), (9, .bool x25.2.2), (12, .bool x31.2.2), (15, .bool x37.2.2), (16, .ptr 16 0 0)], ofL [(2, ⟨5, false, [.agg [.bool false, .str ([] : List UInt8), .bool false, .str ([] : List UInt8), .nl]]⟩), (16, ⟨5, false, [e_api_Rule x]⟩)]⟩) (fun x => prefectref17_Parse_j12 a0 N x19 x25 x31 x37 x = some r) ?_ ?_
  · rintro r16j12 h
    refine xseq ?_
    obtain ⟨g1, hg1, h⟩ := bindS h
    refine xseg ⟨ofL [(2, .ptr 2 0 0), (16, .ptr 16 0 0), (77, .bool g1)], ofL [(2, ⟨5, false, [.agg [.bool false, .str ([] : List UInt8), .bool false, .str ([] : List UInt8), .nl]]⟩), (16, ⟨5, false, [e_api_Rule r16j12]⟩)]⟩ ?_ ?_
    · have h := hg1
      refine xreg ?_
      refine wpp rfl rfl ?_
      refine wpp rfl rfl ?_
      refine wpp rfl rfl ?_
      rcases bifS h with ⟨c2, h⟩ | ⟨c2, h⟩
      · skip
        refine wsk (gn rfl c2) ?_
        refine wsk (gn rfl c2) ?_
        refine wpp rfl (p_pick1 c2 rfl rfl) ?_
        refine wpp rfl rfl ?_
        refine wsk rfl ?_
        refine wsk rfl ?_
        refine wpp rfl rfl ?_
        refine wpp rfl rfl ?_
        refine wsk rfl ?_
        refine wsk rfl ?_
        refine wpp rfl rfl ?_
        refine wpp rfl rfl ?_
        refine wsk rfl ?_
        refine wsk rfl ?_
        refine wsk rfl ?_
        refine wpp rfl rfl ?_
        refine wpp rfl rfl ?_
        refine wsk rfl ?_
        refine wsk rfl ?_
        refine wsk rfl ?_
        refine wsk rfl ?_
        refine wpp rfl rfl ?_
        obtain rfl := someS h
        exact (canon0 ⟨rfl, rfl, rfl, trivial⟩ ⟨rfl, rfl, trivial⟩ rfl rfl)
      · skip
        refine wpp (gy rfl c2) rfl ?_
        refine wpp (gy rfl c2) rfl ?_
        refine wpp rfl (p_pick0 c2 rfl rfl) ?_
        refine wpp rfl rfl ?_
        rcases bifS h with ⟨c3, h⟩ | ⟨c3, h⟩
        · skip
          refine wsk (gn rfl c3) ?_
          refine wsk (gn rfl c3) ?_
          refine wpp rfl (p_pick1 c3 rfl rfl) ?_
          refine wpp rfl rfl ?_
          refine wsk rfl ?_
          refine wsk rfl ?_
          refine wpp rfl rfl ?_
          refine wpp rfl rfl ?_
          refine wsk rfl ?_
          refine wsk rfl ?_
          refine wsk rfl ?_
          refine wpp rfl rfl ?_
          refine wpp rfl rfl ?_
          refine wsk rfl ?_
          refine wsk rfl ?_
          refine wsk rfl ?_
          refine wsk rfl ?_
          refine wpp rfl rfl ?_
          obtain rfl := someS h
          exact (canon0 ⟨rfl, rfl, rfl, trivial⟩ ⟨rfl, rfl, trivial⟩ rfl rfl)
        · skip
          refine wpp (gy rfl c3) rfl ?_
          refine wpp (gy rfl c3) rfl ?_
          refine wpp rfl (p_pick0 c3 rfl rfl) ?_
          refine wpp rfl rfl ?_
          rcases bifS h with ⟨c4, h⟩ | ⟨c4, h⟩
          · skip
            refine wsk (gn rfl c4) ?_
            refine wsk (gn rfl c4) ?_
            refine wpp rfl (p_pick1 c4 rfl rfl) ?_
            refine wpp rfl rfl ?_
            refine wsk rfl ?_
            refine wsk rfl ?_
            refine wsk rfl ?_
            refine wpp rfl rfl ?_
            refine wpp rfl rfl ?_
            refine wsk rfl ?_
            refine wsk rfl ?_
            refine wsk rfl ?_
            refine wsk rfl ?_
            refine wpp rfl rfl ?_
            obtain rfl := someS h
            exact (canon0 ⟨rfl, rfl, rfl, trivial⟩ ⟨rfl, rfl, trivial⟩ rfl rfl)
          · skip
            refine wpp (gy rfl c4) rfl ?_
            refine wpp (gy rfl c4) rfl ?_
            refine wpp rfl (p_pick0 c4 rfl rfl) ?_
            refine wpp rfl rfl ?_
            rcases bifS h with ⟨c5, h⟩ | ⟨c5, h⟩
            · skip
              refine wsk (gn rfl c5) ?_
              refine wsk (gn rfl c5) ?_
              refine wsk (gn rfl c5) ?_
              refine wpp rfl (p_pick1 c5 rfl rfl) ?_
              refine wpp rfl rfl ?_
              refine wsk rfl ?_
              refine wsk rfl ?_
              refine wsk rfl ?_
              refine wsk rfl ?_
              refine wpp rfl rfl ?_
              obtain rfl := someS h
              exact (canon0 ⟨rfl, rfl, rfl, trivial⟩ ⟨rfl, rfl, trivial⟩ rfl rfl)
            · skip
              refine wpp (p := e_api_Rule r16j12) (gy rfl c5) rfl ?_
              obtain ⟨x69, hx69, h⟩ := bindS h
              refine woo (gy rfl c5) (ocal (sat_prefectref17_IsRule N _ _ hx69) rfl (.cons sub_rfl .nil) rfl rfl rfl) ?_
              refine wpp (gy rfl c5) rfl ?_
              refine wpp rfl (p_pick0 c5 rfl rfl) ?_
              refine wpp rfl rfl ?_
              rcases bifS h with ⟨c6, h⟩ | ⟨c6, h⟩
              · skip
                refine wsk (gn rfl c6) ?_
                refine wsk (gn rfl c6) ?_
                refine wsk (gn rfl c6) ?_
                refine wsk (gn rfl c6) ?_
                refine wpp rfl (p_pick1 c6 rfl rfl) ?_
                obtain rfl := someS h
                exact (canon0 ⟨rfl, rfl, rfl, trivial⟩ ⟨rfl, rfl, trivial⟩ rfl rfl)
              · skip
                refine wpp (p := e_api_Rule r16j12) (gy rfl c6) rfl ?_
                obtain ⟨x74, hx74, h⟩ := bindS h
                refine woo (gy rfl c6) (ocal (sat_prefectref17_Print N _ _ hx74) rfl (.cons sub_rfl .nil) rfl rfl rfl) ?_
                refine wpp (gy rfl c6) rfl ?_
                refine wpp (gy rfl c6) rfl ?_
                refine wpp rfl (p_pick0 c6 rfl rfl) ?_
                obtain rfl := someS h
                exact (canon0 ⟨rfl, rfl, rfl, trivial⟩ ⟨rfl, rfl, trivial⟩ rfl rfl)
    · clear hg1
      rcases bifS h with ⟨c7, h⟩ | ⟨c7, h⟩
      · refine xcT rfl c7 ?_
        refine xseq ?_
        refine xreg ?_
        refine wpp (p := .agg [.bool false, .str ([] : List UInt8), .bool false, .str ([] : List UInt8), .nl]) rfl rfl ?_
        refine wnK (nsub 78 (sub_agg (.cons sub_rfl (.cons sub_rfl (.cons sub_rfl (.cons sub_rfl (.cons (sub_nl 1) .nil))))) rfl) rfl) ?_
        refine wstb (e' := .agg [.bool false, .str ([] : List UInt8), .bool false, .str ([] : List UInt8), .sl 1 (List.map PV.str [])]) rfl rfl rfl rfl rfl rfl rfl rfl nofun rfl ?_
        refine wpp rfl rfl ?_
        obtain rfl := someS h
        refine xret ?_
        exact ⟨nofun, rfl, rfl⟩
      · refine xcF rfl c7 ?_
        refine xskip ?_
        refine xseq ?_
        refine xreg ?_
        refine wpp (p := e_api_Rule r16j12) rfl rfl ?_
        refine wstb (e' := e_api_Rule r16j12) rfl rfl rfl rfl rfl rfl rfl rfl nofun rfl ?_
        refine wpp rfl rfl ?_
        obtain rfl := someS h
        refine xret ?_
        exact ⟨nofun, rfl, rfl⟩
  · skip
    refine xseq ?_
    refine xreg ?_
    refine wpp rfl rfl ?_
    refine wpp rfl rfl ?_
    rcases bifS h with ⟨c8, h⟩ | ⟨c8, h⟩
    · refine xcT rfl c8 ?_
      refine xreg ?_
      refine wpp rfl rfl ?_
      obtain ⟨x51, hx51, h⟩ := bindS h
      refine woo rfl (ocal (sat_prefectref17_split N _ _ hx51) rfl (.cons sub_rfl .nil) rfl rfl rfl) ?_
      refine wpp rfl rfl ?_
      refine wstb (e' := .agg [.bool (x19.1 == ([100, 101, 110, 121] : List UInt8)), .str x25.1, .bool (x31.1 == ([115, 117, 98] : List UInt8)), .str x37.2.1, .sl 1 (List.map PV.str x51)]) rfl rfl rfl rfl rfl rfl rfl rfl nofun rfl ?_
      exact ⟨(⟨(x19.1 == ([100, 101, 110, 121] : List UInt8)), x25.1, (x31.1 == ([115, 117, 98] : List UInt8)), x37.2.1, x51⟩ : api_Rule), (canon0 ⟨rfl, rfl, rfl, rfl, rfl, rfl, rfl, trivial⟩ ⟨rfl, rfl, trivial⟩ rfl rfl), h⟩
    · refine xcF rfl c8 ?_
      refine xskip ?_
      exact ⟨(⟨(x19.1 == ([100, 101, 110, 121] : List UInt8)), x25.1, (x31.1 == ([115, 117, 98] : List UInt8)), x37.2.1, []⟩ : api_Rule), (canon0 ⟨rfl, rfl, rfl, rfl, rfl, rfl, rfl, trivial⟩ ⟨rfl, rfl, trivial⟩ rfl rfl), h⟩
end Go.Gp
end
section
set_option linter.unusedVariables false
set_option linter.unusedSimpArgs false
set_option maxRecDepth 4000
namespace Go.Gp
open Go.Vd Go.RowKit Go.Proofs
def k27_l14 : IC := (.seq (.seq (.reg [⟨(some 41), (.mov (.t 5)), none⟩, ⟨(some 42), (.fda 4 (.t 2)), none⟩, ⟨(some 43), (.load 1 false (.t 42)), none⟩, ⟨(some 44), (.len false (.t 43)), none⟩, ⟨(some 45), (.bin .lss (.t 41) (.t 44)), none⟩]) (.cond (.t 45) .skip (.exit 0))) (.seq (.block 1 (.seq (.regd 11 [⟨(some 48), (.fda 4 (.t 2)), none⟩, ⟨(some 49), (.load 1 false (.t 48)), none⟩, ⟨(some 50), (.mov (.t 5)), none⟩, ⟨(some 51), (.ixp 1 (.t 49) (.t 50)), none⟩, ⟨(some 52), (.load 1 false (.t 51)), none⟩, ⟨(some 53), (.fda 4 (.t 3)), none⟩, ⟨(some 54), (.load 1 false (.t 53)), none⟩, ⟨(some 55), (.mov (.t 5)), none⟩, ⟨(some 56), (.ixp 1 (.t 54) (.t 55)), none⟩, ⟨(some 57), (.load 1 false (.t 56)), none⟩, ⟨(some 58), (.bin .neq (.t 52) (.t 57)), none⟩]) (.cond (.t 58) (.seq (.reg [⟨(some 4), (.mov (.c (.bool false))), none⟩]) .ret) .skip))) (.reg [⟨(some 46), (.mov (.t 5)), none⟩, ⟨(some 47), (.bin .add (.t 46) (.c (.int .i64 1))), none⟩, ⟨(some 5), (.mov (.t 47)), none⟩])))
def k27 : IC := (.seq (.reg [⟨(some 2), (.box 41 (.t 0)), none⟩, ⟨(some 3), (.box 41 (.t 1)), none⟩, ⟨(some 4), (.mov (.c (.bool false))), none⟩]) (.seq (.seq (.reg [⟨(some 6), (.fda 0 (.t 2)), none⟩, ⟨(some 7), (.load 1 false (.t 6)), none⟩, ⟨(some 8), (.fda 0 (.t 3)), none⟩, ⟨(some 9), (.load 1 false (.t 8)), none⟩, ⟨(some 10), (.beq true (.t 7) (.t 9)), none⟩, ⟨(some 11), (.mov (.t 10)), none⟩, ⟨(some 12), (.fda 1 (.t 2)), (some (11, false))⟩, ⟨(some 13), (.load 1 false (.t 12)), (some (11, false))⟩, ⟨(some 14), (.fda 1 (.t 3)), (some (11, false))⟩, ⟨(some 15), (.load 1 false (.t 14)), (some (11, false))⟩, ⟨(some 16), (.bin .neq (.t 13) (.t 15)), (some (11, false))⟩, ⟨(some 17), (.pick (.t 11) (.c (.bool true)) (.t 16)), none⟩, ⟨(some 18), (.mov (.t 17)), none⟩, ⟨(some 19), (.fda 2 (.t 2)), (some (18, false))⟩, ⟨(some 20), (.load 1 false (.t 19)), (some (18, false))⟩, ⟨(some 21), (.fda 2 (.t 3)), (some (18, false))⟩, ⟨(some 22), (.load 1 false (.t 21)), (some (18, false))⟩, ⟨(some 23), (.beq true (.t 20) (.t 22)), (some (18, false))⟩, ⟨(some 24), (.pick (.t 18) (.c (.bool true)) (.t 23)), none⟩, ⟨(some 25), (.mov (.t 24)), none⟩, ⟨(some 26), (.fda 3 (.t 2)), (some (25, false))⟩, ⟨(some 27), (.load 1 false (.t 26)), (some (25, false))⟩, ⟨(some 28), (.fda 3 (.t 3)), (some (25, false))⟩, ⟨(some 29), (.load 1 false (.t 28)), (some (25, false))⟩, ⟨(some 30), (.bin .neq (.t 27) (.t 29)), (some (25, false))⟩, ⟨(some 31), (.pick (.t 25) (.c (.bool true)) (.t 30)), none⟩, ⟨(some 32), (.mov (.t 31)), none⟩, ⟨(some 33), (.fda 4 (.t 2)), (some (32, false))⟩, ⟨(some 34), (.load 1 false (.t 33)), (some (32, false))⟩, ⟨(some 35), (.len false (.t 34)), (some (32, false))⟩, ⟨(some 36), (.fda 4 (.t 3)), (some (32, false))⟩, ⟨(some 37), (.load 1 false (.t 36)), (some (32, false))⟩, ⟨(some 38), (.len false (.t 37)), (some (32, false))⟩, ⟨(some 39), (.bin .neq (.t 35) (.t 38)), (some (32, false))⟩, ⟨(some 40), (.pick (.t 32) (.c (.bool true)) (.t 39)), none⟩]) (.cond (.t 40) (.seq (.reg [⟨(some 4), (.mov (.c (.bool false))), none⟩]) .ret) .skip)) (.seq (.seq (.reg [⟨(some 5), (.mov (.c (.int .i64 0))), none⟩]) (.block 0 (.loop k27_l14))) (.seq (.reg [⟨(some 4), (.mov (.c (.bool true))), none⟩]) .ret))))
theorem k27_cf : cfunc Tryd.prog Tryd.f27 = some ⟨59, k27, [(.tmp 4)]⟩ := by kernel_rfl
theorem w_prefectref17_SameRule_l14 (N : Nat) (a0 : api_Rule) (a1 : api_Rule) : ∀ (n : Nat) (x : Int) (y : Unit ⊕ Bool), prefectref17_SameRule_l14 N a0 a1 n x = some y → WX Tryd.prog (fun _ => false) (.loop k27_l14) ((fun (x : Int) => ⟨ofL [(2, .ptr 2 0 0), (3, .ptr 3 0 0), (5, .int .i64 x)], ofL [(2, ⟨5, false, [e_api_Rule a0]⟩), (3, ⟨5, false, [e_api_Rule a1]⟩)]⟩) x) ((Sum.elim (fun y e s => e = .exit 0 ∧ s = ⟨ofL [], ofL []⟩) (fun y e s => e = .ret ∧ s = ⟨ofL [(4, .bool y)], ofL []⟩) : (Unit ⊕ Bool) → Xt → St → Prop) y) := by
  refine xloop (fun (x : Int) => ⟨ofL [(2, .ptr 2 0 0), (3, .ptr 3 0 0), (5, .int .i64 x)], ofL [(2, ⟨5, false, [e_api_Rule a0]⟩), (3, ⟨5, false, [e_api_Rule a1]⟩)]⟩) _ (prefectref17_SameRule_l14 N a0 a1) (prefectref17_SameRule_l14_b N a0 a1) (fun _ => rfl) (fun _ _ => rfl) ?_
  rintro rec v5l14 y h
  refine xseq ?_
  refine xseq ?_
  refine xreg ?_
  refine wpp rfl rfl ?_
  refine wpp rfl rfl ?_
  refine wpp rfl rfl ?_
  refine wpp rfl (p_lens rfl) ?_
  refine wpp rfl rfl ?_
  rcases bifS h with ⟨c7, h⟩ | ⟨c7, h⟩
  · refine xcT rfl c7 ?_
    refine xskip ?_
    refine xseq ?_
    refine xblk ?_
    refine xseq ?_
    refine xregd ?_
    refine wdp rfl rfl ?_
    refine wdp rfl rfl ?_
    refine wdp rfl rfl ?_
    obtain ⟨x51, hx51, h⟩ := bindS h
    refine wdp rfl (p_ixs (cs := [.str x51]) hx51 rfl rfl rfl) ?_
    refine wdp rfl rfl ?_
    refine wdp rfl rfl ?_
    refine wdp rfl rfl ?_
    refine wdp rfl rfl ?_
    obtain ⟨x56, hx56, h⟩ := bindS h
    refine wdp rfl (p_ixs (cs := [.str x56]) hx56 rfl rfl rfl) ?_
    refine wdp rfl rfl ?_
    refine wdp rfl rfl ?_
    rcases bifS h with ⟨c8, h⟩ | ⟨c8, h⟩
    · refine xcT rfl c8 ?_
      refine xseq ?_
      refine xreg ?_
      refine wpp rfl rfl ?_
      obtain rfl := someS h
      exact xretn (st1 := ⟨ofL [(4, .bool false)], ofL []⟩) (canon0 ⟨rfl, trivial⟩ trivial rfl rfl) ⟨rfl, rfl⟩
    · refine xcF rfl c8 ?_
      refine xskip ?_
      refine xreg ?_
      refine wpp rfl rfl ?_
      refine wpp (p := .int .i64 (w64 (v5l14 + (1 : Int)))) rfl rfl ?_
      refine wpp rfl rfl ?_
      exact ⟨(w64 (v5l14 + (1 : Int))), (canon0 ⟨rfl, rfl, rfl, trivial⟩ ⟨rfl, rfl, trivial⟩ rfl rfl), h⟩
  · refine xcF rfl c7 ?_
    obtain rfl := someS h
    exact xexitn (st1 := ⟨ofL [], ofL []⟩) (canon0 trivial trivial rfl rfl) ⟨rfl, rfl⟩
theorem sat_prefectref17_SameRule (N : Nat) (a0 : api_Rule) (a1 : api_Rule) (r : Bool) (h : prefectref17_SameRule N a0 a1 = some r) : Sat Tryd.prog 27 noRows [e_api_Rule a0, e_api_Rule a1] (.bool r) noRows := by
  refine xsat mixed Tryd.func27 k27_cf (rs := [.bool r]) rfl rfl ?_
  refine xseq ?_
  refine xreg ?_
  refine woo rfl (obox 2 rfl rfl rfl rfl rfl) ?_
  refine woo rfl (obox 3 rfl rfl rfl rfl rfl) ?_
  refine wpp rfl rfl ?_
  refine xseq ?_
  obtain ⟨g1, hg1, h⟩ := bindS h
  refine xseg ⟨ofL [(2, .ptr 2 0 0), (3, .ptr 3 0 0), (40, .bool g1)], ofL [(2, ⟨5, false, [e_api_Rule a0]⟩), (3, ⟨5, false, [e_api_Rule a1]⟩)]⟩ ?_ ?_
  · have h := hg1
    refine xreg ?_
    refine wpp rfl rfl ?_
    refine wpp rfl rfl ?_
    refine wpp rfl rfl ?_
    refine wpp rfl rfl ?_
    refine wpp rfl rfl ?_
    refine wpp rfl rfl ?_
    rcases bifS h with ⟨c2, h⟩ | ⟨c2, h⟩
    · skip
      refine wsk (gn rfl c2) ?_
      refine wsk (gn rfl c2) ?_
      refine wsk (gn rfl c2) ?_
      refine wsk (gn rfl c2) ?_
      refine wsk (gn rfl c2) ?_
      refine wpp rfl (p_pick1 c2 rfl rfl) ?_
      refine wpp rfl rfl ?_
      refine wsk rfl ?_
      refine wsk rfl ?_
      refine wsk rfl ?_
      refine wsk rfl ?_
      refine wsk rfl ?_
      refine wpp rfl rfl ?_
      refine wpp rfl rfl ?_
      refine wsk rfl ?_
      refine wsk rfl ?_
      refine wsk rfl ?_
      refine wsk rfl ?_
      refine wsk rfl ?_
      refine wpp rfl rfl ?_
      refine wpp rfl rfl ?_
      refine wsk rfl ?_
      refine wsk rfl ?_
      refine wsk rfl ?_
      refine wsk rfl ?_
      refine wsk rfl ?_
      refine wsk rfl ?_
      refine wsk rfl ?_
      refine wpp rfl rfl ?_
      obtain rfl := someS h
      exact (canon0 ⟨rfl, rfl, rfl, trivial⟩ ⟨rfl, rfl, trivial⟩ rfl rfl)
    · skip
      refine wpp (gy rfl c2) rfl ?_
      refine wpp (gy rfl c2) rfl ?_
      refine wpp (gy rfl c2) rfl ?_
      refine wpp (gy rfl c2) rfl ?_
      refine wpp (gy rfl c2) rfl ?_
      refine wpp rfl (p_pick0 c2 rfl rfl) ?_
      refine wpp rfl rfl ?_
      rcases bifS h with ⟨c3, h⟩ | ⟨c3, h⟩
      · skip
        refine wsk (gn rfl c3) ?_
        refine wsk (gn rfl c3) ?_
        refine wsk (gn rfl c3) ?_
        refine wsk (gn rfl c3) ?_
        refine wsk (gn rfl c3) ?_
        refine wpp rfl (p_pick1 c3 rfl rfl) ?_
        refine wpp rfl rfl ?_
        refine wsk rfl ?_
        refine wsk rfl ?_
        refine wsk rfl ?_
        refine wsk rfl ?_
        refine wsk rfl ?_
        refine wpp rfl rfl ?_
        refine wpp rfl rfl ?_
        refine wsk rfl ?_
        refine wsk rfl ?_
        refine wsk rfl ?_
        refine wsk rfl ?_
        refine wsk rfl ?_
        refine wsk rfl ?_
        refine wsk rfl ?_
        refine wpp rfl rfl ?_
        obtain rfl := someS h
        exact (canon0 ⟨rfl, rfl, rfl, trivial⟩ ⟨rfl, rfl, trivial⟩ rfl rfl)
      · skip
        refine wpp (gy rfl c3) rfl ?_
        refine wpp (gy rfl c3) rfl ?_
        refine wpp (gy rfl c3) rfl ?_
        refine wpp (gy rfl c3) rfl ?_
        refine wpp (gy rfl c3) rfl ?_
        refine wpp rfl (p_pick0 c3 rfl rfl) ?_
        refine wpp rfl rfl ?_
        rcases bifS h with ⟨c4, h⟩ | ⟨c4, h⟩
        · skip
          refine wsk (gn rfl c4) ?_
          refine wsk (gn rfl c4) ?_
          refine wsk (gn rfl c4) ?_
          refine wsk (gn rfl c4) ?_
          refine wsk (gn rfl c4) ?_
          refine wpp rfl (p_pick1 c4 rfl rfl) ?_
          refine wpp rfl rfl ?_
          refine wsk rfl ?_
          refine wsk rfl ?_
          refine wsk rfl ?_
          refine wsk rfl ?_
          refine wsk rfl ?_
          refine wsk rfl ?_
          refine wsk rfl ?_
          refine wpp rfl rfl ?_
          obtain rfl := someS h
          exact (canon0 ⟨rfl, rfl, rfl, trivial⟩ ⟨rfl, rfl, trivial⟩ rfl rfl)
        · skip
          refine wpp (gy rfl c4) rfl ?_
          refine wpp (gy rfl c4) rfl ?_
          refine wpp (gy rfl c4) rfl ?_
          refine wpp (gy rfl c4) rfl ?_
          refine wpp (gy rfl c4) rfl ?_
          refine wpp rfl (p_pick0 c4 rfl rfl) ?_
          refine wpp rfl rfl ?_
          rcases bifS h with ⟨c5, h⟩ | ⟨c5, h⟩
          · skip
            refine wsk (gn rfl c5) ?_
            refine wsk (gn rfl c5) ?_
            refine wsk (gn rfl c5) ?_
            refine wsk (gn rfl c5) ?_
            refine wsk (gn rfl c5) ?_
            refine wsk (gn rfl c5) ?_
            refine wsk (gn rfl c5) ?_
            refine wpp rfl (p_pick1 c5 rfl rfl) ?_
            obtain rfl := someS h
            exact (canon0 ⟨rfl, rfl, rfl, trivial⟩ ⟨rfl, rfl, trivial⟩ rfl rfl)
          · skip
            refine wpp (gy rfl c5) rfl ?_
            refine wpp (gy rfl c5) rfl ?_
            refine wpp (gy rfl c5) (p_lens rfl) ?_
            refine wpp (gy rfl c5) rfl ?_
            refine wpp (gy rfl c5) rfl ?_
            refine wpp (gy rfl c5) (p_lens rfl) ?_
            refine wpp (gy rfl c5) rfl ?_
            refine wpp rfl (p_pick0 c5 rfl rfl) ?_
            obtain rfl := someS h
            exact (canon0 ⟨rfl, rfl, rfl, trivial⟩ ⟨rfl, rfl, trivial⟩ rfl rfl)
  · clear hg1
    rcases bifS h with ⟨c6, h⟩ | ⟨c6, h⟩
    · refine xcT rfl c6 ?_
      refine xseq ?_
      refine xreg ?_
      refine wpp rfl rfl ?_
      obtain rfl := someS h
      refine xret ?_
      exact ⟨nofun, rfl, rfl⟩
    · refine xcF rfl c6 ?_
      refine xskip ?_
      refine xseq ?_
      refine xseq ?_
      refine xreg ?_
      refine wpp rfl rfl ?_
      refine xblk ?_
      obtain ⟨y9, hy9, h⟩ := bindS h
      refine xloopU (st1 := ⟨ofL [(2, .ptr 2 0 0), (3, .ptr 3 0 0), (5, .int .i64 0)], ofL [(2, ⟨5, false, [e_api_Rule a0]⟩), (3, ⟨5, false, [e_api_Rule a1]⟩)]⟩) (canon0 ⟨rfl, rfl, rfl, trivial⟩ ⟨rfl, rfl, trivial⟩ rfl rfl) (w_prefectref17_SameRule_l14 N a0 a1 N _ _ hy9) ?_
      clear hy9
      rcases y9 with y9 | y9
      · rintro e s ⟨rfl, rfl⟩
        refine xseq ?_
        refine xreg ?_
        refine wpp rfl rfl ?_
        obtain rfl := someS h
        refine xret ?_
        exact ⟨nofun, rfl, rfl⟩
      · rintro e s ⟨rfl, rfl⟩
        obtain rfl := someS h
        exact ⟨nofun, rfl, rfl⟩
end Go.Gp
end
section
set_option linter.unusedVariables false
set_option linter.unusedSimpArgs false
set_option maxRecDepth 4000
set_option maxHeartbeats 4000000
namespace Go.Gp
open Go.Vd Go.RowKit Go.Proofs
def k6 : IC := (.seq (.reg [⟨(some 3), (.box 41 (.t 0)), none⟩, ⟨(some 4), (.box 41 (.t 1)), none⟩, ⟨(some 6), (.mov (.c (.bool false))), none⟩]) (.seq (.seq (.reg [⟨(some 12), (.call 18 []), none⟩, ⟨(some 13), (.un .not (.t 12)), none⟩]) (.cond (.t 13) (.seq (.reg [⟨(some 6), (.mov (.c (.bool false))), none⟩]) .ret) .skip)) (.seq (.seq (.reg [⟨(some 14), (.load 5 true (.t 3)), none⟩, ⟨(some 15), (.call 19 [(.t 14)]), none⟩, ⟨(some 16), (.un .not (.t 15)), none⟩, ⟨(some 17), (.mov (.t 16)), none⟩, ⟨(some 18), (.load 5 true (.t 4)), (some (17, false))⟩, ⟨(some 19), (.call 19 [(.t 18)]), (some (17, false))⟩, ⟨(some 20), (.un .not (.t 19)), (some (17, false))⟩, ⟨(some 21), (.pick (.t 17) (.c (.bool true)) (.t 20)), none⟩, ⟨(some 22), (.mov (.t 21)), none⟩, ⟨(some 23), (.mov (.t 2)), (some (22, false))⟩, ⟨(some 24), (.len true (.t 23)), (some (22, false))⟩, ⟨(some 25), (.bin .gtr (.t 24) (.c (.int .i64 200))), (some (22, false))⟩, ⟨(some 26), (.pick (.t 22) (.c (.bool true)) (.t 25)), none⟩]) (.cond (.t 26) (.seq (.reg [⟨(some 6), (.mov (.c (.bool true))), none⟩]) .ret) .skip)) (.seq (.reg [⟨(some 7), (.mov (.c (.str []))), none⟩]) (.seq (.seq (.reg [⟨(some 27), (.load 5 true (.t 3)), none⟩, ⟨(some 28), (.call 20 [(.t 27)]), none⟩]) (.cond (.t 28) (.reg [⟨(some 29), (.load 5 true (.t 3)), none⟩, ⟨(some 30), (.call 21 [(.t 29)]), none⟩, ⟨(some 7), (.mov (.t 30)), none⟩]) .skip)) (.seq (.reg [⟨(some 32), (.mov (.t 2)), none⟩, ⟨(some 33), (.call 22 [(.t 32)]), none⟩, ⟨(some 31), (.mov (.t 33)), none⟩, ⟨(some 34), (.ext 0 (.t 31)), none⟩, ⟨(some 35), (.ext 1 (.t 31)), none⟩, ⟨(some 8), (.box 41 (.c (.agg [(.bool false), (.str []), (.bool false), (.str []), .nl]))), none⟩, ⟨none, (.store 5 (.t 8) (.t 34)), none⟩, ⟨(some 9), (.mov (.t 35)), none⟩]) (.seq (.reg [⟨(some 37), (.mov (.t 2)), none⟩, ⟨(some 38), (.call 23 [(.t 37)]), none⟩, ⟨(some 36), (.mov (.t 38)), none⟩, ⟨(some 39), (.ext 0 (.t 36)), none⟩, ⟨(some 40), (.ext 1 (.t 36)), none⟩, ⟨(some 10), (.box 41 (.c (.agg [(.bool false), (.str []), (.bool false), (.str []), .nl]))), none⟩, ⟨none, (.store 5 (.t 10) (.t 39)), none⟩, ⟨(some 11), (.mov (.t 40)), none⟩]) (.seq (.regd 40 [⟨(some 41), (.load 5 true (.t 3)), none⟩, ⟨(some 42), (.call 24 [(.t 41)]), none⟩, ⟨(some 43), (.load 5 true (.t 3)), none⟩, ⟨(some 44), (.call 20 [(.t 43)]), none⟩, ⟨(some 45), (.beq false (.t 42) (.t 44)), none⟩, ⟨(some 46), (.mov (.t 45)), none⟩, ⟨(some 47), (.load 5 true (.t 3)), (some (46, true))⟩, ⟨(some 48), (.call 25 [(.t 47)]), (some (46, true))⟩, ⟨(some 49), (.mov (.t 7)), (some (46, true))⟩, ⟨(some 50), (.bin .eql (.t 48) (.t 49)), (some (46, true))⟩, ⟨(some 51), (.pick (.t 46) (.t 50) (.c (.bool false))), none⟩, ⟨(some 52), (.mov (.t 51)), none⟩, ⟨(some 53), (.load 5 true (.t 3)), (some (52, true))⟩, ⟨(some 54), (.load 5 true (.t 4)), (some (52, true))⟩, ⟨(some 55), (.call 26 [(.t 53), (.t 54)]), (some (52, true))⟩, ⟨(some 56), (.load 5 true (.t 3)), (some (52, true))⟩, ⟨(some 57), (.load 5 true (.t 4)), (some (52, true))⟩, ⟨(some 58), (.call 27 [(.t 56), (.t 57)]), (some (52, true))⟩, ⟨(some 59), (.beq false (.t 55) (.t 58)), (some (52, true))⟩, ⟨(some 60), (.pick (.t 52) (.t 59) (.c (.bool false))), none⟩, ⟨(some 61), (.mov (.t 60)), none⟩, ⟨(some 62), (.mov (.t 9)), (some (61, true))⟩, ⟨(some 63), (.bin .eql (.t 62) (.c (.int .i64 0))), (some (61, true))⟩, ⟨(some 64), (.mov (.t 11)), (some (61, true))⟩, ⟨(some 65), (.beq false (.t 63) (.t 64)), (some (61, true))⟩, ⟨(some 66), (.pick (.t 61) (.t 65) (.c (.bool false))), none⟩, ⟨(some 67), (.mov (.t 66)), none⟩, ⟨(some 68), (.mov (.t 9)), (some (67, true))⟩, ⟨(some 69), (.bin .eql (.t 68) (.c (.int .i64 0))), (some (67, true))⟩, ⟨(some 70), (.mov (.t 69)), (some (67, true))⟩, ⟨(some 71), (.mov (.t 9)), (some (70, false))⟩, ⟨(some 72), (.bin .eql (.t 71) (.c (.int .i64 20))), (some (70, false))⟩, ⟨(some 73), (.pick (.t 70) (.c (.bool true)) (.t 72)), (some (67, true))⟩, ⟨(some 74), (.pick (.t 67) (.t 73) (.c (.bool false))), none⟩, ⟨(some 75), (.mov (.t 74)), none⟩, ⟨(some 76), (.load 5 true (.t 8)), (some (75, true))⟩, ⟨(some 77), (.load 5 true (.t 10)), (some (75, true))⟩, ⟨(some 78), (.call 27 [(.t 76), (.t 77)]), (some (75, true))⟩, ⟨(some 79), (.pick (.t 75) (.t 78) (.c (.bool false))), none⟩, ⟨(some 6), (.mov (.t 79)), none⟩]) .ret))))))))
theorem k6_cf : cfunc Tryd.prog Tryd.f6 = some ⟨80, k6, [(.tmp 6)]⟩ := by kernel_rfl
theorem sat_prefectlaw18_RuleTells (N : Nat) (a0 : api_Rule) (a1 : api_Rule) (a2 : List UInt8) (r : Bool) (h : prefectlaw18_RuleTells N a0 a1 a2 = some r) : Sat Tryd.prog 6 noRows [e_api_Rule a0, e_api_Rule a1, .str a2] (.bool r) noRows := by
  refine xsat mixed Tryd.func6 k6_cf (rs := [.bool r]) rfl rfl ?_
  refine xseq ?_
  refine xreg ?_
  refine woo rfl (obox 3 rfl rfl rfl rfl rfl) ?_
  refine woo rfl (obox 4 rfl rfl rfl rfl rfl) ?_
  refine wpp rfl rfl ?_
  refine xseq ?_
  refine xseq ?_
  refine xreg ?_
  obtain ⟨x12, hx12, h⟩ := bindS h
  refine woo rfl (ocal (sat_prefectlaw18_known N _ hx12) rfl .nil rfl rfl rfl) ?_
  refine wpp rfl rfl ?_
  rcases bifS h with ⟨c1, h⟩ | ⟨c1, h⟩
  · refine xcT rfl c1 ?_
    refine xseq ?_
    refine xreg ?_
    refine wpp rfl rfl ?_
    obtain rfl := someS h
    refine xret ?_
    exact ⟨nofun, rfl, rfl⟩
  · refine xcF rfl c1 ?_
    refine xskip ?_
    refine xseq ?_
    obtain ⟨g2, hg2, h⟩ := bindS h
    refine xseg ⟨ofL [(2, .str a2), (3, .ptr 3 0 0), (4, .ptr 4 0 0), (26, .bool g2)], ofL [(3, ⟨5, false, [e_api_Rule a0]⟩), (4, ⟨5, false, [e_api_Rule a1]⟩)]⟩ ?_ ?_
    · have h := hg2
      refine xreg ?_
      refine wpp (p := e_api_Rule a0) rfl rfl ?_
      obtain ⟨x15, hx15, h⟩ := bindS h
      refine woo rfl (ocal (sat_prefectlaw18_fewRule N _ _ hx15) rfl (.cons sub_rfl .nil) rfl rfl rfl) ?_
      refine wpp rfl rfl ?_
      refine wpp rfl rfl ?_
      rcases bifS h with ⟨c3, h⟩ | ⟨c3, h⟩
      · skip
        refine wsk (gn rfl c3) ?_
        refine wsk (gn rfl c3) ?_
        refine wsk (gn rfl c3) ?_
        refine wpp rfl (p_pick1 c3 rfl rfl) ?_
        refine wpp rfl rfl ?_
        refine wsk rfl ?_
        refine wsk rfl ?_
        refine wsk rfl ?_
        refine wpp rfl rfl ?_
        obtain rfl := someS h
        exact (canon0 ⟨rfl, rfl, rfl, rfl, trivial⟩ ⟨rfl, rfl, trivial⟩ rfl rfl)
      · skip
        refine wpp (p := e_api_Rule a1) (gy rfl c3) rfl ?_
        obtain ⟨x19, hx19, h⟩ := bindS h
        refine woo (gy rfl c3) (ocal (sat_prefectlaw18_fewRule N _ _ hx19) rfl (.cons sub_rfl .nil) rfl rfl rfl) ?_
        refine wpp (gy rfl c3) rfl ?_
        refine wpp rfl (p_pick0 c3 rfl rfl) ?_
        refine wpp rfl rfl ?_
        rcases bifS h with ⟨c4, h⟩ | ⟨c4, h⟩
        · skip
          refine wsk (gn rfl c4) ?_
          refine wsk (gn rfl c4) ?_
          refine wsk (gn rfl c4) ?_
          refine wpp rfl (p_pick1 c4 rfl rfl) ?_
          obtain rfl := someS h
          exact (canon0 ⟨rfl, rfl, rfl, rfl, trivial⟩ ⟨rfl, rfl, trivial⟩ rfl rfl)
        · skip
          refine wpp (gy rfl c4) rfl ?_
          refine wpp (gy rfl c4) rfl ?_
          refine wpp (gy rfl c4) rfl ?_
          refine wpp rfl (p_pick0 c4 rfl rfl) ?_
          obtain rfl := someS h
          exact (canon0 ⟨rfl, rfl, rfl, rfl, trivial⟩ ⟨rfl, rfl, trivial⟩ rfl rfl)
    · clear hg2
      rcases bifS h with ⟨c5, h⟩ | ⟨c5, h⟩
      · refine xcT rfl c5 ?_
        refine xseq ?_
        refine xreg ?_
        refine wpp rfl rfl ?_
        obtain rfl := someS h
        refine xret ?_
        exact ⟨nofun, rfl, rfl⟩
      · refine xcF rfl c5 ?_
        refine xskip ?_
        refine xseq ?_
        refine xreg ?_
        refine wpp rfl rfl ?_
        refine xjoin (fun (x : List UInt8) => ⟨ofL [(2, .str a2), (3, .ptr 3 0 0), (4, .ptr 4 0 0), (7, .str x)], ofL [(3, ⟨5, false, [e_api_Rule a0]⟩), (4, ⟨5, false, [e_api_Rule a1]⟩)]⟩) (fun x => prefectlaw18_RuleTells_j20 a0 a1 a2 N x = some r) ?_ ?_
        · rintro v7j20 h
          refine xseq ?_
          refine xreg ?_
          refine wpp rfl rfl ?_
          obtain ⟨x33, hx33, h⟩ := bindS h
          refine woo rfl (ocal (sat_aci_Parse N _ _ hx33) rfl (.cons sub_rfl .nil) rfl rfl rfl) ?_
          refine wpp rfl rfl ?_
          refine wpp rfl rfl ?_
          refine wpp rfl rfl ?_
          refine woo rfl (obox 8 rfl rfl rfl rfl rfl) ?_
          refine wstb (e' := e_api_Rule x33.1) rfl rfl rfl rfl rfl rfl rfl rfl nofun rfl ?_
          refine wpp rfl rfl ?_
          refine xseq ?_
          refine xreg ?_
          refine wpp rfl rfl ?_
          obtain ⟨x38, hx38, h⟩ := bindS h
          refine woo rfl (ocal (sat_prefectref17_Parse N _ _ hx38) rfl (.cons sub_rfl .nil) rfl rfl rfl) ?_
          refine wpp rfl rfl ?_
          refine wpp rfl rfl ?_
          refine wpp rfl rfl ?_
          refine woo rfl (obox 10 rfl rfl rfl rfl rfl) ?_
          refine wstb (e' := e_api_Rule x38.1) rfl rfl rfl rfl rfl rfl rfl rfl nofun rfl ?_
          refine wpp rfl rfl ?_
          obtain ⟨g6, hg6, h⟩ := bindS h
          refine xseg ⟨ofL [(6, .bool g6)], ofL []⟩ ?_ ?_
          · have h := hg6
            refine xregd ?_
            refine wdp (p := e_api_Rule a0) rfl rfl ?_
            obtain ⟨x42, hx42, h⟩ := bindS h
            refine wdN rfl (pcal (sat_aci_Is N _ _ hx42) rfl (.cons sub_rfl .nil) rfl rfl rfl) no_fresh ?_
            refine wdp (p := e_api_Rule a0) rfl rfl ?_
            obtain ⟨x44, hx44, h⟩ := bindS h
            refine wdN rfl (pcal (sat_prefectref17_IsRule N _ _ hx44) rfl (.cons sub_rfl .nil) rfl rfl rfl) no_fresh ?_
            refine wdp rfl rfl ?_
            refine wdp rfl rfl ?_
            rcases bifS h with ⟨c7, h⟩ | ⟨c7, h⟩
            · skip
              refine wdp (p := e_api_Rule a0) (gy rfl c7) rfl ?_
              obtain ⟨x48, hx48, h⟩ := bindS h
              refine wdN (gy rfl c7) (pcal (sat_aci_Print N _ _ hx48) rfl (.cons sub_rfl .nil) rfl rfl rfl) no_fresh ?_
              refine wdp (gy rfl c7) rfl ?_
              refine wdp (gy rfl c7) rfl ?_
              refine wdp rfl (p_pick1 c7 rfl rfl) ?_
              refine wdp rfl rfl ?_
              rcases bifS h with ⟨c8, h⟩ | ⟨c8, h⟩
              · skip
                refine wdp (p := e_api_Rule a0) (gy rfl c8) rfl ?_
                refine wdp (p := e_api_Rule a1) (gy rfl c8) rfl ?_
                obtain ⟨x55, hx55, h⟩ := bindS h
                refine wdN (gy rfl c8) (pcal (sat_aci_Same N _ _ _ hx55) rfl (.cons sub_rfl (.cons sub_rfl .nil)) rfl rfl rfl) no_fresh ?_
                refine wdp (p := e_api_Rule a0) (gy rfl c8) rfl ?_
                refine wdp (p := e_api_Rule a1) (gy rfl c8) rfl ?_
                obtain ⟨x58, hx58, h⟩ := bindS h
                refine wdN (gy rfl c8) (pcal (sat_prefectref17_SameRule N _ _ _ hx58) rfl (.cons sub_rfl (.cons sub_rfl .nil)) rfl rfl rfl) no_fresh ?_
                refine wdp (gy rfl c8) rfl ?_
                refine wdp rfl (p_pick1 c8 rfl rfl) ?_
                refine wdp rfl rfl ?_
                rcases bifS h with ⟨c9, h⟩ | ⟨c9, h⟩
                · skip
                  refine wdp (gy rfl c9) rfl ?_
                  refine wdp (gy rfl c9) rfl ?_
                  refine wdp (gy rfl c9) rfl ?_
                  refine wdp (gy rfl c9) rfl ?_
                  refine wdp rfl (p_pick1 c9 rfl rfl) ?_
                  refine wdp rfl rfl ?_
                  rcases bifS h with ⟨c10, h⟩ | ⟨c10, h⟩
                  · skip
                    refine wdp (gy rfl c10) rfl ?_
                    refine wdp (gy rfl c10) rfl ?_
                    refine wdp (gy rfl c10) rfl ?_
                    rcases bifS h with ⟨c11, h⟩ | ⟨c11, h⟩
                    · skip
                      refine wdn (gn rfl c11) ?_
                      refine wdn (gn rfl c11) ?_
                      refine wdp (gy rfl c10) (p_pick1 c11 rfl rfl) ?_
                      refine wdp rfl (p_pick1 c10 rfl rfl) ?_
                      refine wdp rfl rfl ?_
                      refine wdp (p := e_api_Rule x33.1) rfl rfl ?_
                      refine wdp (p := e_api_Rule x38.1) rfl rfl ?_
                      obtain ⟨x78, hx78, h⟩ := bindS h
                      refine wdN rfl (pcal (sat_prefectref17_SameRule N _ _ _ hx78) rfl (.cons sub_rfl (.cons sub_rfl .nil)) rfl rfl rfl) no_fresh ?_
                      refine wdp rfl rfl ?_
                      refine wdp rfl rfl ?_
                      obtain rfl := someS h
                      exact (canon0 ⟨rfl, trivial⟩ trivial rfl rfl)
                    · skip
                      refine wdp (gy rfl c11) rfl ?_
                      refine wdp (gy rfl c11) rfl ?_
                      refine wdp (gy rfl c10) (p_pick0 c11 rfl rfl) ?_
                      refine wdp rfl (p_pick1 c10 rfl rfl) ?_
                      refine wdp rfl rfl ?_
                      rcases bifS h with ⟨c12, h⟩ | ⟨c12, h⟩
                      · skip
                        refine wdp (p := e_api_Rule x33.1) (gy rfl c12) rfl ?_
                        refine wdp (p := e_api_Rule x38.1) (gy rfl c12) rfl ?_
                        obtain ⟨x78, hx78, h⟩ := bindS h
                        refine wdN (gy rfl c12) (pcal (sat_prefectref17_SameRule N _ _ _ hx78) rfl (.cons sub_rfl (.cons sub_rfl .nil)) rfl rfl rfl) no_fresh ?_
                        refine wdp rfl (p_pick1 c12 rfl rfl) ?_
                        refine wdp rfl rfl ?_
                        obtain rfl := someS h
                        exact (canon0 ⟨rfl, trivial⟩ trivial rfl rfl)
                      · skip
                        refine wdn (gn rfl c12) ?_
                        refine wdn (gn rfl c12) ?_
                        refine wdn (gn rfl c12) ?_
                        refine wdp rfl (p_pick0 c12 rfl rfl) ?_
                        refine wdp rfl rfl ?_
                        obtain rfl := someS h
                        exact (canon0 ⟨rfl, trivial⟩ trivial rfl rfl)
                  · skip
                    refine wdn (gn rfl c10) ?_
                    refine wdn (gn rfl c10) ?_
                    refine wdn (gn rfl c10) ?_
                    refine wdn (gu rfl) ?_
                    refine wdn (gu rfl) ?_
                    refine wdn (gn rfl c10) ?_
                    refine wdp rfl (p_pick0 c10 rfl rfl) ?_
                    refine wdp rfl rfl ?_
                    refine wdn rfl ?_
                    refine wdn rfl ?_
                    refine wdn rfl ?_
                    refine wdp rfl rfl ?_
                    refine wdp rfl rfl ?_
                    obtain rfl := someS h
                    exact (canon0 ⟨rfl, trivial⟩ trivial rfl rfl)
                · skip
                  refine wdn (gn rfl c9) ?_
                  refine wdn (gn rfl c9) ?_
                  refine wdn (gn rfl c9) ?_
                  refine wdn (gn rfl c9) ?_
                  refine wdp rfl (p_pick0 c9 rfl rfl) ?_
                  refine wdp rfl rfl ?_
                  refine wdn rfl ?_
                  refine wdn rfl ?_
                  refine wdn rfl ?_
                  refine wdn (gu rfl) ?_
                  refine wdn (gu rfl) ?_
                  refine wdn rfl ?_
                  refine wdp rfl rfl ?_
                  refine wdp rfl rfl ?_
                  refine wdn rfl ?_
                  refine wdn rfl ?_
                  refine wdn rfl ?_
                  refine wdp rfl rfl ?_
                  refine wdp rfl rfl ?_
                  obtain rfl := someS h
                  exact (canon0 ⟨rfl, trivial⟩ trivial rfl rfl)
              · skip
                refine wdn (gn rfl c8) ?_
                refine wdn (gn rfl c8) ?_
                refine wdn (gn rfl c8) ?_
                refine wdn (gn rfl c8) ?_
                refine wdn (gn rfl c8) ?_
                refine wdn (gn rfl c8) ?_
                refine wdn (gn rfl c8) ?_
                refine wdp rfl (p_pick0 c8 rfl rfl) ?_
                refine wdp rfl rfl ?_
                refine wdn rfl ?_
                refine wdn rfl ?_
                refine wdn rfl ?_
                refine wdn rfl ?_
                refine wdp rfl rfl ?_
                refine wdp rfl rfl ?_
                refine wdn rfl ?_
                refine wdn rfl ?_
                refine wdn rfl ?_
                refine wdn (gu rfl) ?_
                refine wdn (gu rfl) ?_
                refine wdn rfl ?_
                refine wdp rfl rfl ?_
                refine wdp rfl rfl ?_
                refine wdn rfl ?_
                refine wdn rfl ?_
                refine wdn rfl ?_
                refine wdp rfl rfl ?_
                refine wdp rfl rfl ?_
                obtain rfl := someS h
                exact (canon0 ⟨rfl, trivial⟩ trivial rfl rfl)
            · skip
              refine wdn (gn rfl c7) ?_
              refine wdn (gn rfl c7) ?_
              refine wdn (gn rfl c7) ?_
              refine wdn (gn rfl c7) ?_
              refine wdp rfl (p_pick0 c7 rfl rfl) ?_
              refine wdp rfl rfl ?_
              refine wdn rfl ?_
              refine wdn rfl ?_
              refine wdn rfl ?_
              refine wdn rfl ?_
              refine wdn rfl ?_
              refine wdn rfl ?_
              refine wdn rfl ?_
              refine wdp rfl rfl ?_
              refine wdp rfl rfl ?_
              refine wdn rfl ?_
              refine wdn rfl ?_
              refine wdn rfl ?_
              refine wdn rfl ?_
              refine wdp rfl rfl ?_
              refine wdp rfl rfl ?_
              refine wdn rfl ?_
              refine wdn rfl ?_
              refine wdn rfl ?_
              refine wdn (gu rfl) ?_
              refine wdn (gu rfl) ?_
              refine wdn rfl ?_
              refine wdp rfl rfl ?_
              refine wdp rfl rfl ?_
              refine wdn rfl ?_
              refine wdn rfl ?_
              refine wdn rfl ?_
              refine wdp rfl rfl ?_
              refine wdp rfl rfl ?_
              obtain rfl := someS h
              exact (canon0 ⟨rfl, trivial⟩ trivial rfl rfl)
          · clear hg6
            obtain rfl := someS h
            refine xret ?_
            exact ⟨nofun, rfl, rfl⟩
        · skip
          refine xseq ?_
          refine xreg ?_
          refine wpp (p := e_api_Rule a0) rfl rfl ?_
          obtain ⟨x28, hx28, h⟩ := bindS h
          refine woo rfl (ocal (sat_prefectref17_IsRule N _ _ hx28) rfl (.cons sub_rfl .nil) rfl rfl rfl) ?_
          rcases bifS h with ⟨c13, h⟩ | ⟨c13, h⟩
          · refine xcT rfl c13 ?_
            refine xreg ?_
            refine wpp (p := e_api_Rule a0) rfl rfl ?_
            obtain ⟨x30, hx30, h⟩ := bindS h
            refine woo rfl (ocal (sat_prefectref17_Print N _ _ hx30) rfl (.cons sub_rfl .nil) rfl rfl rfl) ?_
            refine wpp rfl rfl ?_
            exact ⟨x30, (canon0 ⟨rfl, rfl, rfl, rfl, trivial⟩ ⟨rfl, rfl, trivial⟩ rfl rfl), h⟩
          · refine xcF rfl c13 ?_
            refine xskip ?_
            exact ⟨([] : List UInt8), (canon0 ⟨rfl, rfl, rfl, rfl, trivial⟩ ⟨rfl, rfl, trivial⟩ rfl rfl), h⟩
end Go.Gp
end
