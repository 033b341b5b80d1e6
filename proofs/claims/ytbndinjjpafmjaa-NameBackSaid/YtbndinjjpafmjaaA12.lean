/- A part of the proof: functions of the program and what they compute. -/
import Derived.Test.YtbndinjjpafmjaaA6
import Derived.Test.YtbndinjjpafmjaaA11
import Derived.Test.YtbndinjjpafmjaaA9
section
set_option linter.unusedVariables false
set_option linter.unusedSimpArgs false
set_option maxRecDepth 4000
namespace Go.Gp
open Go.Vd Go.RowKit Go.Proofs
def k20_l14 : IC := (.seq (.seq (.reg [⟨(some 11), (.mov (.t 5)), none⟩, ⟨(some 12), (.mov (.t 0)), none⟩, ⟨(some 13), (.len false (.t 12)), none⟩, ⟨(some 14), (.bin .lss (.t 11) (.t 13)), none⟩]) (.cond (.t 14) .skip (.exit 0))) (.seq (.block 1 (.seq (.regd 9 [⟨(some 17), (.mov (.t 0)), none⟩, ⟨(some 18), (.mov (.t 5)), none⟩, ⟨(some 19), (.ixp 2 (.t 17) (.t 18)), none⟩, ⟨(some 20), (.load 2 true (.t 19)), none⟩, ⟨(some 21), (.mov (.t 1)), none⟩, ⟨(some 22), (.mov (.t 5)), none⟩, ⟨(some 23), (.ixp 2 (.t 21) (.t 22)), none⟩, ⟨(some 24), (.load 2 true (.t 23)), none⟩, ⟨(some 25), (.eqs true [.s, .s] (.t 20) (.t 24)), none⟩]) (.cond (.t 25) (.seq (.reg [⟨(some 4), (.mov (.c (.bool false))), none⟩]) .ret) .skip))) (.reg [⟨(some 15), (.mov (.t 5)), none⟩, ⟨(some 16), (.bin .add (.t 15) (.c (.int .i64 1))), none⟩, ⟨(some 5), (.mov (.t 16)), none⟩])))
def k20 : IC := (.seq (.reg [⟨(some 4), (.mov (.c (.bool false))), none⟩]) (.seq (.seq (.reg [⟨(some 6), (.mov (.t 0)), none⟩, ⟨(some 7), (.len false (.t 6)), none⟩, ⟨(some 8), (.mov (.t 1)), none⟩, ⟨(some 9), (.len false (.t 8)), none⟩, ⟨(some 10), (.bin .neq (.t 7) (.t 9)), none⟩]) (.cond (.t 10) (.seq (.reg [⟨(some 4), (.mov (.c (.bool false))), none⟩]) .ret) .skip)) (.seq (.seq (.reg [⟨(some 5), (.mov (.c (.int .i64 0))), none⟩]) (.block 0 (.loop k20_l14))) (.seq (.reg [⟨(some 4), (.mov (.c (.bool true))), none⟩]) .ret))))
theorem k20_cf : cfunc Try.prog Try.f20 = some ⟨26, k20, [(.tmp 4)]⟩ := by kernel_rfl
theorem w_prefectref4_SameRDN_l14 (N : Nat) (a0 : List api_AVA) (a1 : List api_AVA) : ∀ (n : Nat) (x : Int) (y : Unit ⊕ Bool), prefectref4_SameRDN_l14 N a0 a1 n x = some y → WX Try.prog (fun _ => false) (.loop k20_l14) ((fun (x : Int) => ⟨ofL [(0, .sl 2 (List.map e_api_AVA a0)), (1, .sl 2 (List.map e_api_AVA a1)), (5, .int .i64 x)], ofL []⟩) x) ((Sum.elim (fun y e s => e = .exit 0 ∧ s = ⟨ofL [], ofL []⟩) (fun y e s => e = .ret ∧ s = ⟨ofL [(4, .bool y)], ofL []⟩) : (Unit ⊕ Bool) → Xt → St → Prop) y) := by
  refine xloop (fun (x : Int) => ⟨ofL [(0, .sl 2 (List.map e_api_AVA a0)), (1, .sl 2 (List.map e_api_AVA a1)), (5, .int .i64 x)], ofL []⟩) _ (prefectref4_SameRDN_l14 N a0 a1) (prefectref4_SameRDN_l14_b N a0 a1) (fun _ => rfl) (fun _ _ => rfl) ?_
  rintro rec v5l14 y h
  refine xseq ?_
  refine xseq ?_
  refine xreg ?_
  refine wpp rfl rfl ?_
  refine wpp rfl rfl ?_
  refine wpp rfl (p_lens rfl) ?_
  refine wpp rfl rfl ?_
  rcases bifS h with ⟨c2, h⟩ | ⟨c2, h⟩
  · refine xcT rfl c2 ?_
    refine xskip ?_
    refine xseq ?_
    refine xblk ?_
    refine xseq ?_
    refine xregd ?_
    refine wdp rfl rfl ?_
    refine wdp rfl rfl ?_
    obtain ⟨x19, hx19, h⟩ := bindS h
    refine wdp rfl (p_ixs (cs := [.str x19.Attr, .str x19.Value]) hx19 rfl rfl rfl) ?_
    refine wdp (p := e_api_AVA x19) rfl rfl ?_
    refine wdp rfl rfl ?_
    refine wdp rfl rfl ?_
    obtain ⟨x23, hx23, h⟩ := bindS h
    refine wdp rfl (p_ixs (cs := [.str x23.Attr, .str x23.Value]) hx23 rfl rfl rfl) ?_
    refine wdp (p := e_api_AVA x23) rfl rfl ?_
    refine wdp (p := .bool (!(x19.Attr == x23.Attr && (x19.Value == x23.Value && true)))) rfl rfl ?_
    rcases bifS h with ⟨c3, h⟩ | ⟨c3, h⟩
    · refine xcT rfl c3 ?_
      refine xseq ?_
      refine xreg ?_
      refine wpp rfl rfl ?_
      obtain rfl := someS h
      exact xretn (st1 := ⟨ofL [(4, .bool false)], ofL []⟩) (canon0 ⟨rfl, trivial⟩ trivial rfl rfl) ⟨rfl, rfl⟩
    · refine xcF rfl c3 ?_
      refine xskip ?_
      refine xreg ?_
      refine wpp rfl rfl ?_
      refine wpp (p := .int .i64 (w64 (v5l14 + (1 : Int)))) rfl rfl ?_
      refine wpp rfl rfl ?_
      exact ⟨(w64 (v5l14 + (1 : Int))), (canon0 ⟨rfl, rfl, rfl, trivial⟩ trivial rfl rfl), h⟩
  · refine xcF rfl c2 ?_
    obtain rfl := someS h
    exact xexitn (st1 := ⟨ofL [], ofL []⟩) (canon0 trivial trivial rfl rfl) ⟨rfl, rfl⟩
theorem sat_prefectref4_SameRDN (N : Nat) (a0 : List api_AVA) (a1 : List api_AVA) (r : Bool) (h : prefectref4_SameRDN N a0 a1 = some r) : Sat Try.prog 20 noRows [.sl 2 (List.map e_api_AVA a0), .sl 2 (List.map e_api_AVA a1)] (.bool r) noRows := by
  refine xsat mixed Try.func20 k20_cf (rs := [.bool r]) rfl rfl ?_
  refine xseq ?_
  refine xreg ?_
  refine wpp rfl rfl ?_
  refine xseq ?_
  refine xseq ?_
  refine xreg ?_
  refine wpp rfl rfl ?_
  refine wpp rfl (p_lens rfl) ?_
  refine wpp rfl rfl ?_
  refine wpp rfl (p_lens rfl) ?_
  refine wpp rfl rfl ?_
  rcases bifS h with ⟨c1, h⟩ | ⟨c1, h⟩
  · refine xcT rfl c1 ?_
    refine xseq ?_
    refine xreg ?_
    refine wpp rfl rfl ?_
    obtain rfl := someS h
    refine xret ?_
    exact ⟨nofun, rfl, rfl⟩
  · refine xcF rfl c1 ?_
    refine xskip ?_
    refine xseq ?_
    refine xseq ?_
    refine xreg ?_
    refine wpp rfl rfl ?_
    refine xblk ?_
    obtain ⟨y4, hy4, h⟩ := bindS h
    refine xloopU (st1 := ⟨ofL [(0, .sl 2 (List.map e_api_AVA a0)), (1, .sl 2 (List.map e_api_AVA a1)), (5, .int .i64 0)], ofL []⟩) (canon0 ⟨rfl, rfl, rfl, trivial⟩ trivial rfl rfl) (w_prefectref4_SameRDN_l14 N a0 a1 N _ _ hy4) ?_
    clear hy4
    rcases y4 with y4 | y4
    · rintro e s ⟨rfl, rfl⟩
      refine xseq ?_
      refine xreg ?_
      refine wpp rfl rfl ?_
      obtain rfl := someS h
      refine xret ?_
      exact ⟨nofun, rfl, rfl⟩
    · rintro e s ⟨rfl, rfl⟩
      obtain rfl := someS h
      exact ⟨nofun, rfl, rfl⟩
end Go.Gp
end
section
set_option linter.unusedVariables false
set_option linter.unusedSimpArgs false
set_option maxRecDepth 4000
namespace Go.Gp
open Go.Vd Go.RowKit Go.Proofs
def k19_l14 : IC := (.seq (.seq (.reg [⟨(some 11), (.mov (.t 5)), none⟩, ⟨(some 12), (.mov (.t 0)), none⟩, ⟨(some 13), (.len false (.t 12)), none⟩, ⟨(some 14), (.bin .lss (.t 11) (.t 13)), none⟩]) (.cond (.t 14) .skip (.exit 0))) (.seq (.block 1 (.seq (.regd 10 [⟨(some 17), (.mov (.t 0)), none⟩, ⟨(some 18), (.mov (.t 5)), none⟩, ⟨(some 19), (.ixp 1 (.t 17) (.t 18)), none⟩, ⟨(some 20), (.load 1 false (.t 19)), none⟩, ⟨(some 21), (.mov (.t 1)), none⟩, ⟨(some 22), (.mov (.t 5)), none⟩, ⟨(some 23), (.ixp 1 (.t 21) (.t 22)), none⟩, ⟨(some 24), (.load 1 false (.t 23)), none⟩, ⟨(some 25), (.call 20 [(.t 20), (.t 24)]), none⟩, ⟨(some 26), (.un .not (.t 25)), none⟩]) (.cond (.t 26) (.seq (.reg [⟨(some 4), (.mov (.c (.bool false))), none⟩]) .ret) .skip))) (.reg [⟨(some 15), (.mov (.t 5)), none⟩, ⟨(some 16), (.bin .add (.t 15) (.c (.int .i64 1))), none⟩, ⟨(some 5), (.mov (.t 16)), none⟩])))
def k19 : IC := (.seq (.reg [⟨(some 4), (.mov (.c (.bool false))), none⟩]) (.seq (.seq (.reg [⟨(some 6), (.mov (.t 0)), none⟩, ⟨(some 7), (.len false (.t 6)), none⟩, ⟨(some 8), (.mov (.t 1)), none⟩, ⟨(some 9), (.len false (.t 8)), none⟩, ⟨(some 10), (.bin .neq (.t 7) (.t 9)), none⟩]) (.cond (.t 10) (.seq (.reg [⟨(some 4), (.mov (.c (.bool false))), none⟩]) .ret) .skip)) (.seq (.seq (.reg [⟨(some 5), (.mov (.c (.int .i64 0))), none⟩]) (.block 0 (.loop k19_l14))) (.seq (.reg [⟨(some 4), (.mov (.c (.bool true))), none⟩]) .ret))))
theorem k19_cf : cfunc Try.prog Try.f19 = some ⟨27, k19, [(.tmp 4)]⟩ := by kernel_rfl
theorem w_prefectlaw4_same_l14 (N : Nat) (a0 : List (List api_AVA)) (a1 : List (List api_AVA)) : ∀ (n : Nat) (x : Int) (y : Unit ⊕ Bool), prefectlaw4_same_l14 N a0 a1 n x = some y → WX Try.prog (fun _ => false) (.loop k19_l14) ((fun (x : Int) => ⟨ofL [(0, .sl 1 (List.map (es 2 e_api_AVA) a0)), (1, .sl 1 (List.map (es 2 e_api_AVA) a1)), (5, .int .i64 x)], ofL []⟩) x) ((Sum.elim (fun y e s => e = .exit 0 ∧ s = ⟨ofL [], ofL []⟩) (fun y e s => e = .ret ∧ s = ⟨ofL [(4, .bool y)], ofL []⟩) : (Unit ⊕ Bool) → Xt → St → Prop) y) := by
  refine xloop (fun (x : Int) => ⟨ofL [(0, .sl 1 (List.map (es 2 e_api_AVA) a0)), (1, .sl 1 (List.map (es 2 e_api_AVA) a1)), (5, .int .i64 x)], ofL []⟩) _ (prefectlaw4_same_l14 N a0 a1) (prefectlaw4_same_l14_b N a0 a1) (fun _ => rfl) (fun _ _ => rfl) ?_
  rintro rec v5l14 y h
  refine xseq ?_
  refine xseq ?_
  refine xreg ?_
  refine wpp rfl rfl ?_
  refine wpp rfl rfl ?_
  refine wpp rfl (p_lens rfl) ?_
  refine wpp rfl rfl ?_
  rcases bifS h with ⟨c2, h⟩ | ⟨c2, h⟩
  · refine xcT rfl c2 ?_
    refine xskip ?_
    refine xseq ?_
    refine xblk ?_
    refine xseq ?_
    refine xregd ?_
    refine wdp rfl rfl ?_
    refine wdp rfl rfl ?_
    obtain ⟨x19, hx19, h⟩ := bindS h
    refine wdp rfl (p_ixs (cs := [.sl 2 (List.map e_api_AVA x19)]) hx19 rfl rfl rfl) ?_
    refine wdp rfl rfl ?_
    refine wdp rfl rfl ?_
    refine wdp rfl rfl ?_
    obtain ⟨x23, hx23, h⟩ := bindS h
    refine wdp rfl (p_ixs (cs := [.sl 2 (List.map e_api_AVA x23)]) hx23 rfl rfl rfl) ?_
    refine wdp rfl rfl ?_
    obtain ⟨x25, hx25, h⟩ := bindS h
    refine wdN rfl (pcal (sat_prefectref4_SameRDN N _ _ _ hx25) rfl (.cons sub_rfl (.cons sub_rfl .nil)) rfl rfl rfl) no_fresh ?_
    refine wdp rfl rfl ?_
    rcases bifS h with ⟨c3, h⟩ | ⟨c3, h⟩
    · refine xcT rfl c3 ?_
      refine xseq ?_
      refine xreg ?_
      refine wpp rfl rfl ?_
      obtain rfl := someS h
      exact xretn (st1 := ⟨ofL [(4, .bool false)], ofL []⟩) (canon0 ⟨rfl, trivial⟩ trivial rfl rfl) ⟨rfl, rfl⟩
    · refine xcF rfl c3 ?_
      refine xskip ?_
      refine xreg ?_
      refine wpp rfl rfl ?_
      refine wpp (p := .int .i64 (w64 (v5l14 + (1 : Int)))) rfl rfl ?_
      refine wpp rfl rfl ?_
      exact ⟨(w64 (v5l14 + (1 : Int))), (canon0 ⟨rfl, rfl, rfl, trivial⟩ trivial rfl rfl), h⟩
  · refine xcF rfl c2 ?_
    obtain rfl := someS h
    exact xexitn (st1 := ⟨ofL [], ofL []⟩) (canon0 trivial trivial rfl rfl) ⟨rfl, rfl⟩
theorem sat_prefectlaw4_same (N : Nat) (a0 : List (List api_AVA)) (a1 : List (List api_AVA)) (r : Bool) (h : prefectlaw4_same N a0 a1 = some r) : Sat Try.prog 19 noRows [.sl 1 (List.map (es 2 e_api_AVA) a0), .sl 1 (List.map (es 2 e_api_AVA) a1)] (.bool r) noRows := by
  refine xsat mixed Try.func19 k19_cf (rs := [.bool r]) rfl rfl ?_
  refine xseq ?_
  refine xreg ?_
  refine wpp rfl rfl ?_
  refine xseq ?_
  refine xseq ?_
  refine xreg ?_
  refine wpp rfl rfl ?_
  refine wpp rfl (p_lens rfl) ?_
  refine wpp rfl rfl ?_
  refine wpp rfl (p_lens rfl) ?_
  refine wpp rfl rfl ?_
  rcases bifS h with ⟨c1, h⟩ | ⟨c1, h⟩
  · refine xcT rfl c1 ?_
    refine xseq ?_
    refine xreg ?_
    refine wpp rfl rfl ?_
    obtain rfl := someS h
    refine xret ?_
    exact ⟨nofun, rfl, rfl⟩
  · refine xcF rfl c1 ?_
    refine xskip ?_
    refine xseq ?_
    refine xseq ?_
    refine xreg ?_
    refine wpp rfl rfl ?_
    refine xblk ?_
    obtain ⟨y4, hy4, h⟩ := bindS h
    refine xloopU (st1 := ⟨ofL [(0, .sl 1 (List.map (es 2 e_api_AVA) a0)), (1, .sl 1 (List.map (es 2 e_api_AVA) a1)), (5, .int .i64 0)], ofL []⟩) (canon0 ⟨rfl, rfl, rfl, trivial⟩ trivial rfl rfl) (w_prefectlaw4_same_l14 N a0 a1 N _ _ hy4) ?_
    clear hy4
    rcases y4 with y4 | y4
    · rintro e s ⟨rfl, rfl⟩
      refine xseq ?_
      refine xreg ?_
      refine wpp rfl rfl ?_
      obtain rfl := someS h
      refine xret ?_
      exact ⟨nofun, rfl, rfl⟩
    · rintro e s ⟨rfl, rfl⟩
      obtain rfl := someS h
      exact ⟨nofun, rfl, rfl⟩
end Go.Gp
end
section
set_option linter.unusedVariables false
set_option linter.unusedSimpArgs false
set_option maxRecDepth 4000
namespace Go.Gp
open Go.Vd Go.RowKit Go.Proofs
def k4 : IC := (.seq (.reg [⟨(some 4), (.mov (.c (.bool false))), none⟩]) (.seq (.seq (.reg [⟨(some 10), (.call 8 []), none⟩, ⟨(some 11), (.un .not (.t 10)), none⟩]) (.cond (.t 11) (.seq (.reg [⟨(some 4), (.mov (.c (.bool false))), none⟩]) .ret) .skip)) (.seq (.seq (.reg [⟨(some 12), (.mov (.t 0)), none⟩, ⟨(some 13), (.call 9 [(.t 12)]), none⟩, ⟨(some 14), (.un .not (.t 13)), none⟩, ⟨(some 15), (.mov (.t 14)), none⟩, ⟨(some 16), (.mov (.t 1)), (some (15, false))⟩, ⟨(some 17), (.call 9 [(.t 16)]), (some (15, false))⟩, ⟨(some 18), (.un .not (.t 17)), (some (15, false))⟩, ⟨(some 19), (.pick (.t 15) (.c (.bool true)) (.t 18)), none⟩, ⟨(some 20), (.mov (.t 19)), none⟩, ⟨(some 21), (.mov (.t 0)), (some (20, false))⟩, ⟨(some 22), (.call 21 [(.t 21)]), (some (20, false))⟩, ⟨(some 23), (.un .not (.t 22)), (some (20, false))⟩, ⟨(some 24), (.pick (.t 20) (.c (.bool true)) (.t 23)), none⟩, ⟨(some 25), (.mov (.t 24)), none⟩, ⟨(some 26), (.mov (.t 1)), (some (25, false))⟩, ⟨(some 27), (.call 21 [(.t 26)]), (some (25, false))⟩, ⟨(some 28), (.un .not (.t 27)), (some (25, false))⟩, ⟨(some 29), (.pick (.t 25) (.c (.bool true)) (.t 28)), none⟩]) (.cond (.t 29) (.seq (.reg [⟨(some 4), (.mov (.c (.bool true))), none⟩]) .ret) .skip)) (.seq (.reg [⟨(some 30), (.mov (.t 0)), none⟩, ⟨(some 31), (.call 23 [(.t 30)]), none⟩, ⟨(some 5), (.mov (.t 31)), none⟩]) (.seq (.reg [⟨(some 33), (.mov (.t 5)), none⟩, ⟨(some 34), (.call 15 [(.t 33)]), none⟩, ⟨(some 32), (.mov (.t 34)), none⟩, ⟨(some 35), (.ext 0 (.t 32)), none⟩, ⟨(some 36), (.ext 1 (.t 32)), none⟩, ⟨(some 6), (.mov (.t 35)), none⟩, ⟨(some 7), (.mov (.t 36)), none⟩]) (.seq (.seq (.reg [⟨(some 37), (.mov (.t 7)), none⟩, ⟨(some 38), (.bin .neq (.t 37) (.c (.int .i64 0))), none⟩, ⟨(some 39), (.mov (.t 38)), none⟩, ⟨(some 40), (.mov (.t 6)), (some (39, false))⟩, ⟨(some 41), (.mov (.t 0)), (some (39, false))⟩, ⟨(some 42), (.call 19 [(.t 40), (.t 41)]), (some (39, false))⟩, ⟨(some 43), (.un .not (.t 42)), (some (39, false))⟩, ⟨(some 44), (.pick (.t 39) (.c (.bool true)) (.t 43)), none⟩, ⟨(some 45), (.mov (.t 44)), none⟩, ⟨(some 46), (.mov (.t 5)), (some (45, false))⟩, ⟨(some 47), (.bin .eql (.t 46) (.c (.str []))), (some (45, false))⟩, ⟨(some 48), (.mov (.t 0)), (some (45, false))⟩, ⟨(some 49), (.len false (.t 48)), (some (45, false))⟩, ⟨(some 50), (.bin .eql (.t 49) (.c (.int .i64 0))), (some (45, false))⟩, ⟨(some 51), (.beq true (.t 47) (.t 50)), (some (45, false))⟩, ⟨(some 52), (.pick (.t 45) (.c (.bool true)) (.t 51)), none⟩]) (.cond (.t 52) (.seq (.reg [⟨(some 4), (.mov (.c (.bool false))), none⟩]) .ret) .skip)) (.seq (.seq (.reg [⟨(some 53), (.mov (.t 0)), none⟩, ⟨(some 54), (.len false (.t 53)), none⟩, ⟨(some 55), (.bin .eql (.t 54) (.c (.int .i64 0))), none⟩, ⟨(some 56), (.mov (.t 55)), none⟩, ⟨(some 57), (.mov (.t 1)), (some (56, false))⟩, ⟨(some 58), (.len false (.t 57)), (some (56, false))⟩, ⟨(some 59), (.bin .eql (.t 58) (.c (.int .i64 0))), (some (56, false))⟩, ⟨(some 60), (.pick (.t 56) (.c (.bool true)) (.t 59)), none⟩]) (.cond (.t 60) (.seq (.reg [⟨(some 4), (.mov (.c (.bool true))), none⟩]) .ret) .skip)) (.seq (.reg [⟨(some 62), (.mov (.t 5)), none⟩, ⟨(some 63), (.bin .add (.t 62) (.c (.str [44]))), none⟩, ⟨(some 64), (.mov (.t 1)), none⟩, ⟨(some 65), (.call 23 [(.t 64)]), none⟩, ⟨(some 66), (.bin .add (.t 63) (.t 65)), none⟩, ⟨(some 67), (.call 15 [(.t 66)]), none⟩, ⟨(some 61), (.mov (.t 67)), none⟩, ⟨(some 68), (.ext 0 (.t 61)), none⟩, ⟨(some 69), (.ext 1 (.t 61)), none⟩, ⟨(some 8), (.mov (.t 68)), none⟩, ⟨(some 9), (.mov (.t 69)), none⟩]) (.seq (.seq (.reg [⟨(some 70), (.mov (.t 0)), none⟩, ⟨(some 71), (.len false (.t 70)), none⟩, ⟨(some 72), (.mov (.t 1)), none⟩, ⟨(some 73), (.len false (.t 72)), none⟩, ⟨(some 74), (.bin .add (.t 71) (.t 73)), none⟩, ⟨(some 75), (.bin .gtr (.t 74) (.c (.int .i64 8))), none⟩]) (.cond (.t 75) (.seq (.reg [⟨(some 76), (.mov (.t 9)), none⟩, ⟨(some 77), (.bin .eql (.t 76) (.c (.int .i64 15))), none⟩, ⟨(some 4), (.mov (.t 77)), none⟩]) .ret) .skip)) (.seq (.reg [⟨(some 78), (.mov (.t 9)), none⟩, ⟨(some 79), (.bin .eql (.t 78) (.c (.int .i64 0))), none⟩, ⟨(some 80), (.mov (.t 79)), none⟩, ⟨(some 81), (.mov (.t 8)), (some (80, true))⟩, ⟨(some 82), (.mov (.t 0)), (some (80, true))⟩, ⟨(some 83), (.len false (.t 82)), (some (80, true))⟩, ⟨(some 84), (.slcl 1 (.t 81) none (some (.t 83))), (some (80, true))⟩, ⟨(some 85), (.mov (.t 0)), (some (80, true))⟩, ⟨(some 86), (.call 19 [(.t 84), (.t 85)]), (some (80, true))⟩, ⟨(some 87), (.pick (.t 80) (.t 86) (.c (.bool false))), none⟩, ⟨(some 88), (.mov (.t 87)), none⟩, ⟨(some 89), (.mov (.t 8)), (some (88, true))⟩, ⟨(some 90), (.mov (.t 0)), (some (88, true))⟩, ⟨(some 91), (.len false (.t 90)), (some (88, true))⟩, ⟨(some 92), (.slcl 1 (.t 89) (some (.t 91)) none), (some (88, true))⟩, ⟨(some 93), (.mov (.t 1)), (some (88, true))⟩, ⟨(some 94), (.call 19 [(.t 92), (.t 93)]), (some (88, true))⟩, ⟨(some 95), (.pick (.t 88) (.t 94) (.c (.bool false))), none⟩, ⟨(some 4), (.mov (.t 95)), none⟩]) .ret))))))))))
theorem k4_cf : cfunc Try.prog Try.f4 = some ⟨96, k4, [(.tmp 4)]⟩ := by kernel_rfl
theorem sat_prefectlaw4_NameBack (N : Nat) (a0 : List (List api_AVA)) (a1 : List (List api_AVA)) (r : Bool) (h : prefectlaw4_NameBack N a0 a1 = some r) : Sat Try.prog 4 noRows [.sl 1 (List.map (es 2 e_api_AVA) a0), .sl 1 (List.map (es 2 e_api_AVA) a1)] (.bool r) noRows := by
  refine xsat mixed Try.func4 k4_cf (rs := [.bool r]) rfl rfl ?_
  refine xseq ?_
  refine xreg ?_
  refine wpp rfl rfl ?_
  refine xseq ?_
  refine xseq ?_
  refine xreg ?_
  obtain ⟨x10, hx10, h⟩ := bindS h
  refine woo rfl (ocal (sat_prefectlaw4_known N _ hx10) rfl .nil rfl rfl rfl) ?_
  refine wpp rfl rfl ?_
  rcases bifS h with ⟨c1, h⟩ | ⟨c1, h⟩
  · refine xcT rfl c1 ?_
    refine xseq ?_
    refine xreg ?_
    refine wpp rfl rfl ?_
    obtain rfl := someS h
    refine xret ?_
    exact ⟨nofun, rfl, rfl⟩
  · refine xcF rfl c1 ?_
    refine xskip ?_
    refine xseq ?_
    obtain ⟨g2, hg2, h⟩ := bindS h
    refine xseg ⟨ofL [(0, .sl 1 (List.map (es 2 e_api_AVA) a0)), (1, .sl 1 (List.map (es 2 e_api_AVA) a1)), (29, .bool g2)], ofL []⟩ ?_ ?_
    · have h := hg2
      refine xreg ?_
      refine wpp rfl rfl ?_
      obtain ⟨x13, hx13, h⟩ := bindS h
      refine woo rfl (ocal (sat_prefectlaw4_few N _ _ hx13) rfl (.cons sub_rfl .nil) rfl rfl rfl) ?_
      refine wpp rfl rfl ?_
      refine wpp rfl rfl ?_
      rcases bifS h with ⟨c3, h⟩ | ⟨c3, h⟩
      · skip
        refine wsk (gn rfl c3) ?_
        refine wsk (gn rfl c3) ?_
        refine wsk (gn rfl c3) ?_
        refine wpp rfl (p_pick1 c3 rfl rfl) ?_
        refine wpp rfl rfl ?_
        refine wsk rfl ?_
        refine wsk rfl ?_
        refine wsk rfl ?_
        refine wpp rfl rfl ?_
        refine wpp rfl rfl ?_
        refine wsk rfl ?_
        refine wsk rfl ?_
        refine wsk rfl ?_
        refine wpp rfl rfl ?_
        obtain rfl := someS h
        exact (canon0 ⟨rfl, rfl, rfl, trivial⟩ trivial rfl rfl)
      · skip
        refine wpp (gy rfl c3) rfl ?_
        obtain ⟨x17, hx17, h⟩ := bindS h
        refine woo (gy rfl c3) (ocal (sat_prefectlaw4_few N _ _ hx17) rfl (.cons sub_rfl .nil) rfl rfl rfl) ?_
        refine wpp (gy rfl c3) rfl ?_
        refine wpp rfl (p_pick0 c3 rfl rfl) ?_
        refine wpp rfl rfl ?_
        rcases bifS h with ⟨c4, h⟩ | ⟨c4, h⟩
        · skip
          refine wsk (gn rfl c4) ?_
          refine wsk (gn rfl c4) ?_
          refine wsk (gn rfl c4) ?_
          refine wpp rfl (p_pick1 c4 rfl rfl) ?_
          refine wpp rfl rfl ?_
          refine wsk rfl ?_
          refine wsk rfl ?_
          refine wsk rfl ?_
          refine wpp rfl rfl ?_
          obtain rfl := someS h
          exact (canon0 ⟨rfl, rfl, rfl, trivial⟩ trivial rfl rfl)
        · skip
          refine wpp (gy rfl c4) rfl ?_
          obtain ⟨x22, hx22, h⟩ := bindS h
          refine woo (gy rfl c4) (ocal (sat_dn_Is N _ _ hx22) rfl (.cons sub_rfl .nil) rfl rfl rfl) ?_
          refine wpp (gy rfl c4) rfl ?_
          refine wpp rfl (p_pick0 c4 rfl rfl) ?_
          refine wpp rfl rfl ?_
          rcases bifS h with ⟨c5, h⟩ | ⟨c5, h⟩
          · skip
            refine wsk (gn rfl c5) ?_
            refine wsk (gn rfl c5) ?_
            refine wsk (gn rfl c5) ?_
            refine wpp rfl (p_pick1 c5 rfl rfl) ?_
            obtain rfl := someS h
            exact (canon0 ⟨rfl, rfl, rfl, trivial⟩ trivial rfl rfl)
          · skip
            refine wpp (gy rfl c5) rfl ?_
            obtain ⟨x27, hx27, h⟩ := bindS h
            refine woo (gy rfl c5) (ocal (sat_dn_Is N _ _ hx27) rfl (.cons sub_rfl .nil) rfl rfl rfl) ?_
            refine wpp (gy rfl c5) rfl ?_
            refine wpp rfl (p_pick0 c5 rfl rfl) ?_
            obtain rfl := someS h
            exact (canon0 ⟨rfl, rfl, rfl, trivial⟩ trivial rfl rfl)
    · clear hg2
      rcases bifS h with ⟨c6, h⟩ | ⟨c6, h⟩
      · refine xcT rfl c6 ?_
        refine xseq ?_
        refine xreg ?_
        refine wpp rfl rfl ?_
        obtain rfl := someS h
        refine xret ?_
        exact ⟨nofun, rfl, rfl⟩
      · refine xcF rfl c6 ?_
        refine xskip ?_
        refine xseq ?_
        refine xreg ?_
        refine wpp rfl rfl ?_
        obtain ⟨x31, hx31, h⟩ := bindS h
        refine woo rfl (ocal (sat_dn_Print N _ _ hx31) rfl (.cons sub_rfl .nil) rfl rfl rfl) ?_
        refine wpp rfl rfl ?_
        refine xseq ?_
        refine xreg ?_
        refine wpp rfl rfl ?_
        obtain ⟨x34, hx34, h⟩ := bindS h
        refine woo rfl (ocal (sat_dn_Parse N _ _ hx34) rfl (.cons sub_rfl .nil) rfl rfl rfl) ?_
        refine wpp rfl rfl ?_
        refine wpp rfl rfl ?_
        refine wpp rfl rfl ?_
        refine wpp rfl rfl ?_
        refine wpp rfl rfl ?_
        refine xseq ?_
        obtain ⟨g7, hg7, h⟩ := bindS h
        refine xseg ⟨ofL [(0, .sl 1 (List.map (es 2 e_api_AVA) a0)), (1, .sl 1 (List.map (es 2 e_api_AVA) a1)), (5, .str x31), (52, .bool g7)], ofL []⟩ ?_ ?_
        · have h := hg7
          refine xreg ?_
          refine wpp rfl rfl ?_
          refine wpp rfl rfl ?_
          refine wpp rfl rfl ?_
          rcases bifS h with ⟨c8, h⟩ | ⟨c8, h⟩
          · skip
            refine wsk (gn rfl c8) ?_
            refine wsk (gn rfl c8) ?_
            refine wsk (gn rfl c8) ?_
            refine wsk (gn rfl c8) ?_
            refine wpp rfl (p_pick1 c8 rfl rfl) ?_
            refine wpp rfl rfl ?_
            refine wsk rfl ?_
            refine wsk rfl ?_
            refine wsk rfl ?_
            refine wsk rfl ?_
            refine wsk rfl ?_
            refine wsk rfl ?_
            refine wpp rfl rfl ?_
            obtain rfl := someS h
            exact (canon0 ⟨rfl, rfl, rfl, rfl, trivial⟩ trivial rfl rfl)
          · skip
            refine wpp (gy rfl c8) rfl ?_
            refine wpp (gy rfl c8) rfl ?_
            obtain ⟨x42, hx42, h⟩ := bindS h
            refine woo (gy rfl c8) (ocal (sat_prefectlaw4_same N _ _ _ hx42) rfl (.cons sub_rfl (.cons sub_rfl .nil)) rfl rfl rfl) ?_
            refine wpp (gy rfl c8) rfl ?_
            refine wpp rfl (p_pick0 c8 rfl rfl) ?_
            refine wpp rfl rfl ?_
            rcases bifS h with ⟨c9, h⟩ | ⟨c9, h⟩
            · skip
              refine wsk (gn rfl c9) ?_
              refine wsk (gn rfl c9) ?_
              refine wsk (gn rfl c9) ?_
              refine wsk (gn rfl c9) ?_
              refine wsk (gn rfl c9) ?_
              refine wsk (gn rfl c9) ?_
              refine wpp rfl (p_pick1 c9 rfl rfl) ?_
              obtain rfl := someS h
              exact (canon0 ⟨rfl, rfl, rfl, rfl, trivial⟩ trivial rfl rfl)
            · skip
              refine wpp (gy rfl c9) rfl ?_
              refine wpp (gy rfl c9) rfl ?_
              refine wpp (gy rfl c9) rfl ?_
              refine wpp (gy rfl c9) (p_lens rfl) ?_
              refine wpp (gy rfl c9) rfl ?_
              refine wpp (gy rfl c9) rfl ?_
              refine wpp rfl (p_pick0 c9 rfl rfl) ?_
              obtain rfl := someS h
              exact (canon0 ⟨rfl, rfl, rfl, rfl, trivial⟩ trivial rfl rfl)
        · clear hg7
          rcases bifS h with ⟨c10, h⟩ | ⟨c10, h⟩
          · refine xcT rfl c10 ?_
            refine xseq ?_
            refine xreg ?_
            refine wpp rfl rfl ?_
            obtain rfl := someS h
            refine xret ?_
            exact ⟨nofun, rfl, rfl⟩
          · refine xcF rfl c10 ?_
            refine xskip ?_
            refine xseq ?_
            obtain ⟨g11, hg11, h⟩ := bindS h
            refine xseg ⟨ofL [(0, .sl 1 (List.map (es 2 e_api_AVA) a0)), (1, .sl 1 (List.map (es 2 e_api_AVA) a1)), (5, .str x31), (60, .bool g11)], ofL []⟩ ?_ ?_
            · have h := hg11
              refine xreg ?_
              refine wpp rfl rfl ?_
              refine wpp rfl (p_lens rfl) ?_
              refine wpp rfl rfl ?_
              refine wpp rfl rfl ?_
              rcases bifS h with ⟨c12, h⟩ | ⟨c12, h⟩
              · skip
                refine wsk (gn rfl c12) ?_
                refine wsk (gn rfl c12) ?_
                refine wsk (gn rfl c12) ?_
                refine wpp rfl (p_pick1 c12 rfl rfl) ?_
                obtain rfl := someS h
                exact (canon0 ⟨rfl, rfl, rfl, rfl, trivial⟩ trivial rfl rfl)
              · skip
                refine wpp (gy rfl c12) rfl ?_
                refine wpp (gy rfl c12) (p_lens rfl) ?_
                refine wpp (gy rfl c12) rfl ?_
                refine wpp rfl (p_pick0 c12 rfl rfl) ?_
                obtain rfl := someS h
                exact (canon0 ⟨rfl, rfl, rfl, rfl, trivial⟩ trivial rfl rfl)
            · clear hg11
              rcases bifS h with ⟨c13, h⟩ | ⟨c13, h⟩
              · refine xcT rfl c13 ?_
                refine xseq ?_
                refine xreg ?_
                refine wpp rfl rfl ?_
                obtain rfl := someS h
                refine xret ?_
                exact ⟨nofun, rfl, rfl⟩
              · refine xcF rfl c13 ?_
                refine xskip ?_
                refine xseq ?_
                refine xreg ?_
                refine wpp rfl rfl ?_
                obtain ⟨x63, hx63, h⟩ := bindS h
                refine wpp rfl (p_cat hx63 rfl rfl) ?_
                refine wpp rfl rfl ?_
                obtain ⟨x65, hx65, h⟩ := bindS h
                refine woo rfl (ocal (sat_dn_Print N _ _ hx65) rfl (.cons sub_rfl .nil) rfl rfl rfl) ?_
                obtain ⟨x66, hx66, h⟩ := bindS h
                refine wpp rfl (p_cat hx66 rfl rfl) ?_
                obtain ⟨x67, hx67, h⟩ := bindS h
                refine woo rfl (ocal (sat_dn_Parse N _ _ hx67) rfl (.cons sub_rfl .nil) rfl rfl rfl) ?_
                refine wpp rfl rfl ?_
                refine wpp rfl rfl ?_
                refine wpp rfl rfl ?_
                refine wpp rfl rfl ?_
                refine wpp rfl rfl ?_
                refine xseq ?_
                refine xseq ?_
                refine xreg ?_
                refine wpp rfl rfl ?_
                refine wpp rfl (p_lens rfl) ?_
                refine wpp rfl rfl ?_
                refine wpp rfl (p_lens rfl) ?_
                refine wpp (p := .int .i64 (w64 ((a0.length : Int) + (a1.length : Int)))) rfl rfl ?_
                refine wpp rfl rfl ?_
                rcases bifS h with ⟨c14, h⟩ | ⟨c14, h⟩
                · refine xcT rfl c14 ?_
                  refine xseq ?_
                  refine xreg ?_
                  refine wpp rfl rfl ?_
                  refine wpp rfl rfl ?_
                  refine wpp rfl rfl ?_
                  obtain rfl := someS h
                  refine xret ?_
                  exact ⟨nofun, rfl, rfl⟩
                · refine xcF rfl c14 ?_
                  refine xskip ?_
                  obtain ⟨g15, hg15, h⟩ := bindS h
                  refine xseg ⟨ofL [(4, .bool g15)], ofL []⟩ ?_ ?_
                  · have h := hg15
                    refine xreg ?_
                    refine wpp rfl rfl ?_
                    refine wpp rfl rfl ?_
                    refine wpp rfl rfl ?_
                    rcases bifS h with ⟨c16, h⟩ | ⟨c16, h⟩
                    · skip
                      refine wpp (gy rfl c16) rfl ?_
                      refine wpp (gy rfl c16) rfl ?_
                      refine wpp (gy rfl c16) (p_lens rfl) ?_
                      obtain ⟨x84, hx84, h⟩ := bindS h
                      refine wpp (gy rfl c16) (p_takel hx84 rfl rfl) ?_
                      refine wpp (gy rfl c16) rfl ?_
                      obtain ⟨x86, hx86, h⟩ := bindS h
                      refine woo (gy rfl c16) (ocal (sat_prefectlaw4_same N _ _ _ hx86) rfl (.cons sub_rfl (.cons sub_rfl .nil)) rfl rfl rfl) ?_
                      refine wpp rfl (p_pick1 c16 rfl rfl) ?_
                      refine wpp rfl rfl ?_
                      rcases bifS h with ⟨c17, h⟩ | ⟨c17, h⟩
                      · skip
                        refine wpp (gy rfl c17) rfl ?_
                        refine wpp (gy rfl c17) rfl ?_
                        refine wpp (gy rfl c17) (p_lens rfl) ?_
                        obtain ⟨x92, hx92, h⟩ := bindS h
                        refine wpp (gy rfl c17) (p_dropl hx92 rfl rfl) ?_
                        refine wpp (gy rfl c17) rfl ?_
                        obtain ⟨x94, hx94, h⟩ := bindS h
                        refine woo (gy rfl c17) (ocal (sat_prefectlaw4_same N _ _ _ hx94) rfl (.cons sub_rfl (.cons sub_rfl .nil)) rfl rfl rfl) ?_
                        refine wpp rfl (p_pick1 c17 rfl rfl) ?_
                        refine wpp rfl rfl ?_
                        obtain rfl := someS h
                        exact (canon0 ⟨rfl, trivial⟩ trivial rfl rfl)
                      · skip
                        refine wsk (gn rfl c17) ?_
                        refine wsk (gn rfl c17) ?_
                        refine wsk (gn rfl c17) ?_
                        refine wsk (gn rfl c17) ?_
                        refine wsk (gn rfl c17) ?_
                        refine wsk (gn rfl c17) ?_
                        refine wpp rfl (p_pick0 c17 rfl rfl) ?_
                        refine wpp rfl rfl ?_
                        obtain rfl := someS h
                        exact (canon0 ⟨rfl, trivial⟩ trivial rfl rfl)
                    · skip
                      refine wsk (gn rfl c16) ?_
                      refine wsk (gn rfl c16) ?_
                      refine wsk (gn rfl c16) ?_
                      refine wsk (gn rfl c16) ?_
                      refine wsk (gn rfl c16) ?_
                      refine wsk (gn rfl c16) ?_
                      refine wpp rfl (p_pick0 c16 rfl rfl) ?_
                      refine wpp rfl rfl ?_
                      refine wsk rfl ?_
                      refine wsk rfl ?_
                      refine wsk rfl ?_
                      refine wsk rfl ?_
                      refine wsk rfl ?_
                      refine wsk rfl ?_
                      refine wpp rfl rfl ?_
                      refine wpp rfl rfl ?_
                      obtain rfl := someS h
                      exact (canon0 ⟨rfl, trivial⟩ trivial rfl rfl)
                  · clear hg15
                    obtain rfl := someS h
                    refine xret ?_
                    exact ⟨nofun, rfl, rfl⟩
end Go.Gp
end
