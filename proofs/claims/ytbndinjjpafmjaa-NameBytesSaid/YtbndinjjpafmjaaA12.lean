/- A part of the proof: functions of the program and what they compute. -/
import Derived.Test.YtbndinjjpafmjaaA6
import Derived.Test.YtbndinjjpafmjaaA11
import Derived.Test.YtbndinjjpafmjaaA9
section
set_option linter.unusedVariables false
set_option linter.unusedSimpArgs false
set_option maxRecDepth 4000
namespace Go.Gp
open Go.Vd Go.RowKit Go.Proofs
def k5_l22 : IC := (.seq (.seq (.reg [⟨(some 32), (.mov (.t 12)), none⟩, ⟨(some 33), (.bin .lss (.t 32) (.c (.int .i64 3))), none⟩]) (.cond (.t 33) .skip (.exit 0))) (.seq (.block 1 (.regd 24 [⟨(some 36), (.mov (.t 11)), none⟩, ⟨(some 37), (.bin .add (.t 36) (.c (.str [92]))), none⟩, ⟨(some 38), (.mov (.t 7)), none⟩, ⟨(some 39), (.mov (.t 12)), none⟩, ⟨(some 40), (.idxs (.t 38) (.t 39)), none⟩, ⟨(some 41), (.bin .shr (.t 40) (.c (.int .u64 4))), none⟩, ⟨(some 42), (.mov (.t 7)), none⟩, ⟨(some 43), (.mov (.t 12)), none⟩, ⟨(some 44), (.idxs (.t 42) (.t 43)), none⟩, ⟨(some 45), (.bin .shr (.t 44) (.c (.int .u64 4))), none⟩, ⟨(some 46), (.bin .add (.t 45) (.c (.int .u8 1))), none⟩, ⟨(some 47), (.slcs (.c (.str [48, 49, 50, 51, 52, 53, 54, 55, 56, 57, 65, 66, 67, 68, 69, 70])) (some (.t 41)) (some (.t 46))), none⟩, ⟨(some 48), (.bin .add (.t 37) (.t 47)), none⟩, ⟨(some 49), (.mov (.t 7)), none⟩, ⟨(some 50), (.mov (.t 12)), none⟩, ⟨(some 51), (.idxs (.t 49) (.t 50)), none⟩, ⟨(some 52), (.bin .and (.t 51) (.c (.int .u8 15))), none⟩, ⟨(some 53), (.mov (.t 7)), none⟩, ⟨(some 54), (.mov (.t 12)), none⟩, ⟨(some 55), (.idxs (.t 53) (.t 54)), none⟩, ⟨(some 56), (.bin .and (.t 55) (.c (.int .u8 15))), none⟩, ⟨(some 57), (.bin .add (.t 56) (.c (.int .u8 1))), none⟩, ⟨(some 58), (.slcs (.c (.str [48, 49, 50, 51, 52, 53, 54, 55, 56, 57, 97, 98, 99, 100, 101, 102])) (some (.t 52)) (some (.t 57))), none⟩, ⟨(some 59), (.bin .add (.t 48) (.t 58)), none⟩, ⟨(some 11), (.mov (.t 59)), none⟩])) (.reg [⟨(some 34), (.mov (.t 12)), none⟩, ⟨(some 35), (.bin .add (.t 34) (.c (.int .i64 1))), none⟩, ⟨(some 12), (.mov (.t 35)), none⟩])))
def k5 : IC := (.seq (.reg [⟨(some 6), (.mov (.c (.bool false))), none⟩]) (.seq (.seq (.reg [⟨(some 15), (.call 8 []), none⟩, ⟨(some 16), (.un .not (.t 15)), none⟩]) (.cond (.t 16) (.seq (.reg [⟨(some 6), (.mov (.c (.bool false))), none⟩]) .ret) .skip)) (.seq (.reg [⟨(some 17), (.mov (.t 0)), none⟩, ⟨(some 18), (.mov (.t 1)), none⟩, ⟨(some 19), (.mov (.t 2)), none⟩, ⟨(some 20), (.bsl 1 [(.t 17), (.t 18), (.t 19)]), none⟩, ⟨(some 21), (.cvb (.t 20)), none⟩, ⟨(some 7), (.mov (.t 21)), none⟩]) (.seq (.reg [⟨(some 22), (.mov (.t 7)), none⟩, ⟨(some 23), (.build [(.str []), (.str [])] [(0, (1, (.c (.str [99, 110])))), (1, (1, (.t 22)))]), none⟩, ⟨(some 24), (.bsl 2 [(.t 23)]), none⟩, ⟨(some 25), (.bsl 1 [(.t 24)]), none⟩, ⟨(some 8), (.mov (.t 25)), none⟩]) (.seq (.reg [⟨(some 27), (.mov (.t 8)), none⟩, ⟨(some 28), (.call 23 [(.t 27)]), none⟩, ⟨(some 29), (.call 15 [(.t 28)]), none⟩, ⟨(some 26), (.mov (.t 29)), none⟩, ⟨(some 30), (.ext 0 (.t 26)), none⟩, ⟨(some 31), (.ext 1 (.t 26)), none⟩, ⟨(some 9), (.mov (.t 30)), none⟩, ⟨(some 10), (.mov (.t 31)), none⟩]) (.seq (.reg [⟨(some 11), (.mov (.c (.str [99, 110, 61]))), none⟩]) (.seq (.seq (.reg [⟨(some 12), (.mov (.c (.int .i64 0))), none⟩]) (.block 0 (.loop k5_l22))) (.seq (.reg [⟨(some 61), (.mov (.t 11)), none⟩, ⟨(some 62), (.call 15 [(.t 61)]), none⟩, ⟨(some 60), (.mov (.t 62)), none⟩, ⟨(some 63), (.ext 0 (.t 60)), none⟩, ⟨(some 64), (.ext 1 (.t 60)), none⟩, ⟨(some 13), (.mov (.t 63)), none⟩, ⟨(some 14), (.mov (.t 64)), none⟩]) (.seq (.reg [⟨(some 65), (.mov (.t 10)), none⟩, ⟨(some 66), (.bin .eql (.t 65) (.c (.int .i64 0))), none⟩, ⟨(some 67), (.mov (.t 66)), none⟩, ⟨(some 68), (.mov (.t 9)), (some (67, true))⟩, ⟨(some 69), (.mov (.t 8)), (some (67, true))⟩, ⟨(some 70), (.call 19 [(.t 68), (.t 69)]), (some (67, true))⟩, ⟨(some 71), (.pick (.t 67) (.t 70) (.c (.bool false))), none⟩, ⟨(some 72), (.mov (.t 71)), none⟩, ⟨(some 73), (.mov (.t 14)), (some (72, true))⟩, ⟨(some 74), (.bin .eql (.t 73) (.c (.int .i64 0))), (some (72, true))⟩, ⟨(some 75), (.pick (.t 72) (.t 74) (.c (.bool false))), none⟩, ⟨(some 76), (.mov (.t 75)), none⟩, ⟨(some 77), (.mov (.t 13)), (some (76, true))⟩, ⟨(some 78), (.mov (.t 8)), (some (76, true))⟩, ⟨(some 79), (.call 19 [(.t 77), (.t 78)]), (some (76, true))⟩, ⟨(some 80), (.pick (.t 76) (.t 79) (.c (.bool false))), none⟩, ⟨(some 6), (.mov (.t 80)), none⟩]) .ret)))))))))
theorem k5_cf : cfunc Try.prog Try.f5 = some ⟨81, k5, [(.tmp 6)]⟩ := by kernel_rfl
theorem w_prefectlaw4_NameBytes_l22 (N : Nat) (a0 : UInt8) (a1 : UInt8) (a2 : UInt8) (x29 : List (List api_AVA) × Int) : ∀ (n : Nat) (x : List UInt8 × Int) (y : List UInt8), prefectlaw4_NameBytes_l22 N a0 a1 a2 x29 n x = some y → WX Try.prog (fun _ => false) (.loop k5_l22) ((fun (x : List UInt8 × Int) => ⟨ofL [(7, .str [a0, a1, a2]), (8, .slr 25 0 ([[(⟨([99, 110] : List UInt8), [a0, a1, a2]⟩ : api_AVA)]].length)), (9, .sl 1 (List.map (es 2 e_api_AVA) x29.1)), (10, .int .i64 x29.2), (11, .str x.1), (12, .int .i64 x.2)], ofL [(25, ⟨1, true, List.map (es 2 e_api_AVA) [[(⟨([99, 110] : List UInt8), [a0, a1, a2]⟩ : api_AVA)]]⟩)]⟩) x) ((fun y e s => e = .exit 0 ∧ s = ⟨ofL [(8, .slr 25 0 ([[(⟨([99, 110] : List UInt8), [a0, a1, a2]⟩ : api_AVA)]].length)), (9, .sl 1 (List.map (es 2 e_api_AVA) x29.1)), (10, .int .i64 x29.2), (11, .str y)], ofL [(25, ⟨1, true, List.map (es 2 e_api_AVA) [[(⟨([99, 110] : List UInt8), [a0, a1, a2]⟩ : api_AVA)]]⟩)]⟩ : (List UInt8) → Xt → St → Prop) y) := by
  refine xloop (fun (x : List UInt8 × Int) => ⟨ofL [(7, .str [a0, a1, a2]), (8, .slr 25 0 ([[(⟨([99, 110] : List UInt8), [a0, a1, a2]⟩ : api_AVA)]].length)), (9, .sl 1 (List.map (es 2 e_api_AVA) x29.1)), (10, .int .i64 x29.2), (11, .str x.1), (12, .int .i64 x.2)], ofL [(25, ⟨1, true, List.map (es 2 e_api_AVA) [[(⟨([99, 110] : List UInt8), [a0, a1, a2]⟩ : api_AVA)]]⟩)]⟩) _ (prefectlaw4_NameBytes_l22 N a0 a1 a2 x29) (prefectlaw4_NameBytes_l22_b N a0 a1 a2 x29) (fun _ => rfl) (fun _ _ => rfl) ?_
  rintro rec ⟨v11l22, v12l22⟩ y h
  refine xseq ?_
  refine xseq ?_
  refine xreg ?_
  refine wpp rfl rfl ?_
  refine wpp rfl rfl ?_
  rcases bifS h with ⟨c2, h⟩ | ⟨c2, h⟩
  · refine xcT rfl c2 ?_
    refine xskip ?_
    refine xseq ?_
    refine xblk ?_
    refine xregd ?_
    refine wdp rfl rfl ?_
    obtain ⟨x37, hx37, h⟩ := bindS h
    refine wdp rfl (p_cat hx37 rfl rfl) ?_
    refine wdp rfl rfl ?_
    refine wdp rfl rfl ?_
    obtain ⟨x40, hx40, h⟩ := bindS h
    refine wdp rfl (p_idx hx40 rfl rfl) ?_
    refine wdp rfl (p_u8shr (a := x40) (by decide) rfl rfl) ?_
    refine wdp rfl rfl ?_
    refine wdp rfl rfl ?_
    obtain ⟨x44, hx44, h⟩ := bindS h
    refine wdp rfl (p_idx hx44 rfl rfl) ?_
    refine wdp rfl (p_u8shr (a := x44) (by decide) rfl rfl) ?_
    refine wdp rfl (p_u8add (a := (shrB x44 4)) (b := (1 : UInt8)) rfl rfl) ?_
    obtain ⟨x47, hx47, h⟩ := bindS h
    refine wdp rfl (p_cut hx47 rfl rfl rfl) ?_
    obtain ⟨x48, hx48, h⟩ := bindS h
    refine wdp rfl (p_cat hx48 rfl rfl) ?_
    refine wdp rfl rfl ?_
    refine wdp rfl rfl ?_
    obtain ⟨x51, hx51, h⟩ := bindS h
    refine wdp rfl (p_idx hx51 rfl rfl) ?_
    refine wdp rfl (p_u8and (a := x51) (b := (15 : UInt8)) rfl rfl) ?_
    refine wdp rfl rfl ?_
    refine wdp rfl rfl ?_
    obtain ⟨x55, hx55, h⟩ := bindS h
    refine wdp rfl (p_idx hx55 rfl rfl) ?_
    refine wdp rfl (p_u8and (a := x55) (b := (15 : UInt8)) rfl rfl) ?_
    refine wdp rfl (p_u8add (a := (x55 &&& (15 : UInt8))) (b := (1 : UInt8)) rfl rfl) ?_
    obtain ⟨x58, hx58, h⟩ := bindS h
    refine wdp rfl (p_cut hx58 rfl rfl rfl) ?_
    obtain ⟨x59, hx59, h⟩ := bindS h
    refine wdp rfl (p_cat hx59 rfl rfl) ?_
    refine wpp rfl rfl ?_
    refine xreg ?_
    refine wpp rfl rfl ?_
    refine wpp (p := .int .i64 (w64 (v12l22 + (1 : Int)))) rfl rfl ?_
    refine wpp rfl rfl ?_
    exact ⟨(x59, (w64 (v12l22 + (1 : Int)))), (canon0 ⟨rfl, rfl, rfl, rfl, rfl, rfl, trivial⟩ ⟨rfl, trivial⟩ rfl rfl), h⟩
  · refine xcF rfl c2 ?_
    obtain rfl := someS h
    exact xexitn (st1 := ⟨ofL [(8, .slr 25 0 ([[(⟨([99, 110] : List UInt8), [a0, a1, a2]⟩ : api_AVA)]].length)), (9, .sl 1 (List.map (es 2 e_api_AVA) x29.1)), (10, .int .i64 x29.2), (11, .str v11l22)], ofL [(25, ⟨1, true, List.map (es 2 e_api_AVA) [[(⟨([99, 110] : List UInt8), [a0, a1, a2]⟩ : api_AVA)]]⟩)]⟩) (canon0 ⟨rfl, rfl, rfl, rfl, trivial⟩ ⟨rfl, trivial⟩ rfl rfl) ⟨rfl, rfl⟩
theorem sat_prefectlaw4_NameBytes (N : Nat) (a0 : UInt8) (a1 : UInt8) (a2 : UInt8) (r : Bool) (h : prefectlaw4_NameBytes N a0 a1 a2 = some r) : Sat Try.prog 5 noRows [eb a0, eb a1, eb a2] (.bool r) noRows := by
  refine xsat mixed Try.func5 k5_cf (rs := [.bool r]) rfl rfl ?_
  refine xseq ?_
  refine xreg ?_
  refine wpp rfl rfl ?_
  refine xseq ?_
  refine xseq ?_
  refine xreg ?_
  obtain ⟨x15, hx15, h⟩ := bindS h
  refine woo rfl (ocal (sat_prefectlaw4_known N _ hx15) rfl .nil rfl rfl rfl) ?_
  refine wpp rfl rfl ?_
  rcases bifS h with ⟨c1, h⟩ | ⟨c1, h⟩
  · refine xcT rfl c1 ?_
    refine xseq ?_
    refine xreg ?_
    refine wpp rfl rfl ?_
    obtain rfl := someS h
    refine xret ?_
    exact ⟨nofun, rfl, rfl⟩
  · refine xcF rfl c1 ?_
    refine xskip ?_
    refine xseq ?_
    refine xreg ?_
    refine wpp rfl rfl ?_
    refine wpp rfl rfl ?_
    refine wpp rfl rfl ?_
    refine woo rfl (obsl 20 rfl rfl rfl) ?_
    refine wpp rfl (p_cvbr (l := [a0, a1, a2]) rfl rfl (full_row (f := eb) (l := [a0, a1, a2]))) ?_
    refine wpp rfl rfl ?_
    refine xseq ?_
    refine xreg ?_
    refine wpp rfl rfl ?_
    refine wpp (p := .agg [.str ([99, 110] : List UInt8), .str [a0, a1, a2]]) rfl rfl ?_
    refine woo rfl (obsl 24 rfl rfl rfl) ?_
    refine wn (Norm.trans (Vd.freeze 24 _ rfl rfl rfl) (nsub 24 (sub_eq (congrArg (PV.sl 2) (full_row (f := e_api_AVA) (l := [(⟨([99, 110] : List UInt8), [a0, a1, a2]⟩ : api_AVA)])))) rfl)) ?_
    refine woo rfl (obsl 25 rfl rfl rfl) ?_
    refine wpp rfl rfl ?_
    refine xseq ?_
    refine xreg ?_
    refine wpp rfl rfl ?_
    obtain ⟨x28, hx28, h⟩ := bindS h
    refine woo rfl (ocal (sat_dn_Print N _ _ hx28) rfl (.cons (bor_row rfl (full_row (f := (es 2 e_api_AVA)) (l := [[(⟨([99, 110] : List UInt8), [a0, a1, a2]⟩ : api_AVA)]]))) .nil) rfl rfl rfl) ?_
    obtain ⟨x29, hx29, h⟩ := bindS h
    refine woo rfl (ocal (sat_dn_Parse N _ _ hx29) rfl (.cons sub_rfl .nil) rfl rfl rfl) ?_
    refine wpp rfl rfl ?_
    refine wpp rfl rfl ?_
    refine wpp rfl rfl ?_
    refine wpp rfl rfl ?_
    refine wpp rfl rfl ?_
    refine xseq ?_
    refine xreg ?_
    refine wpp rfl rfl ?_
    refine xseq ?_
    refine xseq ?_
    refine xreg ?_
    refine wpp rfl rfl ?_
    refine xblk ?_
    obtain ⟨y3, hy3, h⟩ := bindS h
    refine xloopU (st1 := ⟨ofL [(7, .str [a0, a1, a2]), (8, .slr 25 0 ([[(⟨([99, 110] : List UInt8), [a0, a1, a2]⟩ : api_AVA)]].length)), (9, .sl 1 (List.map (es 2 e_api_AVA) x29.1)), (10, .int .i64 x29.2), (11, .str ([99, 110, 61] : List UInt8)), (12, .int .i64 0)], ofL [(25, ⟨1, true, List.map (es 2 e_api_AVA) [[(⟨([99, 110] : List UInt8), [a0, a1, a2]⟩ : api_AVA)]]⟩)]⟩) (canon0 ⟨rfl, rfl, rfl, rfl, rfl, rfl, trivial⟩ ⟨rfl, trivial⟩ rfl rfl) (w_prefectlaw4_NameBytes_l22 N a0 a1 a2 x29 N _ _ hy3) ?_
    rintro e s ⟨rfl, rfl⟩
    refine xseq ?_
    refine xreg ?_
    refine wpp rfl rfl ?_
    obtain ⟨x62, hx62, h⟩ := bindS h
    refine woo rfl (ocal (sat_dn_Parse N _ _ hx62) rfl (.cons sub_rfl .nil) rfl rfl rfl) ?_
    refine wpp rfl rfl ?_
    refine wpp rfl rfl ?_
    refine wpp rfl rfl ?_
    refine wpp rfl rfl ?_
    refine wpp rfl rfl ?_
    obtain ⟨g4, hg4, h⟩ := bindS h
    refine xseg ⟨ofL [(6, .bool g4)], ofL []⟩ ?_ ?_
    · have h := hg4
      refine xreg ?_
      refine wpp rfl rfl ?_
      refine wpp rfl rfl ?_
      refine wpp rfl rfl ?_
      rcases bifS h with ⟨c5, h⟩ | ⟨c5, h⟩
      · skip
        refine wpp (gy rfl c5) rfl ?_
        refine wpp (gy rfl c5) rfl ?_
        obtain ⟨x70, hx70, h⟩ := bindS h
        refine woo (gy rfl c5) (ocal (sat_prefectlaw4_same N _ _ _ hx70) rfl (.cons sub_rfl (.cons (bor_row rfl (full_row (f := (es 2 e_api_AVA)) (l := [[(⟨([99, 110] : List UInt8), [a0, a1, a2]⟩ : api_AVA)]]))) .nil)) rfl rfl rfl) ?_
        refine wpp rfl (p_pick1 c5 rfl rfl) ?_
        refine wpp rfl rfl ?_
        rcases bifS h with ⟨c6, h⟩ | ⟨c6, h⟩
        · skip
          refine wpp (gy rfl c6) rfl ?_
          refine wpp (gy rfl c6) rfl ?_
          refine wpp rfl (p_pick1 c6 rfl rfl) ?_
          refine wpp rfl rfl ?_
          rcases bifS h with ⟨c7, h⟩ | ⟨c7, h⟩
          · skip
            refine wpp (gy rfl c7) rfl ?_
            refine wpp (gy rfl c7) rfl ?_
            obtain ⟨x79, hx79, h⟩ := bindS h
            refine woo (gy rfl c7) (ocal (sat_prefectlaw4_same N _ _ _ hx79) rfl (.cons sub_rfl (.cons (bor_row rfl (full_row (f := (es 2 e_api_AVA)) (l := [[(⟨([99, 110] : List UInt8), [a0, a1, a2]⟩ : api_AVA)]]))) .nil)) rfl rfl rfl) ?_
            refine wpp rfl (p_pick1 c7 rfl rfl) ?_
            refine wpp rfl rfl ?_
            obtain rfl := someS h
            exact (canon0 ⟨rfl, trivial⟩ trivial rfl rfl)
          · skip
            refine wsk (gn rfl c7) ?_
            refine wsk (gn rfl c7) ?_
            refine wsk (gn rfl c7) ?_
            refine wpp rfl (p_pick0 c7 rfl rfl) ?_
            refine wpp rfl rfl ?_
            obtain rfl := someS h
            exact (canon0 ⟨rfl, trivial⟩ trivial rfl rfl)
        · skip
          refine wsk (gn rfl c6) ?_
          refine wsk (gn rfl c6) ?_
          refine wpp rfl (p_pick0 c6 rfl rfl) ?_
          refine wpp rfl rfl ?_
          refine wsk rfl ?_
          refine wsk rfl ?_
          refine wsk rfl ?_
          refine wpp rfl rfl ?_
          refine wpp rfl rfl ?_
          obtain rfl := someS h
          exact (canon0 ⟨rfl, trivial⟩ trivial rfl rfl)
      · skip
        refine wsk (gn rfl c5) ?_
        refine wsk (gn rfl c5) ?_
        refine wsk (gn rfl c5) ?_
        refine wpp rfl (p_pick0 c5 rfl rfl) ?_
        refine wpp rfl rfl ?_
        refine wsk rfl ?_
        refine wsk rfl ?_
        refine wpp rfl rfl ?_
        refine wpp rfl rfl ?_
        refine wsk rfl ?_
        refine wsk rfl ?_
        refine wsk rfl ?_
        refine wpp rfl rfl ?_
        refine wpp rfl rfl ?_
        obtain rfl := someS h
        exact (canon0 ⟨rfl, trivial⟩ trivial rfl rfl)
    · clear hg4
      obtain rfl := someS h
      refine xret ?_
      exact ⟨nofun, rfl, rfl⟩
end Go.Gp
end
