/- A part of the proof: functions of the program and what they compute. -/
import Derived.Test.YtbndinjjpafmjaaA6
import Derived.Test.YtbndinjjpafmjaaA12
section
set_option linter.unusedVariables false
set_option linter.unusedSimpArgs false
set_option maxRecDepth 4000
namespace Go.Gp
open Go.Vd Go.RowKit Go.Proofs
def k34_l8 : IC := (.seq (.seq (.reg [⟨(some 7), (.mov (.t 5)), none⟩, ⟨(some 8), (.mov (.t 0)), none⟩, ⟨(some 9), (.len true (.t 8)), none⟩, ⟨(some 10), (.bin .lss (.t 7) (.t 9)), none⟩]) (.cond (.t 10) .skip (.exit 0))) (.seq (.block 1 (.seq (.reg [⟨(some 13), (.mov (.t 0)), none⟩, ⟨(some 14), (.mov (.t 5)), none⟩, ⟨(some 15), (.idxs (.t 13) (.t 14)), none⟩, ⟨(some 6), (.mov (.t 15)), none⟩]) (.seq (.seq (.reg [⟨(some 16), (.mov (.t 6)), none⟩, ⟨(some 17), (.bin .neq (.t 16) (.c (.int .u8 92))), none⟩]) (.cond (.t 17) (.seq (.seq (.reg [⟨(some 18), (.mov (.t 6)), none⟩, ⟨(some 19), (.call 41 [(.t 18)]), none⟩, ⟨(some 20), (.mov (.t 19)), none⟩, ⟨(some 21), (.mov (.t 5)), (some (20, false))⟩, ⟨(some 22), (.bin .eql (.t 21) (.c (.int .i64 0))), (some (20, false))⟩, ⟨(some 23), (.mov (.t 22)), (some (20, false))⟩, ⟨(some 24), (.mov (.t 6)), (some (23, true))⟩, ⟨(some 25), (.bin .eql (.t 24) (.c (.int .u8 35))), (some (23, true))⟩, ⟨(some 26), (.mov (.t 25)), (some (23, true))⟩, ⟨(some 27), (.mov (.t 6)), (some (26, false))⟩, ⟨(some 28), (.bin .eql (.t 27) (.c (.int .u8 32))), (some (26, false))⟩, ⟨(some 29), (.pick (.t 26) (.c (.bool true)) (.t 28)), (some (23, true))⟩, ⟨(some 30), (.pick (.t 23) (.t 29) (.c (.bool false))), (some (20, false))⟩, ⟨(some 31), (.pick (.t 20) (.c (.bool true)) (.t 30)), none⟩, ⟨(some 32), (.mov (.t 31)), none⟩, ⟨(some 33), (.mov (.t 5)), (some (32, false))⟩, ⟨(some 34), (.mov (.t 0)), (some (32, false))⟩, ⟨(some 35), (.len true (.t 34)), (some (32, false))⟩, ⟨(some 36), (.bin .sub (.t 35) (.c (.int .i64 1))), (some (32, false))⟩, ⟨(some 37), (.bin .eql (.t 33) (.t 36)), (some (32, false))⟩, ⟨(some 38), (.mov (.t 37)), (some (32, false))⟩, ⟨(some 39), (.mov (.t 6)), (some (38, true))⟩, ⟨(some 40), (.bin .eql (.t 39) (.c (.int .u8 32))), (some (38, true))⟩, ⟨(some 41), (.pick (.t 38) (.t 40) (.c (.bool false))), (some (32, false))⟩, ⟨(some 42), (.pick (.t 32) (.c (.bool true)) (.t 41)), none⟩]) (.cond (.t 42) (.seq (.reg [⟨(some 2), (.mov (.c (.str []))), none⟩, ⟨(some 3), (.mov (.c (.bool false))), none⟩]) .ret) .skip)) (.seq (.reg [⟨(some 43), (.mov (.t 4)), none⟩, ⟨(some 44), (.mov (.t 6)), none⟩, ⟨(some 45), (.bsl 1 [(.t 44)]), none⟩, ⟨(some 46), (.app 5 1 1 (.t 43) (.t 45)), none⟩, ⟨(some 4), (.mov (.t 46)), none⟩]) (.exit 1))) .skip)) (.block 2 (.seq (.reg [⟨(some 48), (.mov (.t 5)), none⟩, ⟨(some 49), (.bin .add (.t 48) (.c (.int .i64 1))), none⟩, ⟨(some 50), (.mov (.t 0)), none⟩, ⟨(some 51), (.len true (.t 50)), none⟩, ⟨(some 52), (.bin .lss (.t 49) (.t 51)), none⟩, ⟨(some 53), (.mov (.t 52)), none⟩, ⟨(some 54), (.mov (.t 0)), (some (53, true))⟩, ⟨(some 55), (.mov (.t 5)), (some (53, true))⟩, ⟨(some 56), (.bin .add (.t 55) (.c (.int .i64 1))), (some (53, true))⟩, ⟨(some 57), (.idxs (.t 54) (.t 56)), (some (53, true))⟩, ⟨(some 58), (.call 41 [(.t 57)]), (some (53, true))⟩, ⟨(some 59), (.mov (.t 58)), (some (53, true))⟩, ⟨(some 60), (.mov (.t 0)), (some (59, false))⟩, ⟨(some 61), (.mov (.t 5)), (some (59, false))⟩, ⟨(some 62), (.bin .add (.t 61) (.c (.int .i64 1))), (some (59, false))⟩, ⟨(some 63), (.idxs (.t 60) (.t 62)), (some (59, false))⟩, ⟨(some 64), (.bin .eql (.t 63) (.c (.int .u8 35))), (some (59, false))⟩, ⟨(some 65), (.pick (.t 59) (.c (.bool true)) (.t 64)), (some (53, true))⟩, ⟨(some 66), (.mov (.t 65)), (some (53, true))⟩, ⟨(some 67), (.mov (.t 0)), (some (66, false))⟩, ⟨(some 68), (.mov (.t 5)), (some (66, false))⟩, ⟨(some 69), (.bin .add (.t 68) (.c (.int .i64 1))), (some (66, false))⟩, ⟨(some 70), (.idxs (.t 67) (.t 69)), (some (66, false))⟩, ⟨(some 71), (.bin .eql (.t 70) (.c (.int .u8 61))), (some (66, false))⟩, ⟨(some 72), (.pick (.t 66) (.c (.bool true)) (.t 71)), (some (53, true))⟩, ⟨(some 73), (.mov (.t 72)), (some (53, true))⟩, ⟨(some 74), (.mov (.t 0)), (some (73, false))⟩, ⟨(some 75), (.mov (.t 5)), (some (73, false))⟩, ⟨(some 76), (.bin .add (.t 75) (.c (.int .i64 1))), (some (73, false))⟩, ⟨(some 77), (.idxs (.t 74) (.t 76)), (some (73, false))⟩, ⟨(some 78), (.bin .eql (.t 77) (.c (.int .u8 32))), (some (73, false))⟩, ⟨(some 79), (.pick (.t 73) (.c (.bool true)) (.t 78)), (some (53, true))⟩, ⟨(some 80), (.pick (.t 53) (.t 79) (.c (.bool false))), none⟩, ⟨(some 47), (.mov (.t 80)), none⟩]) (.cond (.t 47) (.seq (.reg [⟨(some 81), (.mov (.t 4)), none⟩, ⟨(some 82), (.mov (.t 0)), none⟩, ⟨(some 83), (.mov (.t 5)), none⟩, ⟨(some 84), (.bin .add (.t 83) (.c (.int .i64 1))), none⟩, ⟨(some 85), (.idxs (.t 82) (.t 84)), none⟩, ⟨(some 86), (.bsl 1 [(.t 85)]), none⟩, ⟨(some 87), (.app 5 1 1 (.t 81) (.t 86)), none⟩, ⟨(some 4), (.mov (.t 87)), none⟩]) (.reg [⟨(some 88), (.mov (.t 5)), none⟩, ⟨(some 89), (.bin .add (.t 88) (.c (.int .i64 1))), none⟩, ⟨(some 5), (.mov (.t 89)), none⟩])) (.seq (.reg [⟨(some 91), (.mov (.t 5)), none⟩, ⟨(some 92), (.bin .add (.t 91) (.c (.int .i64 2))), none⟩, ⟨(some 93), (.mov (.t 0)), none⟩, ⟨(some 94), (.len true (.t 93)), none⟩, ⟨(some 95), (.bin .lss (.t 92) (.t 94)), none⟩, ⟨(some 96), (.mov (.t 95)), none⟩, ⟨(some 97), (.mov (.t 0)), (some (96, true))⟩, ⟨(some 98), (.mov (.t 5)), (some (96, true))⟩, ⟨(some 99), (.bin .add (.t 98) (.c (.int .i64 1))), (some (96, true))⟩, ⟨(some 100), (.idxs (.t 97) (.t 99)), (some (96, true))⟩, ⟨(some 101), (.call 47 [(.t 100)]), (some (96, true))⟩, ⟨(some 102), (.bin .geq (.t 101) (.c (.int .i64 0))), (some (96, true))⟩, ⟨(some 103), (.pick (.t 96) (.t 102) (.c (.bool false))), none⟩, ⟨(some 104), (.mov (.t 103)), none⟩, ⟨(some 105), (.mov (.t 0)), (some (104, true))⟩, ⟨(some 106), (.mov (.t 5)), (some (104, true))⟩, ⟨(some 107), (.bin .add (.t 106) (.c (.int .i64 2))), (some (104, true))⟩, ⟨(some 108), (.idxs (.t 105) (.t 107)), (some (104, true))⟩, ⟨(some 109), (.call 47 [(.t 108)]), (some (104, true))⟩, ⟨(some 110), (.bin .geq (.t 109) (.c (.int .i64 0))), (some (104, true))⟩, ⟨(some 111), (.pick (.t 104) (.t 110) (.c (.bool false))), none⟩, ⟨(some 90), (.mov (.t 111)), none⟩]) (.cond (.t 90) (.seq (.regd 15 [⟨(some 112), (.mov (.t 4)), none⟩, ⟨(some 113), (.mov (.t 0)), none⟩, ⟨(some 114), (.mov (.t 5)), none⟩, ⟨(some 115), (.bin .add (.t 114) (.c (.int .i64 1))), none⟩, ⟨(some 116), (.idxs (.t 113) (.t 115)), none⟩, ⟨(some 117), (.call 47 [(.t 116)]), none⟩, ⟨(some 118), (.bin .mul (.c (.int .i64 16)) (.t 117)), none⟩, ⟨(some 119), (.mov (.t 0)), none⟩, ⟨(some 120), (.mov (.t 5)), none⟩, ⟨(some 121), (.bin .add (.t 120) (.c (.int .i64 2))), none⟩, ⟨(some 122), (.idxs (.t 119) (.t 121)), none⟩, ⟨(some 123), (.call 47 [(.t 122)]), none⟩, ⟨(some 124), (.bin .add (.t 118) (.t 123)), none⟩, ⟨(some 125), (.cvi .u8 (.t 124)), none⟩, ⟨(some 126), (.bsl 1 [(.t 125)]), none⟩, ⟨(some 127), (.app 5 1 1 (.t 112) (.t 126)), none⟩, ⟨(some 4), (.mov (.t 127)), none⟩]) (.reg [⟨(some 128), (.mov (.t 5)), none⟩, ⟨(some 129), (.bin .add (.t 128) (.c (.int .i64 2))), none⟩, ⟨(some 5), (.mov (.t 129)), none⟩])) (.seq (.reg [⟨(some 2), (.mov (.c (.str []))), none⟩, ⟨(some 3), (.mov (.c (.bool false))), none⟩]) .ret))))))))) (.reg [⟨(some 11), (.mov (.t 5)), none⟩, ⟨(some 12), (.bin .add (.t 11) (.c (.int .i64 1))), none⟩, ⟨(some 5), (.mov (.t 12)), none⟩])))
def k34 : IC := (.seq (.reg [⟨(some 2), (.mov (.c (.str []))), none⟩, ⟨(some 3), (.mov (.c (.bool false))), none⟩]) (.seq (.reg [⟨(some 4), (.mov (.c .nl)), none⟩]) (.seq (.seq (.reg [⟨(some 5), (.mov (.c (.int .i64 0))), none⟩]) (.block 0 (.loop k34_l8))) (.seq (.reg [⟨(some 130), (.mov (.t 4)), none⟩, ⟨(some 131), (.cvb (.t 130)), none⟩, ⟨(some 2), (.mov (.t 131)), none⟩, ⟨(some 3), (.mov (.c (.bool true))), none⟩]) .ret))))
theorem k34_cf : cfunc Try.prog Try.f34 = some ⟨132, k34, [(.tmp 2), (.tmp 3)]⟩ := by kernel_rfl
theorem w_prefectref4_plain_l8 (N : Nat) (a0 : List UInt8) : ∀ (n : Nat) (x : Int × List UInt8) (y : (List UInt8) ⊕ (List UInt8 × Bool)), prefectref4_plain_l8 N a0 n x = some y → WX Try.prog (fun _ => false) (.loop k34_l8) ((fun (x : Int × List UInt8) => ⟨ofL [(0, .str a0), (4, .slr 1004 0 x.2.length), (5, .int .i64 x.1)], ofL [(1004, ⟨1, true, List.map eb x.2⟩)]⟩) x) ((Sum.elim (fun y e s => e = .exit 0 ∧ s = ⟨ofL [(4, .slr 1004 0 y.length)], ofL [(1004, ⟨1, true, List.map eb y⟩)]⟩) (fun y e s => e = .ret ∧ s = ⟨ofL [(2, .str y.1), (3, .bool y.2)], ofL []⟩) : ((List UInt8) ⊕ (List UInt8 × Bool)) → Xt → St → Prop) y) := by
  refine xloop (fun (x : Int × List UInt8) => ⟨ofL [(0, .str a0), (4, .slr 1004 0 x.2.length), (5, .int .i64 x.1)], ofL [(1004, ⟨1, true, List.map eb x.2⟩)]⟩) _ (prefectref4_plain_l8 N a0) (prefectref4_plain_l8_b N a0) (fun _ => rfl) (fun _ _ => rfl) ?_
  rintro rec ⟨v5l8, r1004l8⟩ y h
  refine xseq ?_
  refine xseq ?_
  refine xreg ?_
  refine wpp rfl rfl ?_
  refine wpp rfl rfl ?_
  refine wpp rfl rfl ?_
  refine wpp rfl rfl ?_
  rcases bifS h with ⟨c1, h⟩ | ⟨c1, h⟩
  · refine xcT rfl c1 ?_
    refine xskip ?_
    refine xjoin (fun (x : Int × List UInt8) => ⟨ofL [(0, .str a0), (4, .slr 1004 0 x.2.length), (5, .int .i64 x.1)], ofL [(1004, ⟨1, true, List.map eb x.2⟩)]⟩) (fun x => prefectref4_plain_j15 rec x.1 x.2 = some y) ?_ ?_
    · rintro ⟨v5j15, r1004j15⟩ h
      refine xreg ?_
      refine wpp rfl rfl ?_
      refine wpp (p := .int .i64 (w64 (v5j15 + (1 : Int)))) rfl rfl ?_
      refine wpp rfl rfl ?_
      exact ⟨((w64 (v5j15 + (1 : Int))), r1004j15), (canon0 ⟨rfl, rfl, rfl, trivial⟩ ⟨rfl, trivial⟩ rfl rfl), h⟩
    · skip
      refine xblk ?_
      refine xseq ?_
      refine xreg ?_
      refine wpp rfl rfl ?_
      refine wpp rfl rfl ?_
      obtain ⟨x15, hx15, h⟩ := bindS h
      refine wpp rfl (p_idx hx15 rfl rfl) ?_
      refine wpp rfl rfl ?_
      refine xseq ?_
      refine xseq ?_
      refine xreg ?_
      refine wpp rfl rfl ?_
      refine wpp (p := .bool (((x15).toNat : Int) != (92 : Int))) rfl rfl ?_
      rcases bifS h with ⟨c2, h⟩ | ⟨c2, h⟩
      · refine xcT rfl c2 ?_
        refine xseq ?_
        obtain ⟨g3, hg3, h⟩ := bindS h
        refine xseg ⟨ofL [(0, .str a0), (4, .slr 1004 0 r1004l8.length), (5, .int .i64 v5l8), (6, eb x15), (42, .bool g3)], ofL [(1004, ⟨1, true, List.map eb r1004l8⟩)]⟩ ?_ ?_
        · have h := hg3
          refine xreg ?_
          refine wpp rfl rfl ?_
          obtain ⟨x19, hx19, h⟩ := bindS h
          refine woo rfl (ocal (sat_prefectref4_special N _ _ hx19) rfl (.cons sub_rfl .nil) rfl rfl rfl) ?_
          refine wpp rfl rfl ?_
          rcases bifS h with ⟨c4, h⟩ | ⟨c4, h⟩
          · skip
            refine wsk (gn rfl c4) ?_
            refine wsk (gn rfl c4) ?_
            refine wsk (gn rfl c4) ?_
            refine wsk (gu rfl) ?_
            refine wsk (gu rfl) ?_
            refine wsk (gu rfl) ?_
            refine wsk (gu rfl) ?_
            refine wsk (gu rfl) ?_
            refine wsk (gu rfl) ?_
            refine wsk (gn rfl c4) ?_
            refine wpp rfl (p_pick1 c4 rfl rfl) ?_
            refine wpp rfl rfl ?_
            refine wsk rfl ?_
            refine wsk rfl ?_
            refine wsk rfl ?_
            refine wsk rfl ?_
            refine wsk rfl ?_
            refine wsk rfl ?_
            refine wsk (gu rfl) ?_
            refine wsk (gu rfl) ?_
            refine wsk rfl ?_
            refine wpp rfl rfl ?_
            obtain rfl := someS h
            exact (canon0 ⟨rfl, rfl, rfl, rfl, rfl, trivial⟩ ⟨rfl, trivial⟩ rfl rfl)
          · skip
            refine wpp (gy rfl c4) rfl ?_
            refine wpp (gy rfl c4) rfl ?_
            refine wpp (gy rfl c4) rfl ?_
            rcases bifS h with ⟨c5, h⟩ | ⟨c5, h⟩
            · skip
              refine wpp (gy rfl c5) rfl ?_
              refine wpp (p := .bool (((x15).toNat : Int) == (35 : Int))) (gy rfl c5) rfl ?_
              refine wpp (gy rfl c5) rfl ?_
              rcases bifS h with ⟨c6, h⟩ | ⟨c6, h⟩
              · skip
                refine wsk (gn rfl c6) ?_
                refine wsk (gn rfl c6) ?_
                refine wpp (gy rfl c5) (p_pick1 c6 rfl rfl) ?_
                refine wpp (gy rfl c4) (p_pick1 c5 rfl rfl) ?_
                refine wpp rfl (p_pick0 c4 rfl rfl) ?_
                refine wpp rfl rfl ?_
                refine wsk rfl ?_
                refine wsk rfl ?_
                refine wsk rfl ?_
                refine wsk rfl ?_
                refine wsk rfl ?_
                refine wsk rfl ?_
                refine wsk (gu rfl) ?_
                refine wsk (gu rfl) ?_
                refine wsk rfl ?_
                refine wpp rfl rfl ?_
                obtain rfl := someS h
                exact (canon0 ⟨rfl, rfl, rfl, rfl, rfl, trivial⟩ ⟨rfl, trivial⟩ rfl rfl)
              · skip
                refine wpp (gy rfl c6) rfl ?_
                refine wpp (p := .bool (((x15).toNat : Int) == (32 : Int))) (gy rfl c6) rfl ?_
                refine wpp (gy rfl c5) (p_pick0 c6 rfl rfl) ?_
                refine wpp (gy rfl c4) (p_pick1 c5 rfl rfl) ?_
                refine wpp rfl (p_pick0 c4 rfl rfl) ?_
                refine wpp rfl rfl ?_
                rcases bifS h with ⟨c7, h⟩ | ⟨c7, h⟩
                · skip
                  refine wsk (gn rfl c7) ?_
                  refine wsk (gn rfl c7) ?_
                  refine wsk (gn rfl c7) ?_
                  refine wsk (gn rfl c7) ?_
                  refine wsk (gn rfl c7) ?_
                  refine wsk (gn rfl c7) ?_
                  refine wsk (gu rfl) ?_
                  refine wsk (gu rfl) ?_
                  refine wsk (gn rfl c7) ?_
                  refine wpp rfl (p_pick1 c7 rfl rfl) ?_
                  obtain rfl := someS h
                  exact (canon0 ⟨rfl, rfl, rfl, rfl, rfl, trivial⟩ ⟨rfl, trivial⟩ rfl rfl)
                · skip
                  refine wpp (gy rfl c7) rfl ?_
                  refine wpp (gy rfl c7) rfl ?_
                  refine wpp (gy rfl c7) rfl ?_
                  refine wpp (p := .int .i64 (w64 ((a0.length : Int) - (1 : Int)))) (gy rfl c7) rfl ?_
                  refine wpp (gy rfl c7) rfl ?_
                  refine wpp (gy rfl c7) rfl ?_
                  rcases bifS h with ⟨c8, h⟩ | ⟨c8, h⟩
                  · skip
                    refine wpp (gy rfl c8) rfl ?_
                    refine wpp (p := .bool (((x15).toNat : Int) == (32 : Int))) (gy rfl c8) rfl ?_
                    refine wpp (gy rfl c7) (p_pick1 c8 rfl rfl) ?_
                    refine wpp rfl (p_pick0 c7 rfl rfl) ?_
                    obtain rfl := someS h
                    exact (canon0 ⟨rfl, rfl, rfl, rfl, rfl, trivial⟩ ⟨rfl, trivial⟩ rfl rfl)
                  · skip
                    refine wsk (gn rfl c8) ?_
                    refine wsk (gn rfl c8) ?_
                    refine wpp (gy rfl c7) (p_pick0 c8 rfl rfl) ?_
                    refine wpp rfl (p_pick0 c7 rfl rfl) ?_
                    obtain rfl := someS h
                    exact (canon0 ⟨rfl, rfl, rfl, rfl, rfl, trivial⟩ ⟨rfl, trivial⟩ rfl rfl)
            · skip
              refine wsk (gn rfl c5) ?_
              refine wsk (gn rfl c5) ?_
              refine wsk (gn rfl c5) ?_
              refine wsk (gu rfl) ?_
              refine wsk (gu rfl) ?_
              refine wsk (gn rfl c5) ?_
              refine wpp (gy rfl c4) (p_pick0 c5 rfl rfl) ?_
              refine wpp rfl (p_pick0 c4 rfl rfl) ?_
              refine wpp rfl rfl ?_
              refine wpp rfl rfl ?_
              refine wpp rfl rfl ?_
              refine wpp rfl rfl ?_
              refine wpp (p := .int .i64 (w64 ((a0.length : Int) - (1 : Int)))) rfl rfl ?_
              refine wpp rfl rfl ?_
              refine wpp rfl rfl ?_
              rcases bifS h with ⟨c9, h⟩ | ⟨c9, h⟩
              · skip
                refine wpp (gy rfl c9) rfl ?_
                refine wpp (p := .bool (((x15).toNat : Int) == (32 : Int))) (gy rfl c9) rfl ?_
                refine wpp rfl (p_pick1 c9 rfl rfl) ?_
                refine wpp rfl rfl ?_
                obtain rfl := someS h
                exact (canon0 ⟨rfl, rfl, rfl, rfl, rfl, trivial⟩ ⟨rfl, trivial⟩ rfl rfl)
              · skip
                refine wsk (gn rfl c9) ?_
                refine wsk (gn rfl c9) ?_
                refine wpp rfl (p_pick0 c9 rfl rfl) ?_
                refine wpp rfl rfl ?_
                obtain rfl := someS h
                exact (canon0 ⟨rfl, rfl, rfl, rfl, rfl, trivial⟩ ⟨rfl, trivial⟩ rfl rfl)
        · clear hg3
          rcases bifS h with ⟨c10, h⟩ | ⟨c10, h⟩
          · refine xcT rfl c10 ?_
            refine xseq ?_
            refine xreg ?_
            refine wpp rfl rfl ?_
            refine wpp rfl rfl ?_
            obtain rfl := someS h
            exact xretn (st1 := ⟨ofL [(2, .str ([] : List UInt8)), (3, .bool false)], ofL []⟩) (canon0 ⟨rfl, rfl, trivial⟩ trivial rfl rfl) ⟨rfl, rfl⟩
          · refine xcF rfl c10 ?_
            refine xskip ?_
            refine xseq ?_
            refine xreg ?_
            refine wpp rfl rfl ?_
            refine wpp rfl rfl ?_
            refine woo rfl (obsl 45 rfl rfl rfl) ?_
            obtain ⟨x46, hx46, h⟩ := bindS h
            refine wapp (f := eb) 46 hx46 rfl rfl rfl rfl rfl (el_row rfl (full_row (f := eb) (l := [x15]))) rfl rfl rfl rfl ?_
            refine wpp rfl rfl ?_
            refine xexit ?_
            exact ⟨(v5l8, x46), (Norm.trans (rename 46 1004 rfl rfl) (canon0 ⟨rfl, rfl, rfl, trivial⟩ ⟨rfl, trivial⟩ rfl rfl)), h⟩
      · refine xcF rfl c2 ?_
        refine xskip ?_
        refine xblk ?_
        obtain ⟨g11, hg11, h⟩ := bindS h
        refine xseg ⟨ofL [(0, .str a0), (4, .slr 1004 0 r1004l8.length), (5, .int .i64 v5l8), (47, .bool g11)], ofL [(1004, ⟨1, true, List.map eb r1004l8⟩)]⟩ ?_ ?_
        · have h := hg11
          refine xreg ?_
          refine wpp rfl rfl ?_
          refine wpp (p := .int .i64 (w64 (v5l8 + (1 : Int)))) rfl rfl ?_
          refine wpp rfl rfl ?_
          refine wpp rfl rfl ?_
          refine wpp rfl rfl ?_
          refine wpp rfl rfl ?_
          rcases bifS h with ⟨c12, h⟩ | ⟨c12, h⟩
          · skip
            refine wpp (gy rfl c12) rfl ?_
            refine wpp (gy rfl c12) rfl ?_
            refine wpp (p := .int .i64 (w64 (v5l8 + (1 : Int)))) (gy rfl c12) rfl ?_
            obtain ⟨x57, hx57, h⟩ := bindS h
            refine wpp (gy rfl c12) (p_idx hx57 rfl rfl) ?_
            obtain ⟨x58, hx58, h⟩ := bindS h
            refine woo (gy rfl c12) (ocal (sat_prefectref4_special N _ _ hx58) rfl (.cons sub_rfl .nil) rfl rfl rfl) ?_
            refine wpp (gy rfl c12) rfl ?_
            rcases bifS h with ⟨c13, h⟩ | ⟨c13, h⟩
            · skip
              refine wsk (gn rfl c13) ?_
              refine wsk (gn rfl c13) ?_
              refine wsk (gn rfl c13) ?_
              refine wsk (gn rfl c13) ?_
              refine wsk (gn rfl c13) ?_
              refine wpp (gy rfl c12) (p_pick1 c13 rfl rfl) ?_
              refine wpp (gy rfl c12) rfl ?_
              refine wsk rfl ?_
              refine wsk rfl ?_
              refine wsk rfl ?_
              refine wsk rfl ?_
              refine wsk rfl ?_
              refine wpp (gy rfl c12) rfl ?_
              refine wpp (gy rfl c12) rfl ?_
              refine wsk rfl ?_
              refine wsk rfl ?_
              refine wsk rfl ?_
              refine wsk rfl ?_
              refine wsk rfl ?_
              refine wpp (gy rfl c12) rfl ?_
              refine wpp rfl (p_pick1 c12 rfl rfl) ?_
              refine wpp rfl rfl ?_
              obtain rfl := someS h
              exact (canon0 ⟨rfl, rfl, rfl, rfl, trivial⟩ ⟨rfl, trivial⟩ rfl rfl)
            · skip
              refine wpp (gy rfl c13) rfl ?_
              refine wpp (gy rfl c13) rfl ?_
              refine wpp (p := .int .i64 (w64 (v5l8 + (1 : Int)))) (gy rfl c13) rfl ?_
              obtain ⟨x63, hx63, h⟩ := bindS h
              refine wpp (gy rfl c13) (p_idx hx63 rfl rfl) ?_
              refine wpp (p := .bool (((x63).toNat : Int) == (35 : Int))) (gy rfl c13) rfl ?_
              refine wpp (gy rfl c12) (p_pick0 c13 rfl rfl) ?_
              refine wpp (gy rfl c12) rfl ?_
              rcases bifS h with ⟨c14, h⟩ | ⟨c14, h⟩
              · skip
                refine wsk (gn rfl c14) ?_
                refine wsk (gn rfl c14) ?_
                refine wsk (gn rfl c14) ?_
                refine wsk (gn rfl c14) ?_
                refine wsk (gn rfl c14) ?_
                refine wpp (gy rfl c12) (p_pick1 c14 rfl rfl) ?_
                refine wpp (gy rfl c12) rfl ?_
                refine wsk rfl ?_
                refine wsk rfl ?_
                refine wsk rfl ?_
                refine wsk rfl ?_
                refine wsk rfl ?_
                refine wpp (gy rfl c12) rfl ?_
                refine wpp rfl (p_pick1 c12 rfl rfl) ?_
                refine wpp rfl rfl ?_
                obtain rfl := someS h
                exact (canon0 ⟨rfl, rfl, rfl, rfl, trivial⟩ ⟨rfl, trivial⟩ rfl rfl)
              · skip
                refine wpp (gy rfl c14) rfl ?_
                refine wpp (gy rfl c14) rfl ?_
                refine wpp (p := .int .i64 (w64 (v5l8 + (1 : Int)))) (gy rfl c14) rfl ?_
                obtain ⟨x70, hx70, h⟩ := bindS h
                refine wpp (gy rfl c14) (p_idx hx70 rfl rfl) ?_
                refine wpp (p := .bool (((x70).toNat : Int) == (61 : Int))) (gy rfl c14) rfl ?_
                refine wpp (gy rfl c12) (p_pick0 c14 rfl rfl) ?_
                refine wpp (gy rfl c12) rfl ?_
                rcases bifS h with ⟨c15, h⟩ | ⟨c15, h⟩
                · skip
                  refine wsk (gn rfl c15) ?_
                  refine wsk (gn rfl c15) ?_
                  refine wsk (gn rfl c15) ?_
                  refine wsk (gn rfl c15) ?_
                  refine wsk (gn rfl c15) ?_
                  refine wpp (gy rfl c12) (p_pick1 c15 rfl rfl) ?_
                  refine wpp rfl (p_pick1 c12 rfl rfl) ?_
                  refine wpp rfl rfl ?_
                  obtain rfl := someS h
                  exact (canon0 ⟨rfl, rfl, rfl, rfl, trivial⟩ ⟨rfl, trivial⟩ rfl rfl)
                · skip
                  refine wpp (gy rfl c15) rfl ?_
                  refine wpp (gy rfl c15) rfl ?_
                  refine wpp (p := .int .i64 (w64 (v5l8 + (1 : Int)))) (gy rfl c15) rfl ?_
                  obtain ⟨x77, hx77, h⟩ := bindS h
                  refine wpp (gy rfl c15) (p_idx hx77 rfl rfl) ?_
                  refine wpp (p := .bool (((x77).toNat : Int) == (32 : Int))) (gy rfl c15) rfl ?_
                  refine wpp (gy rfl c12) (p_pick0 c15 rfl rfl) ?_
                  refine wpp rfl (p_pick1 c12 rfl rfl) ?_
                  refine wpp rfl rfl ?_
                  obtain rfl := someS h
                  exact (canon0 ⟨rfl, rfl, rfl, rfl, trivial⟩ ⟨rfl, trivial⟩ rfl rfl)
          · skip
            refine wsk (gn rfl c12) ?_
            refine wsk (gn rfl c12) ?_
            refine wsk (gn rfl c12) ?_
            refine wsk (gn rfl c12) ?_
            refine wsk (gn rfl c12) ?_
            refine wsk (gn rfl c12) ?_
            refine wsk (gu rfl) ?_
            refine wsk (gu rfl) ?_
            refine wsk (gu rfl) ?_
            refine wsk (gu rfl) ?_
            refine wsk (gu rfl) ?_
            refine wsk (gn rfl c12) ?_
            refine wsk (gn rfl c12) ?_
            refine wsk (gu rfl) ?_
            refine wsk (gu rfl) ?_
            refine wsk (gu rfl) ?_
            refine wsk (gu rfl) ?_
            refine wsk (gu rfl) ?_
            refine wsk (gn rfl c12) ?_
            refine wsk (gn rfl c12) ?_
            refine wsk (gu rfl) ?_
            refine wsk (gu rfl) ?_
            refine wsk (gu rfl) ?_
            refine wsk (gu rfl) ?_
            refine wsk (gu rfl) ?_
            refine wsk (gn rfl c12) ?_
            refine wpp rfl (p_pick0 c12 rfl rfl) ?_
            refine wpp rfl rfl ?_
            obtain rfl := someS h
            exact (canon0 ⟨rfl, rfl, rfl, rfl, trivial⟩ ⟨rfl, trivial⟩ rfl rfl)
        · clear hg11
          rcases bifS h with ⟨c16, h⟩ | ⟨c16, h⟩
          · refine xcT rfl c16 ?_
            refine xseq ?_
            refine xreg ?_
            refine wpp rfl rfl ?_
            refine wpp rfl rfl ?_
            refine wpp rfl rfl ?_
            refine wpp (p := .int .i64 (w64 (v5l8 + (1 : Int)))) rfl rfl ?_
            obtain ⟨x85, hx85, h⟩ := bindS h
            refine wpp rfl (p_idx hx85 rfl rfl) ?_
            refine woo rfl (obsl 86 rfl rfl rfl) ?_
            obtain ⟨x87, hx87, h⟩ := bindS h
            refine wapp (f := eb) 87 hx87 rfl rfl rfl rfl rfl (el_row rfl (full_row (f := eb) (l := [x85]))) rfl rfl rfl rfl ?_
            refine wpp rfl rfl ?_
            refine xreg ?_
            refine wpp rfl rfl ?_
            refine wpp (p := .int .i64 (w64 (v5l8 + (1 : Int)))) rfl rfl ?_
            refine wpp rfl rfl ?_
            exact ⟨((w64 (v5l8 + (1 : Int))), x87), (Norm.trans (rename 87 1004 rfl rfl) (canon0 ⟨rfl, rfl, rfl, trivial⟩ ⟨rfl, trivial⟩ rfl rfl)), h⟩
          · refine xcF rfl c16 ?_
            obtain ⟨g17, hg17, h⟩ := bindS h
            refine xseg ⟨ofL [(0, .str a0), (4, .slr 1004 0 r1004l8.length), (5, .int .i64 v5l8), (90, .bool g17)], ofL [(1004, ⟨1, true, List.map eb r1004l8⟩)]⟩ ?_ ?_
            · have h := hg17
              refine xreg ?_
              refine wpp rfl rfl ?_
              refine wpp (p := .int .i64 (w64 (v5l8 + (2 : Int)))) rfl rfl ?_
              refine wpp rfl rfl ?_
              refine wpp rfl rfl ?_
              refine wpp rfl rfl ?_
              refine wpp rfl rfl ?_
              rcases bifS h with ⟨c18, h⟩ | ⟨c18, h⟩
              · skip
                refine wpp (gy rfl c18) rfl ?_
                refine wpp (gy rfl c18) rfl ?_
                refine wpp (p := .int .i64 (w64 (v5l8 + (1 : Int)))) (gy rfl c18) rfl ?_
                obtain ⟨x100, hx100, h⟩ := bindS h
                refine wpp (gy rfl c18) (p_idx hx100 rfl rfl) ?_
                obtain ⟨x101, hx101, h⟩ := bindS h
                refine woo (gy rfl c18) (ocal (sat_prefectref4_digit N _ _ hx101) rfl (.cons sub_rfl .nil) rfl rfl rfl) ?_
                refine wpp (gy rfl c18) rfl ?_
                refine wpp rfl (p_pick1 c18 rfl rfl) ?_
                refine wpp rfl rfl ?_
                rcases bifS h with ⟨c19, h⟩ | ⟨c19, h⟩
                · skip
                  refine wpp (gy rfl c19) rfl ?_
                  refine wpp (gy rfl c19) rfl ?_
                  refine wpp (p := .int .i64 (w64 (v5l8 + (2 : Int)))) (gy rfl c19) rfl ?_
                  obtain ⟨x108, hx108, h⟩ := bindS h
                  refine wpp (gy rfl c19) (p_idx hx108 rfl rfl) ?_
                  obtain ⟨x109, hx109, h⟩ := bindS h
                  refine woo (gy rfl c19) (ocal (sat_prefectref4_digit N _ _ hx109) rfl (.cons sub_rfl .nil) rfl rfl rfl) ?_
                  refine wpp (gy rfl c19) rfl ?_
                  refine wpp rfl (p_pick1 c19 rfl rfl) ?_
                  refine wpp rfl rfl ?_
                  obtain rfl := someS h
                  exact (canon0 ⟨rfl, rfl, rfl, rfl, trivial⟩ ⟨rfl, trivial⟩ rfl rfl)
                · skip
                  refine wsk (gn rfl c19) ?_
                  refine wsk (gn rfl c19) ?_
                  refine wsk (gn rfl c19) ?_
                  refine wsk (gn rfl c19) ?_
                  refine wsk (gn rfl c19) ?_
                  refine wsk (gn rfl c19) ?_
                  refine wpp rfl (p_pick0 c19 rfl rfl) ?_
                  refine wpp rfl rfl ?_
                  obtain rfl := someS h
                  exact (canon0 ⟨rfl, rfl, rfl, rfl, trivial⟩ ⟨rfl, trivial⟩ rfl rfl)
              · skip
                refine wsk (gn rfl c18) ?_
                refine wsk (gn rfl c18) ?_
                refine wsk (gn rfl c18) ?_
                refine wsk (gn rfl c18) ?_
                refine wsk (gn rfl c18) ?_
                refine wsk (gn rfl c18) ?_
                refine wpp rfl (p_pick0 c18 rfl rfl) ?_
                refine wpp rfl rfl ?_
                refine wsk rfl ?_
                refine wsk rfl ?_
                refine wsk rfl ?_
                refine wsk rfl ?_
                refine wsk rfl ?_
                refine wsk rfl ?_
                refine wpp rfl rfl ?_
                refine wpp rfl rfl ?_
                obtain rfl := someS h
                exact (canon0 ⟨rfl, rfl, rfl, rfl, trivial⟩ ⟨rfl, trivial⟩ rfl rfl)
            · clear hg17
              rcases bifS h with ⟨c20, h⟩ | ⟨c20, h⟩
              · refine xcT rfl c20 ?_
                refine xseq ?_
                refine xregd ?_
                refine wdp rfl rfl ?_
                refine wdp rfl rfl ?_
                refine wdp rfl rfl ?_
                refine wdp (p := .int .i64 (w64 (v5l8 + (1 : Int)))) rfl rfl ?_
                obtain ⟨x116, hx116, h⟩ := bindS h
                refine wdp rfl (p_idx hx116 rfl rfl) ?_
                obtain ⟨x117, hx117, h⟩ := bindS h
                refine wdN rfl (pcal (sat_prefectref4_digit N _ _ hx117) rfl (.cons sub_rfl .nil) rfl rfl rfl) no_fresh ?_
                refine wdp (p := .int .i64 (w64 ((16 : Int) * x117))) rfl rfl ?_
                refine wdp rfl rfl ?_
                refine wdp rfl rfl ?_
                refine wdp (p := .int .i64 (w64 (v5l8 + (2 : Int)))) rfl rfl ?_
                obtain ⟨x122, hx122, h⟩ := bindS h
                refine wdp rfl (p_idx hx122 rfl rfl) ?_
                obtain ⟨x123, hx123, h⟩ := bindS h
                refine wdN rfl (pcal (sat_prefectref4_digit N _ _ hx123) rfl (.cons sub_rfl .nil) rfl rfl rfl) no_fresh ?_
                refine wdp (p := .int .i64 (w64 ((w64 ((16 : Int) * x117)) + x123))) rfl rfl ?_
                refine wdp rfl (p_cvu8 rfl) ?_
                refine wdN rfl (.bsl _ 126 rfl (okEl_spec rfl) rfl) (fresh1 rfl) ?_
                obtain ⟨x127, hx127, h⟩ := bindS h
                refine wapp (f := eb) 127 hx127 rfl rfl rfl rfl rfl (el_row rfl (full_row (f := eb) (l := [(byte (w64 ((w64 ((16 : Int) * x117)) + x123)))]))) rfl rfl rfl rfl ?_
                refine wpp rfl rfl ?_
                refine xreg ?_
                refine wpp rfl rfl ?_
                refine wpp (p := .int .i64 (w64 (v5l8 + (2 : Int)))) rfl rfl ?_
                refine wpp rfl rfl ?_
                exact ⟨((w64 (v5l8 + (2 : Int))), x127), (Norm.trans (rename 127 1004 rfl rfl) (canon0 ⟨rfl, rfl, rfl, trivial⟩ ⟨rfl, trivial⟩ rfl rfl)), h⟩
              · refine xcF rfl c20 ?_
                refine xseq ?_
                refine xreg ?_
                refine wpp rfl rfl ?_
                refine wpp rfl rfl ?_
                obtain rfl := someS h
                exact xretn (st1 := ⟨ofL [(2, .str ([] : List UInt8)), (3, .bool false)], ofL []⟩) (canon0 ⟨rfl, rfl, trivial⟩ trivial rfl rfl) ⟨rfl, rfl⟩
  · refine xcF rfl c1 ?_
    obtain rfl := someS h
    exact xexitn (st1 := ⟨ofL [(4, .slr 1004 0 r1004l8.length)], ofL [(1004, ⟨1, true, List.map eb r1004l8⟩)]⟩) (canon0 ⟨rfl, trivial⟩ ⟨rfl, trivial⟩ rfl rfl) ⟨rfl, rfl⟩
theorem sat_prefectref4_plain (N : Nat) (a0 : List UInt8) (r : List UInt8 × Bool) (h : prefectref4_plain N a0 = some r) : Sat Try.prog 34 noRows [.str a0] (.tup [.str r.1, .bool r.2]) noRows := by
  refine xsat mixed Try.func34 k34_cf (rs := [.str r.1, .bool r.2]) rfl rfl ?_
  refine xseq ?_
  refine xreg ?_
  refine wpp rfl rfl ?_
  refine wpp rfl rfl ?_
  refine xseq ?_
  refine xreg ?_
  refine wpp rfl rfl ?_
  refine xseq ?_
  refine xseq ?_
  refine xreg ?_
  refine wpp rfl rfl ?_
  refine xblk ?_
  obtain ⟨y21, hy21, h⟩ := bindS h
  refine xloopU (st1 := ⟨ofL [(0, .str a0), (4, .slr 1004 0 ([].length)), (5, .int .i64 0)], ofL [(1004, ⟨1, true, List.map eb []⟩)]⟩) (Norm.trans (nlrow 4 1004 1 true rfl rfl rfl) (canon0 ⟨rfl, rfl, rfl, trivial⟩ ⟨rfl, trivial⟩ rfl rfl)) (w_prefectref4_plain_l8 N a0 N _ _ hy21) ?_
  clear hy21
  rcases y21 with y21 | y21
  · rintro e s ⟨rfl, rfl⟩
    refine xseq ?_
    refine xreg ?_
    refine wpp rfl rfl ?_
    refine wpp rfl (p_cvbr (l := y21) rfl rfl (full_row (f := eb) (l := y21))) ?_
    refine wpp rfl rfl ?_
    refine wpp rfl rfl ?_
    obtain rfl := someS h
    refine xret ?_
    exact ⟨nofun, rfl, rfl⟩
  · rintro e s ⟨rfl, rfl⟩
    obtain rfl := someS h
    exact ⟨nofun, rfl, rfl⟩
end Go.Gp
end
section
set_option linter.unusedVariables false
set_option linter.unusedSimpArgs false
set_option maxRecDepth 4000
namespace Go.Gp
open Go.Vd Go.RowKit Go.Proofs
def k28_l8 : IC := (.seq (.seq (.reg [⟨(some 7), (.mov (.t 4)), none⟩, ⟨(some 8), (.mov (.t 3)), none⟩, ⟨(some 9), (.len false (.t 8)), none⟩, ⟨(some 10), (.bin .lss (.t 7) (.t 9)), none⟩]) (.cond (.t 10) .skip (.exit 0))) (.seq (.block 1 (.seq (.reg [⟨(some 13), (.mov (.t 3)), none⟩, ⟨(some 14), (.mov (.t 4)), none⟩, ⟨(some 15), (.ixp 1 (.t 13) (.t 14)), none⟩, ⟨(some 16), (.load 1 false (.t 15)), none⟩, ⟨(some 17), (.bin .geq (.t 16) (.c (.int .u8 65))), none⟩, ⟨(some 18), (.mov (.t 17)), none⟩, ⟨(some 19), (.mov (.t 3)), (some (18, true))⟩, ⟨(some 20), (.mov (.t 4)), (some (18, true))⟩, ⟨(some 21), (.ixp 1 (.t 19) (.t 20)), (some (18, true))⟩, ⟨(some 22), (.load 1 false (.t 21)), (some (18, true))⟩, ⟨(some 23), (.bin .leq (.t 22) (.c (.int .u8 90))), (some (18, true))⟩, ⟨(some 24), (.pick (.t 18) (.t 23) (.c (.bool false))), none⟩]) (.cond (.t 24) (.reg [⟨(some 25), (.mov (.t 3)), none⟩, ⟨(some 26), (.mov (.t 4)), none⟩, ⟨(some 27), (.mov (.t 3)), none⟩, ⟨(some 28), (.mov (.t 4)), none⟩, ⟨(some 29), (.ixp 1 (.t 27) (.t 28)), none⟩, ⟨(some 30), (.load 1 false (.t 29)), none⟩, ⟨(some 31), (.bin .add (.t 30) (.c (.int .u8 32))), none⟩, ⟨(some 32), (.ixp 1 (.t 25) (.t 26)), none⟩, ⟨none, (.store 1 (.t 32) (.t 31)), none⟩]) .skip))) (.reg [⟨(some 11), (.mov (.t 4)), none⟩, ⟨(some 12), (.bin .add (.t 11) (.c (.int .i64 1))), none⟩, ⟨(some 4), (.mov (.t 12)), none⟩])))
def k28 : IC := (.seq (.reg [⟨(some 2), (.mov (.c (.str []))), none⟩]) (.seq (.reg [⟨(some 5), (.mov (.t 0)), none⟩, ⟨(some 6), (.cvs (.t 5)), none⟩, ⟨(some 3), (.mov (.t 6)), none⟩]) (.seq (.seq (.reg [⟨(some 4), (.mov (.c (.int .i64 0))), none⟩]) (.block 0 (.loop k28_l8))) (.seq (.reg [⟨(some 33), (.mov (.t 3)), none⟩, ⟨(some 34), (.cvb (.t 33)), none⟩, ⟨(some 2), (.mov (.t 34)), none⟩]) .ret))))
theorem k28_cf : cfunc Try.prog Try.f28 = some ⟨35, k28, [(.tmp 2)]⟩ := by kernel_rfl
theorem w_prefectref4_Lower_l8 (N : Nat) : ∀ (n : Nat) (x : Int × List UInt8) (y : List UInt8), prefectref4_Lower_l8 N n x = some y → WX Try.prog (fun _ => false) (.loop k28_l8) ((fun (x : Int × List UInt8) => ⟨ofL [(3, .slr 6 0 x.2.length), (4, .int .i64 x.1)], ofL [(6, ⟨1, true, List.map eb x.2⟩)]⟩) x) ((fun y e s => e = .exit 0 ∧ s = ⟨ofL [(3, .slr 6 0 y.length)], ofL [(6, ⟨1, true, List.map eb y⟩)]⟩ : (List UInt8) → Xt → St → Prop) y) := by
  refine xloop (fun (x : Int × List UInt8) => ⟨ofL [(3, .slr 6 0 x.2.length), (4, .int .i64 x.1)], ofL [(6, ⟨1, true, List.map eb x.2⟩)]⟩) _ (prefectref4_Lower_l8 N) (prefectref4_Lower_l8_b N) (fun _ => rfl) (fun _ _ => rfl) ?_
  rintro rec ⟨v4l8, r6l8⟩ y h
  refine xseq ?_
  refine xseq ?_
  refine xreg ?_
  refine wpp rfl rfl ?_
  refine wpp rfl rfl ?_
  refine wpp rfl rfl ?_
  refine wpp rfl rfl ?_
  rcases bifS h with ⟨c1, h⟩ | ⟨c1, h⟩
  · refine xcT rfl c1 ?_
    refine xskip ?_
    refine xjoin (fun (x : List UInt8) => ⟨ofL [(3, .slr 6 0 x.length), (4, .int .i64 v4l8)], ofL [(6, ⟨1, true, List.map eb x⟩)]⟩) (fun x => prefectref4_Lower_j15 v4l8 rec x = some y) ?_ ?_
    · rintro r6j15 h
      refine xreg ?_
      refine wpp rfl rfl ?_
      refine wpp (p := .int .i64 (w64 (v4l8 + (1 : Int)))) rfl rfl ?_
      refine wpp rfl rfl ?_
      exact ⟨((w64 (v4l8 + (1 : Int))), r6j15), (canon0 ⟨rfl, rfl, trivial⟩ ⟨rfl, trivial⟩ rfl rfl), h⟩
    · skip
      refine xblk ?_
      obtain ⟨g2, hg2, h⟩ := bindS h
      refine xseg ⟨ofL [(3, .slr 6 0 r6l8.length), (4, .int .i64 v4l8), (24, .bool g2)], ofL [(6, ⟨1, true, List.map eb r6l8⟩)]⟩ ?_ ?_
      · have h := hg2
        refine xreg ?_
        refine wpp rfl rfl ?_
        refine wpp rfl rfl ?_
        obtain ⟨x15, hx15, h⟩ := bindS h
        refine wpp rfl (p_ixr hx15 rfl rfl rfl rfl) ?_
        obtain ⟨x16, hx16, h⟩ := bindS h
        refine wpp rfl (p_ldr (f := eb) (v := eb x16) hx16 rfl rfl rfl) ?_
        refine wpp (p := .bool (decide (((x16).toNat : Int) ≥ (65 : Int)))) rfl rfl ?_
        refine wpp rfl rfl ?_
        rcases bifS h with ⟨c3, h⟩ | ⟨c3, h⟩
        · skip
          refine wpp (gy rfl c3) rfl ?_
          refine wpp (gy rfl c3) rfl ?_
          obtain ⟨x21, hx21, h⟩ := bindS h
          refine wpp (gy rfl c3) (p_ixr hx21 rfl rfl rfl rfl) ?_
          obtain ⟨x22, hx22, h⟩ := bindS h
          refine wpp (gy rfl c3) (p_ldr (f := eb) (v := eb x22) hx22 rfl rfl rfl) ?_
          refine wpp (p := .bool (decide (((x22).toNat : Int) ≤ (90 : Int)))) (gy rfl c3) rfl ?_
          refine wpp rfl (p_pick1 c3 rfl rfl) ?_
          obtain rfl := someS h
          exact (canon0 ⟨rfl, rfl, rfl, trivial⟩ ⟨rfl, trivial⟩ rfl rfl)
        · skip
          refine wsk (gn rfl c3) ?_
          refine wsk (gn rfl c3) ?_
          refine wsk (gn rfl c3) ?_
          refine wsk (gn rfl c3) ?_
          refine wsk (gn rfl c3) ?_
          refine wpp rfl (p_pick0 c3 rfl rfl) ?_
          obtain rfl := someS h
          exact (canon0 ⟨rfl, rfl, rfl, trivial⟩ ⟨rfl, trivial⟩ rfl rfl)
      · clear hg2
        rcases bifS h with ⟨c4, h⟩ | ⟨c4, h⟩
        · refine xcT rfl c4 ?_
          refine xreg ?_
          refine wpp rfl rfl ?_
          refine wpp rfl rfl ?_
          refine wpp rfl rfl ?_
          refine wpp rfl rfl ?_
          obtain ⟨x29, hx29, h⟩ := bindS h
          refine wpp rfl (p_ixr hx29 rfl rfl rfl rfl) ?_
          obtain ⟨x30, hx30, h⟩ := bindS h
          refine wpp rfl (p_ldr (f := eb) (v := eb x30) hx30 rfl rfl rfl) ?_
          refine wpp rfl (p_u8add (a := x30) (b := (32 : UInt8)) rfl rfl) ?_
          obtain ⟨x32, hx32, h⟩ := bindS h
          refine wpp rfl (p_ixr hx32 rfl rfl rfl rfl) ?_
          obtain ⟨x9004, hx9004, h⟩ := bindS h
          refine wsto (f := eb) (e' := (x30 + (32 : UInt8))) hx9004 rfl rfl rfl rfl rfl rfl rfl rfl (fun _ => rfl) rfl ?_
          exact ⟨(r6l8.set x32 (x30 + (32 : UInt8))), (Norm.trans (nsub 3 (sub_eq (congrArg (PV.slr 6 0) (by simp only [List.length_set, List.length_replicate] : r6l8.length = (r6l8.set x32 (x30 + (32 : UInt8))).length))) rfl) (canon0 ⟨rfl, rfl, trivial⟩ ⟨rfl, trivial⟩ rfl rfl)), h⟩
        · refine xcF rfl c4 ?_
          refine xskip ?_
          exact ⟨r6l8, (canon0 ⟨rfl, rfl, trivial⟩ ⟨rfl, trivial⟩ rfl rfl), h⟩
  · refine xcF rfl c1 ?_
    obtain rfl := someS h
    exact xexitn (st1 := ⟨ofL [(3, .slr 6 0 r6l8.length)], ofL [(6, ⟨1, true, List.map eb r6l8⟩)]⟩) (canon0 ⟨rfl, trivial⟩ ⟨rfl, trivial⟩ rfl rfl) ⟨rfl, rfl⟩
theorem sat_prefectref4_Lower (N : Nat) (a0 : List UInt8) (r : List UInt8) (h : prefectref4_Lower N a0 = some r) : Sat Try.prog 28 noRows [.str a0] (.str r) noRows := by
  refine xsat mixed Try.func28 k28_cf (rs := [.str r]) rfl rfl ?_
  refine xseq ?_
  refine xreg ?_
  refine wpp rfl rfl ?_
  refine xseq ?_
  refine xreg ?_
  refine wpp rfl rfl ?_
  refine woo rfl (ocvs 6 rfl rfl) ?_
  refine wpp rfl rfl ?_
  refine xseq ?_
  refine xseq ?_
  refine xreg ?_
  refine wpp rfl rfl ?_
  refine xblk ?_
  obtain ⟨y6, hy6, h⟩ := bindS h
  refine xloopU (st1 := ⟨ofL [(3, .slr 6 0 a0.length), (4, .int .i64 0)], ofL [(6, ⟨1, true, List.map eb a0⟩)]⟩) (canon0 ⟨rfl, rfl, trivial⟩ ⟨rfl, trivial⟩ rfl rfl) (w_prefectref4_Lower_l8 N N _ _ hy6) ?_
  rintro e s ⟨rfl, rfl⟩
  refine xseq ?_
  refine xreg ?_
  refine wpp rfl rfl ?_
  refine wpp rfl (p_cvbr (l := y6) rfl rfl (full_row (f := eb) (l := y6))) ?_
  refine wpp rfl rfl ?_
  obtain rfl := someS h
  refine xret ?_
  exact ⟨nofun, rfl, rfl⟩
end Go.Gp
end
section
set_option linter.unusedVariables false
set_option linter.unusedSimpArgs false
set_option maxRecDepth 4000
namespace Go.Gp
open Go.Vd Go.RowKit Go.Proofs
def k18_l23 : IC := (.seq (.seq (.reg [⟨(some 18), (.mov (.t 7)), none⟩, ⟨(some 19), (.mov (.t 5)), none⟩, ⟨(some 20), (.mov (.t 6)), none⟩, ⟨(some 21), (.ixp 1 (.t 19) (.t 20)), none⟩, ⟨(some 22), (.load 1 false (.t 21)), none⟩, ⟨(some 23), (.len true (.t 22)), none⟩, ⟨(some 24), (.bin .lss (.t 18) (.t 23)), none⟩, ⟨(some 25), (.mov (.t 24)), none⟩, ⟨(some 26), (.mov (.t 5)), (some (25, true))⟩, ⟨(some 27), (.mov (.t 6)), (some (25, true))⟩, ⟨(some 28), (.ixp 1 (.t 26) (.t 27)), (some (25, true))⟩, ⟨(some 29), (.load 1 false (.t 28)), (some (25, true))⟩, ⟨(some 30), (.mov (.t 7)), (some (25, true))⟩, ⟨(some 31), (.idxs (.t 29) (.t 30)), (some (25, true))⟩, ⟨(some 32), (.bin .neq (.t 31) (.c (.int .u8 61))), (some (25, true))⟩, ⟨(some 33), (.pick (.t 25) (.t 32) (.c (.bool false))), none⟩]) (.cond (.t 33) .skip (.exit 2))) (.block 3 (.reg [⟨(some 34), (.mov (.t 7)), none⟩, ⟨(some 35), (.bin .add (.t 34) (.c (.int .i64 1))), none⟩, ⟨(some 7), (.mov (.t 35)), none⟩])))
def k18_l10 : IC := (.seq (.seq (.reg [⟨(some 12), (.mov (.t 6)), none⟩, ⟨(some 13), (.mov (.t 5)), none⟩, ⟨(some 14), (.len false (.t 13)), none⟩, ⟨(some 15), (.bin .lss (.t 12) (.t 14)), none⟩]) (.cond (.t 15) .skip (.exit 0))) (.seq (.block 1 (.seq (.reg [⟨(some 7), (.mov (.c (.int .i64 0))), none⟩]) (.seq (.block 2 (.loop k18_l23)) (.seq (.seq (.reg [⟨(some 36), (.mov (.t 7)), none⟩, ⟨(some 37), (.mov (.t 5)), none⟩, ⟨(some 38), (.mov (.t 6)), none⟩, ⟨(some 39), (.ixp 1 (.t 37) (.t 38)), none⟩, ⟨(some 40), (.load 1 false (.t 39)), none⟩, ⟨(some 41), (.len true (.t 40)), none⟩, ⟨(some 42), (.bin .eql (.t 36) (.t 41)), none⟩, ⟨(some 43), (.mov (.t 42)), none⟩, ⟨(some 44), (.mov (.t 5)), (some (43, false))⟩, ⟨(some 45), (.mov (.t 6)), (some (43, false))⟩, ⟨(some 46), (.ixp 1 (.t 44) (.t 45)), (some (43, false))⟩, ⟨(some 47), (.load 1 false (.t 46)), (some (43, false))⟩, ⟨(some 48), (.call 31 [(.t 47), (.c (.int .u8 44))]), (some (43, false))⟩, ⟨(some 49), (.len false (.t 48)), (some (43, false))⟩, ⟨(some 50), (.bin .gtr (.t 49) (.c (.int .i64 1))), (some (43, false))⟩, ⟨(some 51), (.pick (.t 43) (.c (.bool true)) (.t 50)), none⟩]) (.cond (.t 51) (.seq (.reg [⟨(some 2), (.mov (.c .nl)), none⟩, ⟨(some 3), (.mov (.c (.bool false))), none⟩]) .ret) .skip)) (.seq (.reg [⟨(some 53), (.mov (.t 5)), none⟩, ⟨(some 54), (.mov (.t 6)), none⟩, ⟨(some 55), (.ixp 1 (.t 53) (.t 54)), none⟩, ⟨(some 56), (.load 1 false (.t 55)), none⟩, ⟨(some 57), (.mov (.t 7)), none⟩, ⟨(some 58), (.bin .add (.t 57) (.c (.int .i64 1))), none⟩, ⟨(some 59), (.slcs (.t 56) (some (.t 58)) none), none⟩, ⟨(some 60), (.call 34 [(.t 59)]), none⟩, ⟨(some 52), (.mov (.t 60)), none⟩, ⟨(some 61), (.ext 0 (.t 52)), none⟩, ⟨(some 62), (.ext 1 (.t 52)), none⟩, ⟨(some 8), (.mov (.t 61)), none⟩, ⟨(some 9), (.mov (.t 62)), none⟩]) (.seq (.seq (.reg [⟨(some 63), (.mov (.t 9)), none⟩, ⟨(some 64), (.un .not (.t 63)), none⟩]) (.cond (.t 64) (.seq (.reg [⟨(some 2), (.mov (.c .nl)), none⟩, ⟨(some 3), (.mov (.c (.bool false))), none⟩]) .ret) .skip)) (.reg [⟨(some 65), (.mov (.t 4)), none⟩, ⟨(some 66), (.mov (.t 5)), none⟩, ⟨(some 67), (.mov (.t 6)), none⟩, ⟨(some 68), (.ixp 1 (.t 66) (.t 67)), none⟩, ⟨(some 69), (.load 1 false (.t 68)), none⟩, ⟨(some 70), (.mov (.t 7)), none⟩, ⟨(some 71), (.slcs (.t 69) none (some (.t 70))), none⟩, ⟨(some 72), (.call 28 [(.t 71)]), none⟩, ⟨(some 73), (.mov (.t 8)), none⟩, ⟨(some 74), (.build [(.str []), (.str [])] [(0, (1, (.t 72))), (1, (1, (.t 73)))]), none⟩, ⟨(some 75), (.bsl 2 [(.t 74)]), none⟩, ⟨(some 76), (.app 47 2 32 (.t 65) (.t 75)), none⟩, ⟨(some 4), (.mov (.t 76)), none⟩]))))))) (.reg [⟨(some 16), (.mov (.t 6)), none⟩, ⟨(some 17), (.bin .add (.t 16) (.c (.int .i64 1))), none⟩, ⟨(some 6), (.mov (.t 17)), none⟩])))
def k18 : IC := (.seq (.reg [⟨(some 2), (.mov (.c .nl)), none⟩, ⟨(some 3), (.mov (.c (.bool false))), none⟩]) (.seq (.reg [⟨(some 4), (.mov (.c .nl)), none⟩]) (.seq (.reg [⟨(some 10), (.mov (.t 0)), none⟩, ⟨(some 11), (.call 31 [(.t 10), (.c (.int .u8 43))]), none⟩, ⟨(some 5), (.mov (.t 11)), none⟩]) (.seq (.seq (.reg [⟨(some 6), (.mov (.c (.int .i64 0))), none⟩]) (.block 0 (.loop k18_l10))) (.seq (.seq (.reg [⟨(some 77), (.mov (.t 4)), none⟩, ⟨(some 78), (.call 13 [(.t 77)]), none⟩, ⟨(some 79), (.un .not (.t 78)), none⟩]) (.cond (.t 79) (.seq (.reg [⟨(some 2), (.mov (.c .nl)), none⟩, ⟨(some 3), (.mov (.c (.bool false))), none⟩]) .ret) .skip)) (.seq (.reg [⟨(some 80), (.mov (.t 4)), none⟩, ⟨(some 2), (.mov (.t 80)), none⟩, ⟨(some 3), (.mov (.c (.bool true))), none⟩]) .ret))))))
theorem k18_cf : cfunc Try.prog Try.f18 = some ⟨81, k18, [(.tmp 2), (.tmp 3)]⟩ := by kernel_rfl
theorem w_prefectref4_ParseRDN_l23 (N : Nat) (x11 : List (List UInt8)) (v6l10 : Int) (r1004l10 : List api_AVA) : ∀ (n : Nat) (x : Int) (y : Int), prefectref4_ParseRDN_l23 N x11 v6l10 r1004l10 n x = some y → WX Try.prog (fun _ => false) (.loop k18_l23) ((fun (x : Int) => ⟨ofL [(4, .slr 1004 0 r1004l10.length), (5, .sl 1 (List.map PV.str x11)), (6, .int .i64 v6l10), (7, .int .i64 x)], ofL [(1004, ⟨2, true, List.map e_api_AVA r1004l10⟩)]⟩) x) ((fun y e s => e = .exit 2 ∧ s = ⟨ofL [(4, .slr 1004 0 r1004l10.length), (5, .sl 1 (List.map PV.str x11)), (6, .int .i64 v6l10), (7, .int .i64 y)], ofL [(1004, ⟨2, true, List.map e_api_AVA r1004l10⟩)]⟩ : Int → Xt → St → Prop) y) := by
  refine xloop (fun (x : Int) => ⟨ofL [(4, .slr 1004 0 r1004l10.length), (5, .sl 1 (List.map PV.str x11)), (6, .int .i64 v6l10), (7, .int .i64 x)], ofL [(1004, ⟨2, true, List.map e_api_AVA r1004l10⟩)]⟩) _ (prefectref4_ParseRDN_l23 N x11 v6l10 r1004l10) (prefectref4_ParseRDN_l23_b N x11 v6l10 r1004l10) (fun _ => rfl) (fun _ _ => rfl) ?_
  rintro rec v7l23 y h
  refine xseq ?_
  obtain ⟨g2, hg2, h⟩ := bindS h
  refine xseg ⟨ofL [(4, .slr 1004 0 r1004l10.length), (5, .sl 1 (List.map PV.str x11)), (6, .int .i64 v6l10), (7, .int .i64 v7l23), (33, .bool g2)], ofL [(1004, ⟨2, true, List.map e_api_AVA r1004l10⟩)]⟩ ?_ ?_
  · have h := hg2
    refine xreg ?_
    refine wpp rfl rfl ?_
    refine wpp rfl rfl ?_
    refine wpp rfl rfl ?_
    obtain ⟨x21, hx21, h⟩ := bindS h
    refine wpp rfl (p_ixs (cs := [.str x21]) hx21 rfl rfl rfl) ?_
    refine wpp rfl rfl ?_
    refine wpp rfl rfl ?_
    refine wpp rfl rfl ?_
    refine wpp rfl rfl ?_
    rcases bifS h with ⟨c3, h⟩ | ⟨c3, h⟩
    · skip
      refine wpp (gy rfl c3) rfl ?_
      refine wpp (gy rfl c3) rfl ?_
      obtain ⟨x28, hx28, h⟩ := bindS h
      refine wpp (gy rfl c3) (p_ixs (cs := [.str x28]) hx28 rfl rfl rfl) ?_
      refine wpp (gy rfl c3) rfl ?_
      refine wpp (gy rfl c3) rfl ?_
      obtain ⟨x31, hx31, h⟩ := bindS h
      refine wpp (gy rfl c3) (p_idx hx31 rfl rfl) ?_
      refine wpp (p := .bool (((x31).toNat : Int) != (61 : Int))) (gy rfl c3) rfl ?_
      refine wpp rfl (p_pick1 c3 rfl rfl) ?_
      obtain rfl := someS h
      exact (canon0 ⟨rfl, rfl, rfl, rfl, rfl, trivial⟩ ⟨rfl, trivial⟩ rfl rfl)
    · skip
      refine wsk (gn rfl c3) ?_
      refine wsk (gn rfl c3) ?_
      refine wsk (gn rfl c3) ?_
      refine wsk (gn rfl c3) ?_
      refine wsk (gn rfl c3) ?_
      refine wsk (gn rfl c3) ?_
      refine wsk (gn rfl c3) ?_
      refine wpp rfl (p_pick0 c3 rfl rfl) ?_
      obtain rfl := someS h
      exact (canon0 ⟨rfl, rfl, rfl, rfl, rfl, trivial⟩ ⟨rfl, trivial⟩ rfl rfl)
  · clear hg2
    rcases bifS h with ⟨c4, h⟩ | ⟨c4, h⟩
    · refine xcT rfl c4 ?_
      refine xskip ?_
      refine xblk ?_
      refine xreg ?_
      refine wpp rfl rfl ?_
      refine wpp (p := .int .i64 (w64 (v7l23 + (1 : Int)))) rfl rfl ?_
      refine wpp rfl rfl ?_
      exact ⟨(w64 (v7l23 + (1 : Int))), (canon0 ⟨rfl, rfl, rfl, rfl, trivial⟩ ⟨rfl, trivial⟩ rfl rfl), h⟩
    · refine xcF rfl c4 ?_
      obtain rfl := someS h
      exact xexitn (st1 := ⟨ofL [(4, .slr 1004 0 r1004l10.length), (5, .sl 1 (List.map PV.str x11)), (6, .int .i64 v6l10), (7, .int .i64 v7l23)], ofL [(1004, ⟨2, true, List.map e_api_AVA r1004l10⟩)]⟩) (canon0 ⟨rfl, rfl, rfl, rfl, trivial⟩ ⟨rfl, trivial⟩ rfl rfl) ⟨rfl, rfl⟩
theorem w_prefectref4_ParseRDN_l10 (N : Nat) (x11 : List (List UInt8)) : ∀ (n : Nat) (x : Int × List api_AVA) (y : (List api_AVA) ⊕ (List api_AVA × Bool)), prefectref4_ParseRDN_l10 N x11 n x = some y → WX Try.prog (fun _ => false) (.loop k18_l10) ((fun (x : Int × List api_AVA) => ⟨ofL [(4, .slr 1004 0 x.2.length), (5, .sl 1 (List.map PV.str x11)), (6, .int .i64 x.1)], ofL [(1004, ⟨2, true, List.map e_api_AVA x.2⟩)]⟩) x) ((Sum.elim (fun y e s => e = .exit 0 ∧ s = ⟨ofL [(4, .slr 1004 0 y.length)], ofL [(1004, ⟨2, true, List.map e_api_AVA y⟩)]⟩) (fun y e s => e = .ret ∧ s = ⟨ofL [(2, .sl 2 (List.map e_api_AVA y.1)), (3, .bool y.2)], ofL []⟩) : ((List api_AVA) ⊕ (List api_AVA × Bool)) → Xt → St → Prop) y) := by
  refine xloop (fun (x : Int × List api_AVA) => ⟨ofL [(4, .slr 1004 0 x.2.length), (5, .sl 1 (List.map PV.str x11)), (6, .int .i64 x.1)], ofL [(1004, ⟨2, true, List.map e_api_AVA x.2⟩)]⟩) _ (prefectref4_ParseRDN_l10 N x11) (prefectref4_ParseRDN_l10_b N x11) (fun _ => rfl) (fun _ _ => rfl) ?_
  rintro rec ⟨v6l10, r1004l10⟩ y h
  refine xseq ?_
  refine xseq ?_
  refine xreg ?_
  refine wpp rfl rfl ?_
  refine wpp rfl rfl ?_
  refine wpp rfl (p_lens rfl) ?_
  refine wpp rfl rfl ?_
  rcases bifS h with ⟨c1, h⟩ | ⟨c1, h⟩
  · refine xcT rfl c1 ?_
    refine xskip ?_
    refine xseq ?_
    refine xblk ?_
    refine xseq ?_
    refine xreg ?_
    refine wpp rfl rfl ?_
    refine xseq ?_
    refine xblk ?_
    obtain ⟨y5, hy5, h⟩ := bindS h
    refine xloopU (st1 := ⟨ofL [(4, .slr 1004 0 r1004l10.length), (5, .sl 1 (List.map PV.str x11)), (6, .int .i64 v6l10), (7, .int .i64 0)], ofL [(1004, ⟨2, true, List.map e_api_AVA r1004l10⟩)]⟩) (canon0 ⟨rfl, rfl, rfl, rfl, trivial⟩ ⟨rfl, trivial⟩ rfl rfl) (w_prefectref4_ParseRDN_l23 N x11 v6l10 r1004l10 N _ _ hy5) ?_
    rintro e s ⟨rfl, rfl⟩
    refine xseq ?_
    obtain ⟨g6, hg6, h⟩ := bindS h
    refine xseg ⟨ofL [(4, .slr 1004 0 r1004l10.length), (5, .sl 1 (List.map PV.str x11)), (6, .int .i64 v6l10), (7, .int .i64 y5), (51, .bool g6)], ofL [(1004, ⟨2, true, List.map e_api_AVA r1004l10⟩)]⟩ ?_ ?_
    · have h := hg6
      refine xreg ?_
      refine wpp rfl rfl ?_
      refine wpp rfl rfl ?_
      refine wpp rfl rfl ?_
      obtain ⟨x39, hx39, h⟩ := bindS h
      refine wpp rfl (p_ixs (cs := [.str x39]) hx39 rfl rfl rfl) ?_
      refine wpp rfl rfl ?_
      refine wpp rfl rfl ?_
      refine wpp rfl rfl ?_
      refine wpp rfl rfl ?_
      rcases bifS h with ⟨c7, h⟩ | ⟨c7, h⟩
      · skip
        refine wsk (gn rfl c7) ?_
        refine wsk (gn rfl c7) ?_
        refine wsk (gn rfl c7) ?_
        refine wsk (gn rfl c7) ?_
        refine wsk (gn rfl c7) ?_
        refine wsk (gn rfl c7) ?_
        refine wsk (gn rfl c7) ?_
        refine wpp rfl (p_pick1 c7 rfl rfl) ?_
        obtain rfl := someS h
        exact (canon0 ⟨rfl, rfl, rfl, rfl, rfl, trivial⟩ ⟨rfl, trivial⟩ rfl rfl)
      · skip
        refine wpp (gy rfl c7) rfl ?_
        refine wpp (gy rfl c7) rfl ?_
        obtain ⟨x46, hx46, h⟩ := bindS h
        refine wpp (gy rfl c7) (p_ixs (cs := [.str x46]) hx46 rfl rfl rfl) ?_
        refine wpp (gy rfl c7) rfl ?_
        obtain ⟨x48, hx48, h⟩ := bindS h
        refine woo (gy rfl c7) (ocal (sat_prefectref4_cut N _ _ _ hx48) rfl (.cons sub_rfl (.cons sub_rfl .nil)) rfl rfl rfl) ?_
        refine wpp (gy rfl c7) (p_lens rfl) ?_
        refine wpp (gy rfl c7) rfl ?_
        refine wpp rfl (p_pick0 c7 rfl rfl) ?_
        obtain rfl := someS h
        exact (canon0 ⟨rfl, rfl, rfl, rfl, rfl, trivial⟩ ⟨rfl, trivial⟩ rfl rfl)
    · clear hg6
      rcases bifS h with ⟨c8, h⟩ | ⟨c8, h⟩
      · refine xcT rfl c8 ?_
        refine xseq ?_
        refine xreg ?_
        refine wpp rfl rfl ?_
        refine wpp rfl rfl ?_
        obtain rfl := someS h
        exact xretn (st1 := ⟨ofL [(2, .sl 2 (List.map e_api_AVA [])), (3, .bool false)], ofL []⟩) (Norm.trans (nsub 2 (sub_nl 2) rfl) (canon0 ⟨rfl, rfl, trivial⟩ trivial rfl rfl)) ⟨rfl, rfl⟩
      · refine xcF rfl c8 ?_
        refine xskip ?_
        refine xseq ?_
        refine xreg ?_
        refine wpp rfl rfl ?_
        refine wpp rfl rfl ?_
        obtain ⟨x55, hx55, h⟩ := bindS h
        refine wpp rfl (p_ixs (cs := [.str x55]) hx55 rfl rfl rfl) ?_
        refine wpp rfl rfl ?_
        refine wpp rfl rfl ?_
        refine wpp (p := .int .i64 (w64 (y5 + (1 : Int)))) rfl rfl ?_
        obtain ⟨x59, hx59, h⟩ := bindS h
        refine wpp rfl (p_drop hx59 rfl rfl) ?_
        obtain ⟨x60, hx60, h⟩ := bindS h
        refine woo rfl (ocal (sat_prefectref4_plain N _ _ hx60) rfl (.cons sub_rfl .nil) rfl rfl rfl) ?_
        refine wpp rfl rfl ?_
        refine wpp rfl rfl ?_
        refine wpp rfl rfl ?_
        refine wpp rfl rfl ?_
        refine wpp rfl rfl ?_
        refine xseq ?_
        refine xseq ?_
        refine xreg ?_
        refine wpp rfl rfl ?_
        refine wpp rfl rfl ?_
        rcases bifS h with ⟨c9, h⟩ | ⟨c9, h⟩
        · refine xcT rfl c9 ?_
          refine xseq ?_
          refine xreg ?_
          refine wpp rfl rfl ?_
          refine wpp rfl rfl ?_
          obtain rfl := someS h
          exact xretn (st1 := ⟨ofL [(2, .sl 2 (List.map e_api_AVA [])), (3, .bool false)], ofL []⟩) (Norm.trans (nsub 2 (sub_nl 2) rfl) (canon0 ⟨rfl, rfl, trivial⟩ trivial rfl rfl)) ⟨rfl, rfl⟩
        · refine xcF rfl c9 ?_
          refine xskip ?_
          refine xreg ?_
          refine wpp rfl rfl ?_
          refine wpp rfl rfl ?_
          refine wpp rfl rfl ?_
          obtain ⟨x68, hx68, h⟩ := bindS h
          refine wpp rfl (p_ixs (cs := [.str x68]) hx68 rfl rfl rfl) ?_
          refine wpp rfl rfl ?_
          refine wpp rfl rfl ?_
          obtain ⟨x71, hx71, h⟩ := bindS h
          refine wpp rfl (p_take hx71 rfl rfl) ?_
          obtain ⟨x72, hx72, h⟩ := bindS h
          refine woo rfl (ocal (sat_prefectref4_Lower N _ _ hx72) rfl (.cons sub_rfl .nil) rfl rfl rfl) ?_
          refine wpp rfl rfl ?_
          refine wpp (p := .agg [.str x72, .str x60.1]) rfl rfl ?_
          refine woo rfl (obsl 75 rfl rfl rfl) ?_
          obtain ⟨x76, hx76, h⟩ := bindS h
          refine wapp (f := e_api_AVA) 76 hx76 rfl rfl rfl rfl rfl (el_row rfl (full_row (f := e_api_AVA) (l := [(⟨x72, x60.1⟩ : api_AVA)]))) rfl rfl rfl rfl ?_
          refine wpp rfl rfl ?_
          refine xreg ?_
          refine wpp rfl rfl ?_
          refine wpp (p := .int .i64 (w64 (v6l10 + (1 : Int)))) rfl rfl ?_
          refine wpp rfl rfl ?_
          exact ⟨((w64 (v6l10 + (1 : Int))), x76), (Norm.trans (rename 76 1004 rfl rfl) (canon0 ⟨rfl, rfl, rfl, trivial⟩ ⟨rfl, trivial⟩ rfl rfl)), h⟩
  · refine xcF rfl c1 ?_
    obtain rfl := someS h
    exact xexitn (st1 := ⟨ofL [(4, .slr 1004 0 r1004l10.length)], ofL [(1004, ⟨2, true, List.map e_api_AVA r1004l10⟩)]⟩) (canon0 ⟨rfl, trivial⟩ ⟨rfl, trivial⟩ rfl rfl) ⟨rfl, rfl⟩
theorem sat_prefectref4_ParseRDN (N : Nat) (a0 : List UInt8) (r : List api_AVA × Bool) (h : prefectref4_ParseRDN N a0 = some r) : Sat Try.prog 18 noRows [.str a0] (.tup [.sl 2 (List.map e_api_AVA r.1), .bool r.2]) noRows := by
  refine xsat mixed Try.func18 k18_cf (rs := [.sl 2 (List.map e_api_AVA r.1), .bool r.2]) rfl rfl ?_
  refine xseq ?_
  refine xreg ?_
  refine wpp rfl rfl ?_
  refine wpp rfl rfl ?_
  refine xseq ?_
  refine xreg ?_
  refine wpp rfl rfl ?_
  refine xseq ?_
  refine xreg ?_
  refine wpp rfl rfl ?_
  obtain ⟨x11, hx11, h⟩ := bindS h
  refine woo rfl (ocal (sat_prefectref4_cut N _ _ _ hx11) rfl (.cons sub_rfl (.cons sub_rfl .nil)) rfl rfl rfl) ?_
  refine wpp rfl rfl ?_
  refine xseq ?_
  refine xseq ?_
  refine xreg ?_
  refine wpp rfl rfl ?_
  refine xblk ?_
  obtain ⟨y10, hy10, h⟩ := bindS h
  refine xloopU (st1 := ⟨ofL [(4, .slr 1004 0 ([].length)), (5, .sl 1 (List.map PV.str x11)), (6, .int .i64 0)], ofL [(1004, ⟨2, true, List.map e_api_AVA []⟩)]⟩) (Norm.trans (nlrow 4 1004 2 true rfl rfl rfl) (canon0 ⟨rfl, rfl, rfl, trivial⟩ ⟨rfl, trivial⟩ rfl rfl)) (w_prefectref4_ParseRDN_l10 N x11 N _ _ hy10) ?_
  clear hy10
  rcases y10 with y10 | y10
  · rintro e s ⟨rfl, rfl⟩
    refine xseq ?_
    refine xseq ?_
    refine xreg ?_
    refine wpp rfl rfl ?_
    obtain ⟨x78, hx78, h⟩ := bindS h
    refine woo rfl (ocal (sat_prefectref4_IsRDN N _ _ hx78) rfl (.cons (bor_row rfl (full_row (f := e_api_AVA) (l := y10))) .nil) rfl rfl rfl) ?_
    refine wpp rfl rfl ?_
    rcases bifS h with ⟨c11, h⟩ | ⟨c11, h⟩
    · refine xcT rfl c11 ?_
      refine xseq ?_
      refine xreg ?_
      refine wpp rfl rfl ?_
      refine wpp rfl rfl ?_
      obtain rfl := someS h
      refine xretn (st1 := ⟨ofL [(2, .sl 2 (List.map e_api_AVA [])), (3, .bool false)], ofL []⟩) (Norm.trans (nsub 2 (sub_nl 2) rfl) (canon0 ⟨rfl, rfl, trivial⟩ trivial rfl rfl)) ?_
      exact ⟨nofun, rfl, rfl⟩
    · refine xcF rfl c11 ?_
      refine xskip ?_
      refine xseq ?_
      refine xreg ?_
      refine wpp rfl rfl ?_
      refine wpp rfl rfl ?_
      refine wpp rfl rfl ?_
      obtain rfl := someS h
      refine xretn (st1 := ⟨ofL [(2, .sl 2 (List.map e_api_AVA y10)), (3, .bool true)], ofL []⟩) (Norm.trans (Vd.freeze 1004 _ rfl rfl rfl) (Norm.trans (nsub 2 (sub_eq (congrArg (PV.sl 2) (full_row (f := e_api_AVA) (l := y10)))) rfl) (canon0 ⟨rfl, rfl, trivial⟩ trivial rfl rfl))) ?_
      exact ⟨nofun, rfl, rfl⟩
  · rintro e s ⟨rfl, rfl⟩
    obtain rfl := someS h
    exact ⟨nofun, rfl, rfl⟩
end Go.Gp
end
section
set_option linter.unusedVariables false
set_option linter.unusedSimpArgs false
set_option maxRecDepth 4000
namespace Go.Gp
open Go.Vd Go.RowKit Go.Proofs
def k16_l18 : IC := (.seq (.seq (.reg [⟨(some 13), (.mov (.t 6)), none⟩, ⟨(some 14), (.mov (.t 5)), none⟩, ⟨(some 15), (.len false (.t 14)), none⟩, ⟨(some 16), (.bin .lss (.t 13) (.t 15)), none⟩]) (.cond (.t 16) .skip (.exit 0))) (.seq (.block 1 (.seq (.reg [⟨(some 20), (.mov (.t 5)), none⟩, ⟨(some 21), (.mov (.t 6)), none⟩, ⟨(some 22), (.ixp 1 (.t 20) (.t 21)), none⟩, ⟨(some 23), (.load 1 false (.t 22)), none⟩, ⟨(some 24), (.call 18 [(.t 23)]), none⟩, ⟨(some 19), (.mov (.t 24)), none⟩, ⟨(some 25), (.ext 0 (.t 19)), none⟩, ⟨(some 26), (.ext 1 (.t 19)), none⟩, ⟨(some 7), (.mov (.t 25)), none⟩, ⟨(some 8), (.mov (.t 26)), none⟩]) (.seq (.seq (.reg [⟨(some 27), (.mov (.t 8)), none⟩, ⟨(some 28), (.un .not (.t 27)), none⟩]) (.cond (.t 28) (.seq (.reg [⟨(some 2), (.mov (.c .nl)), none⟩, ⟨(some 3), (.mov (.c (.bool false))), none⟩]) .ret) .skip)) (.reg [⟨(some 29), (.mov (.t 4)), none⟩, ⟨(some 30), (.mov (.t 7)), none⟩, ⟨(some 31), (.bsl 1 [(.t 30)]), none⟩, ⟨(some 32), (.app 25 1 24 (.t 29) (.t 31)), none⟩, ⟨(some 4), (.mov (.t 32)), none⟩])))) (.reg [⟨(some 17), (.mov (.t 6)), none⟩, ⟨(some 18), (.bin .add (.t 17) (.c (.int .i64 1))), none⟩, ⟨(some 6), (.mov (.t 18)), none⟩])))
def k16 : IC := (.seq (.reg [⟨(some 2), (.mov (.c .nl)), none⟩, ⟨(some 3), (.mov (.c (.bool false))), none⟩]) (.seq (.seq (.reg [⟨(some 9), (.mov (.t 0)), none⟩, ⟨(some 10), (.bin .eql (.t 9) (.c (.str []))), none⟩]) (.cond (.t 10) (.seq (.reg [⟨(some 2), (.mov (.c .nl)), none⟩, ⟨(some 3), (.mov (.c (.bool true))), none⟩]) .ret) .skip)) (.seq (.reg [⟨(some 4), (.mov (.c .nl)), none⟩]) (.seq (.reg [⟨(some 11), (.mov (.t 0)), none⟩, ⟨(some 12), (.call 31 [(.t 11), (.c (.int .u8 44))]), none⟩, ⟨(some 5), (.mov (.t 12)), none⟩]) (.seq (.seq (.reg [⟨(some 6), (.mov (.c (.int .i64 0))), none⟩]) (.block 0 (.loop k16_l18))) (.seq (.seq (.reg [⟨(some 33), (.mov (.t 4)), none⟩, ⟨(some 34), (.call 11 [(.t 33)]), none⟩, ⟨(some 35), (.un .not (.t 34)), none⟩]) (.cond (.t 35) (.seq (.reg [⟨(some 2), (.mov (.c .nl)), none⟩, ⟨(some 3), (.mov (.c (.bool false))), none⟩]) .ret) .skip)) (.seq (.reg [⟨(some 36), (.mov (.t 4)), none⟩, ⟨(some 2), (.mov (.t 36)), none⟩, ⟨(some 3), (.mov (.c (.bool true))), none⟩]) .ret)))))))
theorem k16_cf : cfunc Try.prog Try.f16 = some ⟨37, k16, [(.tmp 2), (.tmp 3)]⟩ := by kernel_rfl
theorem w_prefectref4_Parse_l18 (N : Nat) (x12 : List (List UInt8)) : ∀ (n : Nat) (x : Int × List (List api_AVA)) (y : (List (List api_AVA)) ⊕ (List (List api_AVA) × Bool)), prefectref4_Parse_l18 N x12 n x = some y → WX Try.prog (fun _ => false) (.loop k16_l18) ((fun (x : Int × List (List api_AVA)) => ⟨ofL [(4, .slr 1004 0 x.2.length), (5, .sl 1 (List.map PV.str x12)), (6, .int .i64 x.1)], ofL [(1004, ⟨1, true, List.map (es 2 e_api_AVA) x.2⟩)]⟩) x) ((Sum.elim (fun y e s => e = .exit 0 ∧ s = ⟨ofL [(4, .slr 1004 0 y.length)], ofL [(1004, ⟨1, true, List.map (es 2 e_api_AVA) y⟩)]⟩) (fun y e s => e = .ret ∧ s = ⟨ofL [(2, .sl 1 (List.map (es 2 e_api_AVA) y.1)), (3, .bool y.2)], ofL []⟩) : ((List (List api_AVA)) ⊕ (List (List api_AVA) × Bool)) → Xt → St → Prop) y) := by
  refine xloop (fun (x : Int × List (List api_AVA)) => ⟨ofL [(4, .slr 1004 0 x.2.length), (5, .sl 1 (List.map PV.str x12)), (6, .int .i64 x.1)], ofL [(1004, ⟨1, true, List.map (es 2 e_api_AVA) x.2⟩)]⟩) _ (prefectref4_Parse_l18 N x12) (prefectref4_Parse_l18_b N x12) (fun _ => rfl) (fun _ _ => rfl) ?_
  rintro rec ⟨v6l18, r1004l18⟩ y h
  refine xseq ?_
  refine xseq ?_
  refine xreg ?_
  refine wpp rfl rfl ?_
  refine wpp rfl rfl ?_
  refine wpp rfl (p_lens rfl) ?_
  refine wpp rfl rfl ?_
  rcases bifS h with ⟨c2, h⟩ | ⟨c2, h⟩
  · refine xcT rfl c2 ?_
    refine xskip ?_
    refine xseq ?_
    refine xblk ?_
    refine xseq ?_
    refine xreg ?_
    refine wpp rfl rfl ?_
    refine wpp rfl rfl ?_
    obtain ⟨x22, hx22, h⟩ := bindS h
    refine wpp rfl (p_ixs (cs := [.str x22]) hx22 rfl rfl rfl) ?_
    refine wpp rfl rfl ?_
    obtain ⟨x24, hx24, h⟩ := bindS h
    refine woo rfl (ocal (sat_prefectref4_ParseRDN N _ _ hx24) rfl (.cons sub_rfl .nil) rfl rfl rfl) ?_
    refine wpp rfl rfl ?_
    refine wpp rfl rfl ?_
    refine wpp rfl rfl ?_
    refine wpp rfl rfl ?_
    refine wpp rfl rfl ?_
    refine xseq ?_
    refine xseq ?_
    refine xreg ?_
    refine wpp rfl rfl ?_
    refine wpp rfl rfl ?_
    rcases bifS h with ⟨c3, h⟩ | ⟨c3, h⟩
    · refine xcT rfl c3 ?_
      refine xseq ?_
      refine xreg ?_
      refine wpp rfl rfl ?_
      refine wpp rfl rfl ?_
      obtain rfl := someS h
      exact xretn (st1 := ⟨ofL [(2, .sl 1 (List.map (es 2 e_api_AVA) [])), (3, .bool false)], ofL []⟩) (Norm.trans (nsub 2 (sub_nl 1) rfl) (canon0 ⟨rfl, rfl, trivial⟩ trivial rfl rfl)) ⟨rfl, rfl⟩
    · refine xcF rfl c3 ?_
      refine xskip ?_
      refine xreg ?_
      refine wpp rfl rfl ?_
      refine wpp rfl rfl ?_
      refine woo rfl (obsl 31 rfl rfl rfl) ?_
      obtain ⟨x32, hx32, h⟩ := bindS h
      refine wapp (f := (es 2 e_api_AVA)) 32 hx32 rfl rfl rfl rfl rfl (el_row rfl (full_row (f := (es 2 e_api_AVA)) (l := [x24.1]))) rfl rfl rfl rfl ?_
      refine wpp rfl rfl ?_
      refine xreg ?_
      refine wpp rfl rfl ?_
      refine wpp (p := .int .i64 (w64 (v6l18 + (1 : Int)))) rfl rfl ?_
      refine wpp rfl rfl ?_
      exact ⟨((w64 (v6l18 + (1 : Int))), x32), (Norm.trans (rename 32 1004 rfl rfl) (canon0 ⟨rfl, rfl, rfl, trivial⟩ ⟨rfl, trivial⟩ rfl rfl)), h⟩
  · refine xcF rfl c2 ?_
    obtain rfl := someS h
    exact xexitn (st1 := ⟨ofL [(4, .slr 1004 0 r1004l18.length)], ofL [(1004, ⟨1, true, List.map (es 2 e_api_AVA) r1004l18⟩)]⟩) (canon0 ⟨rfl, trivial⟩ ⟨rfl, trivial⟩ rfl rfl) ⟨rfl, rfl⟩
theorem sat_prefectref4_Parse (N : Nat) (a0 : List UInt8) (r : List (List api_AVA) × Bool) (h : prefectref4_Parse N a0 = some r) : Sat Try.prog 16 noRows [.str a0] (.tup [.sl 1 (List.map (es 2 e_api_AVA) r.1), .bool r.2]) noRows := by
  refine xsat mixed Try.func16 k16_cf (rs := [.sl 1 (List.map (es 2 e_api_AVA) r.1), .bool r.2]) rfl rfl ?_
  refine xseq ?_
  refine xreg ?_
  refine wpp rfl rfl ?_
  refine wpp rfl rfl ?_
  refine xseq ?_
  refine xseq ?_
  refine xreg ?_
  refine wpp rfl rfl ?_
  refine wpp rfl rfl ?_
  rcases bifS h with ⟨c1, h⟩ | ⟨c1, h⟩
  · refine xcT rfl c1 ?_
    refine xseq ?_
    refine xreg ?_
    refine wpp rfl rfl ?_
    refine wpp rfl rfl ?_
    obtain rfl := someS h
    refine xretn (st1 := ⟨ofL [(2, .sl 1 (List.map (es 2 e_api_AVA) [])), (3, .bool true)], ofL []⟩) (Norm.trans (nsub 2 (sub_nl 1) rfl) (canon0 ⟨rfl, rfl, trivial⟩ trivial rfl rfl)) ?_
    exact ⟨nofun, rfl, rfl⟩
  · refine xcF rfl c1 ?_
    refine xskip ?_
    refine xseq ?_
    refine xreg ?_
    refine wpp rfl rfl ?_
    refine xseq ?_
    refine xreg ?_
    refine wpp rfl rfl ?_
    obtain ⟨x12, hx12, h⟩ := bindS h
    refine woo rfl (ocal (sat_prefectref4_cut N _ _ _ hx12) rfl (.cons sub_rfl (.cons sub_rfl .nil)) rfl rfl rfl) ?_
    refine wpp rfl rfl ?_
    refine xseq ?_
    refine xseq ?_
    refine xreg ?_
    refine wpp rfl rfl ?_
    refine xblk ?_
    obtain ⟨y4, hy4, h⟩ := bindS h
    refine xloopU (st1 := ⟨ofL [(4, .slr 1004 0 ([].length)), (5, .sl 1 (List.map PV.str x12)), (6, .int .i64 0)], ofL [(1004, ⟨1, true, List.map (es 2 e_api_AVA) []⟩)]⟩) (Norm.trans (nlrow 4 1004 1 true rfl rfl rfl) (canon0 ⟨rfl, rfl, rfl, trivial⟩ ⟨rfl, trivial⟩ rfl rfl)) (w_prefectref4_Parse_l18 N x12 N _ _ hy4) ?_
    clear hy4
    rcases y4 with y4 | y4
    · rintro e s ⟨rfl, rfl⟩
      refine xseq ?_
      refine xseq ?_
      refine xreg ?_
      refine wpp rfl rfl ?_
      obtain ⟨x34, hx34, h⟩ := bindS h
      refine woo rfl (ocal (sat_prefectref4_Is N _ _ hx34) rfl (.cons (bor_row rfl (full_row (f := (es 2 e_api_AVA)) (l := y4))) .nil) rfl rfl rfl) ?_
      refine wpp rfl rfl ?_
      rcases bifS h with ⟨c5, h⟩ | ⟨c5, h⟩
      · refine xcT rfl c5 ?_
        refine xseq ?_
        refine xreg ?_
        refine wpp rfl rfl ?_
        refine wpp rfl rfl ?_
        obtain rfl := someS h
        refine xretn (st1 := ⟨ofL [(2, .sl 1 (List.map (es 2 e_api_AVA) [])), (3, .bool false)], ofL []⟩) (Norm.trans (nsub 2 (sub_nl 1) rfl) (canon0 ⟨rfl, rfl, trivial⟩ trivial rfl rfl)) ?_
        exact ⟨nofun, rfl, rfl⟩
      · refine xcF rfl c5 ?_
        refine xskip ?_
        refine xseq ?_
        refine xreg ?_
        refine wpp rfl rfl ?_
        refine wpp rfl rfl ?_
        refine wpp rfl rfl ?_
        obtain rfl := someS h
        refine xretn (st1 := ⟨ofL [(2, .sl 1 (List.map (es 2 e_api_AVA) y4)), (3, .bool true)], ofL []⟩) (Norm.trans (Vd.freeze 1004 _ rfl rfl rfl) (Norm.trans (nsub 2 (sub_eq (congrArg (PV.sl 1) (full_row (f := (es 2 e_api_AVA)) (l := y4)))) rfl) (canon0 ⟨rfl, rfl, trivial⟩ trivial rfl rfl))) ?_
        exact ⟨nofun, rfl, rfl⟩
    · rintro e s ⟨rfl, rfl⟩
      obtain rfl := someS h
      exact ⟨nofun, rfl, rfl⟩
end Go.Gp
end
section
set_option linter.unusedVariables false
set_option linter.unusedSimpArgs false
set_option maxRecDepth 4000
namespace Go.Gp
open Go.Vd Go.RowKit Go.Proofs
def k20_l14 : IC := (.seq (.seq (.reg [⟨(some 11), (.mov (.t 5)), none⟩, ⟨(some 12), (.mov (.t 0)), none⟩, ⟨(some 13), (.len false (.t 12)), none⟩, ⟨(some 14), (.bin .lss (.t 11) (.t 13)), none⟩]) (.cond (.t 14) .skip (.exit 0))) (.seq (.block 1 (.seq (.regd 9 [⟨(some 17), (.mov (.t 0)), none⟩, ⟨(some 18), (.mov (.t 5)), none⟩, ⟨(some 19), (.ixp 2 (.t 17) (.t 18)), none⟩, ⟨(some 20), (.load 2 true (.t 19)), none⟩, ⟨(some 21), (.mov (.t 1)), none⟩, ⟨(some 22), (.mov (.t 5)), none⟩, ⟨(some 23), (.ixp 2 (.t 21) (.t 22)), none⟩, ⟨(some 24), (.load 2 true (.t 23)), none⟩, ⟨(some 25), (.eqs true [.s, .s] (.t 20) (.t 24)), none⟩]) (.cond (.t 25) (.seq (.reg [⟨(some 4), (.mov (.c (.bool false))), none⟩]) .ret) .skip))) (.reg [⟨(some 15), (.mov (.t 5)), none⟩, ⟨(some 16), (.bin .add (.t 15) (.c (.int .i64 1))), none⟩, ⟨(some 5), (.mov (.t 16)), none⟩])))
def k20 : IC := (.seq (.reg [⟨(some 4), (.mov (.c (.bool false))), none⟩]) (.seq (.seq (.reg [⟨(some 6), (.mov (.t 0)), none⟩, ⟨(some 7), (.len false (.t 6)), none⟩, ⟨(some 8), (.mov (.t 1)), none⟩, ⟨(some 9), (.len false (.t 8)), none⟩, ⟨(some 10), (.bin .neq (.t 7) (.t 9)), none⟩]) (.cond (.t 10) (.seq (.reg [⟨(some 4), (.mov (.c (.bool false))), none⟩]) .ret) .skip)) (.seq (.seq (.reg [⟨(some 5), (.mov (.c (.int .i64 0))), none⟩]) (.block 0 (.loop k20_l14))) (.seq (.reg [⟨(some 4), (.mov (.c (.bool true))), none⟩]) .ret))))
theorem k20_cf : cfunc Try.prog Try.f20 = some ⟨26, k20, [(.tmp 4)]⟩ := by kernel_rfl
theorem w_prefectref4_SameRDN_l14 (N : Nat) (a0 : List api_AVA) (a1 : List api_AVA) : ∀ (n : Nat) (x : Int) (y : Unit ⊕ Bool), prefectref4_SameRDN_l14 N a0 a1 n x = some y → WX Try.prog (fun _ => false) (.loop k20_l14) ((fun (x : Int) => ⟨ofL [(0, .sl 2 (List.map e_api_AVA a0)), (1, .sl 2 (List.map e_api_AVA a1)), (5, .int .i64 x)], ofL []⟩) x) ((Sum.elim (fun y e s => e = .exit 0 ∧ s = ⟨ofL [], ofL []⟩) (fun y e s => e = .ret ∧ s = ⟨ofL [(4, .bool y)], ofL []⟩) : (Unit ⊕ Bool) → Xt → St → Prop) y) := by
  refine xloop (fun (x : Int) => ⟨ofL [(0, .sl 2 (List.map e_api_AVA a0)), (1, .sl 2 (List.map e_api_AVA a1)), (5, .int .i64 x)], ofL []⟩) _ (prefectref4_SameRDN_l14 N a0 a1) (prefectref4_SameRDN_l14_b N a0 a1) (fun _ => rfl) (fun _ _ => rfl) ?_
  rintro rec v5l14 y h
  refine xseq ?_
  refine xseq ?_
  refine xreg ?_
  refine wpp rfl rfl ?_
  refine wpp rfl rfl ?_
  refine wpp rfl (p_lens rfl) ?_
  refine wpp rfl rfl ?_
  rcases bifS h with ⟨c2, h⟩ | ⟨c2, h⟩
  · refine xcT rfl c2 ?_
    refine xskip ?_
    refine xseq ?_
    refine xblk ?_
    refine xseq ?_
    refine xregd ?_
    refine wdp rfl rfl ?_
    refine wdp rfl rfl ?_
    obtain ⟨x19, hx19, h⟩ := bindS h
    refine wdp rfl (p_ixs (cs := [.str x19.Attr, .str x19.Value]) hx19 rfl rfl rfl) ?_
    refine wdp (p := e_api_AVA x19) rfl rfl ?_
    refine wdp rfl rfl ?_
    refine wdp rfl rfl ?_
    obtain ⟨x23, hx23, h⟩ := bindS h
    refine wdp rfl (p_ixs (cs := [.str x23.Attr, .str x23.Value]) hx23 rfl rfl rfl) ?_
    refine wdp (p := e_api_AVA x23) rfl rfl ?_
    refine wdp (p := .bool (!(x19.Attr == x23.Attr && (x19.Value == x23.Value && true)))) rfl rfl ?_
    rcases bifS h with ⟨c3, h⟩ | ⟨c3, h⟩
    · refine xcT rfl c3 ?_
      refine xseq ?_
      refine xreg ?_
      refine wpp rfl rfl ?_
      obtain rfl := someS h
      exact xretn (st1 := ⟨ofL [(4, .bool false)], ofL []⟩) (canon0 ⟨rfl, trivial⟩ trivial rfl rfl) ⟨rfl, rfl⟩
    · refine xcF rfl c3 ?_
      refine xskip ?_
      refine xreg ?_
      refine wpp rfl rfl ?_
      refine wpp (p := .int .i64 (w64 (v5l14 + (1 : Int)))) rfl rfl ?_
      refine wpp rfl rfl ?_
      exact ⟨(w64 (v5l14 + (1 : Int))), (canon0 ⟨rfl, rfl, rfl, trivial⟩ trivial rfl rfl), h⟩
  · refine xcF rfl c2 ?_
    obtain rfl := someS h
    exact xexitn (st1 := ⟨ofL [], ofL []⟩) (canon0 trivial trivial rfl rfl) ⟨rfl, rfl⟩
theorem sat_prefectref4_SameRDN (N : Nat) (a0 : List api_AVA) (a1 : List api_AVA) (r : Bool) (h : prefectref4_SameRDN N a0 a1 = some r) : Sat Try.prog 20 noRows [.sl 2 (List.map e_api_AVA a0), .sl 2 (List.map e_api_AVA a1)] (.bool r) noRows := by
  refine xsat mixed Try.func20 k20_cf (rs := [.bool r]) rfl rfl ?_
  refine xseq ?_
  refine xreg ?_
  refine wpp rfl rfl ?_
  refine xseq ?_
  refine xseq ?_
  refine xreg ?_
  refine wpp rfl rfl ?_
  refine wpp rfl (p_lens rfl) ?_
  refine wpp rfl rfl ?_
  refine wpp rfl (p_lens rfl) ?_
  refine wpp rfl rfl ?_
  rcases bifS h with ⟨c1, h⟩ | ⟨c1, h⟩
  · refine xcT rfl c1 ?_
    refine xseq ?_
    refine xreg ?_
    refine wpp rfl rfl ?_
    obtain rfl := someS h
    refine xret ?_
    exact ⟨nofun, rfl, rfl⟩
  · refine xcF rfl c1 ?_
    refine xskip ?_
    refine xseq ?_
    refine xseq ?_
    refine xreg ?_
    refine wpp rfl rfl ?_
    refine xblk ?_
    obtain ⟨y4, hy4, h⟩ := bindS h
    refine xloopU (st1 := ⟨ofL [(0, .sl 2 (List.map e_api_AVA a0)), (1, .sl 2 (List.map e_api_AVA a1)), (5, .int .i64 0)], ofL []⟩) (canon0 ⟨rfl, rfl, rfl, trivial⟩ trivial rfl rfl) (w_prefectref4_SameRDN_l14 N a0 a1 N _ _ hy4) ?_
    clear hy4
    rcases y4 with y4 | y4
    · rintro e s ⟨rfl, rfl⟩
      refine xseq ?_
      refine xreg ?_
      refine wpp rfl rfl ?_
      obtain rfl := someS h
      refine xret ?_
      exact ⟨nofun, rfl, rfl⟩
    · rintro e s ⟨rfl, rfl⟩
      obtain rfl := someS h
      exact ⟨nofun, rfl, rfl⟩
end Go.Gp
end
section
set_option linter.unusedVariables false
set_option linter.unusedSimpArgs false
set_option maxRecDepth 4000
namespace Go.Gp
open Go.Vd Go.RowKit Go.Proofs
def k19_l14 : IC := (.seq (.seq (.reg [⟨(some 11), (.mov (.t 5)), none⟩, ⟨(some 12), (.mov (.t 0)), none⟩, ⟨(some 13), (.len false (.t 12)), none⟩, ⟨(some 14), (.bin .lss (.t 11) (.t 13)), none⟩]) (.cond (.t 14) .skip (.exit 0))) (.seq (.block 1 (.seq (.regd 10 [⟨(some 17), (.mov (.t 0)), none⟩, ⟨(some 18), (.mov (.t 5)), none⟩, ⟨(some 19), (.ixp 1 (.t 17) (.t 18)), none⟩, ⟨(some 20), (.load 1 false (.t 19)), none⟩, ⟨(some 21), (.mov (.t 1)), none⟩, ⟨(some 22), (.mov (.t 5)), none⟩, ⟨(some 23), (.ixp 1 (.t 21) (.t 22)), none⟩, ⟨(some 24), (.load 1 false (.t 23)), none⟩, ⟨(some 25), (.call 20 [(.t 20), (.t 24)]), none⟩, ⟨(some 26), (.un .not (.t 25)), none⟩]) (.cond (.t 26) (.seq (.reg [⟨(some 4), (.mov (.c (.bool false))), none⟩]) .ret) .skip))) (.reg [⟨(some 15), (.mov (.t 5)), none⟩, ⟨(some 16), (.bin .add (.t 15) (.c (.int .i64 1))), none⟩, ⟨(some 5), (.mov (.t 16)), none⟩])))
def k19 : IC := (.seq (.reg [⟨(some 4), (.mov (.c (.bool false))), none⟩]) (.seq (.seq (.reg [⟨(some 6), (.mov (.t 0)), none⟩, ⟨(some 7), (.len false (.t 6)), none⟩, ⟨(some 8), (.mov (.t 1)), none⟩, ⟨(some 9), (.len false (.t 8)), none⟩, ⟨(some 10), (.bin .neq (.t 7) (.t 9)), none⟩]) (.cond (.t 10) (.seq (.reg [⟨(some 4), (.mov (.c (.bool false))), none⟩]) .ret) .skip)) (.seq (.seq (.reg [⟨(some 5), (.mov (.c (.int .i64 0))), none⟩]) (.block 0 (.loop k19_l14))) (.seq (.reg [⟨(some 4), (.mov (.c (.bool true))), none⟩]) .ret))))
theorem k19_cf : cfunc Try.prog Try.f19 = some ⟨27, k19, [(.tmp 4)]⟩ := by kernel_rfl
theorem w_prefectlaw4_same_l14 (N : Nat) (a0 : List (List api_AVA)) (a1 : List (List api_AVA)) : ∀ (n : Nat) (x : Int) (y : Unit ⊕ Bool), prefectlaw4_same_l14 N a0 a1 n x = some y → WX Try.prog (fun _ => false) (.loop k19_l14) ((fun (x : Int) => ⟨ofL [(0, .sl 1 (List.map (es 2 e_api_AVA) a0)), (1, .sl 1 (List.map (es 2 e_api_AVA) a1)), (5, .int .i64 x)], ofL []⟩) x) ((Sum.elim (fun y e s => e = .exit 0 ∧ s = ⟨ofL [], ofL []⟩) (fun y e s => e = .ret ∧ s = ⟨ofL [(4, .bool y)], ofL []⟩) : (Unit ⊕ Bool) → Xt → St → Prop) y) := by
  refine xloop (fun (x : Int) => ⟨ofL [(0, .sl 1 (List.map (es 2 e_api_AVA) a0)), (1, .sl 1 (List.map (es 2 e_api_AVA) a1)), (5, .int .i64 x)], ofL []⟩) _ (prefectlaw4_same_l14 N a0 a1) (prefectlaw4_same_l14_b N a0 a1) (fun _ => rfl) (fun _ _ => rfl) ?_
  rintro rec v5l14 y h
  refine xseq ?_
  refine xseq ?_
  refine xreg ?_
  refine wpp rfl rfl ?_
  refine wpp rfl rfl ?_
  refine wpp rfl (p_lens rfl) ?_
  refine wpp rfl rfl ?_
  rcases bifS h with ⟨c2, h⟩ | ⟨c2, h⟩
  · refine xcT rfl c2 ?_
    refine xskip ?_
    refine xseq ?_
    refine xblk ?_
    refine xseq ?_
    refine xregd ?_
    refine wdp rfl rfl ?_
    refine wdp rfl rfl ?_
    obtain ⟨x19, hx19, h⟩ := bindS h
    refine wdp rfl (p_ixs (cs := [.sl 2 (List.map e_api_AVA x19)]) hx19 rfl rfl rfl) ?_
    refine wdp rfl rfl ?_
    refine wdp rfl rfl ?_
    refine wdp rfl rfl ?_
    obtain ⟨x23, hx23, h⟩ := bindS h
    refine wdp rfl (p_ixs (cs := [.sl 2 (List.map e_api_AVA x23)]) hx23 rfl rfl rfl) ?_
    refine wdp rfl rfl ?_
    obtain ⟨x25, hx25, h⟩ := bindS h
    refine wdN rfl (pcal (sat_prefectref4_SameRDN N _ _ _ hx25) rfl (.cons sub_rfl (.cons sub_rfl .nil)) rfl rfl rfl) no_fresh ?_
    refine wdp rfl rfl ?_
    rcases bifS h with ⟨c3, h⟩ | ⟨c3, h⟩
    · refine xcT rfl c3 ?_
      refine xseq ?_
      refine xreg ?_
      refine wpp rfl rfl ?_
      obtain rfl := someS h
      exact xretn (st1 := ⟨ofL [(4, .bool false)], ofL []⟩) (canon0 ⟨rfl, trivial⟩ trivial rfl rfl) ⟨rfl, rfl⟩
    · refine xcF rfl c3 ?_
      refine xskip ?_
      refine xreg ?_
      refine wpp rfl rfl ?_
      refine wpp (p := .int .i64 (w64 (v5l14 + (1 : Int)))) rfl rfl ?_
      refine wpp rfl rfl ?_
      exact ⟨(w64 (v5l14 + (1 : Int))), (canon0 ⟨rfl, rfl, rfl, trivial⟩ trivial rfl rfl), h⟩
  · refine xcF rfl c2 ?_
    obtain rfl := someS h
    exact xexitn (st1 := ⟨ofL [], ofL []⟩) (canon0 trivial trivial rfl rfl) ⟨rfl, rfl⟩
theorem sat_prefectlaw4_same (N : Nat) (a0 : List (List api_AVA)) (a1 : List (List api_AVA)) (r : Bool) (h : prefectlaw4_same N a0 a1 = some r) : Sat Try.prog 19 noRows [.sl 1 (List.map (es 2 e_api_AVA) a0), .sl 1 (List.map (es 2 e_api_AVA) a1)] (.bool r) noRows := by
  refine xsat mixed Try.func19 k19_cf (rs := [.bool r]) rfl rfl ?_
  refine xseq ?_
  refine xreg ?_
  refine wpp rfl rfl ?_
  refine xseq ?_
  refine xseq ?_
  refine xreg ?_
  refine wpp rfl rfl ?_
  refine wpp rfl (p_lens rfl) ?_
  refine wpp rfl rfl ?_
  refine wpp rfl (p_lens rfl) ?_
  refine wpp rfl rfl ?_
  rcases bifS h with ⟨c1, h⟩ | ⟨c1, h⟩
  · refine xcT rfl c1 ?_
    refine xseq ?_
    refine xreg ?_
    refine wpp rfl rfl ?_
    obtain rfl := someS h
    refine xret ?_
    exact ⟨nofun, rfl, rfl⟩
  · refine xcF rfl c1 ?_
    refine xskip ?_
    refine xseq ?_
    refine xseq ?_
    refine xreg ?_
    refine wpp rfl rfl ?_
    refine xblk ?_
    obtain ⟨y4, hy4, h⟩ := bindS h
    refine xloopU (st1 := ⟨ofL [(0, .sl 1 (List.map (es 2 e_api_AVA) a0)), (1, .sl 1 (List.map (es 2 e_api_AVA) a1)), (5, .int .i64 0)], ofL []⟩) (canon0 ⟨rfl, rfl, rfl, trivial⟩ trivial rfl rfl) (w_prefectlaw4_same_l14 N a0 a1 N _ _ hy4) ?_
    clear hy4
    rcases y4 with y4 | y4
    · rintro e s ⟨rfl, rfl⟩
      refine xseq ?_
      refine xreg ?_
      refine wpp rfl rfl ?_
      obtain rfl := someS h
      refine xret ?_
      exact ⟨nofun, rfl, rfl⟩
    · rintro e s ⟨rfl, rfl⟩
      obtain rfl := someS h
      exact ⟨nofun, rfl, rfl⟩
end Go.Gp
end
