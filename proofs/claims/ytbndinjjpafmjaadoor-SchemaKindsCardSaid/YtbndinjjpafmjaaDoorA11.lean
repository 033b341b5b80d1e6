/- A part of the proof: functions of the program and what they compute. -/
import Derived.Test.YtbndinjjpafmjaaDoorA6
import Derived.Test.YtbndinjjpafmjaaDoorA10
section
set_option linter.unusedVariables false
set_option linter.unusedSimpArgs false
set_option maxRecDepth 4000
namespace Go.Gp
open Go.Vd Go.RowKit Go.Proofs
def k5_l28 : IC := (.seq (.block 1 (.seq (.reg [⟨(some 45), (.mov (.t 8)), none⟩, ⟨(some 46), (.bin .rem (.t 45) (.c (.int .i64 10))), none⟩, ⟨(some 47), (.bin .add (.c (.int .i64 48)) (.t 46)), none⟩, ⟨(some 48), (.cvi .u8 (.t 47)), none⟩, ⟨(some 49), (.bsl 1 [(.t 48)]), none⟩, ⟨(some 50), (.cvb (.t 49)), none⟩, ⟨(some 51), (.mov (.t 7)), none⟩, ⟨(some 52), (.bin .add (.t 50) (.t 51)), none⟩, ⟨(some 7), (.mov (.t 52)), none⟩]) (.seq (.reg [⟨(some 53), (.mov (.t 8)), none⟩, ⟨(some 54), (.bin .lss (.t 53) (.c (.int .i64 10))), none⟩]) (.cond (.t 54) (.exit 0) .skip)))) (.reg [⟨(some 43), (.mov (.t 8)), none⟩, ⟨(some 44), (.bin .quo (.t 43) (.c (.int .i64 10))), none⟩, ⟨(some 8), (.mov (.t 44)), none⟩]))
def k5 : IC := (.seq (.reg [⟨(some 4), (.mov (.c (.bool false))), none⟩]) (.seq (.seq (.reg [⟨(some 9), (.call 9 []), none⟩, ⟨(some 10), (.un .not (.t 9)), none⟩]) (.cond (.t 10) (.seq (.reg [⟨(some 4), (.mov (.c (.bool false))), none⟩]) .ret) .skip)) (.seq (.reg [⟨(some 11), (.mov (.t 0)), none⟩, ⟨(some 12), (.bsl 1 [(.t 11)]), none⟩, ⟨(some 13), (.cvb (.t 12)), none⟩, ⟨(some 5), (.mov (.t 13)), none⟩]) (.seq (.reg [⟨(some 14), (.mov (.t 0)), none⟩, ⟨(some 15), (.bin .geq (.t 14) (.c (.int .u8 32))), none⟩, ⟨(some 16), (.mov (.t 15)), none⟩, ⟨(some 17), (.mov (.t 0)), (some (16, true))⟩, ⟨(some 18), (.bin .leq (.t 17) (.c (.int .u8 126))), (some (16, true))⟩, ⟨(some 19), (.pick (.t 16) (.t 18) (.c (.bool false))), none⟩, ⟨(some 6), (.mov (.t 19)), none⟩]) (.seq (.seq (.reg [⟨(some 20), (.mov (.t 5)), none⟩, ⟨(some 21), (.call 12 [(.c (.str [109, 97, 105, 108])), (.t 20)]), none⟩, ⟨(some 22), (.bin .eql (.t 21) (.c (.int .i64 0))), none⟩, ⟨(some 23), (.mov (.t 6)), none⟩, ⟨(some 24), (.beq true (.t 22) (.t 23)), none⟩, ⟨(some 25), (.mov (.t 24)), none⟩, ⟨(some 26), (.mov (.t 5)), (some (25, false))⟩, ⟨(some 27), (.call 12 [(.c (.str [99, 110])), (.t 26)]), (some (25, false))⟩, ⟨(some 28), (.bin .eql (.t 27) (.c (.int .i64 0))), (some (25, false))⟩, ⟨(some 29), (.mov (.t 6)), (some (25, false))⟩, ⟨(some 30), (.mov (.t 29)), (some (25, false))⟩, ⟨(some 31), (.mov (.t 0)), (some (30, true))⟩, ⟨(some 32), (.bin .neq (.t 31) (.c (.int .u8 32))), (some (30, true))⟩, ⟨(some 33), (.pick (.t 30) (.t 32) (.c (.bool false))), (some (25, false))⟩, ⟨(some 34), (.beq true (.t 28) (.t 33)), (some (25, false))⟩, ⟨(some 35), (.pick (.t 25) (.c (.bool true)) (.t 34)), none⟩, ⟨(some 36), (.mov (.t 35)), none⟩, ⟨(some 37), (.mov (.t 5)), (some (36, false))⟩, ⟨(some 38), (.call 12 [(.c (.str [117, 115, 101, 114, 112, 97, 115, 115, 119, 111, 114, 100])), (.t 37)]), (some (36, false))⟩, ⟨(some 39), (.bin .neq (.t 38) (.c (.int .i64 0))), (some (36, false))⟩, ⟨(some 40), (.pick (.t 36) (.c (.bool true)) (.t 39)), none⟩]) (.cond (.t 40) (.seq (.reg [⟨(some 4), (.mov (.c (.bool false))), none⟩]) .ret) .skip)) (.seq (.reg [⟨(some 7), (.mov (.c (.str []))), none⟩]) (.seq (.seq (.reg [⟨(some 41), (.mov (.t 1)), none⟩, ⟨(some 42), (.cvi .i64 (.t 41)), none⟩, ⟨(some 8), (.mov (.t 42)), none⟩]) (.block 0 (.loop k5_l28))) (.seq (.reg [⟨(some 55), (.mov (.t 7)), none⟩, ⟨(some 56), (.call 12 [(.c (.str [117, 105, 100, 110, 117, 109, 98, 101, 114])), (.t 55)]), none⟩, ⟨(some 57), (.bin .eql (.t 56) (.c (.int .i64 0))), none⟩, ⟨(some 58), (.mov (.t 57)), none⟩, ⟨(some 59), (.mov (.t 7)), (some (58, true))⟩, ⟨(some 60), (.bin .add (.c (.str [45])) (.t 59)), (some (58, true))⟩, ⟨(some 61), (.call 12 [(.c (.str [117, 105, 100, 110, 117, 109, 98, 101, 114])), (.t 60)]), (some (58, true))⟩, ⟨(some 62), (.bin .eql (.t 61) (.c (.int .i64 0))), (some (58, true))⟩, ⟨(some 63), (.mov (.t 1)), (some (58, true))⟩, ⟨(some 64), (.bin .neq (.t 63) (.c (.int .u16 0))), (some (58, true))⟩, ⟨(some 65), (.beq false (.t 62) (.t 64)), (some (58, true))⟩, ⟨(some 66), (.pick (.t 58) (.t 65) (.c (.bool false))), none⟩, ⟨(some 67), (.mov (.t 66)), none⟩, ⟨(some 68), (.mov (.t 7)), (some (67, true))⟩, ⟨(some 69), (.bin .add (.c (.str [48])) (.t 68)), (some (67, true))⟩, ⟨(some 70), (.call 12 [(.c (.str [117, 105, 100, 110, 117, 109, 98, 101, 114])), (.t 69)]), (some (67, true))⟩, ⟨(some 71), (.bin .eql (.t 70) (.c (.int .i64 17))), (some (67, true))⟩, ⟨(some 72), (.pick (.t 67) (.t 71) (.c (.bool false))), none⟩, ⟨(some 73), (.mov (.t 72)), none⟩, ⟨(some 74), (.mov (.t 7)), (some (73, true))⟩, ⟨(some 75), (.bin .add (.c (.str [99, 110, 61])) (.t 74)), (some (73, true))⟩, ⟨(some 76), (.call 12 [(.c (.str [109, 101, 109, 98, 101, 114])), (.t 75)]), (some (73, true))⟩, ⟨(some 77), (.bin .eql (.t 76) (.c (.int .i64 0))), (some (73, true))⟩, ⟨(some 78), (.pick (.t 73) (.t 77) (.c (.bool false))), none⟩, ⟨(some 79), (.mov (.t 78)), none⟩, ⟨(some 80), (.mov (.t 7)), (some (79, true))⟩, ⟨(some 81), (.call 12 [(.c (.str [109, 101, 109, 98, 101, 114])), (.t 80)]), (some (79, true))⟩, ⟨(some 82), (.bin .eql (.t 81) (.c (.int .i64 17))), (some (79, true))⟩, ⟨(some 83), (.pick (.t 79) (.t 82) (.c (.bool false))), none⟩, ⟨(some 84), (.mov (.t 83)), none⟩, ⟨(some 85), (.call 12 [(.c (.str [99, 110])), (.c (.str []))]), (some (84, true))⟩, ⟨(some 86), (.bin .eql (.t 85) (.c (.int .i64 17))), (some (84, true))⟩, ⟨(some 87), (.pick (.t 84) (.t 86) (.c (.bool false))), none⟩, ⟨(some 4), (.mov (.t 87)), none⟩]) .ret))))))))
theorem k5_cf : cfunc Tryd.prog Tryd.f5 = some ⟨88, k5, [(.tmp 4)]⟩ := by kernel_rfl
theorem w_prefectlaw5_SchemaKinds_l28 (N : Nat) (a1 : Int) : ∀ (n : Nat) (x : List UInt8 × Int) (y : List UInt8), prefectlaw5_SchemaKinds_l28 N a1 n x = some y → WX Tryd.prog (fun _ => false) (.loop k5_l28) ((fun (x : List UInt8 × Int) => ⟨ofL [(1, .int .u16 a1), (7, .str x.1), (8, .int .i64 x.2)], ofL []⟩) x) ((fun y e s => e = .exit 0 ∧ s = ⟨ofL [(1, .int .u16 a1), (7, .str y)], ofL []⟩ : (List UInt8) → Xt → St → Prop) y) := by
  refine xloop (fun (x : List UInt8 × Int) => ⟨ofL [(1, .int .u16 a1), (7, .str x.1), (8, .int .i64 x.2)], ofL []⟩) _ (prefectlaw5_SchemaKinds_l28 N a1) (prefectlaw5_SchemaKinds_l28_b N a1) (fun _ => rfl) (fun _ _ => rfl) ?_
  rintro rec ⟨v7l28, v8l28⟩ y h
  refine xseq ?_
  refine xblk ?_
  refine xseq ?_
  refine xreg ?_
  refine wpp rfl rfl ?_
  refine wpp rfl (p_rem (b := 10) (u := ()) rfl rfl rfl) ?_
  refine wpp (p := .int .i64 (w64 ((48 : Int) + (Int.tmod v8l28 (10 : Int))))) rfl rfl ?_
  refine wpp rfl (p_cvu8 rfl) ?_
  refine woo rfl (obsl 49 rfl rfl rfl) ?_
  refine wpp rfl (p_cvbr (l := [(byte (w64 ((48 : Int) + (Int.tmod v8l28 (10 : Int)))))]) rfl rfl (full_row (f := eb) (l := [(byte (w64 ((48 : Int) + (Int.tmod v8l28 (10 : Int)))))]))) ?_
  refine wpp rfl rfl ?_
  obtain ⟨x52, hx52, h⟩ := bindS h
  refine wpp rfl (p_cat hx52 rfl rfl) ?_
  refine wpp rfl rfl ?_
  refine xseq ?_
  refine xreg ?_
  refine wpp rfl rfl ?_
  refine wpp rfl rfl ?_
  rcases bifS h with ⟨c10, h⟩ | ⟨c10, h⟩
  · refine xcT rfl c10 ?_
    obtain rfl := someS h
    exact xexitn (st1 := ⟨ofL [(1, .int .u16 a1), (7, .str x52)], ofL []⟩) (canon0 ⟨rfl, rfl, trivial⟩ trivial rfl rfl) ⟨rfl, rfl⟩
  · refine xcF rfl c10 ?_
    refine xskip ?_
    refine xreg ?_
    refine wpp rfl rfl ?_
    refine wpp rfl (p_quo (b := 10) (u := ()) rfl rfl rfl) ?_
    refine wpp rfl rfl ?_
    exact ⟨(x52, (w64 (Int.tdiv v8l28 (10 : Int)))), (canon0 ⟨rfl, rfl, rfl, trivial⟩ trivial rfl rfl), h⟩
theorem sat_prefectlaw5_SchemaKinds (N : Nat) (a0 : UInt8) (a1 : Int) (r : Bool) (h : prefectlaw5_SchemaKinds N a0 a1 = some r) : Sat Tryd.prog 5 noRows [eb a0, .int .u16 a1] (.bool r) noRows := by
  refine xsat mixed Tryd.func5 k5_cf (rs := [.bool r]) rfl rfl ?_
  refine xseq ?_
  refine xreg ?_
  refine wpp rfl rfl ?_
  refine xseq ?_
  refine xseq ?_
  refine xreg ?_
  obtain ⟨x9, hx9, h⟩ := bindS h
  refine woo rfl (ocal (sat_prefectlaw5_known N _ hx9) rfl .nil rfl rfl rfl) ?_
  refine wpp rfl rfl ?_
  rcases bifS h with ⟨c1, h⟩ | ⟨c1, h⟩
  · refine xcT rfl c1 ?_
    refine xseq ?_
    refine xreg ?_
    refine wpp rfl rfl ?_
    obtain rfl := someS h
    refine xret ?_
    exact ⟨nofun, rfl, rfl⟩
  · refine xcF rfl c1 ?_
    refine xskip ?_
    refine xseq ?_
    refine xreg ?_
    refine wpp rfl rfl ?_
    refine woo rfl (obsl 12 rfl rfl rfl) ?_
    refine wpp rfl (p_cvbr (l := [a0]) rfl rfl (full_row (f := eb) (l := [a0]))) ?_
    refine wpp rfl rfl ?_
    obtain ⟨g2, hg2, h⟩ := bindS h
    refine xseg ⟨ofL [(0, eb a0), (1, .int .u16 a1), (5, .str [a0]), (6, .bool g2)], ofL []⟩ ?_ ?_
    · have h := hg2
      refine xreg ?_
      refine wpp rfl rfl ?_
      refine wpp (p := .bool (decide (((a0).toNat : Int) ≥ (32 : Int)))) rfl rfl ?_
      refine wpp rfl rfl ?_
      rcases bifS h with ⟨c3, h⟩ | ⟨c3, h⟩
      · skip
        refine wpp (gy rfl c3) rfl ?_
        refine wpp (p := .bool (decide (((a0).toNat : Int) ≤ (126 : Int)))) (gy rfl c3) rfl ?_
        refine wpp rfl (p_pick1 c3 rfl rfl) ?_
        refine wpp rfl rfl ?_
        obtain rfl := someS h
        exact (canon0 ⟨rfl, rfl, rfl, rfl, trivial⟩ trivial rfl rfl)
      · skip
        refine wsk (gn rfl c3) ?_
        refine wsk (gn rfl c3) ?_
        refine wpp rfl (p_pick0 c3 rfl rfl) ?_
        refine wpp rfl rfl ?_
        obtain rfl := someS h
        exact (canon0 ⟨rfl, rfl, rfl, rfl, trivial⟩ trivial rfl rfl)
    · clear hg2
      refine xseq ?_
      obtain ⟨g4, hg4, h⟩ := bindS h
      refine xseg ⟨ofL [(1, .int .u16 a1), (40, .bool g4)], ofL []⟩ ?_ ?_
      · have h := hg4
        refine xreg ?_
        refine wpp rfl rfl ?_
        obtain ⟨x21, hx21, h⟩ := bindS h
        refine woo rfl (ocal (sat_schema_Check N _ _ _ hx21) rfl (.cons sub_rfl (.cons sub_rfl .nil)) rfl rfl rfl) ?_
        refine wpp rfl rfl ?_
        refine wpp rfl rfl ?_
        refine wpp rfl rfl ?_
        refine wpp rfl rfl ?_
        rcases bifS h with ⟨c5, h⟩ | ⟨c5, h⟩
        · skip
          refine wsk (gn rfl c5) ?_
          refine wsk (gn rfl c5) ?_
          refine wsk (gn rfl c5) ?_
          refine wsk (gn rfl c5) ?_
          refine wsk (gn rfl c5) ?_
          refine wsk (gu rfl) ?_
          refine wsk (gu rfl) ?_
          refine wsk (gn rfl c5) ?_
          refine wsk (gn rfl c5) ?_
          refine wpp rfl (p_pick1 c5 rfl rfl) ?_
          refine wpp rfl rfl ?_
          refine wsk rfl ?_
          refine wsk rfl ?_
          refine wsk rfl ?_
          refine wpp rfl rfl ?_
          obtain rfl := someS h
          exact (canon0 ⟨rfl, rfl, trivial⟩ trivial rfl rfl)
        · skip
          refine wpp (gy rfl c5) rfl ?_
          obtain ⟨x27, hx27, h⟩ := bindS h
          refine woo (gy rfl c5) (ocal (sat_schema_Check N _ _ _ hx27) rfl (.cons sub_rfl (.cons sub_rfl .nil)) rfl rfl rfl) ?_
          refine wpp (gy rfl c5) rfl ?_
          refine wpp (gy rfl c5) rfl ?_
          refine wpp (gy rfl c5) rfl ?_
          rcases bifS h with ⟨c6, h⟩ | ⟨c6, h⟩
          · skip
            refine wpp (gy rfl c6) rfl ?_
            refine wpp (p := .bool (((a0).toNat : Int) != (32 : Int))) (gy rfl c6) rfl ?_
            refine wpp (gy rfl c5) (p_pick1 c6 rfl rfl) ?_
            refine wpp (gy rfl c5) rfl ?_
            refine wpp rfl (p_pick0 c5 rfl rfl) ?_
            refine wpp rfl rfl ?_
            rcases bifS h with ⟨c7, h⟩ | ⟨c7, h⟩
            · skip
              refine wsk (gn rfl c7) ?_
              refine wsk (gn rfl c7) ?_
              refine wsk (gn rfl c7) ?_
              refine wpp rfl (p_pick1 c7 rfl rfl) ?_
              obtain rfl := someS h
              exact (canon0 ⟨rfl, rfl, trivial⟩ trivial rfl rfl)
            · skip
              refine wpp (gy rfl c7) rfl ?_
              obtain ⟨x38, hx38, h⟩ := bindS h
              refine woo (gy rfl c7) (ocal (sat_schema_Check N _ _ _ hx38) rfl (.cons sub_rfl (.cons sub_rfl .nil)) rfl rfl rfl) ?_
              refine wpp (gy rfl c7) rfl ?_
              refine wpp rfl (p_pick0 c7 rfl rfl) ?_
              obtain rfl := someS h
              exact (canon0 ⟨rfl, rfl, trivial⟩ trivial rfl rfl)
          · skip
            refine wsk (gn rfl c6) ?_
            refine wsk (gn rfl c6) ?_
            refine wpp (gy rfl c5) (p_pick0 c6 rfl rfl) ?_
            refine wpp (gy rfl c5) rfl ?_
            refine wpp rfl (p_pick0 c5 rfl rfl) ?_
            refine wpp rfl rfl ?_
            rcases bifS h with ⟨c8, h⟩ | ⟨c8, h⟩
            · skip
              refine wsk (gn rfl c8) ?_
              refine wsk (gn rfl c8) ?_
              refine wsk (gn rfl c8) ?_
              refine wpp rfl (p_pick1 c8 rfl rfl) ?_
              obtain rfl := someS h
              exact (canon0 ⟨rfl, rfl, trivial⟩ trivial rfl rfl)
            · skip
              refine wpp (gy rfl c8) rfl ?_
              obtain ⟨x38, hx38, h⟩ := bindS h
              refine woo (gy rfl c8) (ocal (sat_schema_Check N _ _ _ hx38) rfl (.cons sub_rfl (.cons sub_rfl .nil)) rfl rfl rfl) ?_
              refine wpp (gy rfl c8) rfl ?_
              refine wpp rfl (p_pick0 c8 rfl rfl) ?_
              obtain rfl := someS h
              exact (canon0 ⟨rfl, rfl, trivial⟩ trivial rfl rfl)
      · clear hg4
        rcases bifS h with ⟨c9, h⟩ | ⟨c9, h⟩
        · refine xcT rfl c9 ?_
          refine xseq ?_
          refine xreg ?_
          refine wpp rfl rfl ?_
          obtain rfl := someS h
          refine xret ?_
          exact ⟨nofun, rfl, rfl⟩
        · refine xcF rfl c9 ?_
          refine xskip ?_
          refine xseq ?_
          refine xreg ?_
          refine wpp rfl rfl ?_
          refine xseq ?_
          refine xseq ?_
          refine xreg ?_
          refine wpp rfl rfl ?_
          refine wpp (p := .int .i64 (w64 a1)) rfl rfl ?_
          refine wpp rfl rfl ?_
          refine xblk ?_
          obtain ⟨y11, hy11, h⟩ := bindS h
          refine xloopU (st1 := ⟨ofL [(1, .int .u16 a1), (7, .str ([] : List UInt8)), (8, .int .i64 (w64 a1))], ofL []⟩) (canon0 ⟨rfl, rfl, rfl, trivial⟩ trivial rfl rfl) (w_prefectlaw5_SchemaKinds_l28 N a1 N _ _ hy11) ?_
          rintro e s ⟨rfl, rfl⟩
          obtain ⟨g12, hg12, h⟩ := bindS h
          refine xseg ⟨ofL [(4, .bool g12)], ofL []⟩ ?_ ?_
          · have h := hg12
            refine xreg ?_
            refine wpp rfl rfl ?_
            obtain ⟨x56, hx56, h⟩ := bindS h
            refine woo rfl (ocal (sat_schema_Check N _ _ _ hx56) rfl (.cons sub_rfl (.cons sub_rfl .nil)) rfl rfl rfl) ?_
            refine wpp rfl rfl ?_
            refine wpp rfl rfl ?_
            rcases bifS h with ⟨c13, h⟩ | ⟨c13, h⟩
            · skip
              refine wpp (gy rfl c13) rfl ?_
              obtain ⟨x60, hx60, h⟩ := bindS h
              refine wpp (gy rfl c13) (p_cat hx60 rfl rfl) ?_
              obtain ⟨x61, hx61, h⟩ := bindS h
              refine woo (gy rfl c13) (ocal (sat_schema_Check N _ _ _ hx61) rfl (.cons sub_rfl (.cons sub_rfl .nil)) rfl rfl rfl) ?_
              refine wpp (gy rfl c13) rfl ?_
              refine wpp (gy rfl c13) rfl ?_
              refine wpp (gy rfl c13) rfl ?_
              refine wpp (gy rfl c13) rfl ?_
              refine wpp rfl (p_pick1 c13 rfl rfl) ?_
              refine wpp rfl rfl ?_
              rcases bifS h with ⟨c14, h⟩ | ⟨c14, h⟩
              · skip
                refine wpp (gy rfl c14) rfl ?_
                obtain ⟨x69, hx69, h⟩ := bindS h
                refine wpp (gy rfl c14) (p_cat hx69 rfl rfl) ?_
                obtain ⟨x70, hx70, h⟩ := bindS h
                refine woo (gy rfl c14) (ocal (sat_schema_Check N _ _ _ hx70) rfl (.cons sub_rfl (.cons sub_rfl .nil)) rfl rfl rfl) ?_
                refine wpp (gy rfl c14) rfl ?_
                refine wpp rfl (p_pick1 c14 rfl rfl) ?_
                refine wpp rfl rfl ?_
                rcases bifS h with ⟨c15, h⟩ | ⟨c15, h⟩
                · skip
                  refine wpp (gy rfl c15) rfl ?_
                  obtain ⟨x75, hx75, h⟩ := bindS h
                  refine wpp (gy rfl c15) (p_cat hx75 rfl rfl) ?_
                  obtain ⟨x76, hx76, h⟩ := bindS h
                  refine woo (gy rfl c15) (ocal (sat_schema_Check N _ _ _ hx76) rfl (.cons sub_rfl (.cons sub_rfl .nil)) rfl rfl rfl) ?_
                  refine wpp (gy rfl c15) rfl ?_
                  refine wpp rfl (p_pick1 c15 rfl rfl) ?_
                  refine wpp rfl rfl ?_
                  rcases bifS h with ⟨c16, h⟩ | ⟨c16, h⟩
                  · skip
                    refine wpp (gy rfl c16) rfl ?_
                    obtain ⟨x81, hx81, h⟩ := bindS h
                    refine woo (gy rfl c16) (ocal (sat_schema_Check N _ _ _ hx81) rfl (.cons sub_rfl (.cons sub_rfl .nil)) rfl rfl rfl) ?_
                    refine wpp (gy rfl c16) rfl ?_
                    refine wpp rfl (p_pick1 c16 rfl rfl) ?_
                    refine wpp rfl rfl ?_
                    rcases bifS h with ⟨c17, h⟩ | ⟨c17, h⟩
                    · skip
                      obtain ⟨x85, hx85, h⟩ := bindS h
                      refine woo (gy rfl c17) (ocal (sat_schema_Check N _ _ _ hx85) rfl (.cons sub_rfl (.cons sub_rfl .nil)) rfl rfl rfl) ?_
                      refine wpp (gy rfl c17) rfl ?_
                      refine wpp rfl (p_pick1 c17 rfl rfl) ?_
                      refine wpp rfl rfl ?_
                      obtain rfl := someS h
                      exact (canon0 ⟨rfl, trivial⟩ trivial rfl rfl)
                    · skip
                      refine wsk (gn rfl c17) ?_
                      refine wsk (gn rfl c17) ?_
                      refine wpp rfl (p_pick0 c17 rfl rfl) ?_
                      refine wpp rfl rfl ?_
                      obtain rfl := someS h
                      exact (canon0 ⟨rfl, trivial⟩ trivial rfl rfl)
                  · skip
                    refine wsk (gn rfl c16) ?_
                    refine wsk (gn rfl c16) ?_
                    refine wsk (gn rfl c16) ?_
                    refine wpp rfl (p_pick0 c16 rfl rfl) ?_
                    refine wpp rfl rfl ?_
                    refine wsk rfl ?_
                    refine wsk rfl ?_
                    refine wpp rfl rfl ?_
                    refine wpp rfl rfl ?_
                    obtain rfl := someS h
                    exact (canon0 ⟨rfl, trivial⟩ trivial rfl rfl)
                · skip
                  refine wsk (gn rfl c15) ?_
                  refine wsk (gn rfl c15) ?_
                  refine wsk (gn rfl c15) ?_
                  refine wsk (gn rfl c15) ?_
                  refine wpp rfl (p_pick0 c15 rfl rfl) ?_
                  refine wpp rfl rfl ?_
                  refine wsk rfl ?_
                  refine wsk rfl ?_
                  refine wsk rfl ?_
                  refine wpp rfl rfl ?_
                  refine wpp rfl rfl ?_
                  refine wsk rfl ?_
                  refine wsk rfl ?_
                  refine wpp rfl rfl ?_
                  refine wpp rfl rfl ?_
                  obtain rfl := someS h
                  exact (canon0 ⟨rfl, trivial⟩ trivial rfl rfl)
              · skip
                refine wsk (gn rfl c14) ?_
                refine wsk (gn rfl c14) ?_
                refine wsk (gn rfl c14) ?_
                refine wsk (gn rfl c14) ?_
                refine wpp rfl (p_pick0 c14 rfl rfl) ?_
                refine wpp rfl rfl ?_
                refine wsk rfl ?_
                refine wsk rfl ?_
                refine wsk rfl ?_
                refine wsk rfl ?_
                refine wpp rfl rfl ?_
                refine wpp rfl rfl ?_
                refine wsk rfl ?_
                refine wsk rfl ?_
                refine wsk rfl ?_
                refine wpp rfl rfl ?_
                refine wpp rfl rfl ?_
                refine wsk rfl ?_
                refine wsk rfl ?_
                refine wpp rfl rfl ?_
                refine wpp rfl rfl ?_
                obtain rfl := someS h
                exact (canon0 ⟨rfl, trivial⟩ trivial rfl rfl)
            · skip
              refine wsk (gn rfl c13) ?_
              refine wsk (gn rfl c13) ?_
              refine wsk (gn rfl c13) ?_
              refine wsk (gn rfl c13) ?_
              refine wsk (gn rfl c13) ?_
              refine wsk (gn rfl c13) ?_
              refine wsk (gn rfl c13) ?_
              refine wpp rfl (p_pick0 c13 rfl rfl) ?_
              refine wpp rfl rfl ?_
              refine wsk rfl ?_
              refine wsk rfl ?_
              refine wsk rfl ?_
              refine wsk rfl ?_
              refine wpp rfl rfl ?_
              refine wpp rfl rfl ?_
              refine wsk rfl ?_
              refine wsk rfl ?_
              refine wsk rfl ?_
              refine wsk rfl ?_
              refine wpp rfl rfl ?_
              refine wpp rfl rfl ?_
              refine wsk rfl ?_
              refine wsk rfl ?_
              refine wsk rfl ?_
              refine wpp rfl rfl ?_
              refine wpp rfl rfl ?_
              refine wsk rfl ?_
              refine wsk rfl ?_
              refine wpp rfl rfl ?_
              refine wpp rfl rfl ?_
              obtain rfl := someS h
              exact (canon0 ⟨rfl, trivial⟩ trivial rfl rfl)
          · clear hg12
            obtain rfl := someS h
            refine xret ?_
            exact ⟨nofun, rfl, rfl⟩
end Go.Gp
end
