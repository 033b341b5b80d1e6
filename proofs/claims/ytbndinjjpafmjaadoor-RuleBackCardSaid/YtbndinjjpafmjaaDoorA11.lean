/- A part of the proof: functions of the program and what they compute. -/
import Derived.Test.YtbndinjjpafmjaaDoorA5
import Derived.Test.YtbndinjjpafmjaaDoorA10
section
set_option linter.unusedVariables false
set_option linter.unusedSimpArgs false
set_option maxRecDepth 4000
set_option maxHeartbeats 4000000
namespace Go.Gp
open Go.Vd Go.RowKit Go.Proofs
def k18 : IC := (.seq (.reg [⟨(some 0), (.mov (.c (.bool false))), none⟩]) (.seq (.reg [⟨(some 6), (.call 22 [(.c (.str [103, 114, 97, 110, 116, 32, 114, 115, 32, 115, 117, 98, 32, 99, 110, 44, 115, 110, 32, 100, 110, 58, 99, 110, 61, 97, 32, 98]))]), none⟩, ⟨(some 5), (.mov (.t 6)), none⟩, ⟨(some 7), (.ext 0 (.t 5)), none⟩, ⟨(some 8), (.ext 1 (.t 5)), none⟩, ⟨(some 1), (.box 41 (.c (.agg [(.bool false), (.str []), (.bool false), (.str []), .nl]))), none⟩, ⟨none, (.store 5 (.t 1) (.t 7)), none⟩, ⟨(some 2), (.mov (.t 8)), none⟩]) (.seq (.reg [⟨(some 10), (.call 22 [(.c (.str [103, 114, 97, 110, 116, 32, 115, 114, 32, 115, 117, 98, 32, 42, 32, 97, 110, 121]))]), none⟩, ⟨(some 9), (.mov (.t 10)), none⟩, ⟨(some 11), (.ext 0 (.t 9)), none⟩, ⟨(some 12), (.ext 1 (.t 9)), none⟩, ⟨(some 3), (.box 41 (.c (.agg [(.bool false), (.str []), (.bool false), (.str []), .nl]))), none⟩, ⟨none, (.store 5 (.t 3) (.t 11)), none⟩, ⟨(some 4), (.mov (.t 12)), none⟩]) (.seq (.reg [⟨(some 13), (.mov (.t 2)), none⟩, ⟨(some 14), (.bin .eql (.t 13) (.c (.int .i64 0))), none⟩, ⟨(some 15), (.mov (.t 14)), none⟩, ⟨(some 16), (.fda 0 (.t 1)), (some (15, true))⟩, ⟨(some 17), (.load 1 false (.t 16)), (some (15, true))⟩, ⟨(some 18), (.un .not (.t 17)), (some (15, true))⟩, ⟨(some 19), (.pick (.t 15) (.t 18) (.c (.bool false))), none⟩, ⟨(some 20), (.mov (.t 19)), none⟩, ⟨(some 21), (.fda 1 (.t 1)), (some (20, true))⟩, ⟨(some 22), (.load 1 false (.t 21)), (some (20, true))⟩, ⟨(some 23), (.bin .eql (.t 22) (.c (.str [114, 115]))), (some (20, true))⟩, ⟨(some 24), (.pick (.t 20) (.t 23) (.c (.bool false))), none⟩, ⟨(some 25), (.mov (.t 24)), none⟩, ⟨(some 26), (.fda 2 (.t 1)), (some (25, true))⟩, ⟨(some 27), (.load 1 false (.t 26)), (some (25, true))⟩, ⟨(some 28), (.pick (.t 25) (.t 27) (.c (.bool false))), none⟩, ⟨(some 29), (.mov (.t 28)), none⟩, ⟨(some 30), (.fda 4 (.t 1)), (some (29, true))⟩, ⟨(some 31), (.load 1 false (.t 30)), (some (29, true))⟩, ⟨(some 32), (.len false (.t 31)), (some (29, true))⟩, ⟨(some 33), (.bin .eql (.t 32) (.c (.int .i64 2))), (some (29, true))⟩, ⟨(some 34), (.pick (.t 29) (.t 33) (.c (.bool false))), none⟩, ⟨(some 35), (.mov (.t 34)), none⟩, ⟨(some 36), (.fda 3 (.t 1)), (some (35, true))⟩, ⟨(some 37), (.load 1 false (.t 36)), (some (35, true))⟩, ⟨(some 38), (.bin .eql (.t 37) (.c (.str [100, 110, 58, 99, 110, 61, 97, 32, 98]))), (some (35, true))⟩, ⟨(some 39), (.pick (.t 35) (.t 38) (.c (.bool false))), none⟩, ⟨(some 40), (.mov (.t 39)), none⟩, ⟨(some 41), (.mov (.t 4)), (some (40, true))⟩, ⟨(some 42), (.bin .eql (.t 41) (.c (.int .i64 20))), (some (40, true))⟩, ⟨(some 43), (.pick (.t 40) (.t 42) (.c (.bool false))), none⟩, ⟨(some 44), (.mov (.t 43)), none⟩, ⟨(some 45), (.load 5 true (.t 1)), (some (44, true))⟩, ⟨(some 46), (.call 25 [(.t 45)]), (some (44, true))⟩, ⟨(some 47), (.bin .eql (.t 46) (.c (.str [103, 114, 97, 110, 116, 32, 114, 115, 32, 115, 117, 98, 32, 99, 110, 44, 115, 110, 32, 100, 110, 58, 99, 110, 61, 97, 32, 98]))), (some (44, true))⟩, ⟨(some 48), (.pick (.t 44) (.t 47) (.c (.bool false))), none⟩, ⟨(some 49), (.mov (.t 48)), none⟩, ⟨(some 50), (.load 5 true (.t 1)), (some (49, true))⟩, ⟨(some 51), (.call 24 [(.t 50)]), (some (49, true))⟩, ⟨(some 52), (.pick (.t 49) (.t 51) (.c (.bool false))), none⟩, ⟨(some 53), (.mov (.t 52)), none⟩, ⟨(some 54), (.build [(.bool false), (.str []), (.bool false), (.str []), .nl] []), (some (53, true))⟩, ⟨(some 55), (.call 24 [(.t 54)]), (some (53, true))⟩, ⟨(some 56), (.un .not (.t 55)), (some (53, true))⟩, ⟨(some 57), (.pick (.t 53) (.t 56) (.c (.bool false))), none⟩, ⟨(some 58), (.mov (.t 57)), none⟩, ⟨(some 59), (.load 5 true (.t 1)), (some (58, true))⟩, ⟨(some 60), (.load 5 true (.t 1)), (some (58, true))⟩, ⟨(some 61), (.call 26 [(.t 59), (.t 60)]), (some (58, true))⟩, ⟨(some 62), (.pick (.t 58) (.t 61) (.c (.bool false))), none⟩, ⟨(some 0), (.mov (.t 62)), none⟩]) .ret))))
theorem k18_cf : cfunc Tryd.prog Tryd.f18 = some ⟨63, k18, [(.tmp 0)]⟩ := by kernel_rfl
theorem sat_prefectlaw18_known (N : Nat)  (r : Bool) (h : prefectlaw18_known N  = some r) : Sat Tryd.prog 18 noRows [] (.bool r) noRows := by
  refine xsat mixed Tryd.func18 k18_cf (rs := [.bool r]) rfl rfl ?_
  refine xseq ?_
  refine xreg ?_
  refine wpp rfl rfl ?_
  refine xseq ?_
  refine xreg ?_
  obtain ⟨x6, hx6, h⟩ := bindS h
  refine woo rfl (ocal (sat_aci_Parse N _ _ hx6) rfl (.cons sub_rfl .nil) rfl rfl rfl) ?_
  refine wpp rfl rfl ?_
  refine wpp rfl rfl ?_
  refine wpp rfl rfl ?_
  refine woo rfl (obox 1 rfl rfl rfl rfl rfl) ?_
  refine wstb (e' := e_api_Rule x6.1) rfl rfl rfl rfl rfl rfl rfl rfl nofun rfl ?_
  refine wpp rfl rfl ?_
  refine xseq ?_
  refine xreg ?_
  obtain ⟨x10, hx10, h⟩ := bindS h
  refine woo rfl (ocal (sat_aci_Parse N _ _ hx10) rfl (.cons sub_rfl .nil) rfl rfl rfl) ?_
  refine wpp rfl rfl ?_
  refine wpp rfl rfl ?_
  refine wpp rfl rfl ?_
  refine woo rfl (obox 3 rfl rfl rfl rfl rfl) ?_
  refine wstb (e' := e_api_Rule x10.1) rfl rfl rfl rfl rfl rfl rfl rfl nofun rfl ?_
  refine wpp rfl rfl ?_
  obtain ⟨g1, hg1, h⟩ := bindS h
  refine xseg ⟨ofL [(0, .bool g1)], ofL []⟩ ?_ ?_
  · have h := hg1
    refine xreg ?_
    refine wpp rfl rfl ?_
    refine wpp rfl rfl ?_
    refine wpp rfl rfl ?_
    rcases bifS h with ⟨c2, h⟩ | ⟨c2, h⟩
    · skip
      refine wpp (gy rfl c2) rfl ?_
      refine wpp (gy rfl c2) rfl ?_
      refine wpp (gy rfl c2) rfl ?_
      refine wpp rfl (p_pick1 c2 rfl rfl) ?_
      refine wpp rfl rfl ?_
      rcases bifS h with ⟨c3, h⟩ | ⟨c3, h⟩
      · skip
        refine wpp (gy rfl c3) rfl ?_
        refine wpp (gy rfl c3) rfl ?_
        refine wpp (gy rfl c3) rfl ?_
        refine wpp rfl (p_pick1 c3 rfl rfl) ?_
        refine wpp rfl rfl ?_
        rcases bifS h with ⟨c4, h⟩ | ⟨c4, h⟩
        · skip
          refine wpp (gy rfl c4) rfl ?_
          refine wpp (gy rfl c4) rfl ?_
          refine wpp rfl (p_pick1 c4 rfl rfl) ?_
          refine wpp rfl rfl ?_
          rcases bifS h with ⟨c5, h⟩ | ⟨c5, h⟩
          · skip
            refine wpp (gy rfl c5) rfl ?_
            refine wpp (gy rfl c5) rfl ?_
            refine wpp (gy rfl c5) (p_lens rfl) ?_
            refine wpp (gy rfl c5) rfl ?_
            refine wpp rfl (p_pick1 c5 rfl rfl) ?_
            refine wpp rfl rfl ?_
            rcases bifS h with ⟨c6, h⟩ | ⟨c6, h⟩
            · skip
              refine wpp (gy rfl c6) rfl ?_
              refine wpp (gy rfl c6) rfl ?_
              refine wpp (gy rfl c6) rfl ?_
              refine wpp rfl (p_pick1 c6 rfl rfl) ?_
              refine wpp rfl rfl ?_
              rcases bifS h with ⟨c7, h⟩ | ⟨c7, h⟩
              · skip
                refine wpp (gy rfl c7) rfl ?_
                refine wpp (gy rfl c7) rfl ?_
                refine wpp rfl (p_pick1 c7 rfl rfl) ?_
                refine wpp rfl rfl ?_
                rcases bifS h with ⟨c8, h⟩ | ⟨c8, h⟩
                · skip
                  refine wpp (p := e_api_Rule x6.1) (gy rfl c8) rfl ?_
                  obtain ⟨x46, hx46, h⟩ := bindS h
                  refine woo (gy rfl c8) (ocal (sat_aci_Print N _ _ hx46) rfl (.cons sub_rfl .nil) rfl rfl rfl) ?_
                  refine wpp (gy rfl c8) rfl ?_
                  refine wpp rfl (p_pick1 c8 rfl rfl) ?_
                  refine wpp rfl rfl ?_
                  rcases bifS h with ⟨c9, h⟩ | ⟨c9, h⟩
                  · skip
                    refine wpp (p := e_api_Rule x6.1) (gy rfl c9) rfl ?_
                    obtain ⟨x51, hx51, h⟩ := bindS h
                    refine woo (gy rfl c9) (ocal (sat_aci_Is N _ _ hx51) rfl (.cons sub_rfl .nil) rfl rfl rfl) ?_
                    refine wpp rfl (p_pick1 c9 rfl rfl) ?_
                    refine wpp rfl rfl ?_
                    rcases bifS h with ⟨c10, h⟩ | ⟨c10, h⟩
                    · skip
                      refine wpp (p := .agg [.bool false, .str ([] : List UInt8), .bool false, .str ([] : List UInt8), .nl]) (gy rfl c10) rfl ?_
                      refine wnK (nsub 54 (sub_agg (.cons sub_rfl (.cons sub_rfl (.cons sub_rfl (.cons sub_rfl (.cons (sub_nl 1) .nil))))) rfl) rfl) ?_
                      obtain ⟨x55, hx55, h⟩ := bindS h
                      refine woo (gy rfl c10) (ocal (sat_aci_Is N _ _ hx55) rfl (.cons sub_rfl .nil) rfl rfl rfl) ?_
                      refine wpp (gy rfl c10) rfl ?_
                      refine wpp rfl (p_pick1 c10 rfl rfl) ?_
                      refine wpp rfl rfl ?_
                      rcases bifS h with ⟨c11, h⟩ | ⟨c11, h⟩
                      · skip
                        refine wpp (p := e_api_Rule x6.1) (gy rfl c11) rfl ?_
                        refine wpp (p := e_api_Rule x6.1) (gy rfl c11) rfl ?_
                        obtain ⟨x61, hx61, h⟩ := bindS h
                        refine woo (gy rfl c11) (ocal (sat_aci_Same N _ _ _ hx61) rfl (.cons sub_rfl (.cons sub_rfl .nil)) rfl rfl rfl) ?_
                        refine wpp rfl (p_pick1 c11 rfl rfl) ?_
                        refine wpp rfl rfl ?_
                        obtain rfl := someS h
                        exact (canon0 ⟨rfl, trivial⟩ trivial rfl rfl)
                      · skip
                        refine wsk (gn rfl c11) ?_
                        refine wsk (gn rfl c11) ?_
                        refine wsk (gn rfl c11) ?_
                        refine wpp rfl (p_pick0 c11 rfl rfl) ?_
                        refine wpp rfl rfl ?_
                        obtain rfl := someS h
                        exact (canon0 ⟨rfl, trivial⟩ trivial rfl rfl)
                    · skip
                      refine wsk (gn rfl c10) ?_
                      refine wsk (gn rfl c10) ?_
                      refine wsk (gn rfl c10) ?_
                      refine wpp rfl (p_pick0 c10 rfl rfl) ?_
                      refine wpp rfl rfl ?_
                      refine wsk rfl ?_
                      refine wsk rfl ?_
                      refine wsk rfl ?_
                      refine wpp rfl rfl ?_
                      refine wpp rfl rfl ?_
                      obtain rfl := someS h
                      exact (canon0 ⟨rfl, trivial⟩ trivial rfl rfl)
                  · skip
                    refine wsk (gn rfl c9) ?_
                    refine wsk (gn rfl c9) ?_
                    refine wpp rfl (p_pick0 c9 rfl rfl) ?_
                    refine wpp rfl rfl ?_
                    refine wsk rfl ?_
                    refine wsk rfl ?_
                    refine wsk rfl ?_
                    refine wpp rfl rfl ?_
                    refine wpp rfl rfl ?_
                    refine wsk rfl ?_
                    refine wsk rfl ?_
                    refine wsk rfl ?_
                    refine wpp rfl rfl ?_
                    refine wpp rfl rfl ?_
                    obtain rfl := someS h
                    exact (canon0 ⟨rfl, trivial⟩ trivial rfl rfl)
                · skip
                  refine wsk (gn rfl c8) ?_
                  refine wsk (gn rfl c8) ?_
                  refine wsk (gn rfl c8) ?_
                  refine wpp rfl (p_pick0 c8 rfl rfl) ?_
                  refine wpp rfl rfl ?_
                  refine wsk rfl ?_
                  refine wsk rfl ?_
                  refine wpp rfl rfl ?_
                  refine wpp rfl rfl ?_
                  refine wsk rfl ?_
                  refine wsk rfl ?_
                  refine wsk rfl ?_
                  refine wpp rfl rfl ?_
                  refine wpp rfl rfl ?_
                  refine wsk rfl ?_
                  refine wsk rfl ?_
                  refine wsk rfl ?_
                  refine wpp rfl rfl ?_
                  refine wpp rfl rfl ?_
                  obtain rfl := someS h
                  exact (canon0 ⟨rfl, trivial⟩ trivial rfl rfl)
              · skip
                refine wsk (gn rfl c7) ?_
                refine wsk (gn rfl c7) ?_
                refine wpp rfl (p_pick0 c7 rfl rfl) ?_
                refine wpp rfl rfl ?_
                refine wsk rfl ?_
                refine wsk rfl ?_
                refine wsk rfl ?_
                refine wpp rfl rfl ?_
                refine wpp rfl rfl ?_
                refine wsk rfl ?_
                refine wsk rfl ?_
                refine wpp rfl rfl ?_
                refine wpp rfl rfl ?_
                refine wsk rfl ?_
                refine wsk rfl ?_
                refine wsk rfl ?_
                refine wpp rfl rfl ?_
                refine wpp rfl rfl ?_
                refine wsk rfl ?_
                refine wsk rfl ?_
                refine wsk rfl ?_
                refine wpp rfl rfl ?_
                refine wpp rfl rfl ?_
                obtain rfl := someS h
                exact (canon0 ⟨rfl, trivial⟩ trivial rfl rfl)
            · skip
              refine wsk (gn rfl c6) ?_
              refine wsk (gn rfl c6) ?_
              refine wsk (gn rfl c6) ?_
              refine wpp rfl (p_pick0 c6 rfl rfl) ?_
              refine wpp rfl rfl ?_
              refine wsk rfl ?_
              refine wsk rfl ?_
              refine wpp rfl rfl ?_
              refine wpp rfl rfl ?_
              refine wsk rfl ?_
              refine wsk rfl ?_
              refine wsk rfl ?_
              refine wpp rfl rfl ?_
              refine wpp rfl rfl ?_
              refine wsk rfl ?_
              refine wsk rfl ?_
              refine wpp rfl rfl ?_
              refine wpp rfl rfl ?_
              refine wsk rfl ?_
              refine wsk rfl ?_
              refine wsk rfl ?_
              refine wpp rfl rfl ?_
              refine wpp rfl rfl ?_
              refine wsk rfl ?_
              refine wsk rfl ?_
              refine wsk rfl ?_
              refine wpp rfl rfl ?_
              refine wpp rfl rfl ?_
              obtain rfl := someS h
              exact (canon0 ⟨rfl, trivial⟩ trivial rfl rfl)
          · skip
            refine wsk (gn rfl c5) ?_
            refine wsk (gn rfl c5) ?_
            refine wsk (gn rfl c5) ?_
            refine wsk (gn rfl c5) ?_
            refine wpp rfl (p_pick0 c5 rfl rfl) ?_
            refine wpp rfl rfl ?_
            refine wsk rfl ?_
            refine wsk rfl ?_
            refine wsk rfl ?_
            refine wpp rfl rfl ?_
            refine wpp rfl rfl ?_
            refine wsk rfl ?_
            refine wsk rfl ?_
            refine wpp rfl rfl ?_
            refine wpp rfl rfl ?_
            refine wsk rfl ?_
            refine wsk rfl ?_
            refine wsk rfl ?_
            refine wpp rfl rfl ?_
            refine wpp rfl rfl ?_
            refine wsk rfl ?_
            refine wsk rfl ?_
            refine wpp rfl rfl ?_
            refine wpp rfl rfl ?_
            refine wsk rfl ?_
            refine wsk rfl ?_
            refine wsk rfl ?_
            refine wpp rfl rfl ?_
            refine wpp rfl rfl ?_
            refine wsk rfl ?_
            refine wsk rfl ?_
            refine wsk rfl ?_
            refine wpp rfl rfl ?_
            refine wpp rfl rfl ?_
            obtain rfl := someS h
            exact (canon0 ⟨rfl, trivial⟩ trivial rfl rfl)
        · skip
          refine wsk (gn rfl c4) ?_
          refine wsk (gn rfl c4) ?_
          refine wpp rfl (p_pick0 c4 rfl rfl) ?_
          refine wpp rfl rfl ?_
          refine wsk rfl ?_
          refine wsk rfl ?_
          refine wsk rfl ?_
          refine wsk rfl ?_
          refine wpp rfl rfl ?_
          refine wpp rfl rfl ?_
          refine wsk rfl ?_
          refine wsk rfl ?_
          refine wsk rfl ?_
          refine wpp rfl rfl ?_
          refine wpp rfl rfl ?_
          refine wsk rfl ?_
          refine wsk rfl ?_
          refine wpp rfl rfl ?_
          refine wpp rfl rfl ?_
          refine wsk rfl ?_
          refine wsk rfl ?_
          refine wsk rfl ?_
          refine wpp rfl rfl ?_
          refine wpp rfl rfl ?_
          refine wsk rfl ?_
          refine wsk rfl ?_
          refine wpp rfl rfl ?_
          refine wpp rfl rfl ?_
          refine wsk rfl ?_
          refine wsk rfl ?_
          refine wsk rfl ?_
          refine wpp rfl rfl ?_
          refine wpp rfl rfl ?_
          refine wsk rfl ?_
          refine wsk rfl ?_
          refine wsk rfl ?_
          refine wpp rfl rfl ?_
          refine wpp rfl rfl ?_
          obtain rfl := someS h
          exact (canon0 ⟨rfl, trivial⟩ trivial rfl rfl)
      · skip
        refine wsk (gn rfl c3) ?_
        refine wsk (gn rfl c3) ?_
        refine wsk (gn rfl c3) ?_
        refine wpp rfl (p_pick0 c3 rfl rfl) ?_
        refine wpp rfl rfl ?_
        refine wsk rfl ?_
        refine wsk rfl ?_
        refine wpp rfl rfl ?_
        refine wpp rfl rfl ?_
        refine wsk rfl ?_
        refine wsk rfl ?_
        refine wsk rfl ?_
        refine wsk rfl ?_
        refine wpp rfl rfl ?_
        refine wpp rfl rfl ?_
        refine wsk rfl ?_
        refine wsk rfl ?_
        refine wsk rfl ?_
        refine wpp rfl rfl ?_
        refine wpp rfl rfl ?_
        refine wsk rfl ?_
        refine wsk rfl ?_
        refine wpp rfl rfl ?_
        refine wpp rfl rfl ?_
        refine wsk rfl ?_
        refine wsk rfl ?_
        refine wsk rfl ?_
        refine wpp rfl rfl ?_
        refine wpp rfl rfl ?_
        refine wsk rfl ?_
        refine wsk rfl ?_
        refine wpp rfl rfl ?_
        refine wpp rfl rfl ?_
        refine wsk rfl ?_
        refine wsk rfl ?_
        refine wsk rfl ?_
        refine wpp rfl rfl ?_
        refine wpp rfl rfl ?_
        refine wsk rfl ?_
        refine wsk rfl ?_
        refine wsk rfl ?_
        refine wpp rfl rfl ?_
        refine wpp rfl rfl ?_
        obtain rfl := someS h
        exact (canon0 ⟨rfl, trivial⟩ trivial rfl rfl)
    · skip
      refine wsk (gn rfl c2) ?_
      refine wsk (gn rfl c2) ?_
      refine wsk (gn rfl c2) ?_
      refine wpp rfl (p_pick0 c2 rfl rfl) ?_
      refine wpp rfl rfl ?_
      refine wsk rfl ?_
      refine wsk rfl ?_
      refine wsk rfl ?_
      refine wpp rfl rfl ?_
      refine wpp rfl rfl ?_
      refine wsk rfl ?_
      refine wsk rfl ?_
      refine wpp rfl rfl ?_
      refine wpp rfl rfl ?_
      refine wsk rfl ?_
      refine wsk rfl ?_
      refine wsk rfl ?_
      refine wsk rfl ?_
      refine wpp rfl rfl ?_
      refine wpp rfl rfl ?_
      refine wsk rfl ?_
      refine wsk rfl ?_
      refine wsk rfl ?_
      refine wpp rfl rfl ?_
      refine wpp rfl rfl ?_
      refine wsk rfl ?_
      refine wsk rfl ?_
      refine wpp rfl rfl ?_
      refine wpp rfl rfl ?_
      refine wsk rfl ?_
      refine wsk rfl ?_
      refine wsk rfl ?_
      refine wpp rfl rfl ?_
      refine wpp rfl rfl ?_
      refine wsk rfl ?_
      refine wsk rfl ?_
      refine wpp rfl rfl ?_
      refine wpp rfl rfl ?_
      refine wsk rfl ?_
      refine wsk rfl ?_
      refine wsk rfl ?_
      refine wpp rfl rfl ?_
      refine wpp rfl rfl ?_
      refine wsk rfl ?_
      refine wsk rfl ?_
      refine wsk rfl ?_
      refine wpp rfl rfl ?_
      refine wpp rfl rfl ?_
      obtain rfl := someS h
      exact (canon0 ⟨rfl, trivial⟩ trivial rfl rfl)
  · clear hg1
    obtain rfl := someS h
    refine xret ?_
    exact ⟨nofun, rfl, rfl⟩
end Go.Gp
end
section
set_option linter.unusedVariables false
set_option linter.unusedSimpArgs false
set_option maxRecDepth 4000
namespace Go.Gp
open Go.Vd Go.RowKit Go.Proofs
def k19_l6 : IC := (.seq (.seq (.reg [⟨(some 4), (.mov (.t 3)), none⟩, ⟨(some 5), (.fda 4 (.t 1)), none⟩, ⟨(some 6), (.load 1 false (.t 5)), none⟩, ⟨(some 7), (.len false (.t 6)), none⟩, ⟨(some 8), (.bin .lss (.t 4) (.t 7)), none⟩]) (.cond (.t 8) .skip (.exit 0))) (.seq (.block 1 (.seq (.reg [⟨(some 11), (.fda 4 (.t 1)), none⟩, ⟨(some 12), (.load 1 false (.t 11)), none⟩, ⟨(some 13), (.mov (.t 3)), none⟩, ⟨(some 14), (.ixp 1 (.t 12) (.t 13)), none⟩, ⟨(some 15), (.load 1 false (.t 14)), none⟩, ⟨(some 16), (.len true (.t 15)), none⟩, ⟨(some 17), (.bin .gtr (.t 16) (.c (.int .i64 30))), none⟩]) (.cond (.t 17) (.seq (.reg [⟨(some 2), (.mov (.c (.bool false))), none⟩]) .ret) .skip))) (.reg [⟨(some 9), (.mov (.t 3)), none⟩, ⟨(some 10), (.bin .add (.t 9) (.c (.int .i64 1))), none⟩, ⟨(some 3), (.mov (.t 10)), none⟩])))
def k19 : IC := (.seq (.reg [⟨(some 1), (.box 41 (.t 0)), none⟩, ⟨(some 2), (.mov (.c (.bool false))), none⟩]) (.seq (.seq (.reg [⟨(some 3), (.mov (.c (.int .i64 0))), none⟩]) (.block 0 (.loop k19_l6))) (.seq (.reg [⟨(some 18), (.fda 4 (.t 1)), none⟩, ⟨(some 19), (.load 1 false (.t 18)), none⟩, ⟨(some 20), (.len false (.t 19)), none⟩, ⟨(some 21), (.bin .leq (.t 20) (.c (.int .i64 20))), none⟩, ⟨(some 22), (.mov (.t 21)), none⟩, ⟨(some 23), (.fda 1 (.t 1)), (some (22, true))⟩, ⟨(some 24), (.load 1 false (.t 23)), (some (22, true))⟩, ⟨(some 25), (.len true (.t 24)), (some (22, true))⟩, ⟨(some 26), (.bin .leq (.t 25) (.c (.int .i64 20))), (some (22, true))⟩, ⟨(some 27), (.pick (.t 22) (.t 26) (.c (.bool false))), none⟩, ⟨(some 28), (.mov (.t 27)), none⟩, ⟨(some 29), (.fda 3 (.t 1)), (some (28, true))⟩, ⟨(some 30), (.load 1 false (.t 29)), (some (28, true))⟩, ⟨(some 31), (.len true (.t 30)), (some (28, true))⟩, ⟨(some 32), (.bin .leq (.t 31) (.c (.int .i64 200))), (some (28, true))⟩, ⟨(some 33), (.pick (.t 28) (.t 32) (.c (.bool false))), none⟩, ⟨(some 2), (.mov (.t 33)), none⟩]) .ret)))
theorem k19_cf : cfunc Tryd.prog Tryd.f19 = some ⟨34, k19, [(.tmp 2)]⟩ := by kernel_rfl
theorem w_prefectlaw18_fewRule_l6 (N : Nat) (a0 : api_Rule) : ∀ (n : Nat) (x : Int) (y : Unit ⊕ Bool), prefectlaw18_fewRule_l6 N a0 n x = some y → WX Tryd.prog (fun _ => false) (.loop k19_l6) ((fun (x : Int) => ⟨ofL [(1, .ptr 1 0 0), (3, .int .i64 x)], ofL [(1, ⟨5, false, [e_api_Rule a0]⟩)]⟩) x) ((Sum.elim (fun y e s => e = .exit 0 ∧ s = ⟨ofL [(1, .ptr 1 0 0)], ofL [(1, ⟨5, false, [e_api_Rule a0]⟩)]⟩) (fun y e s => e = .ret ∧ s = ⟨ofL [(2, .bool y)], ofL []⟩) : (Unit ⊕ Bool) → Xt → St → Prop) y) := by
  refine xloop (fun (x : Int) => ⟨ofL [(1, .ptr 1 0 0), (3, .int .i64 x)], ofL [(1, ⟨5, false, [e_api_Rule a0]⟩)]⟩) _ (prefectlaw18_fewRule_l6 N a0) (prefectlaw18_fewRule_l6_b N a0) (fun _ => rfl) (fun _ _ => rfl) ?_
  rintro rec v3l6 y h
  refine xseq ?_
  refine xseq ?_
  refine xreg ?_
  refine wpp rfl rfl ?_
  refine wpp rfl rfl ?_
  refine wpp rfl rfl ?_
  refine wpp rfl (p_lens rfl) ?_
  refine wpp rfl rfl ?_
  rcases bifS h with ⟨c1, h⟩ | ⟨c1, h⟩
  · refine xcT rfl c1 ?_
    refine xskip ?_
    refine xseq ?_
    refine xblk ?_
    refine xseq ?_
    refine xreg ?_
    refine wpp rfl rfl ?_
    refine wpp rfl rfl ?_
    refine wpp rfl rfl ?_
    obtain ⟨x14, hx14, h⟩ := bindS h
    refine wpp rfl (p_ixs (cs := [.str x14]) hx14 rfl rfl rfl) ?_
    refine wpp rfl rfl ?_
    refine wpp rfl rfl ?_
    refine wpp rfl rfl ?_
    rcases bifS h with ⟨c2, h⟩ | ⟨c2, h⟩
    · refine xcT rfl c2 ?_
      refine xseq ?_
      refine xreg ?_
      refine wpp rfl rfl ?_
      obtain rfl := someS h
      exact xretn (st1 := ⟨ofL [(2, .bool false)], ofL []⟩) (canon0 ⟨rfl, trivial⟩ trivial rfl rfl) ⟨rfl, rfl⟩
    · refine xcF rfl c2 ?_
      refine xskip ?_
      refine xreg ?_
      refine wpp rfl rfl ?_
      refine wpp (p := .int .i64 (w64 (v3l6 + (1 : Int)))) rfl rfl ?_
      refine wpp rfl rfl ?_
      exact ⟨(w64 (v3l6 + (1 : Int))), (canon0 ⟨rfl, rfl, trivial⟩ ⟨rfl, trivial⟩ rfl rfl), h⟩
  · refine xcF rfl c1 ?_
    obtain rfl := someS h
    exact xexitn (st1 := ⟨ofL [(1, .ptr 1 0 0)], ofL [(1, ⟨5, false, [e_api_Rule a0]⟩)]⟩) (canon0 ⟨rfl, trivial⟩ ⟨rfl, trivial⟩ rfl rfl) ⟨rfl, rfl⟩
theorem sat_prefectlaw18_fewRule (N : Nat) (a0 : api_Rule) (r : Bool) (h : prefectlaw18_fewRule N a0 = some r) : Sat Tryd.prog 19 noRows [e_api_Rule a0] (.bool r) noRows := by
  refine xsat mixed Tryd.func19 k19_cf (rs := [.bool r]) rfl rfl ?_
  refine xseq ?_
  refine xreg ?_
  refine woo rfl (obox 1 rfl rfl rfl rfl rfl) ?_
  refine wpp rfl rfl ?_
  refine xseq ?_
  refine xseq ?_
  refine xreg ?_
  refine wpp rfl rfl ?_
  refine xblk ?_
  obtain ⟨y3, hy3, h⟩ := bindS h
  refine xloopU (st1 := ⟨ofL [(1, .ptr 1 0 0), (3, .int .i64 0)], ofL [(1, ⟨5, false, [e_api_Rule a0]⟩)]⟩) (canon0 ⟨rfl, rfl, trivial⟩ ⟨rfl, trivial⟩ rfl rfl) (w_prefectlaw18_fewRule_l6 N a0 N _ _ hy3) ?_
  clear hy3
  rcases y3 with y3 | y3
  · rintro e s ⟨rfl, rfl⟩
    obtain ⟨g4, hg4, h⟩ := bindS h
    refine xseg ⟨ofL [(2, .bool g4)], ofL []⟩ ?_ ?_
    · have h := hg4
      refine xreg ?_
      refine wpp rfl rfl ?_
      refine wpp rfl rfl ?_
      refine wpp rfl (p_lens rfl) ?_
      refine wpp rfl rfl ?_
      refine wpp rfl rfl ?_
      rcases bifS h with ⟨c5, h⟩ | ⟨c5, h⟩
      · skip
        refine wpp (gy rfl c5) rfl ?_
        refine wpp (gy rfl c5) rfl ?_
        refine wpp (gy rfl c5) rfl ?_
        refine wpp (gy rfl c5) rfl ?_
        refine wpp rfl (p_pick1 c5 rfl rfl) ?_
        refine wpp rfl rfl ?_
        rcases bifS h with ⟨c6, h⟩ | ⟨c6, h⟩
        · skip
          refine wpp (gy rfl c6) rfl ?_
          refine wpp (gy rfl c6) rfl ?_
          refine wpp (gy rfl c6) rfl ?_
          refine wpp (gy rfl c6) rfl ?_
          refine wpp rfl (p_pick1 c6 rfl rfl) ?_
          refine wpp rfl rfl ?_
          obtain rfl := someS h
          exact (canon0 ⟨rfl, trivial⟩ trivial rfl rfl)
        · skip
          refine wsk (gn rfl c6) ?_
          refine wsk (gn rfl c6) ?_
          refine wsk (gn rfl c6) ?_
          refine wsk (gn rfl c6) ?_
          refine wpp rfl (p_pick0 c6 rfl rfl) ?_
          refine wpp rfl rfl ?_
          obtain rfl := someS h
          exact (canon0 ⟨rfl, trivial⟩ trivial rfl rfl)
      · skip
        refine wsk (gn rfl c5) ?_
        refine wsk (gn rfl c5) ?_
        refine wsk (gn rfl c5) ?_
        refine wsk (gn rfl c5) ?_
        refine wpp rfl (p_pick0 c5 rfl rfl) ?_
        refine wpp rfl rfl ?_
        refine wsk rfl ?_
        refine wsk rfl ?_
        refine wsk rfl ?_
        refine wsk rfl ?_
        refine wpp rfl rfl ?_
        refine wpp rfl rfl ?_
        obtain rfl := someS h
        exact (canon0 ⟨rfl, trivial⟩ trivial rfl rfl)
    · clear hg4
      obtain rfl := someS h
      refine xret ?_
      exact ⟨nofun, rfl, rfl⟩
  · rintro e s ⟨rfl, rfl⟩
    obtain rfl := someS h
    exact ⟨nofun, rfl, rfl⟩
end Go.Gp
end
section
set_option linter.unusedVariables false
set_option linter.unusedSimpArgs false
set_option maxRecDepth 4000
namespace Go.Gp
open Go.Vd Go.RowKit Go.Proofs
def k27_l14 : IC := (.seq (.seq (.reg [⟨(some 41), (.mov (.t 5)), none⟩, ⟨(some 42), (.fda 4 (.t 2)), none⟩, ⟨(some 43), (.load 1 false (.t 42)), none⟩, ⟨(some 44), (.len false (.t 43)), none⟩, ⟨(some 45), (.bin .lss (.t 41) (.t 44)), none⟩]) (.cond (.t 45) .skip (.exit 0))) (.seq (.block 1 (.seq (.regd 11 [⟨(some 48), (.fda 4 (.t 2)), none⟩, ⟨(some 49), (.load 1 false (.t 48)), none⟩, ⟨(some 50), (.mov (.t 5)), none⟩, ⟨(some 51), (.ixp 1 (.t 49) (.t 50)), none⟩, ⟨(some 52), (.load 1 false (.t 51)), none⟩, ⟨(some 53), (.fda 4 (.t 3)), none⟩, ⟨(some 54), (.load 1 false (.t 53)), none⟩, ⟨(some 55), (.mov (.t 5)), none⟩, ⟨(some 56), (.ixp 1 (.t 54) (.t 55)), none⟩, ⟨(some 57), (.load 1 false (.t 56)), none⟩, ⟨(some 58), (.bin .neq (.t 52) (.t 57)), none⟩]) (.cond (.t 58) (.seq (.reg [⟨(some 4), (.mov (.c (.bool false))), none⟩]) .ret) .skip))) (.reg [⟨(some 46), (.mov (.t 5)), none⟩, ⟨(some 47), (.bin .add (.t 46) (.c (.int .i64 1))), none⟩, ⟨(some 5), (.mov (.t 47)), none⟩])))
def k27 : IC := (.seq (.reg [⟨(some 2), (.box 41 (.t 0)), none⟩, ⟨(some 3), (.box 41 (.t 1)), none⟩, ⟨(some 4), (.mov (.c (.bool false))), none⟩]) (.seq (.seq (.reg [⟨(some 6), (.fda 0 (.t 2)), none⟩, ⟨(some 7), (.load 1 false (.t 6)), none⟩, ⟨(some 8), (.fda 0 (.t 3)), none⟩, ⟨(some 9), (.load 1 false (.t 8)), none⟩, ⟨(some 10), (.beq true (.t 7) (.t 9)), none⟩, ⟨(some 11), (.mov (.t 10)), none⟩, ⟨(some 12), (.fda 1 (.t 2)), (some (11, false))⟩, ⟨(some 13), (.load 1 false (.t 12)), (some (11, false))⟩, ⟨(some 14), (.fda 1 (.t 3)), (some (11, false))⟩, ⟨(some 15), (.load 1 false (.t 14)), (some (11, false))⟩, ⟨(some 16), (.bin .neq (.t 13) (.t 15)), (some (11, false))⟩, ⟨(some 17), (.pick (.t 11) (.c (.bool true)) (.t 16)), none⟩, ⟨(some 18), (.mov (.t 17)), none⟩, ⟨(some 19), (.fda 2 (.t 2)), (some (18, false))⟩, ⟨(some 20), (.load 1 false (.t 19)), (some (18, false))⟩, ⟨(some 21), (.fda 2 (.t 3)), (some (18, false))⟩, ⟨(some 22), (.load 1 false (.t 21)), (some (18, false))⟩, ⟨(some 23), (.beq true (.t 20) (.t 22)), (some (18, false))⟩, ⟨(some 24), (.pick (.t 18) (.c (.bool true)) (.t 23)), none⟩, ⟨(some 25), (.mov (.t 24)), none⟩, ⟨(some 26), (.fda 3 (.t 2)), (some (25, false))⟩, ⟨(some 27), (.load 1 false (.t 26)), (some (25, false))⟩, ⟨(some 28), (.fda 3 (.t 3)), (some (25, false))⟩, ⟨(some 29), (.load 1 false (.t 28)), (some (25, false))⟩, ⟨(some 30), (.bin .neq (.t 27) (.t 29)), (some (25, false))⟩, ⟨(some 31), (.pick (.t 25) (.c (.bool true)) (.t 30)), none⟩, ⟨(some 32), (.mov (.t 31)), none⟩, ⟨(some 33), (.fda 4 (.t 2)), (some (32, false))⟩, ⟨(some 34), (.load 1 false (.t 33)), (some (32, false))⟩, ⟨(some 35), (.len false (.t 34)), (some (32, false))⟩, ⟨(some 36), (.fda 4 (.t 3)), (some (32, false))⟩, ⟨(some 37), (.load 1 false (.t 36)), (some (32, false))⟩, ⟨(some 38), (.len false (.t 37)), (some (32, false))⟩, ⟨(some 39), (.bin .neq (.t 35) (.t 38)), (some (32, false))⟩, ⟨(some 40), (.pick (.t 32) (.c (.bool true)) (.t 39)), none⟩]) (.cond (.t 40) (.seq (.reg [⟨(some 4), (.mov (.c (.bool false))), none⟩]) .ret) .skip)) (.seq (.seq (.reg [⟨(some 5), (.mov (.c (.int .i64 0))), none⟩]) (.block 0 (.loop k27_l14))) (.seq (.reg [⟨(some 4), (.mov (.c (.bool true))), none⟩]) .ret))))
theorem k27_cf : cfunc Tryd.prog Tryd.f27 = some ⟨59, k27, [(.tmp 4)]⟩ := by kernel_rfl
theorem w_prefectref17_SameRule_l14 (N : Nat) (a0 : api_Rule) (a1 : api_Rule) : ∀ (n : Nat) (x : Int) (y : Unit ⊕ Bool), prefectref17_SameRule_l14 N a0 a1 n x = some y → WX Tryd.prog (fun _ => false) (.loop k27_l14) ((fun (x : Int) => ⟨ofL [(2, .ptr 2 0 0), (3, .ptr 3 0 0), (5, .int .i64 x)], ofL [(2, ⟨5, false, [e_api_Rule a0]⟩), (3, ⟨5, false, [e_api_Rule a1]⟩)]⟩) x) ((Sum.elim (fun y e s => e = .exit 0 ∧ s = ⟨ofL [], ofL []⟩) (fun y e s => e = .ret ∧ s = ⟨ofL [(4, .bool y)], ofL []⟩) : (Unit ⊕ Bool) → Xt → St → Prop) y) := by
  refine xloop (fun (x : Int) => ⟨ofL [(2, .ptr 2 0 0), (3, .ptr 3 0 0), (5, .int .i64 x)], ofL [(2, ⟨5, false, [e_api_Rule a0]⟩), (3, ⟨5, false, [e_api_Rule a1]⟩)]⟩) _ (prefectref17_SameRule_l14 N a0 a1) (prefectref17_SameRule_l14_b N a0 a1) (fun _ => rfl) (fun _ _ => rfl) ?_
  rintro rec v5l14 y h
  refine xseq ?_
  refine xseq ?_
  refine xreg ?_
  refine wpp rfl rfl ?_
  refine wpp rfl rfl ?_
  refine wpp rfl rfl ?_
  refine wpp rfl (p_lens rfl) ?_
  refine wpp rfl rfl ?_
  rcases bifS h with ⟨c7, h⟩ | ⟨c7, h⟩
  · refine xcT rfl c7 ?_
    refine xskip ?_
    refine xseq ?_
    refine xblk ?_
    refine xseq ?_
    refine xregd ?_
    refine wdp rfl rfl ?_
    refine wdp rfl rfl ?_
    refine wdp rfl rfl ?_
    obtain ⟨x51, hx51, h⟩ := bindS h
    refine wdp rfl (p_ixs (cs := [.str x51]) hx51 rfl rfl rfl) ?_
    refine wdp rfl rfl ?_
    refine wdp rfl rfl ?_
    refine wdp rfl rfl ?_
    refine wdp rfl rfl ?_
    obtain ⟨x56, hx56, h⟩ := bindS h
    refine wdp rfl (p_ixs (cs := [.str x56]) hx56 rfl rfl rfl) ?_
    refine wdp rfl rfl ?_
    refine wdp rfl rfl ?_
    rcases bifS h with ⟨c8, h⟩ | ⟨c8, h⟩
    · refine xcT rfl c8 ?_
      refine xseq ?_
      refine xreg ?_
      refine wpp rfl rfl ?_
      obtain rfl := someS h
      exact xretn (st1 := ⟨ofL [(4, .bool false)], ofL []⟩) (canon0 ⟨rfl, trivial⟩ trivial rfl rfl) ⟨rfl, rfl⟩
    · refine xcF rfl c8 ?_
      refine xskip ?_
      refine xreg ?_
      refine wpp rfl rfl ?_
      refine wpp (p := .int .i64 (w64 (v5l14 + (1 : Int)))) rfl rfl ?_
      refine wpp rfl rfl ?_
      exact ⟨(w64 (v5l14 + (1 : Int))), (canon0 ⟨rfl, rfl, rfl, trivial⟩ ⟨rfl, rfl, trivial⟩ rfl rfl), h⟩
  · refine xcF rfl c7 ?_
    obtain rfl := someS h
    exact xexitn (st1 := ⟨ofL [], ofL []⟩) (canon0 trivial trivial rfl rfl) ⟨rfl, rfl⟩
theorem sat_prefectref17_SameRule (N : Nat) (a0 : api_Rule) (a1 : api_Rule) (r : Bool) (h : prefectref17_SameRule N a0 a1 = some r) : Sat Tryd.prog 27 noRows [e_api_Rule a0, e_api_Rule a1] (.bool r) noRows := by
  refine xsat mixed Tryd.func27 k27_cf (rs := [.bool r]) rfl rfl ?_
  refine xseq ?_
  refine xreg ?_
  refine woo rfl (obox 2 rfl rfl rfl rfl rfl) ?_
  refine woo rfl (obox 3 rfl rfl rfl rfl rfl) ?_
  refine wpp rfl rfl ?_
  refine xseq ?_
  obtain ⟨g1, hg1, h⟩ := bindS h
  refine xseg ⟨ofL [(2, .ptr 2 0 0), (3, .ptr 3 0 0), (40, .bool g1)], ofL [(2, ⟨5, false, [e_api_Rule a0]⟩), (3, ⟨5, false, [e_api_Rule a1]⟩)]⟩ ?_ ?_
  · have h := hg1
    refine xreg ?_
    refine wpp rfl rfl ?_
    refine wpp rfl rfl ?_
    refine wpp rfl rfl ?_
    refine wpp rfl rfl ?_
    refine wpp rfl rfl ?_
    refine wpp rfl rfl ?_
    rcases bifS h with ⟨c2, h⟩ | ⟨c2, h⟩
    · skip
      refine wsk (gn rfl c2) ?_
      refine wsk (gn rfl c2) ?_
      refine wsk (gn rfl c2) ?_
      refine wsk (gn rfl c2) ?_
      refine wsk (gn rfl c2) ?_
      refine wpp rfl (p_pick1 c2 rfl rfl) ?_
      refine wpp rfl rfl ?_
      refine wsk rfl ?_
      refine wsk rfl ?_
      refine wsk rfl ?_
      refine wsk rfl ?_
      refine wsk rfl ?_
      refine wpp rfl rfl ?_
      refine wpp rfl rfl ?_
      refine wsk rfl ?_
      refine wsk rfl ?_
      refine wsk rfl ?_
      refine wsk rfl ?_
      refine wsk rfl ?_
      refine wpp rfl rfl ?_
      refine wpp rfl rfl ?_
      refine wsk rfl ?_
      refine wsk rfl ?_
      refine wsk rfl ?_
      refine wsk rfl ?_
      refine wsk rfl ?_
      refine wsk rfl ?_
      refine wsk rfl ?_
      refine wpp rfl rfl ?_
      obtain rfl := someS h
      exact (canon0 ⟨rfl, rfl, rfl, trivial⟩ ⟨rfl, rfl, trivial⟩ rfl rfl)
    · skip
      refine wpp (gy rfl c2) rfl ?_
      refine wpp (gy rfl c2) rfl ?_
      refine wpp (gy rfl c2) rfl ?_
      refine wpp (gy rfl c2) rfl ?_
      refine wpp (gy rfl c2) rfl ?_
      refine wpp rfl (p_pick0 c2 rfl rfl) ?_
      refine wpp rfl rfl ?_
      rcases bifS h with ⟨c3, h⟩ | ⟨c3, h⟩
      · skip
        refine wsk (gn rfl c3) ?_
        refine wsk (gn rfl c3) ?_
        refine wsk (gn rfl c3) ?_
        refine wsk (gn rfl c3) ?_
        refine wsk (gn rfl c3) ?_
        refine wpp rfl (p_pick1 c3 rfl rfl) ?_
        refine wpp rfl rfl ?_
        refine wsk rfl ?_
        refine wsk rfl ?_
        refine wsk rfl ?_
        refine wsk rfl ?_
        refine wsk rfl ?_
        refine wpp rfl rfl ?_
        refine wpp rfl rfl ?_
        refine wsk rfl ?_
        refine wsk rfl ?_
        refine wsk rfl ?_
        refine wsk rfl ?_
        refine wsk rfl ?_
        refine wsk rfl ?_
        refine wsk rfl ?_
        refine wpp rfl rfl ?_
        obtain rfl := someS h
        exact (canon0 ⟨rfl, rfl, rfl, trivial⟩ ⟨rfl, rfl, trivial⟩ rfl rfl)
      · skip
        refine wpp (gy rfl c3) rfl ?_
        refine wpp (gy rfl c3) rfl ?_
        refine wpp (gy rfl c3) rfl ?_
        refine wpp (gy rfl c3) rfl ?_
        refine wpp (gy rfl c3) rfl ?_
        refine wpp rfl (p_pick0 c3 rfl rfl) ?_
        refine wpp rfl rfl ?_
        rcases bifS h with ⟨c4, h⟩ | ⟨c4, h⟩
        · skip
          refine wsk (gn rfl c4) ?_
          refine wsk (gn rfl c4) ?_
          refine wsk (gn rfl c4) ?_
          refine wsk (gn rfl c4) ?_
          refine wsk (gn rfl c4) ?_
          refine wpp rfl (p_pick1 c4 rfl rfl) ?_
          refine wpp rfl rfl ?_
          refine wsk rfl ?_
          refine wsk rfl ?_
          refine wsk rfl ?_
          refine wsk rfl ?_
          refine wsk rfl ?_
          refine wsk rfl ?_
          refine wsk rfl ?_
          refine wpp rfl rfl ?_
          obtain rfl := someS h
          exact (canon0 ⟨rfl, rfl, rfl, trivial⟩ ⟨rfl, rfl, trivial⟩ rfl rfl)
        · skip
          refine wpp (gy rfl c4) rfl ?_
          refine wpp (gy rfl c4) rfl ?_
          refine wpp (gy rfl c4) rfl ?_
          refine wpp (gy rfl c4) rfl ?_
          refine wpp (gy rfl c4) rfl ?_
          refine wpp rfl (p_pick0 c4 rfl rfl) ?_
          refine wpp rfl rfl ?_
          rcases bifS h with ⟨c5, h⟩ | ⟨c5, h⟩
          · skip
            refine wsk (gn rfl c5) ?_
            refine wsk (gn rfl c5) ?_
            refine wsk (gn rfl c5) ?_
            refine wsk (gn rfl c5) ?_
            refine wsk (gn rfl c5) ?_
            refine wsk (gn rfl c5) ?_
            refine wsk (gn rfl c5) ?_
            refine wpp rfl (p_pick1 c5 rfl rfl) ?_
            obtain rfl := someS h
            exact (canon0 ⟨rfl, rfl, rfl, trivial⟩ ⟨rfl, rfl, trivial⟩ rfl rfl)
          · skip
            refine wpp (gy rfl c5) rfl ?_
            refine wpp (gy rfl c5) rfl ?_
            refine wpp (gy rfl c5) (p_lens rfl) ?_
            refine wpp (gy rfl c5) rfl ?_
            refine wpp (gy rfl c5) rfl ?_
            refine wpp (gy rfl c5) (p_lens rfl) ?_
            refine wpp (gy rfl c5) rfl ?_
            refine wpp rfl (p_pick0 c5 rfl rfl) ?_
            obtain rfl := someS h
            exact (canon0 ⟨rfl, rfl, rfl, trivial⟩ ⟨rfl, rfl, trivial⟩ rfl rfl)
  · clear hg1
    rcases bifS h with ⟨c6, h⟩ | ⟨c6, h⟩
    · refine xcT rfl c6 ?_
      refine xseq ?_
      refine xreg ?_
      refine wpp rfl rfl ?_
      obtain rfl := someS h
      refine xret ?_
      exact ⟨nofun, rfl, rfl⟩
    · refine xcF rfl c6 ?_
      refine xskip ?_
      refine xseq ?_
      refine xseq ?_
      refine xreg ?_
      refine wpp rfl rfl ?_
      refine xblk ?_
      obtain ⟨y9, hy9, h⟩ := bindS h
      refine xloopU (st1 := ⟨ofL [(2, .ptr 2 0 0), (3, .ptr 3 0 0), (5, .int .i64 0)], ofL [(2, ⟨5, false, [e_api_Rule a0]⟩), (3, ⟨5, false, [e_api_Rule a1]⟩)]⟩) (canon0 ⟨rfl, rfl, rfl, trivial⟩ ⟨rfl, rfl, trivial⟩ rfl rfl) (w_prefectref17_SameRule_l14 N a0 a1 N _ _ hy9) ?_
      clear hy9
      rcases y9 with y9 | y9
      · rintro e s ⟨rfl, rfl⟩
        refine xseq ?_
        refine xreg ?_
        refine wpp rfl rfl ?_
        obtain rfl := someS h
        refine xret ?_
        exact ⟨nofun, rfl, rfl⟩
      · rintro e s ⟨rfl, rfl⟩
        obtain rfl := someS h
        exact ⟨nofun, rfl, rfl⟩
end Go.Gp
end
section
set_option linter.unusedVariables false
set_option linter.unusedSimpArgs false
set_option maxRecDepth 4000
namespace Go.Gp
open Go.Vd Go.RowKit Go.Proofs
def k7 : IC := (.seq (.reg [⟨(some 2), (.box 41 (.t 0)), none⟩, ⟨(some 4), (.mov (.c (.bool false))), none⟩]) (.seq (.seq (.reg [⟨(some 15), (.call 18 []), none⟩, ⟨(some 16), (.un .not (.t 15)), none⟩]) (.cond (.t 16) (.seq (.reg [⟨(some 4), (.mov (.c (.bool false))), none⟩]) .ret) .skip)) (.seq (.seq (.reg [⟨(some 17), (.load 5 true (.t 2)), none⟩, ⟨(some 18), (.call 19 [(.t 17)]), none⟩, ⟨(some 19), (.un .not (.t 18)), none⟩, ⟨(some 20), (.mov (.t 19)), none⟩, ⟨(some 21), (.load 5 true (.t 2)), (some (20, false))⟩, ⟨(some 22), (.call 24 [(.t 21)]), (some (20, false))⟩, ⟨(some 23), (.un .not (.t 22)), (some (20, false))⟩, ⟨(some 24), (.pick (.t 20) (.c (.bool true)) (.t 23)), none⟩]) (.cond (.t 24) (.seq (.reg [⟨(some 4), (.mov (.c (.bool true))), none⟩]) .ret) .skip)) (.seq (.reg [⟨(some 25), (.load 5 true (.t 2)), none⟩, ⟨(some 26), (.call 25 [(.t 25)]), none⟩, ⟨(some 5), (.mov (.t 26)), none⟩]) (.seq (.reg [⟨(some 28), (.mov (.t 5)), none⟩, ⟨(some 29), (.call 22 [(.t 28)]), none⟩, ⟨(some 27), (.mov (.t 29)), none⟩, ⟨(some 30), (.ext 0 (.t 27)), none⟩, ⟨(some 31), (.ext 1 (.t 27)), none⟩, ⟨(some 6), (.box 41 (.c (.agg [(.bool false), (.str []), (.bool false), (.str []), .nl]))), none⟩, ⟨none, (.store 5 (.t 6) (.t 30)), none⟩, ⟨(some 7), (.mov (.t 31)), none⟩]) (.seq (.seq (.reg [⟨(some 32), (.mov (.t 7)), none⟩, ⟨(some 33), (.bin .neq (.t 32) (.c (.int .i64 0))), none⟩, ⟨(some 34), (.mov (.t 33)), none⟩, ⟨(some 35), (.load 5 true (.t 6)), (some (34, false))⟩, ⟨(some 36), (.load 5 true (.t 2)), (some (34, false))⟩, ⟨(some 37), (.call 27 [(.t 35), (.t 36)]), (some (34, false))⟩, ⟨(some 38), (.un .not (.t 37)), (some (34, false))⟩, ⟨(some 39), (.pick (.t 34) (.c (.bool true)) (.t 38)), none⟩, ⟨(some 40), (.mov (.t 39)), none⟩, ⟨(some 41), (.mov (.t 5)), (some (40, false))⟩, ⟨(some 42), (.len true (.t 41)), (some (40, false))⟩, ⟨(some 43), (.bin .lss (.t 42) (.c (.int .i64 12))), (some (40, false))⟩, ⟨(some 44), (.pick (.t 40) (.c (.bool true)) (.t 43)), none⟩]) (.cond (.t 44) (.seq (.reg [⟨(some 4), (.mov (.c (.bool false))), none⟩]) .ret) .skip)) (.seq (.reg [⟨(some 45), (.mov (.t 1)), none⟩, ⟨(some 46), (.cvi .i64 (.t 45)), none⟩, ⟨(some 47), (.bin .rem (.t 46) (.c (.int .i64 6))), none⟩, ⟨(some 8), (.mov (.t 47)), none⟩]) (.seq (.regf 13 11 [[], [], [0, 1], [2], [], [], [4, 5], [3, 6], [7], [8], [9], [9], [], [12, 10, 8, 0, 1, 2, 3, 4, 5, 6, 7, 8, 9, 10, 12], [11, 13, 0, 1, 2, 3, 4, 5, 6, 7, 8, 9, 10, 11, 12, 13]] [⟨(some 49), (.mov (.t 5)), none⟩, ⟨(some 50), (.mov (.t 8)), none⟩, ⟨(some 51), (.slcs (.t 49) none (some (.t 50))), none⟩, ⟨(some 52), (.bin .add (.t 51) (.c (.str [32]))), none⟩, ⟨(some 53), (.mov (.t 5)), none⟩, ⟨(some 54), (.mov (.t 8)), none⟩, ⟨(some 55), (.slcs (.t 53) (some (.t 54)) none), none⟩, ⟨(some 56), (.bin .add (.t 52) (.t 55)), none⟩, ⟨(some 57), (.call 22 [(.t 56)]), none⟩, ⟨(some 48), (.mov (.t 57)), none⟩, ⟨(some 58), (.ext 0 (.t 48)), none⟩, ⟨(some 59), (.ext 1 (.t 48)), none⟩, ⟨(some 9), (.box 41 (.c (.agg [(.bool false), (.str []), (.bool false), (.str []), .nl]))), none⟩, ⟨none, (.store 5 (.t 9) (.t 58)), none⟩, ⟨(some 10), (.mov (.t 59)), none⟩]) (.seq (.reg [⟨(some 61), (.mov (.t 5)), none⟩, ⟨(some 62), (.slcs (.t 61) (some (.c (.int .i64 5))) none), none⟩, ⟨(some 63), (.call 22 [(.t 62)]), none⟩, ⟨(some 60), (.mov (.t 63)), none⟩, ⟨(some 64), (.ext 0 (.t 60)), none⟩, ⟨(some 65), (.ext 1 (.t 60)), none⟩, ⟨(some 11), (.box 41 (.c (.agg [(.bool false), (.str []), (.bool false), (.str []), .nl]))), none⟩, ⟨none, (.store 5 (.t 11) (.t 64)), none⟩, ⟨(some 12), (.mov (.t 65)), none⟩]) (.seq (.reg [⟨(some 67), (.call 22 [(.c (.str []))]), none⟩, ⟨(some 66), (.mov (.t 67)), none⟩, ⟨(some 68), (.ext 0 (.t 66)), none⟩, ⟨(some 69), (.ext 1 (.t 66)), none⟩, ⟨(some 13), (.box 41 (.c (.agg [(.bool false), (.str []), (.bool false), (.str []), .nl]))), none⟩, ⟨none, (.store 5 (.t 13) (.t 68)), none⟩, ⟨(some 14), (.mov (.t 69)), none⟩]) (.seq (.reg [⟨(some 70), (.mov (.t 10)), none⟩, ⟨(some 71), (.bin .eql (.t 70) (.c (.int .i64 20))), none⟩, ⟨(some 72), (.mov (.t 71)), none⟩, ⟨(some 73), (.mov (.t 12)), (some (72, true))⟩, ⟨(some 74), (.bin .eql (.t 73) (.c (.int .i64 20))), (some (72, true))⟩, ⟨(some 75), (.pick (.t 72) (.t 74) (.c (.bool false))), none⟩, ⟨(some 76), (.mov (.t 75)), none⟩, ⟨(some 77), (.mov (.t 14)), (some (76, true))⟩, ⟨(some 78), (.bin .eql (.t 77) (.c (.int .i64 20))), (some (76, true))⟩, ⟨(some 79), (.pick (.t 76) (.t 78) (.c (.bool false))), none⟩, ⟨(some 4), (.mov (.t 79)), none⟩]) .ret)))))))))))
theorem k7_cf : cfunc Tryd.prog Tryd.f7 = some ⟨80, k7, [(.tmp 4)]⟩ := by kernel_rfl
theorem sat_prefectlaw18_RuleBack (N : Nat) (a0 : api_Rule) (a1 : UInt8) (r : Bool) (h : prefectlaw18_RuleBack N a0 a1 = some r) : Sat Tryd.prog 7 noRows [e_api_Rule a0, eb a1] (.bool r) noRows := by
  refine xsat mixed Tryd.func7 k7_cf (rs := [.bool r]) rfl rfl ?_
  refine xseq ?_
  refine xreg ?_
  refine woo rfl (obox 2 rfl rfl rfl rfl rfl) ?_
  refine wpp rfl rfl ?_
  refine xseq ?_
  refine xseq ?_
  refine xreg ?_
  obtain ⟨x15, hx15, h⟩ := bindS h
  refine woo rfl (ocal (sat_prefectlaw18_known N _ hx15) rfl .nil rfl rfl rfl) ?_
  refine wpp rfl rfl ?_
  rcases bifS h with ⟨c1, h⟩ | ⟨c1, h⟩
  · refine xcT rfl c1 ?_
    refine xseq ?_
    refine xreg ?_
    refine wpp rfl rfl ?_
    obtain rfl := someS h
    refine xret ?_
    exact ⟨nofun, rfl, rfl⟩
  · refine xcF rfl c1 ?_
    refine xskip ?_
    refine xseq ?_
    obtain ⟨g2, hg2, h⟩ := bindS h
    refine xseg ⟨ofL [(1, eb a1), (2, .ptr 2 0 0), (24, .bool g2)], ofL [(2, ⟨5, false, [e_api_Rule a0]⟩)]⟩ ?_ ?_
    · have h := hg2
      refine xreg ?_
      refine wpp (p := e_api_Rule a0) rfl rfl ?_
      obtain ⟨x18, hx18, h⟩ := bindS h
      refine woo rfl (ocal (sat_prefectlaw18_fewRule N _ _ hx18) rfl (.cons sub_rfl .nil) rfl rfl rfl) ?_
      refine wpp rfl rfl ?_
      refine wpp rfl rfl ?_
      rcases bifS h with ⟨c3, h⟩ | ⟨c3, h⟩
      · skip
        refine wsk (gn rfl c3) ?_
        refine wsk (gn rfl c3) ?_
        refine wsk (gn rfl c3) ?_
        refine wpp rfl (p_pick1 c3 rfl rfl) ?_
        obtain rfl := someS h
        exact (canon0 ⟨rfl, rfl, rfl, trivial⟩ ⟨rfl, trivial⟩ rfl rfl)
      · skip
        refine wpp (p := e_api_Rule a0) (gy rfl c3) rfl ?_
        obtain ⟨x22, hx22, h⟩ := bindS h
        refine woo (gy rfl c3) (ocal (sat_aci_Is N _ _ hx22) rfl (.cons sub_rfl .nil) rfl rfl rfl) ?_
        refine wpp (gy rfl c3) rfl ?_
        refine wpp rfl (p_pick0 c3 rfl rfl) ?_
        obtain rfl := someS h
        exact (canon0 ⟨rfl, rfl, rfl, trivial⟩ ⟨rfl, trivial⟩ rfl rfl)
    · clear hg2
      rcases bifS h with ⟨c4, h⟩ | ⟨c4, h⟩
      · refine xcT rfl c4 ?_
        refine xseq ?_
        refine xreg ?_
        refine wpp rfl rfl ?_
        obtain rfl := someS h
        refine xret ?_
        exact ⟨nofun, rfl, rfl⟩
      · refine xcF rfl c4 ?_
        refine xskip ?_
        refine xseq ?_
        refine xreg ?_
        refine wpp (p := e_api_Rule a0) rfl rfl ?_
        obtain ⟨x26, hx26, h⟩ := bindS h
        refine woo rfl (ocal (sat_aci_Print N _ _ hx26) rfl (.cons sub_rfl .nil) rfl rfl rfl) ?_
        refine wpp rfl rfl ?_
        refine xseq ?_
        refine xreg ?_
        refine wpp rfl rfl ?_
        obtain ⟨x29, hx29, h⟩ := bindS h
        refine woo rfl (ocal (sat_aci_Parse N _ _ hx29) rfl (.cons sub_rfl .nil) rfl rfl rfl) ?_
        refine wpp rfl rfl ?_
        refine wpp rfl rfl ?_
        refine wpp rfl rfl ?_
        refine woo rfl (obox 6 rfl rfl rfl rfl rfl) ?_
        refine wstb (e' := e_api_Rule x29.1) rfl rfl rfl rfl rfl rfl rfl rfl nofun rfl ?_
        refine wpp rfl rfl ?_
        refine xseq ?_
        obtain ⟨g5, hg5, h⟩ := bindS h
        refine xseg ⟨ofL [(1, eb a1), (5, .str x26), (44, .bool g5)], ofL []⟩ ?_ ?_
        · have h := hg5
          refine xreg ?_
          refine wpp rfl rfl ?_
          refine wpp rfl rfl ?_
          refine wpp rfl rfl ?_
          rcases bifS h with ⟨c6, h⟩ | ⟨c6, h⟩
          · skip
            refine wsk (gn rfl c6) ?_
            refine wsk (gn rfl c6) ?_
            refine wsk (gn rfl c6) ?_
            refine wsk (gn rfl c6) ?_
            refine wpp rfl (p_pick1 c6 rfl rfl) ?_
            refine wpp rfl rfl ?_
            refine wsk rfl ?_
            refine wsk rfl ?_
            refine wsk rfl ?_
            refine wpp rfl rfl ?_
            obtain rfl := someS h
            exact (canon0 ⟨rfl, rfl, rfl, trivial⟩ trivial rfl rfl)
          · skip
            refine wpp (p := e_api_Rule x29.1) (gy rfl c6) rfl ?_
            refine wpp (p := e_api_Rule a0) (gy rfl c6) rfl ?_
            obtain ⟨x37, hx37, h⟩ := bindS h
            refine woo (gy rfl c6) (ocal (sat_prefectref17_SameRule N _ _ _ hx37) rfl (.cons sub_rfl (.cons sub_rfl .nil)) rfl rfl rfl) ?_
            refine wpp (gy rfl c6) rfl ?_
            refine wpp rfl (p_pick0 c6 rfl rfl) ?_
            refine wpp rfl rfl ?_
            rcases bifS h with ⟨c7, h⟩ | ⟨c7, h⟩
            · skip
              refine wsk (gn rfl c7) ?_
              refine wsk (gn rfl c7) ?_
              refine wsk (gn rfl c7) ?_
              refine wpp rfl (p_pick1 c7 rfl rfl) ?_
              obtain rfl := someS h
              exact (canon0 ⟨rfl, rfl, rfl, trivial⟩ trivial rfl rfl)
            · skip
              refine wpp (gy rfl c7) rfl ?_
              refine wpp (gy rfl c7) rfl ?_
              refine wpp (gy rfl c7) rfl ?_
              refine wpp rfl (p_pick0 c7 rfl rfl) ?_
              obtain rfl := someS h
              exact (canon0 ⟨rfl, rfl, rfl, trivial⟩ trivial rfl rfl)
        · clear hg5
          rcases bifS h with ⟨c8, h⟩ | ⟨c8, h⟩
          · refine xcT rfl c8 ?_
            refine xseq ?_
            refine xreg ?_
            refine wpp rfl rfl ?_
            obtain rfl := someS h
            refine xret ?_
            exact ⟨nofun, rfl, rfl⟩
          · refine xcF rfl c8 ?_
            refine xskip ?_
            refine xseq ?_
            refine xreg ?_
            refine wpp rfl rfl ?_
            refine wpp rfl (p_u8cv (a := a1) rfl) ?_
            refine wpp rfl (p_rem (b := 6) (u := ()) rfl rfl rfl) ?_
            refine wpp rfl rfl ?_
            refine xseq ?_
            obtain ⟨x51, hx51, h⟩ := bindS h
            obtain ⟨x52, hx52, h⟩ := bindS h
            obtain ⟨x55, hx55, h⟩ := bindS h
            obtain ⟨x56, hx56, h⟩ := bindS h
            obtain ⟨x57, hx57, h⟩ := bindS h
            refine xregf ⟨ofL [(5, .str x26), (10, .int .i64 x57.2)], ofL []⟩ 2 [0, 1, 2, 3, 4, 5, 6, 7, 8, 9, 10, 11, 12] [0, 1, 2, 3, 4, 5, 6, 7, 8, 9, 10, 12] rfl rfl rfl ?_ ?_
            · skip
              refine wdp rfl rfl ?_
              refine wdp rfl rfl ?_
              refine wdp rfl (p_take hx51 rfl rfl) ?_
              refine wdp rfl (p_cat hx52 rfl rfl) ?_
              refine wdp rfl rfl ?_
              refine wdp rfl rfl ?_
              refine wdp rfl (p_drop hx55 rfl rfl) ?_
              refine wdp rfl (p_cat hx56 rfl rfl) ?_
              refine wdN rfl (pcal (sat_aci_Parse N _ _ hx57) rfl (.cons sub_rfl .nil) rfl rfl rfl) no_fresh ?_
              refine wdp rfl rfl ?_
              refine wdp rfl rfl ?_
              refine wdp rfl rfl ?_
              refine wdN rfl (.box _ 9 rfl (Nat.le_of_ble_eq_true rfl) (by decide) rfl) (fresh1 rfl) ?_
              refine ⟨?_, ?_⟩
              · skip
                refine yc (l := [13]) rfl nofun ⟨⟨_, rfl, ?_⟩, trivial⟩
                refine wstb (e' := e_api_Rule x57.1) rfl rfl rfl rfl rfl rfl rfl rfl nofun rfl ?_
                refine wnil ?_
                refine yc (l := [14]) rfl nofun ⟨⟨_, rfl, ?_⟩, trivial⟩
                refine wpp rfl rfl ?_
                refine wnil ?_
                exact yend rfl (canon0 ⟨rfl, rfl, trivial⟩ trivial rfl rfl)
              · skip
                refine yc (l := [11, 13]) rfl nofun ⟨⟨_, rfl, ?_⟩, ⟨_, rfl, ?_⟩, trivial⟩
                · skip
                  refine wpp rfl rfl ?_
                  refine wnil ?_
                  refine yc (l := [13]) rfl nofun ⟨⟨_, rfl, ?_⟩, trivial⟩
                  refine wstb (e' := e_api_Rule x57.1) rfl rfl rfl rfl rfl rfl rfl rfl nofun rfl ?_
                  refine wnil ?_
                  refine yc (l := [14]) rfl nofun ⟨⟨_, rfl, ?_⟩, trivial⟩
                  refine wpp rfl rfl ?_
                  refine wnil ?_
                  exact yend rfl (canon0 ⟨rfl, rfl, trivial⟩ trivial rfl rfl)
                · skip
                  refine wstb (e' := e_api_Rule x57.1) rfl rfl rfl rfl rfl rfl rfl rfl nofun rfl ?_
                  refine wnil ?_
                  refine yc (l := [11]) rfl nofun ⟨⟨_, rfl, ?_⟩, trivial⟩
                  refine wpp rfl rfl ?_
                  refine wnil ?_
                  refine yc (l := [14]) rfl nofun ⟨⟨_, rfl, ?_⟩, trivial⟩
                  refine wpp rfl rfl ?_
                  refine wnil ?_
                  exact yend rfl (canon0 ⟨rfl, rfl, trivial⟩ trivial rfl rfl)
            · skip
              refine xseq ?_
              refine xreg ?_
              refine wpp rfl rfl ?_
              obtain ⟨x62, hx62, h⟩ := bindS h
              refine wpp rfl (p_drop hx62 rfl rfl) ?_
              obtain ⟨x63, hx63, h⟩ := bindS h
              refine woo rfl (ocal (sat_aci_Parse N _ _ hx63) rfl (.cons sub_rfl .nil) rfl rfl rfl) ?_
              refine wpp rfl rfl ?_
              refine wpp rfl rfl ?_
              refine wpp rfl rfl ?_
              refine woo rfl (obox 11 rfl rfl rfl rfl rfl) ?_
              refine wstb (e' := e_api_Rule x63.1) rfl rfl rfl rfl rfl rfl rfl rfl nofun rfl ?_
              refine wpp rfl rfl ?_
              refine xseq ?_
              refine xreg ?_
              obtain ⟨x67, hx67, h⟩ := bindS h
              refine woo rfl (ocal (sat_aci_Parse N _ _ hx67) rfl (.cons sub_rfl .nil) rfl rfl rfl) ?_
              refine wpp rfl rfl ?_
              refine wpp rfl rfl ?_
              refine wpp rfl rfl ?_
              refine woo rfl (obox 13 rfl rfl rfl rfl rfl) ?_
              refine wstb (e' := e_api_Rule x67.1) rfl rfl rfl rfl rfl rfl rfl rfl nofun rfl ?_
              refine wpp rfl rfl ?_
              obtain ⟨g9, hg9, h⟩ := bindS h
              refine xseg ⟨ofL [(4, .bool g9)], ofL []⟩ ?_ ?_
              · have h := hg9
                refine xreg ?_
                refine wpp rfl rfl ?_
                refine wpp rfl rfl ?_
                refine wpp rfl rfl ?_
                rcases bifS h with ⟨c10, h⟩ | ⟨c10, h⟩
                · skip
                  refine wpp (gy rfl c10) rfl ?_
                  refine wpp (gy rfl c10) rfl ?_
                  refine wpp rfl (p_pick1 c10 rfl rfl) ?_
                  refine wpp rfl rfl ?_
                  rcases bifS h with ⟨c11, h⟩ | ⟨c11, h⟩
                  · skip
                    refine wpp (gy rfl c11) rfl ?_
                    refine wpp (gy rfl c11) rfl ?_
                    refine wpp rfl (p_pick1 c11 rfl rfl) ?_
                    refine wpp rfl rfl ?_
                    obtain rfl := someS h
                    exact (canon0 ⟨rfl, trivial⟩ trivial rfl rfl)
                  · skip
                    refine wsk (gn rfl c11) ?_
                    refine wsk (gn rfl c11) ?_
                    refine wpp rfl (p_pick0 c11 rfl rfl) ?_
                    refine wpp rfl rfl ?_
                    obtain rfl := someS h
                    exact (canon0 ⟨rfl, trivial⟩ trivial rfl rfl)
                · skip
                  refine wsk (gn rfl c10) ?_
                  refine wsk (gn rfl c10) ?_
                  refine wpp rfl (p_pick0 c10 rfl rfl) ?_
                  refine wpp rfl rfl ?_
                  refine wsk rfl ?_
                  refine wsk rfl ?_
                  refine wpp rfl rfl ?_
                  refine wpp rfl rfl ?_
                  obtain rfl := someS h
                  exact (canon0 ⟨rfl, trivial⟩ trivial rfl rfl)
              · clear hg9
                obtain rfl := someS h
                refine xret ?_
                exact ⟨nofun, rfl, rfl⟩
end Go.Gp
end
