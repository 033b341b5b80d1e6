/- A part of the proof: functions of the program and what they compute. -/
import Derived.Test.YtbndinjjpafmjaaDoorA5
import Derived.Test.YtbndinjjpafmjaaDoorA10
section
set_option linter.unusedVariables false
set_option linter.unusedSimpArgs false
set_option maxRecDepth 4000
set_option maxHeartbeats 4000000
namespace Go.Gp
open Go.Vd Go.RowKit Go.Proofs
def k18 : IC := (.seq (.reg [⟨(some 0), (.mov (.c (.bool false))), none⟩]) (.seq (.reg [⟨(some 6), (.call 22 [(.c (.str [103, 114, 97, 110, 116, 32, 114, 115, 32, 115, 117, 98, 32, 99, 110, 44, 115, 110, 32, 100, 110, 58, 99, 110, 61, 97, 32, 98]))]), none⟩, ⟨(some 5), (.mov (.t 6)), none⟩, ⟨(some 7), (.ext 0 (.t 5)), none⟩, ⟨(some 8), (.ext 1 (.t 5)), none⟩, ⟨(some 1), (.box 41 (.c (.agg [(.bool false), (.str []), (.bool false), (.str []), .nl]))), none⟩, ⟨none, (.store 5 (.t 1) (.t 7)), none⟩, ⟨(some 2), (.mov (.t 8)), none⟩]) (.seq (.reg [⟨(some 10), (.call 22 [(.c (.str [103, 114, 97, 110, 116, 32, 115, 114, 32, 115, 117, 98, 32, 42, 32, 97, 110, 121]))]), none⟩, ⟨(some 9), (.mov (.t 10)), none⟩, ⟨(some 11), (.ext 0 (.t 9)), none⟩, ⟨(some 12), (.ext 1 (.t 9)), none⟩, ⟨(some 3), (.box 41 (.c (.agg [(.bool false), (.str []), (.bool false), (.str []), .nl]))), none⟩, ⟨none, (.store 5 (.t 3) (.t 11)), none⟩, ⟨(some 4), (.mov (.t 12)), none⟩]) (.seq (.reg [⟨(some 13), (.mov (.t 2)), none⟩, ⟨(some 14), (.bin .eql (.t 13) (.c (.int .i64 0))), none⟩, ⟨(some 15), (.mov (.t 14)), none⟩, ⟨(some 16), (.fda 0 (.t 1)), (some (15, true))⟩, ⟨(some 17), (.load 1 false (.t 16)), (some (15, true))⟩, ⟨(some 18), (.un .not (.t 17)), (some (15, true))⟩, ⟨(some 19), (.pick (.t 15) (.t 18) (.c (.bool false))), none⟩, ⟨(some 20), (.mov (.t 19)), none⟩, ⟨(some 21), (.fda 1 (.t 1)), (some (20, true))⟩, ⟨(some 22), (.load 1 false (.t 21)), (some (20, true))⟩, ⟨(some 23), (.bin .eql (.t 22) (.c (.str [114, 115]))), (some (20, true))⟩, ⟨(some 24), (.pick (.t 20) (.t 23) (.c (.bool false))), none⟩, ⟨(some 25), (.mov (.t 24)), none⟩, ⟨(some 26), (.fda 2 (.t 1)), (some (25, true))⟩, ⟨(some 27), (.load 1 false (.t 26)), (some (25, true))⟩, ⟨(some 28), (.pick (.t 25) (.t 27) (.c (.bool false))), none⟩, ⟨(some 29), (.mov (.t 28)), none⟩, ⟨(some 30), (.fda 4 (.t 1)), (some (29, true))⟩, ⟨(some 31), (.load 1 false (.t 30)), (some (29, true))⟩, ⟨(some 32), (.len false (.t 31)), (some (29, true))⟩, ⟨(some 33), (.bin .eql (.t 32) (.c (.int .i64 2))), (some (29, true))⟩, ⟨(some 34), (.pick (.t 29) (.t 33) (.c (.bool false))), none⟩, ⟨(some 35), (.mov (.t 34)), none⟩, ⟨(some 36), (.fda 3 (.t 1)), (some (35, true))⟩, ⟨(some 37), (.load 1 false (.t 36)), (some (35, true))⟩, ⟨(some 38), (.bin .eql (.t 37) (.c (.str [100, 110, 58, 99, 110, 61, 97, 32, 98]))), (some (35, true))⟩, ⟨(some 39), (.pick (.t 35) (.t 38) (.c (.bool false))), none⟩, ⟨(some 40), (.mov (.t 39)), none⟩, ⟨(some 41), (.mov (.t 4)), (some (40, true))⟩, ⟨(some 42), (.bin .eql (.t 41) (.c (.int .i64 20))), (some (40, true))⟩, ⟨(some 43), (.pick (.t 40) (.t 42) (.c (.bool false))), none⟩, ⟨(some 44), (.mov (.t 43)), none⟩, ⟨(some 45), (.load 5 true (.t 1)), (some (44, true))⟩, ⟨(some 46), (.call 25 [(.t 45)]), (some (44, true))⟩, ⟨(some 47), (.bin .eql (.t 46) (.c (.str [103, 114, 97, 110, 116, 32, 114, 115, 32, 115, 117, 98, 32, 99, 110, 44, 115, 110, 32, 100, 110, 58, 99, 110, 61, 97, 32, 98]))), (some (44, true))⟩, ⟨(some 48), (.pick (.t 44) (.t 47) (.c (.bool false))), none⟩, ⟨(some 49), (.mov (.t 48)), none⟩, ⟨(some 50), (.load 5 true (.t 1)), (some (49, true))⟩, ⟨(some 51), (.call 24 [(.t 50)]), (some (49, true))⟩, ⟨(some 52), (.pick (.t 49) (.t 51) (.c (.bool false))), none⟩, ⟨(some 53), (.mov (.t 52)), none⟩, ⟨(some 54), (.build [(.bool false), (.str []), (.bool false), (.str []), .nl] []), (some (53, true))⟩, ⟨(some 55), (.call 24 [(.t 54)]), (some (53, true))⟩, ⟨(some 56), (.un .not (.t 55)), (some (53, true))⟩, ⟨(some 57), (.pick (.t 53) (.t 56) (.c (.bool false))), none⟩, ⟨(some 58), (.mov (.t 57)), none⟩, ⟨(some 59), (.load 5 true (.t 1)), (some (58, true))⟩, ⟨(some 60), (.load 5 true (.t 1)), (some (58, true))⟩, ⟨(some 61), (.call 26 [(.t 59), (.t 60)]), (some (58, true))⟩, ⟨(some 62), (.pick (.t 58) (.t 61) (.c (.bool false))), none⟩, ⟨(some 0), (.mov (.t 62)), none⟩]) .ret))))
theorem k18_cf : cfunc Tryd.prog Tryd.f18 = some ⟨63, k18, [(.tmp 0)]⟩ := by kernel_rfl
theorem sat_prefectlaw18_known (N : Nat)  (r : Bool) (h : prefectlaw18_known N  = some r) : Sat Tryd.prog 18 noRows [] (.bool r) noRows := by
  refine xsat mixed Tryd.func18 k18_cf (rs := [.bool r]) rfl rfl ?_
  refine xseq ?_
  refine xreg ?_
  refine wpp rfl rfl ?_
  refine xseq ?_
  refine xreg ?_
  obtain ⟨x6, hx6, h⟩ := bindS h
  refine woo rfl (ocal (sat_aci_Parse N _ _ hx6) rfl (.cons sub_rfl .nil) rfl rfl rfl) ?_
  refine wpp rfl rfl ?_
  refine wpp rfl rfl ?_
  refine wpp rfl rfl ?_
  refine woo rfl (obox 1 rfl rfl rfl rfl rfl) ?_
  refine wstb (e' := e_api_Rule x6.1) rfl rfl rfl rfl rfl rfl rfl rfl nofun rfl ?_
  refine wpp rfl rfl ?_
  refine xseq ?_
  refine xreg ?_
  obtain ⟨x10, hx10, h⟩ := bindS h
  refine woo rfl (ocal (sat_aci_Parse N _ _ hx10) rfl (.cons sub_rfl .nil) rfl rfl rfl) ?_
  refine wpp rfl rfl ?_
  refine wpp rfl rfl ?_
  refine wpp rfl rfl ?_
  refine woo rfl (obox 3 rfl rfl rfl rfl rfl) ?_
  refine wstb (e' := e_api_Rule x10.1) rfl rfl rfl rfl rfl rfl rfl rfl nofun rfl ?_
  refine wpp rfl rfl ?_
  obtain ⟨g1, hg1, h⟩ := bindS h
  refine xseg ⟨ofL [(0, .bool g1)], ofL []⟩ ?_ ?_
  · have h := hg1
    refine xreg ?_
    refine wpp rfl rfl ?_
    refine wpp rfl rfl ?_
    refine wpp rfl rfl ?_
    rcases bifS h with ⟨c2, h⟩ | ⟨c2, h⟩
    · skip
      refine wpp (gy rfl c2) rfl ?_
      refine wpp (gy rfl c2) rfl ?_
      refine wpp (gy rfl c2) rfl ?_
      refine wpp rfl (p_pick1 c2 rfl rfl) ?_
      refine wpp rfl rfl ?_
      rcases bifS h with ⟨c3, h⟩ | ⟨c3, h⟩
      · skip
        refine wpp (gy rfl c3) rfl ?_
        refine wpp (gy rfl c3) rfl ?_
        refine wpp (gy rfl c3) rfl ?_
        refine wpp rfl (p_pick1 c3 rfl rfl) ?_
        refine wpp rfl rfl ?_
        rcases bifS h with ⟨c4, h⟩ | ⟨c4, h⟩
        · skip
          refine wpp (gy rfl c4) rfl ?_
          refine wpp (gy rfl c4) rfl ?_
          refine wpp rfl (p_pick1 c4 rfl rfl) ?_
          refine wpp rfl rfl ?_
          rcases bifS h with ⟨c5, h⟩ | ⟨c5, h⟩
          · skip
            refine wpp (gy rfl c5) rfl ?_
            refine wpp (gy rfl c5) rfl ?_
            refine wpp (gy rfl c5) (p_lens rfl) ?_
            refine wpp (gy rfl c5) rfl ?_
            refine wpp rfl (p_pick1 c5 rfl rfl) ?_
            refine wpp rfl rfl ?_
            rcases bifS h with ⟨c6, h⟩ | ⟨c6, h⟩
            · skip
              refine wpp (gy rfl c6) rfl ?_
              refine wpp (gy rfl c6) rfl ?_
              refine wpp (gy rfl c6) rfl ?_
              refine wpp rfl (p_pick1 c6 rfl rfl) ?_
              refine wpp rfl rfl ?_
              rcases bifS h with ⟨c7, h⟩ | ⟨c7, h⟩
              · skip
                refine wpp (gy rfl c7) rfl ?_
                refine wpp (gy rfl c7) rfl ?_
                refine wpp rfl (p_pick1 c7 rfl rfl) ?_
                refine wpp rfl rfl ?_
                rcases bifS h with ⟨c8, h⟩ | ⟨c8, h⟩
                · skip
                  refine wpp (p := e_api_Rule x6.1) (gy rfl c8) rfl ?_
                  obtain ⟨x46, hx46, h⟩ := bindS h
                  refine woo (gy rfl c8) (ocal (sat_aci_Print N _ _ hx46) rfl (.cons sub_rfl .nil) rfl rfl rfl) ?_
                  refine wpp (gy rfl c8) rfl ?_
                  refine wpp rfl (p_pick1 c8 rfl rfl) ?_
                  refine wpp rfl rfl ?_
                  rcases bifS h with ⟨c9, h⟩ | ⟨c9, h⟩
                  · skip
                    refine wpp (p := e_api_Rule x6.1) (gy rfl c9) rfl ?_
                    obtain ⟨x51, hx51, h⟩ := bindS h
                    refine woo (gy rfl c9) (ocal (sat_aci_Is N _ _ hx51) rfl (.cons sub_rfl .nil) rfl rfl rfl) ?_
                    refine wpp rfl (p_pick1 c9 rfl rfl) ?_
                    refine wpp rfl rfl ?_
                    rcases bifS h with ⟨c10, h⟩ | ⟨c10, h⟩
                    · skip
                      refine wpp (p := .agg [.bool false, .str ([] : List UInt8), .bool false, .str ([] : List UInt8), .nl]) (gy rfl c10) rfl ?_
                      refine wnK (nsub 54 (sub_agg (.cons sub_rfl (.cons sub_rfl (.cons sub_rfl (.cons sub_rfl (.cons (sub_nl 1) .nil))))) rfl) rfl) ?_
                      obtain ⟨x55, hx55, h⟩ := bindS h
                      refine woo (gy rfl c10) (ocal (sat_aci_Is N _ _ hx55) rfl (.cons sub_rfl .nil) rfl rfl rfl) ?_
                      refine wpp (gy rfl c10) rfl ?_
                      refine wpp rfl (p_pick1 c10 rfl rfl) ?_
                      refine wpp rfl rfl ?_
                      rcases bifS h with ⟨c11, h⟩ | ⟨c11, h⟩
                      · skip
                        refine wpp (p := e_api_Rule x6.1) (gy rfl c11) rfl ?_
                        refine wpp (p := e_api_Rule x6.1) (gy rfl c11) rfl ?_
                        obtain ⟨x61, hx61, h⟩ := bindS h
                        refine woo (gy rfl c11) (ocal (sat_aci_Same N _ _ _ hx61) rfl (.cons sub_rfl (.cons sub_rfl .nil)) rfl rfl rfl) ?_
                        refine wpp rfl (p_pick1 c11 rfl rfl) ?_
                        refine wpp rfl rfl ?_
                        obtain rfl := someS h
                        exact (canon0 ⟨rfl, trivial⟩ trivial rfl rfl)
                      · skip
                        refine wsk (gn rfl c11) ?_
                        refine wsk (gn rfl c11) ?_
                        refine wsk (gn rfl c11) ?_
                        refine wpp rfl (p_pick0 c11 rfl rfl) ?_
                        refine wpp rfl rfl ?_
                        obtain rfl := someS h
                        exact (canon0 ⟨rfl, trivial⟩ trivial rfl rfl)
                    · skip
                      refine wsk (gn rfl c10) ?_
                      refine wsk (gn rfl c10) ?_
                      refine wsk (gn rfl c10) ?_
                      refine wpp rfl (p_pick0 c10 rfl rfl) ?_
                      refine wpp rfl rfl ?_
                      refine wsk rfl ?_
                      refine wsk rfl ?_
                      refine wsk rfl ?_
                      refine wpp rfl rfl ?_
                      refine wpp rfl rfl ?_
                      obtain rfl := someS h
                      exact (canon0 ⟨rfl, trivial⟩ trivial rfl rfl)
                  · skip
                    refine wsk (gn rfl c9) ?_
                    refine wsk (gn rfl c9) ?_
                    refine wpp rfl (p_pick0 c9 rfl rfl) ?_
                    refine wpp rfl rfl ?_
                    refine wsk rfl ?_
                    refine wsk rfl ?_
                    refine wsk rfl ?_
                    refine wpp rfl rfl ?_
                    refine wpp rfl rfl ?_
                    refine wsk rfl ?_
                    refine wsk rfl ?_
                    refine wsk rfl ?_
                    refine wpp rfl rfl ?_
                    refine wpp rfl rfl ?_
                    obtain rfl := someS h
                    exact (canon0 ⟨rfl, trivial⟩ trivial rfl rfl)
                · skip
                  refine wsk (gn rfl c8) ?_
                  refine wsk (gn rfl c8) ?_
                  refine wsk (gn rfl c8) ?_
                  refine wpp rfl (p_pick0 c8 rfl rfl) ?_
                  refine wpp rfl rfl ?_
                  refine wsk rfl ?_
                  refine wsk rfl ?_
                  refine wpp rfl rfl ?_
                  refine wpp rfl rfl ?_
                  refine wsk rfl ?_
                  refine wsk rfl ?_
                  refine wsk rfl ?_
                  refine wpp rfl rfl ?_
                  refine wpp rfl rfl ?_
                  refine wsk rfl ?_
                  refine wsk rfl ?_
                  refine wsk rfl ?_
                  refine wpp rfl rfl ?_
                  refine wpp rfl rfl ?_
                  obtain rfl := someS h
                  exact (canon0 ⟨rfl, trivial⟩ trivial rfl rfl)
              · skip
                refine wsk (gn rfl c7) ?_
                refine wsk (gn rfl c7) ?_
                refine wpp rfl (p_pick0 c7 rfl rfl) ?_
                refine wpp rfl rfl ?_
                refine wsk rfl ?_
                refine wsk rfl ?_
                refine wsk rfl ?_
                refine wpp rfl rfl ?_
                refine wpp rfl rfl ?_
                refine wsk rfl ?_
                refine wsk rfl ?_
                refine wpp rfl rfl ?_
                refine wpp rfl rfl ?_
                refine wsk rfl ?_
                refine wsk rfl ?_
                refine wsk rfl ?_
                refine wpp rfl rfl ?_
                refine wpp rfl rfl ?_
                refine wsk rfl ?_
                refine wsk rfl ?_
                refine wsk rfl ?_
                refine wpp rfl rfl ?_
                refine wpp rfl rfl ?_
                obtain rfl := someS h
                exact (canon0 ⟨rfl, trivial⟩ trivial rfl rfl)
            · skip
              refine wsk (gn rfl c6) ?_
              refine wsk (gn rfl c6) ?_
              refine wsk (gn rfl c6) ?_
              refine wpp rfl (p_pick0 c6 rfl rfl) ?_
              refine wpp rfl rfl ?_
              refine wsk rfl ?_
              refine wsk rfl ?_
              refine wpp rfl rfl ?_
              refine wpp rfl rfl ?_
              refine wsk rfl ?_
              refine wsk rfl ?_
              refine wsk rfl ?_
              refine wpp rfl rfl ?_
              refine wpp rfl rfl ?_
              refine wsk rfl ?_
              refine wsk rfl ?_
              refine wpp rfl rfl ?_
              refine wpp rfl rfl ?_
              refine wsk rfl ?_
              refine wsk rfl ?_
              refine wsk rfl ?_
              refine wpp rfl rfl ?_
              refine wpp rfl rfl ?_
              refine wsk rfl ?_
              refine wsk rfl ?_
              refine wsk rfl ?_
              refine wpp rfl rfl ?_
              refine wpp rfl rfl ?_
              obtain rfl := someS h
              exact (canon0 ⟨rfl, trivial⟩ trivial rfl rfl)
          · skip
            refine wsk (gn rfl c5) ?_
            refine wsk (gn rfl c5) ?_
            refine wsk (gn rfl c5) ?_
            refine wsk (gn rfl c5) ?_
            refine wpp rfl (p_pick0 c5 rfl rfl) ?_
            refine wpp rfl rfl ?_
            refine wsk rfl ?_
            refine wsk rfl ?_
            refine wsk rfl ?_
            refine wpp rfl rfl ?_
            refine wpp rfl rfl ?_
            refine wsk rfl ?_
            refine wsk rfl ?_
            refine wpp rfl rfl ?_
            refine wpp rfl rfl ?_
            refine wsk rfl ?_
            refine wsk rfl ?_
            refine wsk rfl ?_
            refine wpp rfl rfl ?_
            refine wpp rfl rfl ?_
            refine wsk rfl ?_
            refine wsk rfl ?_
            refine wpp rfl rfl ?_
            refine wpp rfl rfl ?_
            refine wsk rfl ?_
            refine wsk rfl ?_
            refine wsk rfl ?_
            refine wpp rfl rfl ?_
            refine wpp rfl rfl ?_
            refine wsk rfl ?_
            refine wsk rfl ?_
            refine wsk rfl ?_
            refine wpp rfl rfl ?_
            refine wpp rfl rfl ?_
            obtain rfl := someS h
            exact (canon0 ⟨rfl, trivial⟩ trivial rfl rfl)
        · skip
          refine wsk (gn rfl c4) ?_
          refine wsk (gn rfl c4) ?_
          refine wpp rfl (p_pick0 c4 rfl rfl) ?_
          refine wpp rfl rfl ?_
          refine wsk rfl ?_
          refine wsk rfl ?_
          refine wsk rfl ?_
          refine wsk rfl ?_
          refine wpp rfl rfl ?_
          refine wpp rfl rfl ?_
          refine wsk rfl ?_
          refine wsk rfl ?_
          refine wsk rfl ?_
          refine wpp rfl rfl ?_
          refine wpp rfl rfl ?_
          refine wsk rfl ?_
          refine wsk rfl ?_
          refine wpp rfl rfl ?_
          refine wpp rfl rfl ?_
          refine wsk rfl ?_
          refine wsk rfl ?_
          refine wsk rfl ?_
          refine wpp rfl rfl ?_
          refine wpp rfl rfl ?_
          refine wsk rfl ?_
          refine wsk rfl ?_
          refine wpp rfl rfl ?_
          refine wpp rfl rfl ?_
          refine wsk rfl ?_
          refine wsk rfl ?_
          refine wsk rfl ?_
          refine wpp rfl rfl ?_
          refine wpp rfl rfl ?_
          refine wsk rfl ?_
          refine wsk rfl ?_
          refine wsk rfl ?_
          refine wpp rfl rfl ?_
          refine wpp rfl rfl ?_
          obtain rfl := someS h
          exact (canon0 ⟨rfl, trivial⟩ trivial rfl rfl)
      · skip
        refine wsk (gn rfl c3) ?_
        refine wsk (gn rfl c3) ?_
        refine wsk (gn rfl c3) ?_
        refine wpp rfl (p_pick0 c3 rfl rfl) ?_
        refine wpp rfl rfl ?_
        refine wsk rfl ?_
        refine wsk rfl ?_
        refine wpp rfl rfl ?_
        refine wpp rfl rfl ?_
        refine wsk rfl ?_
        refine wsk rfl ?_
        refine wsk rfl ?_
        refine wsk rfl ?_
        refine wpp rfl rfl ?_
        refine wpp rfl rfl ?_
        refine wsk rfl ?_
        refine wsk rfl ?_
        refine wsk rfl ?_
        refine wpp rfl rfl ?_
        refine wpp rfl rfl ?_
        refine wsk rfl ?_
        refine wsk rfl ?_
        refine wpp rfl rfl ?_
        refine wpp rfl rfl ?_
        refine wsk rfl ?_
        refine wsk rfl ?_
        refine wsk rfl ?_
        refine wpp rfl rfl ?_
        refine wpp rfl rfl ?_
        refine wsk rfl ?_
        refine wsk rfl ?_
        refine wpp rfl rfl ?_
        refine wpp rfl rfl ?_
        refine wsk rfl ?_
        refine wsk rfl ?_
        refine wsk rfl ?_
        refine wpp rfl rfl ?_
        refine wpp rfl rfl ?_
        refine wsk rfl ?_
        refine wsk rfl ?_
        refine wsk rfl ?_
        refine wpp rfl rfl ?_
        refine wpp rfl rfl ?_
        obtain rfl := someS h
        exact (canon0 ⟨rfl, trivial⟩ trivial rfl rfl)
    · skip
      refine wsk (gn rfl c2) ?_
      refine wsk (gn rfl c2) ?_
      refine wsk (gn rfl c2) ?_
      refine wpp rfl (p_pick0 c2 rfl rfl) ?_
      refine wpp rfl rfl ?_
      refine wsk rfl ?_
      refine wsk rfl ?_
      refine wsk rfl ?_
      refine wpp rfl rfl ?_
      refine wpp rfl rfl ?_
      refine wsk rfl ?_
      refine wsk rfl ?_
      refine wpp rfl rfl ?_
      refine wpp rfl rfl ?_
      refine wsk rfl ?_
      refine wsk rfl ?_
      refine wsk rfl ?_
      refine wsk rfl ?_
      refine wpp rfl rfl ?_
      refine wpp rfl rfl ?_
      refine wsk rfl ?_
      refine wsk rfl ?_
      refine wsk rfl ?_
      refine wpp rfl rfl ?_
      refine wpp rfl rfl ?_
      refine wsk rfl ?_
      refine wsk rfl ?_
      refine wpp rfl rfl ?_
      refine wpp rfl rfl ?_
      refine wsk rfl ?_
      refine wsk rfl ?_
      refine wsk rfl ?_
      refine wpp rfl rfl ?_
      refine wpp rfl rfl ?_
      refine wsk rfl ?_
      refine wsk rfl ?_
      refine wpp rfl rfl ?_
      refine wpp rfl rfl ?_
      refine wsk rfl ?_
      refine wsk rfl ?_
      refine wsk rfl ?_
      refine wpp rfl rfl ?_
      refine wpp rfl rfl ?_
      refine wsk rfl ?_
      refine wsk rfl ?_
      refine wsk rfl ?_
      refine wpp rfl rfl ?_
      refine wpp rfl rfl ?_
      obtain rfl := someS h
      exact (canon0 ⟨rfl, trivial⟩ trivial rfl rfl)
  · clear hg1
    obtain rfl := someS h
    refine xret ?_
    exact ⟨nofun, rfl, rfl⟩
end Go.Gp
end
section
set_option linter.unusedVariables false
set_option linter.unusedSimpArgs false
set_option maxRecDepth 4000
namespace Go.Gp
open Go.Vd Go.RowKit Go.Proofs
def k19_l6 : IC := (.seq (.seq (.reg [⟨(some 4), (.mov (.t 3)), none⟩, ⟨(some 5), (.fda 4 (.t 1)), none⟩, ⟨(some 6), (.load 1 false (.t 5)), none⟩, ⟨(some 7), (.len false (.t 6)), none⟩, ⟨(some 8), (.bin .lss (.t 4) (.t 7)), none⟩]) (.cond (.t 8) .skip (.exit 0))) (.seq (.block 1 (.seq (.reg [⟨(some 11), (.fda 4 (.t 1)), none⟩, ⟨(some 12), (.load 1 false (.t 11)), none⟩, ⟨(some 13), (.mov (.t 3)), none⟩, ⟨(some 14), (.ixp 1 (.t 12) (.t 13)), none⟩, ⟨(some 15), (.load 1 false (.t 14)), none⟩, ⟨(some 16), (.len true (.t 15)), none⟩, ⟨(some 17), (.bin .gtr (.t 16) (.c (.int .i64 30))), none⟩]) (.cond (.t 17) (.seq (.reg [⟨(some 2), (.mov (.c (.bool false))), none⟩]) .ret) .skip))) (.reg [⟨(some 9), (.mov (.t 3)), none⟩, ⟨(some 10), (.bin .add (.t 9) (.c (.int .i64 1))), none⟩, ⟨(some 3), (.mov (.t 10)), none⟩])))
def k19 : IC := (.seq (.reg [⟨(some 1), (.box 41 (.t 0)), none⟩, ⟨(some 2), (.mov (.c (.bool false))), none⟩]) (.seq (.seq (.reg [⟨(some 3), (.mov (.c (.int .i64 0))), none⟩]) (.block 0 (.loop k19_l6))) (.seq (.reg [⟨(some 18), (.fda 4 (.t 1)), none⟩, ⟨(some 19), (.load 1 false (.t 18)), none⟩, ⟨(some 20), (.len false (.t 19)), none⟩, ⟨(some 21), (.bin .leq (.t 20) (.c (.int .i64 20))), none⟩, ⟨(some 22), (.mov (.t 21)), none⟩, ⟨(some 23), (.fda 1 (.t 1)), (some (22, true))⟩, ⟨(some 24), (.load 1 false (.t 23)), (some (22, true))⟩, ⟨(some 25), (.len true (.t 24)), (some (22, true))⟩, ⟨(some 26), (.bin .leq (.t 25) (.c (.int .i64 20))), (some (22, true))⟩, ⟨(some 27), (.pick (.t 22) (.t 26) (.c (.bool false))), none⟩, ⟨(some 28), (.mov (.t 27)), none⟩, ⟨(some 29), (.fda 3 (.t 1)), (some (28, true))⟩, ⟨(some 30), (.load 1 false (.t 29)), (some (28, true))⟩, ⟨(some 31), (.len true (.t 30)), (some (28, true))⟩, ⟨(some 32), (.bin .leq (.t 31) (.c (.int .i64 200))), (some (28, true))⟩, ⟨(some 33), (.pick (.t 28) (.t 32) (.c (.bool false))), none⟩, ⟨(some 2), (.mov (.t 33)), none⟩]) .ret)))
theorem k19_cf : cfunc Tryd.prog Tryd.f19 = some ⟨34, k19, [(.tmp 2)]⟩ := by kernel_rfl
theorem w_prefectlaw18_fewRule_l6 (N : Nat) (a0 : api_Rule) : ∀ (n : Nat) (x : Int) (y : Unit ⊕ Bool), prefectlaw18_fewRule_l6 N a0 n x = some y → WX Tryd.prog (fun _ => false) (.loop k19_l6) ((fun (x : Int) => ⟨ofL [(1, .ptr 1 0 0), (3, .int .i64 x)], ofL [(1, ⟨5, false, [e_api_Rule a0]⟩)]⟩) x) ((Sum.elim (fun y e s => e = .exit 0 ∧ s = ⟨ofL [(1, .ptr 1 0 0)], ofL [(1, ⟨5, false, [e_api_Rule a0]⟩)]⟩) (fun y e s => e = .ret ∧ s = ⟨ofL [(2, .bool y)], ofL []⟩) : (Unit ⊕ Bool) → Xt → St → Prop) y) := by
  refine xloop (fun (x : Int) => ⟨ofL [(1, .ptr 1 0 0), (3, .int .i64 x)], ofL [(1, ⟨5, false, [e_api_Rule a0]⟩)]⟩) _ (prefectlaw18_fewRule_l6 N a0) (prefectlaw18_fewRule_l6_b N a0) (fun _ => rfl) (fun _ _ => rfl) ?_
  rintro rec v3l6 y h
  refine xseq ?_
  refine xseq ?_
  refine xreg ?_
  refine wpp rfl rfl ?_
  refine wpp rfl rfl ?_
  refine wpp rfl rfl ?_
  refine wpp rfl (p_lens rfl) ?_
  refine wpp rfl rfl ?_
  rcases bifS h with ⟨c1, h⟩ | ⟨c1, h⟩
  · refine xcT rfl c1 ?_
    refine xskip ?_
    refine xseq ?_
    refine xblk ?_
    refine xseq ?_
    refine xreg ?_
    refine wpp rfl rfl ?_
    refine wpp rfl rfl ?_
    refine wpp rfl rfl ?_
    obtain ⟨x14, hx14, h⟩ := bindS h
    refine wpp rfl (p_ixs (cs := [.str x14]) hx14 rfl rfl rfl) ?_
    refine wpp rfl rfl ?_
    refine wpp rfl rfl ?_
    refine wpp rfl rfl ?_
    rcases bifS h with ⟨c2, h⟩ | ⟨c2, h⟩
    · refine xcT rfl c2 ?_
      refine xseq ?_
      refine xreg ?_
      refine wpp rfl rfl ?_
      obtain rfl := someS h
      exact xretn (st1 := ⟨ofL [(2, .bool false)], ofL []⟩) (canon0 ⟨rfl, trivial⟩ trivial rfl rfl) ⟨rfl, rfl⟩
    · refine xcF rfl c2 ?_
      refine xskip ?_
      refine xreg ?_
      refine wpp rfl rfl ?_
      refine wpp (p := .int .i64 (w64 (v3l6 + (1 : Int)))) rfl rfl ?_
      refine wpp rfl rfl ?_
      exact ⟨(w64 (v3l6 + (1 : Int))), (canon0 ⟨rfl, rfl, trivial⟩ ⟨rfl, trivial⟩ rfl rfl), h⟩
  · refine xcF rfl c1 ?_
    obtain rfl := someS h
    exact xexitn (st1 := ⟨ofL [(1, .ptr 1 0 0)], ofL [(1, ⟨5, false, [e_api_Rule a0]⟩)]⟩) (canon0 ⟨rfl, trivial⟩ ⟨rfl, trivial⟩ rfl rfl) ⟨rfl, rfl⟩
theorem sat_prefectlaw18_fewRule (N : Nat) (a0 : api_Rule) (r : Bool) (h : prefectlaw18_fewRule N a0 = some r) : Sat Tryd.prog 19 noRows [e_api_Rule a0] (.bool r) noRows := by
  refine xsat mixed Tryd.func19 k19_cf (rs := [.bool r]) rfl rfl ?_
  refine xseq ?_
  refine xreg ?_
  refine woo rfl (obox 1 rfl rfl rfl rfl rfl) ?_
  refine wpp rfl rfl ?_
  refine xseq ?_
  refine xseq ?_
  refine xreg ?_
  refine wpp rfl rfl ?_
  refine xblk ?_
  obtain ⟨y3, hy3, h⟩ := bindS h
  refine xloopU (st1 := ⟨ofL [(1, .ptr 1 0 0), (3, .int .i64 0)], ofL [(1, ⟨5, false, [e_api_Rule a0]⟩)]⟩) (canon0 ⟨rfl, rfl, trivial⟩ ⟨rfl, trivial⟩ rfl rfl) (w_prefectlaw18_fewRule_l6 N a0 N _ _ hy3) ?_
  clear hy3
  rcases y3 with y3 | y3
  · rintro e s ⟨rfl, rfl⟩
    obtain ⟨g4, hg4, h⟩ := bindS h
    refine xseg ⟨ofL [(2, .bool g4)], ofL []⟩ ?_ ?_
    · have h := hg4
      refine xreg ?_
      refine wpp rfl rfl ?_
      refine wpp rfl rfl ?_
      refine wpp rfl (p_lens rfl) ?_
      refine wpp rfl rfl ?_
      refine wpp rfl rfl ?_
      rcases bifS h with ⟨c5, h⟩ | ⟨c5, h⟩
      · skip
        refine wpp (gy rfl c5) rfl ?_
        refine wpp (gy rfl c5) rfl ?_
        refine wpp (gy rfl c5) rfl ?_
        refine wpp (gy rfl c5) rfl ?_
        refine wpp rfl (p_pick1 c5 rfl rfl) ?_
        refine wpp rfl rfl ?_
        rcases bifS h with ⟨c6, h⟩ | ⟨c6, h⟩
        · skip
          refine wpp (gy rfl c6) rfl ?_
          refine wpp (gy rfl c6) rfl ?_
          refine wpp (gy rfl c6) rfl ?_
          refine wpp (gy rfl c6) rfl ?_
          refine wpp rfl (p_pick1 c6 rfl rfl) ?_
          refine wpp rfl rfl ?_
          obtain rfl := someS h
          exact (canon0 ⟨rfl, trivial⟩ trivial rfl rfl)
        · skip
          refine wsk (gn rfl c6) ?_
          refine wsk (gn rfl c6) ?_
          refine wsk (gn rfl c6) ?_
          refine wsk (gn rfl c6) ?_
          refine wpp rfl (p_pick0 c6 rfl rfl) ?_
          refine wpp rfl rfl ?_
          obtain rfl := someS h
          exact (canon0 ⟨rfl, trivial⟩ trivial rfl rfl)
      · skip
        refine wsk (gn rfl c5) ?_
        refine wsk (gn rfl c5) ?_
        refine wsk (gn rfl c5) ?_
        refine wsk (gn rfl c5) ?_
        refine wpp rfl (p_pick0 c5 rfl rfl) ?_
        refine wpp rfl rfl ?_
        refine wsk rfl ?_
        refine wsk rfl ?_
        refine wsk rfl ?_
        refine wsk rfl ?_
        refine wpp rfl rfl ?_
        refine wpp rfl rfl ?_
        obtain rfl := someS h
        exact (canon0 ⟨rfl, trivial⟩ trivial rfl rfl)
    · clear hg4
      obtain rfl := someS h
      refine xret ?_
      exact ⟨nofun, rfl, rfl⟩
  · rintro e s ⟨rfl, rfl⟩
    obtain rfl := someS h
    exact ⟨nofun, rfl, rfl⟩
end Go.Gp
end
section
set_option linter.unusedVariables false
set_option linter.unusedSimpArgs false
set_option maxRecDepth 4000
namespace Go.Gp
open Go.Vd Go.RowKit Go.Proofs
def k17 : IC := (.seq (.reg [⟨(some 0), (.mov (.c .nl)), none⟩]) (.seq (.reg [⟨(some 1), (.build [(.str []), (.int .i64 0), (.bool false)] [(0, (1, (.c (.str [97, 99, 105])))), (1, (1, (.c (.int .i64 2))))]), none⟩, ⟨(some 2), (.build [(.str []), (.int .i64 0), (.bool false)] [(0, (1, (.c (.str [99])))), (1, (1, (.c (.int .i64 1)))), (2, (1, (.c (.bool true))))]), none⟩, ⟨(some 3), (.build [(.str []), (.int .i64 0), (.bool false)] [(0, (1, (.c (.str [99, 110])))), (1, (1, (.c (.int .i64 1))))]), none⟩, ⟨(some 4), (.build [(.str []), (.int .i64 0), (.bool false)] [(0, (1, (.c (.str [100, 99])))), (1, (1, (.c (.int .i64 1))))]), none⟩, ⟨(some 5), (.build [(.str []), (.int .i64 0), (.bool false)] [(0, (1, (.c (.str [100, 101, 115, 99, 114, 105, 112, 116, 105, 111, 110])))), (1, (1, (.c (.int .i64 1))))]), none⟩, ⟨(some 6), (.build [(.str []), (.int .i64 0), (.bool false)] [(0, (1, (.c (.str [101, 110, 116, 114, 121, 105, 100])))), (1, (1, (.c (.int .i64 2)))), (2, (1, (.c (.bool true))))]), none⟩, ⟨(some 7), (.build [(.str []), (.int .i64 0), (.bool false)] [(0, (1, (.c (.str [109, 97, 105, 108])))), (1, (1, (.c (.int .i64 2))))]), none⟩, ⟨(some 8), (.build [(.str []), (.int .i64 0), (.bool false)] [(0, (1, (.c (.str [109, 101, 109, 98, 101, 114])))), (1, (1, (.c (.int .i64 5))))]), none⟩, ⟨(some 9), (.build [(.str []), (.int .i64 0), (.bool false)] [(0, (1, (.c (.str [111])))), (1, (1, (.c (.int .i64 1))))]), none⟩, ⟨(some 10), (.build [(.str []), (.int .i64 0), (.bool false)] [(0, (1, (.c (.str [111, 117])))), (1, (1, (.c (.int .i64 1))))]), none⟩, ⟨(some 11), (.build [(.str []), (.int .i64 0), (.bool false)] [(0, (1, (.c (.str [115, 110])))), (1, (1, (.c (.int .i64 1))))]), none⟩, ⟨(some 12), (.build [(.str []), (.int .i64 0), (.bool false)] [(0, (1, (.c (.str [116, 105, 116, 108, 101])))), (1, (1, (.c (.int .i64 1)))), (2, (1, (.c (.bool true))))]), none⟩, ⟨(some 13), (.build [(.str []), (.int .i64 0), (.bool false)] [(0, (1, (.c (.str [117, 105, 100])))), (1, (1, (.c (.int .i64 1))))]), none⟩, ⟨(some 14), (.build [(.str []), (.int .i64 0), (.bool false)] [(0, (1, (.c (.str [117, 105, 100, 110, 117, 109, 98, 101, 114])))), (1, (1, (.c (.int .i64 3)))), (2, (1, (.c (.bool true))))]), none⟩, ⟨(some 15), (.build [(.str []), (.int .i64 0), (.bool false)] [(0, (1, (.c (.str [117, 115, 101, 114, 112, 97, 115, 115, 119, 111, 114, 100])))), (1, (1, (.c (.int .i64 4))))]), none⟩, ⟨(some 16), (.bsl 3 [(.t 1), (.t 2), (.t 3), (.t 4), (.t 5), (.t 6), (.t 7), (.t 8), (.t 9), (.t 10), (.t 11), (.t 12), (.t 13), (.t 14), (.t 15)]), none⟩, ⟨(some 0), (.mov (.t 16)), none⟩]) .ret))
theorem k17_cf : cfunc Tryd.prog Tryd.f17 = some ⟨17, k17, [(.tmp 0)]⟩ := by kernel_rfl
theorem sat_prefectref4_All (N : Nat)  (r : List api_Type) (h : prefectref4_All N  = some r) : Sat Tryd.prog 17 noRows [] (.sl 3 (List.map e_api_Type r)) noRows := by
  refine xsat mixed Tryd.func17 k17_cf (rs := [.sl 3 (List.map e_api_Type r)]) rfl rfl ?_
  refine xseq ?_
  refine xreg ?_
  refine wpp rfl rfl ?_
  refine xseq ?_
  refine xreg ?_
  refine wpp (p := .agg [.str ([97, 99, 105] : List UInt8), .int .i64 2, .bool false]) rfl rfl ?_
  refine wpp (p := .agg [.str ([99] : List UInt8), .int .i64 1, .bool true]) rfl rfl ?_
  refine wpp (p := .agg [.str ([99, 110] : List UInt8), .int .i64 1, .bool false]) rfl rfl ?_
  refine wpp (p := .agg [.str ([100, 99] : List UInt8), .int .i64 1, .bool false]) rfl rfl ?_
  refine wpp (p := .agg [.str ([100, 101, 115, 99, 114, 105, 112, 116, 105, 111, 110] : List UInt8), .int .i64 1, .bool false]) rfl rfl ?_
  refine wpp (p := .agg [.str ([101, 110, 116, 114, 121, 105, 100] : List UInt8), .int .i64 2, .bool true]) rfl rfl ?_
  refine wpp (p := .agg [.str ([109, 97, 105, 108] : List UInt8), .int .i64 2, .bool false]) rfl rfl ?_
  refine wpp (p := .agg [.str ([109, 101, 109, 98, 101, 114] : List UInt8), .int .i64 5, .bool false]) rfl rfl ?_
  refine wpp (p := .agg [.str ([111] : List UInt8), .int .i64 1, .bool false]) rfl rfl ?_
  refine wpp (p := .agg [.str ([111, 117] : List UInt8), .int .i64 1, .bool false]) rfl rfl ?_
  refine wpp (p := .agg [.str ([115, 110] : List UInt8), .int .i64 1, .bool false]) rfl rfl ?_
  refine wpp (p := .agg [.str ([116, 105, 116, 108, 101] : List UInt8), .int .i64 1, .bool true]) rfl rfl ?_
  refine wpp (p := .agg [.str ([117, 105, 100] : List UInt8), .int .i64 1, .bool false]) rfl rfl ?_
  refine wpp (p := .agg [.str ([117, 105, 100, 110, 117, 109, 98, 101, 114] : List UInt8), .int .i64 3, .bool true]) rfl rfl ?_
  refine wpp (p := .agg [.str ([117, 115, 101, 114, 112, 97, 115, 115, 119, 111, 114, 100] : List UInt8), .int .i64 4, .bool false]) rfl rfl ?_
  refine woo rfl (obsl 16 rfl rfl rfl) ?_
  refine wpp rfl rfl ?_
  obtain rfl := someS h
  refine xretn (st1 := ⟨ofL [(0, .sl 3 (List.map e_api_Type [(⟨([97, 99, 105] : List UInt8), 2, false⟩ : api_Type), (⟨([99] : List UInt8), 1, true⟩ : api_Type), (⟨([99, 110] : List UInt8), 1, false⟩ : api_Type), (⟨([100, 99] : List UInt8), 1, false⟩ : api_Type), (⟨([100, 101, 115, 99, 114, 105, 112, 116, 105, 111, 110] : List UInt8), 1, false⟩ : api_Type), (⟨([101, 110, 116, 114, 121, 105, 100] : List UInt8), 2, true⟩ : api_Type), (⟨([109, 97, 105, 108] : List UInt8), 2, false⟩ : api_Type), (⟨([109, 101, 109, 98, 101, 114] : List UInt8), 5, false⟩ : api_Type), (⟨([111] : List UInt8), 1, false⟩ : api_Type), (⟨([111, 117] : List UInt8), 1, false⟩ : api_Type), (⟨([115, 110] : List UInt8), 1, false⟩ : api_Type), (⟨([116, 105, 116, 108, 101] : List UInt8), 1, true⟩ : api_Type), (⟨([117, 105, 100] : List UInt8), 1, false⟩ : api_Type), (⟨([117, 105, 100, 110, 117, 109, 98, 101, 114] : List UInt8), 3, true⟩ : api_Type), (⟨([117, 115, 101, 114, 112, 97, 115, 115, 119, 111, 114, 100] : List UInt8), 4, false⟩ : api_Type)]))], ofL []⟩) (Norm.trans (Vd.freeze 16 _ rfl rfl rfl) (Norm.trans (nsub 0 (sub_eq (congrArg (PV.sl 3) (full_row (f := e_api_Type) (l := [(⟨([97, 99, 105] : List UInt8), 2, false⟩ : api_Type), (⟨([99] : List UInt8), 1, true⟩ : api_Type), (⟨([99, 110] : List UInt8), 1, false⟩ : api_Type), (⟨([100, 99] : List UInt8), 1, false⟩ : api_Type), (⟨([100, 101, 115, 99, 114, 105, 112, 116, 105, 111, 110] : List UInt8), 1, false⟩ : api_Type), (⟨([101, 110, 116, 114, 121, 105, 100] : List UInt8), 2, true⟩ : api_Type), (⟨([109, 97, 105, 108] : List UInt8), 2, false⟩ : api_Type), (⟨([109, 101, 109, 98, 101, 114] : List UInt8), 5, false⟩ : api_Type), (⟨([111] : List UInt8), 1, false⟩ : api_Type), (⟨([111, 117] : List UInt8), 1, false⟩ : api_Type), (⟨([115, 110] : List UInt8), 1, false⟩ : api_Type), (⟨([116, 105, 116, 108, 101] : List UInt8), 1, true⟩ : api_Type), (⟨([117, 105, 100] : List UInt8), 1, false⟩ : api_Type), (⟨([117, 105, 100, 110, 117, 109, 98, 101, 114] : List UInt8), 3, true⟩ : api_Type), (⟨([117, 115, 101, 114, 112, 97, 115, 115, 119, 111, 114, 100] : List UInt8), 4, false⟩ : api_Type)])))) rfl) (canon0 ⟨rfl, trivial⟩ trivial rfl rfl))) ?_
  exact ⟨nofun, rfl, rfl⟩
end Go.Gp
end
section
set_option linter.unusedVariables false
set_option linter.unusedSimpArgs false
set_option maxRecDepth 4000
namespace Go.Gp
open Go.Vd Go.RowKit Go.Proofs
def k29_l8 : IC := (.seq (.seq (.reg [⟨(some 7), (.mov (.t 4)), none⟩, ⟨(some 8), (.mov (.t 3)), none⟩, ⟨(some 9), (.len false (.t 8)), none⟩, ⟨(some 10), (.bin .lss (.t 7) (.t 9)), none⟩]) (.cond (.t 10) .skip (.exit 0))) (.seq (.block 1 (.seq (.reg [⟨(some 13), (.mov (.t 3)), none⟩, ⟨(some 14), (.mov (.t 4)), none⟩, ⟨(some 15), (.ixp 1 (.t 13) (.t 14)), none⟩, ⟨(some 16), (.load 1 false (.t 15)), none⟩, ⟨(some 17), (.bin .geq (.t 16) (.c (.int .u8 65))), none⟩, ⟨(some 18), (.mov (.t 17)), none⟩, ⟨(some 19), (.mov (.t 3)), (some (18, true))⟩, ⟨(some 20), (.mov (.t 4)), (some (18, true))⟩, ⟨(some 21), (.ixp 1 (.t 19) (.t 20)), (some (18, true))⟩, ⟨(some 22), (.load 1 false (.t 21)), (some (18, true))⟩, ⟨(some 23), (.bin .leq (.t 22) (.c (.int .u8 90))), (some (18, true))⟩, ⟨(some 24), (.pick (.t 18) (.t 23) (.c (.bool false))), none⟩]) (.cond (.t 24) (.reg [⟨(some 25), (.mov (.t 3)), none⟩, ⟨(some 26), (.mov (.t 4)), none⟩, ⟨(some 27), (.mov (.t 3)), none⟩, ⟨(some 28), (.mov (.t 4)), none⟩, ⟨(some 29), (.ixp 1 (.t 27) (.t 28)), none⟩, ⟨(some 30), (.load 1 false (.t 29)), none⟩, ⟨(some 31), (.bin .add (.t 30) (.c (.int .u8 32))), none⟩, ⟨(some 32), (.ixp 1 (.t 25) (.t 26)), none⟩, ⟨none, (.store 1 (.t 32) (.t 31)), none⟩]) .skip))) (.reg [⟨(some 11), (.mov (.t 4)), none⟩, ⟨(some 12), (.bin .add (.t 11) (.c (.int .i64 1))), none⟩, ⟨(some 4), (.mov (.t 12)), none⟩])))
def k29 : IC := (.seq (.reg [⟨(some 2), (.mov (.c (.str []))), none⟩]) (.seq (.reg [⟨(some 5), (.mov (.t 0)), none⟩, ⟨(some 6), (.cvs (.t 5)), none⟩, ⟨(some 3), (.mov (.t 6)), none⟩]) (.seq (.seq (.reg [⟨(some 4), (.mov (.c (.int .i64 0))), none⟩]) (.block 0 (.loop k29_l8))) (.seq (.reg [⟨(some 33), (.mov (.t 3)), none⟩, ⟨(some 34), (.cvb (.t 33)), none⟩, ⟨(some 2), (.mov (.t 34)), none⟩]) .ret))))
theorem k29_cf : cfunc Tryd.prog Tryd.f29 = some ⟨35, k29, [(.tmp 2)]⟩ := by kernel_rfl
theorem w_prefectref4_Lower_l8 (N : Nat) : ∀ (n : Nat) (x : Int × List UInt8) (y : List UInt8), prefectref4_Lower_l8 N n x = some y → WX Tryd.prog (fun _ => false) (.loop k29_l8) ((fun (x : Int × List UInt8) => ⟨ofL [(3, .slr 6 0 x.2.length), (4, .int .i64 x.1)], ofL [(6, ⟨1, true, List.map eb x.2⟩)]⟩) x) ((fun y e s => e = .exit 0 ∧ s = ⟨ofL [(3, .slr 6 0 y.length)], ofL [(6, ⟨1, true, List.map eb y⟩)]⟩ : (List UInt8) → Xt → St → Prop) y) := by
  refine xloop (fun (x : Int × List UInt8) => ⟨ofL [(3, .slr 6 0 x.2.length), (4, .int .i64 x.1)], ofL [(6, ⟨1, true, List.map eb x.2⟩)]⟩) _ (prefectref4_Lower_l8 N) (prefectref4_Lower_l8_b N) (fun _ => rfl) (fun _ _ => rfl) ?_
  rintro rec ⟨v4l8, r6l8⟩ y h
  refine xseq ?_
  refine xseq ?_
  refine xreg ?_
  refine wpp rfl rfl ?_
  refine wpp rfl rfl ?_
  refine wpp rfl rfl ?_
  refine wpp rfl rfl ?_
  rcases bifS h with ⟨c1, h⟩ | ⟨c1, h⟩
  · refine xcT rfl c1 ?_
    refine xskip ?_
    refine xjoin (fun (x : List UInt8) => ⟨ofL [(3, .slr 6 0 x.length), (4, .int .i64 v4l8)], ofL [(6, ⟨1, true, List.map eb x⟩)]⟩) (fun x => prefectref4_Lower_j15 v4l8 rec x = some y) ?_ ?_
    · rintro r6j15 h
      refine xreg ?_
      refine wpp rfl rfl ?_
      refine wpp (p := .int .i64 (w64 (v4l8 + (1 : Int)))) rfl rfl ?_
      refine wpp rfl rfl ?_
      exact ⟨((w64 (v4l8 + (1 : Int))), r6j15), (canon0 ⟨rfl, rfl, trivial⟩ ⟨rfl, trivial⟩ rfl rfl), h⟩
    · skip
      refine xblk ?_
      obtain ⟨g2, hg2, h⟩ := bindS h
      refine xseg ⟨ofL [(3, .slr 6 0 r6l8.length), (4, .int .i64 v4l8), (24, .bool g2)], ofL [(6, ⟨1, true, List.map eb r6l8⟩)]⟩ ?_ ?_
      · have h := hg2
        refine xreg ?_
        refine wpp rfl rfl ?_
        refine wpp rfl rfl ?_
        obtain ⟨x15, hx15, h⟩ := bindS h
        refine wpp rfl (p_ixr hx15 rfl rfl rfl rfl) ?_
        obtain ⟨x16, hx16, h⟩ := bindS h
        refine wpp rfl (p_ldr (f := eb) (v := eb x16) hx16 rfl rfl rfl) ?_
        refine wpp (p := .bool (decide (((x16).toNat : Int) ≥ (65 : Int)))) rfl rfl ?_
        refine wpp rfl rfl ?_
        rcases bifS h with ⟨c3, h⟩ | ⟨c3, h⟩
        · skip
          refine wpp (gy rfl c3) rfl ?_
          refine wpp (gy rfl c3) rfl ?_
          obtain ⟨x21, hx21, h⟩ := bindS h
          refine wpp (gy rfl c3) (p_ixr hx21 rfl rfl rfl rfl) ?_
          obtain ⟨x22, hx22, h⟩ := bindS h
          refine wpp (gy rfl c3) (p_ldr (f := eb) (v := eb x22) hx22 rfl rfl rfl) ?_
          refine wpp (p := .bool (decide (((x22).toNat : Int) ≤ (90 : Int)))) (gy rfl c3) rfl ?_
          refine wpp rfl (p_pick1 c3 rfl rfl) ?_
          obtain rfl := someS h
          exact (canon0 ⟨rfl, rfl, rfl, trivial⟩ ⟨rfl, trivial⟩ rfl rfl)
        · skip
          refine wsk (gn rfl c3) ?_
          refine wsk (gn rfl c3) ?_
          refine wsk (gn rfl c3) ?_
          refine wsk (gn rfl c3) ?_
          refine wsk (gn rfl c3) ?_
          refine wpp rfl (p_pick0 c3 rfl rfl) ?_
          obtain rfl := someS h
          exact (canon0 ⟨rfl, rfl, rfl, trivial⟩ ⟨rfl, trivial⟩ rfl rfl)
      · clear hg2
        rcases bifS h with ⟨c4, h⟩ | ⟨c4, h⟩
        · refine xcT rfl c4 ?_
          refine xreg ?_
          refine wpp rfl rfl ?_
          refine wpp rfl rfl ?_
          refine wpp rfl rfl ?_
          refine wpp rfl rfl ?_
          obtain ⟨x29, hx29, h⟩ := bindS h
          refine wpp rfl (p_ixr hx29 rfl rfl rfl rfl) ?_
          obtain ⟨x30, hx30, h⟩ := bindS h
          refine wpp rfl (p_ldr (f := eb) (v := eb x30) hx30 rfl rfl rfl) ?_
          refine wpp rfl (p_u8add (a := x30) (b := (32 : UInt8)) rfl rfl) ?_
          obtain ⟨x32, hx32, h⟩ := bindS h
          refine wpp rfl (p_ixr hx32 rfl rfl rfl rfl) ?_
          obtain ⟨x9004, hx9004, h⟩ := bindS h
          refine wsto (f := eb) (e' := (x30 + (32 : UInt8))) hx9004 rfl rfl rfl rfl rfl rfl rfl rfl (fun _ => rfl) rfl ?_
          exact ⟨(r6l8.set x32 (x30 + (32 : UInt8))), (Norm.trans (nsub 3 (sub_eq (congrArg (PV.slr 6 0) (by simp only [List.length_set, List.length_replicate] : r6l8.length = (r6l8.set x32 (x30 + (32 : UInt8))).length))) rfl) (canon0 ⟨rfl, rfl, trivial⟩ ⟨rfl, trivial⟩ rfl rfl)), h⟩
        · refine xcF rfl c4 ?_
          refine xskip ?_
          exact ⟨r6l8, (canon0 ⟨rfl, rfl, trivial⟩ ⟨rfl, trivial⟩ rfl rfl), h⟩
  · refine xcF rfl c1 ?_
    obtain rfl := someS h
    exact xexitn (st1 := ⟨ofL [(3, .slr 6 0 r6l8.length)], ofL [(6, ⟨1, true, List.map eb r6l8⟩)]⟩) (canon0 ⟨rfl, trivial⟩ ⟨rfl, trivial⟩ rfl rfl) ⟨rfl, rfl⟩
theorem sat_prefectref4_Lower (N : Nat) (a0 : List UInt8) (r : List UInt8) (h : prefectref4_Lower N a0 = some r) : Sat Tryd.prog 29 noRows [.str a0] (.str r) noRows := by
  refine xsat mixed Tryd.func29 k29_cf (rs := [.str r]) rfl rfl ?_
  refine xseq ?_
  refine xreg ?_
  refine wpp rfl rfl ?_
  refine xseq ?_
  refine xreg ?_
  refine wpp rfl rfl ?_
  refine woo rfl (ocvs 6 rfl rfl) ?_
  refine wpp rfl rfl ?_
  refine xseq ?_
  refine xseq ?_
  refine xreg ?_
  refine wpp rfl rfl ?_
  refine xblk ?_
  obtain ⟨y6, hy6, h⟩ := bindS h
  refine xloopU (st1 := ⟨ofL [(3, .slr 6 0 a0.length), (4, .int .i64 0)], ofL [(6, ⟨1, true, List.map eb a0⟩)]⟩) (canon0 ⟨rfl, rfl, trivial⟩ ⟨rfl, trivial⟩ rfl rfl) (w_prefectref4_Lower_l8 N N _ _ hy6) ?_
  rintro e s ⟨rfl, rfl⟩
  refine xseq ?_
  refine xreg ?_
  refine wpp rfl rfl ?_
  refine wpp rfl (p_cvbr (l := y6) rfl rfl (full_row (f := eb) (l := y6))) ?_
  refine wpp rfl rfl ?_
  obtain rfl := someS h
  refine xret ?_
  exact ⟨nofun, rfl, rfl⟩
end Go.Gp
end
section
set_option linter.unusedVariables false
set_option linter.unusedSimpArgs false
set_option maxRecDepth 4000
namespace Go.Gp
open Go.Vd Go.RowKit Go.Proofs
def k11_l8 : IC := (.seq (.seq (.reg [⟨(some 7), (.mov (.t 5)), none⟩, ⟨(some 8), (.mov (.t 4)), none⟩, ⟨(some 9), (.len false (.t 8)), none⟩, ⟨(some 10), (.bin .lss (.t 7) (.t 9)), none⟩]) (.cond (.t 10) .skip (.exit 0))) (.seq (.block 1 (.seq (.regd 8 [⟨(some 13), (.mov (.t 4)), none⟩, ⟨(some 14), (.mov (.t 5)), none⟩, ⟨(some 15), (.ixp 3 (.t 13) (.t 14)), none⟩, ⟨(some 16), (.fda 0 (.t 15)), none⟩, ⟨(some 17), (.load 1 false (.t 16)), none⟩, ⟨(some 18), (.mov (.t 0)), none⟩, ⟨(some 19), (.call 29 [(.t 18)]), none⟩, ⟨(some 20), (.bin .eql (.t 17) (.t 19)), none⟩]) (.cond (.t 20) (.seq (.reg [⟨(some 21), (.mov (.t 4)), none⟩, ⟨(some 22), (.mov (.t 5)), none⟩, ⟨(some 23), (.ixp 3 (.t 21) (.t 22)), none⟩, ⟨(some 24), (.load 3 true (.t 23)), none⟩, ⟨none, (.store 3 (.t 2) (.t 24)), none⟩, ⟨(some 3), (.mov (.c (.bool true))), none⟩]) .ret) .skip))) (.reg [⟨(some 11), (.mov (.t 5)), none⟩, ⟨(some 12), (.bin .add (.t 11) (.c (.int .i64 1))), none⟩, ⟨(some 5), (.mov (.t 12)), none⟩])))
def k11 : IC := (.seq (.reg [⟨(some 2), (.box 24 (.c (.agg [(.str []), (.int .i64 0), (.bool false)]))), none⟩, ⟨(some 3), (.mov (.c (.bool false))), none⟩]) (.seq (.reg [⟨(some 6), (.call 17 []), none⟩, ⟨(some 4), (.mov (.t 6)), none⟩]) (.seq (.seq (.reg [⟨(some 5), (.mov (.c (.int .i64 0))), none⟩]) (.block 0 (.loop k11_l8))) (.seq (.reg [⟨(some 25), (.build [(.str []), (.int .i64 0), (.bool false)] []), none⟩, ⟨none, (.store 3 (.t 2) (.t 25)), none⟩, ⟨(some 3), (.mov (.c (.bool false))), none⟩]) .ret))))
theorem k11_cf : cfunc Tryd.prog Tryd.f11 = some ⟨26, k11, [(.cell 3 true 2), (.tmp 3)]⟩ := by kernel_rfl
theorem w_prefectref4_Find_l8 (N : Nat) (a0 : List UInt8) (x6 : List api_Type) : ∀ (n : Nat) (x : Int) (y : Unit ⊕ (api_Type × Bool)), prefectref4_Find_l8 N a0 x6 n x = some y → WX Tryd.prog (fun _ => false) (.loop k11_l8) ((fun (x : Int) => ⟨ofL [(0, .str a0), (2, .ptr 2 0 0), (4, .sl 3 (List.map e_api_Type x6)), (5, .int .i64 x)], ofL [(2, ⟨3, false, [.agg [.str ([] : List UInt8), .int .i64 0, .bool false]]⟩)]⟩) x) ((Sum.elim (fun y e s => e = .exit 0 ∧ s = ⟨ofL [(2, .ptr 2 0 0)], ofL [(2, ⟨3, false, [.agg [.str ([] : List UInt8), .int .i64 0, .bool false]]⟩)]⟩) (fun y e s => e = .ret ∧ s = ⟨ofL [(2, .ptr 2 0 0), (3, .bool y.2)], ofL [(2, ⟨3, false, [e_api_Type y.1]⟩)]⟩) : (Unit ⊕ (api_Type × Bool)) → Xt → St → Prop) y) := by
  refine xloop (fun (x : Int) => ⟨ofL [(0, .str a0), (2, .ptr 2 0 0), (4, .sl 3 (List.map e_api_Type x6)), (5, .int .i64 x)], ofL [(2, ⟨3, false, [.agg [.str ([] : List UInt8), .int .i64 0, .bool false]]⟩)]⟩) _ (prefectref4_Find_l8 N a0 x6) (prefectref4_Find_l8_b N a0 x6) (fun _ => rfl) (fun _ _ => rfl) ?_
  rintro rec v5l8 y h
  refine xseq ?_
  refine xseq ?_
  refine xreg ?_
  refine wpp rfl rfl ?_
  refine wpp rfl rfl ?_
  refine wpp rfl (p_lens rfl) ?_
  refine wpp rfl rfl ?_
  rcases bifS h with ⟨c1, h⟩ | ⟨c1, h⟩
  · refine xcT rfl c1 ?_
    refine xskip ?_
    refine xseq ?_
    refine xblk ?_
    refine xseq ?_
    refine xregd ?_
    refine wdp rfl rfl ?_
    refine wdp rfl rfl ?_
    obtain ⟨x15, hx15, h⟩ := bindS h
    refine wdp rfl (p_ixs (cs := [.str x15.Name, .int .i64 x15.Syntax, .bool x15.Single]) hx15 rfl rfl rfl) ?_
    refine wdp (p := .ep [.str x15.Name, .int .i64 x15.Syntax, .bool x15.Single]) rfl rfl ?_
    refine wdp rfl rfl ?_
    refine wdp rfl rfl ?_
    obtain ⟨x19, hx19, h⟩ := bindS h
    refine wdN rfl (pcal (sat_prefectref4_Lower N _ _ hx19) rfl (.cons sub_rfl .nil) rfl rfl rfl) no_fresh ?_
    refine wdp rfl rfl ?_
    rcases bifS h with ⟨c2, h⟩ | ⟨c2, h⟩
    · refine xcT rfl c2 ?_
      refine xseq ?_
      refine xreg ?_
      refine wpp rfl rfl ?_
      refine wpp rfl rfl ?_
      obtain ⟨x23, hx23, h⟩ := bindS h
      refine wpp rfl (p_ixs (cs := [.str x23.Name, .int .i64 x23.Syntax, .bool x23.Single]) hx23 rfl rfl rfl) ?_
      refine wpp (p := e_api_Type x23) rfl rfl ?_
      refine wstb (e' := e_api_Type x23) rfl rfl rfl rfl rfl rfl rfl rfl nofun rfl ?_
      refine wpp rfl rfl ?_
      obtain rfl := someS h
      exact xretn (st1 := ⟨ofL [(2, .ptr 2 0 0), (3, .bool true)], ofL [(2, ⟨3, false, [e_api_Type x23]⟩)]⟩) (canon0 ⟨rfl, rfl, trivial⟩ ⟨rfl, trivial⟩ rfl rfl) ⟨rfl, rfl⟩
    · refine xcF rfl c2 ?_
      refine xskip ?_
      refine xreg ?_
      refine wpp rfl rfl ?_
      refine wpp (p := .int .i64 (w64 (v5l8 + (1 : Int)))) rfl rfl ?_
      refine wpp rfl rfl ?_
      exact ⟨(w64 (v5l8 + (1 : Int))), (canon0 ⟨rfl, rfl, rfl, rfl, trivial⟩ ⟨rfl, trivial⟩ rfl rfl), h⟩
  · refine xcF rfl c1 ?_
    obtain rfl := someS h
    exact xexitn (st1 := ⟨ofL [(2, .ptr 2 0 0)], ofL [(2, ⟨3, false, [.agg [.str ([] : List UInt8), .int .i64 0, .bool false]]⟩)]⟩) (canon0 ⟨rfl, trivial⟩ ⟨rfl, trivial⟩ rfl rfl) ⟨rfl, rfl⟩
theorem sat_prefectref4_Find (N : Nat) (a0 : List UInt8) (r : api_Type × Bool) (h : prefectref4_Find N a0 = some r) : Sat Tryd.prog 11 noRows [.str a0] (.tup [e_api_Type r.1, .bool r.2]) noRows := by
  refine xsat mixed Tryd.func11 k11_cf (rs := [e_api_Type r.1, .bool r.2]) rfl rfl ?_
  refine xseq ?_
  refine xreg ?_
  refine woo rfl (obox 2 rfl rfl rfl rfl rfl) ?_
  refine wpp rfl rfl ?_
  refine xseq ?_
  refine xreg ?_
  obtain ⟨x6, hx6, h⟩ := bindS h
  refine woo rfl (ocal (sat_prefectref4_All N _ hx6) rfl .nil rfl rfl rfl) ?_
  refine wpp rfl rfl ?_
  refine xseq ?_
  refine xseq ?_
  refine xreg ?_
  refine wpp rfl rfl ?_
  refine xblk ?_
  obtain ⟨y3, hy3, h⟩ := bindS h
  refine xloopU (st1 := ⟨ofL [(0, .str a0), (2, .ptr 2 0 0), (4, .sl 3 (List.map e_api_Type x6)), (5, .int .i64 0)], ofL [(2, ⟨3, false, [.agg [.str ([] : List UInt8), .int .i64 0, .bool false]]⟩)]⟩) (canon0 ⟨rfl, rfl, rfl, rfl, trivial⟩ ⟨rfl, trivial⟩ rfl rfl) (w_prefectref4_Find_l8 N a0 x6 N _ _ hy3) ?_
  clear hy3
  rcases y3 with y3 | y3
  · rintro e s ⟨rfl, rfl⟩
    refine xseq ?_
    refine xreg ?_
    refine wpp (p := .agg [.str ([] : List UInt8), .int .i64 0, .bool false]) rfl rfl ?_
    refine wstb (e' := .agg [.str ([] : List UInt8), .int .i64 0, .bool false]) rfl rfl rfl rfl rfl rfl rfl rfl nofun rfl ?_
    refine wpp rfl rfl ?_
    obtain rfl := someS h
    refine xret ?_
    exact ⟨nofun, rfl, rfl⟩
  · rintro e s ⟨rfl, rfl⟩
    obtain rfl := someS h
    exact ⟨nofun, rfl, rfl⟩
end Go.Gp
end
section
set_option linter.unusedVariables false
set_option linter.unusedSimpArgs false
set_option maxRecDepth 4000
namespace Go.Gp
open Go.Vd Go.RowKit Go.Proofs
def k45_l10 : IC := (.seq (.seq (.reg [⟨(some 8), (.mov (.t 7)), none⟩, ⟨(some 9), (.mov (.t 0)), none⟩, ⟨(some 10), (.len true (.t 9)), none⟩, ⟨(some 11), (.bin .lss (.t 8) (.t 10)), none⟩]) (.cond (.t 11) .skip (.exit 0))) (.seq (.block 1 (.seq (.reg [⟨(some 14), (.mov (.t 0)), none⟩, ⟨(some 15), (.mov (.t 7)), none⟩, ⟨(some 16), (.idxs (.t 14) (.t 15)), none⟩, ⟨(some 17), (.bin .eql (.t 16) (.c (.int .u8 92))), none⟩]) (.cond (.t 17) (.reg [⟨(some 18), (.mov (.t 7)), none⟩, ⟨(some 19), (.bin .add (.t 18) (.c (.int .i64 1))), none⟩, ⟨(some 7), (.mov (.t 19)), none⟩]) (.seq (.reg [⟨(some 20), (.mov (.t 0)), none⟩, ⟨(some 21), (.mov (.t 7)), none⟩, ⟨(some 22), (.idxs (.t 20) (.t 21)), none⟩, ⟨(some 23), (.mov (.t 1)), none⟩, ⟨(some 24), (.bin .eql (.t 22) (.t 23)), none⟩]) (.cond (.t 24) (.seq (.reg [⟨(some 25), (.mov (.t 5)), none⟩, ⟨(some 26), (.mov (.t 0)), none⟩, ⟨(some 27), (.mov (.t 6)), none⟩, ⟨(some 28), (.mov (.t 7)), none⟩, ⟨(some 29), (.slcs (.t 26) (some (.t 27)) (some (.t 28))), none⟩, ⟨(some 30), (.bsl 1 [(.t 29)]), none⟩, ⟨(some 31), (.app 9 1 16 (.t 25) (.t 30)), none⟩, ⟨(some 5), (.mov (.t 31)), none⟩]) (.reg [⟨(some 32), (.mov (.t 7)), none⟩, ⟨(some 33), (.bin .add (.t 32) (.c (.int .i64 1))), none⟩, ⟨(some 6), (.mov (.t 33)), none⟩])) .skip))))) (.reg [⟨(some 12), (.mov (.t 7)), none⟩, ⟨(some 13), (.bin .add (.t 12) (.c (.int .i64 1))), none⟩, ⟨(some 7), (.mov (.t 13)), none⟩])))
def k45 : IC := (.seq (.reg [⟨(some 4), (.mov (.c .nl)), none⟩]) (.seq (.reg [⟨(some 5), (.mov (.c .nl)), none⟩]) (.seq (.reg [⟨(some 6), (.mov (.c (.int .i64 0))), none⟩]) (.seq (.seq (.reg [⟨(some 7), (.mov (.c (.int .i64 0))), none⟩]) (.block 0 (.loop k45_l10))) (.seq (.reg [⟨(some 34), (.mov (.t 5)), none⟩, ⟨(some 35), (.mov (.t 0)), none⟩, ⟨(some 36), (.mov (.t 6)), none⟩, ⟨(some 37), (.slcs (.t 35) (some (.t 36)) none), none⟩, ⟨(some 38), (.bsl 1 [(.t 37)]), none⟩, ⟨(some 39), (.app 9 1 16 (.t 34) (.t 38)), none⟩, ⟨(some 4), (.mov (.t 39)), none⟩]) .ret)))))
theorem k45_cf : cfunc Tryd.prog Tryd.f45 = some ⟨40, k45, [(.tmp 4)]⟩ := by kernel_rfl
theorem w_prefectref4_cut_l10 (N : Nat) (a0 : List UInt8) (a1 : UInt8) : ∀ (n : Nat) (x : Int × Int × List (List UInt8)) (y : Int × List (List UInt8)), prefectref4_cut_l10 N a0 a1 n x = some y → WX Tryd.prog (fun _ => false) (.loop k45_l10) ((fun (x : Int × Int × List (List UInt8)) => ⟨ofL [(0, .str a0), (1, eb a1), (5, .slr 1005 0 x.2.2.length), (6, .int .i64 x.1), (7, .int .i64 x.2.1)], ofL [(1005, ⟨1, true, List.map PV.str x.2.2⟩)]⟩) x) ((fun y e s => e = .exit 0 ∧ s = ⟨ofL [(0, .str a0), (5, .slr 1005 0 y.2.length), (6, .int .i64 y.1)], ofL [(1005, ⟨1, true, List.map PV.str y.2⟩)]⟩ : (Int × List (List UInt8)) → Xt → St → Prop) y) := by
  refine xloop (fun (x : Int × Int × List (List UInt8)) => ⟨ofL [(0, .str a0), (1, eb a1), (5, .slr 1005 0 x.2.2.length), (6, .int .i64 x.1), (7, .int .i64 x.2.1)], ofL [(1005, ⟨1, true, List.map PV.str x.2.2⟩)]⟩) _ (prefectref4_cut_l10 N a0 a1) (prefectref4_cut_l10_b N a0 a1) (fun _ => rfl) (fun _ _ => rfl) ?_
  rintro rec ⟨v6l10, v7l10, r1005l10⟩ y h
  refine xseq ?_
  refine xseq ?_
  refine xreg ?_
  refine wpp rfl rfl ?_
  refine wpp rfl rfl ?_
  refine wpp rfl rfl ?_
  refine wpp rfl rfl ?_
  rcases bifS h with ⟨c1, h⟩ | ⟨c1, h⟩
  · refine xcT rfl c1 ?_
    refine xskip ?_
    refine xjoin (fun (x : Int × Int × List (List UInt8)) => ⟨ofL [(0, .str a0), (1, eb a1), (5, .slr 1005 0 x.2.2.length), (6, .int .i64 x.1), (7, .int .i64 x.2.1)], ofL [(1005, ⟨1, true, List.map PV.str x.2.2⟩)]⟩) (fun x => prefectref4_cut_j17 rec x.1 x.2.1 x.2.2 = some y) ?_ ?_
    · rintro ⟨v6j17, v7j17, r1005j17⟩ h
      refine xreg ?_
      refine wpp rfl rfl ?_
      refine wpp (p := .int .i64 (w64 (v7j17 + (1 : Int)))) rfl rfl ?_
      refine wpp rfl rfl ?_
      exact ⟨(v6j17, (w64 (v7j17 + (1 : Int))), r1005j17), (canon0 ⟨rfl, rfl, rfl, rfl, rfl, trivial⟩ ⟨rfl, trivial⟩ rfl rfl), h⟩
    · skip
      refine xblk ?_
      refine xseq ?_
      refine xreg ?_
      refine wpp rfl rfl ?_
      refine wpp rfl rfl ?_
      obtain ⟨x16, hx16, h⟩ := bindS h
      refine wpp rfl (p_idx hx16 rfl rfl) ?_
      refine wpp (p := .bool (((x16).toNat : Int) == (92 : Int))) rfl rfl ?_
      rcases bifS h with ⟨c2, h⟩ | ⟨c2, h⟩
      · refine xcT rfl c2 ?_
        refine xreg ?_
        refine wpp rfl rfl ?_
        refine wpp (p := .int .i64 (w64 (v7l10 + (1 : Int)))) rfl rfl ?_
        refine wpp rfl rfl ?_
        exact ⟨(v6l10, (w64 (v7l10 + (1 : Int))), r1005l10), (canon0 ⟨rfl, rfl, rfl, rfl, rfl, trivial⟩ ⟨rfl, trivial⟩ rfl rfl), h⟩
      · refine xcF rfl c2 ?_
        refine xseq ?_
        refine xreg ?_
        refine wpp rfl rfl ?_
        refine wpp rfl rfl ?_
        obtain ⟨x22, hx22, h⟩ := bindS h
        refine wpp rfl (p_idx hx22 rfl rfl) ?_
        refine wpp rfl rfl ?_
        refine wpp (p := .bool (((x22).toNat : Int) == ((a1).toNat : Int))) rfl rfl ?_
        rcases bifS h with ⟨c3, h⟩ | ⟨c3, h⟩
        · refine xcT rfl c3 ?_
          refine xseq ?_
          refine xreg ?_
          refine wpp rfl rfl ?_
          refine wpp rfl rfl ?_
          refine wpp rfl rfl ?_
          refine wpp rfl rfl ?_
          obtain ⟨x29, hx29, h⟩ := bindS h
          refine wpp rfl (p_cut hx29 rfl rfl rfl) ?_
          refine woo rfl (obsl 30 rfl rfl rfl) ?_
          obtain ⟨x31, hx31, h⟩ := bindS h
          refine wapp (f := PV.str) 31 hx31 rfl rfl rfl rfl rfl (el_row rfl (full_row (f := PV.str) (l := [x29]))) rfl rfl rfl rfl ?_
          refine wpp rfl rfl ?_
          refine xreg ?_
          refine wpp rfl rfl ?_
          refine wpp (p := .int .i64 (w64 (v7l10 + (1 : Int)))) rfl rfl ?_
          refine wpp rfl rfl ?_
          exact ⟨((w64 (v7l10 + (1 : Int))), v7l10, x31), (Norm.trans (rename 31 1005 rfl rfl) (canon0 ⟨rfl, rfl, rfl, rfl, rfl, trivial⟩ ⟨rfl, trivial⟩ rfl rfl)), h⟩
        · refine xcF rfl c3 ?_
          refine xskip ?_
          exact ⟨(v6l10, v7l10, r1005l10), (canon0 ⟨rfl, rfl, rfl, rfl, rfl, trivial⟩ ⟨rfl, trivial⟩ rfl rfl), h⟩
  · refine xcF rfl c1 ?_
    obtain rfl := someS h
    exact xexitn (st1 := ⟨ofL [(0, .str a0), (5, .slr 1005 0 r1005l10.length), (6, .int .i64 v6l10)], ofL [(1005, ⟨1, true, List.map PV.str r1005l10⟩)]⟩) (canon0 ⟨rfl, rfl, rfl, trivial⟩ ⟨rfl, trivial⟩ rfl rfl) ⟨rfl, rfl⟩
theorem sat_prefectref4_cut (N : Nat) (a0 : List UInt8) (a1 : UInt8) (r : List (List UInt8)) (h : prefectref4_cut N a0 a1 = some r) : Sat Tryd.prog 45 noRows [.str a0, eb a1] (.sl 1 (List.map PV.str r)) noRows := by
  refine xsat mixed Tryd.func45 k45_cf (rs := [.sl 1 (List.map PV.str r)]) rfl rfl ?_
  refine xseq ?_
  refine xreg ?_
  refine wpp rfl rfl ?_
  refine xseq ?_
  refine xreg ?_
  refine wpp rfl rfl ?_
  refine xseq ?_
  refine xreg ?_
  refine wpp rfl rfl ?_
  refine xseq ?_
  refine xseq ?_
  refine xreg ?_
  refine wpp rfl rfl ?_
  refine xblk ?_
  obtain ⟨y4, hy4, h⟩ := bindS h
  refine xloopU (st1 := ⟨ofL [(0, .str a0), (1, eb a1), (5, .slr 1005 0 ([].length)), (6, .int .i64 0), (7, .int .i64 0)], ofL [(1005, ⟨1, true, List.map PV.str []⟩)]⟩) (Norm.trans (nlrow 5 1005 1 true rfl rfl rfl) (canon0 ⟨rfl, rfl, rfl, rfl, rfl, trivial⟩ ⟨rfl, trivial⟩ rfl rfl)) (w_prefectref4_cut_l10 N a0 a1 N _ _ hy4) ?_
  rintro e s ⟨rfl, rfl⟩
  refine xseq ?_
  refine xreg ?_
  refine wpp rfl rfl ?_
  refine wpp rfl rfl ?_
  refine wpp rfl rfl ?_
  obtain ⟨x37, hx37, h⟩ := bindS h
  refine wpp rfl (p_drop hx37 rfl rfl) ?_
  refine woo rfl (obsl 38 rfl rfl rfl) ?_
  obtain ⟨x39, hx39, h⟩ := bindS h
  refine wapp (f := PV.str) 39 hx39 rfl rfl rfl rfl rfl (el_row rfl (full_row (f := PV.str) (l := [x37]))) rfl rfl rfl rfl ?_
  refine wpp rfl rfl ?_
  obtain rfl := someS h
  refine xretn (st1 := ⟨ofL [(4, .sl 1 (List.map PV.str x39))], ofL []⟩) (Norm.trans (Vd.freeze 39 _ rfl rfl rfl) (Norm.trans (nsub 4 (sub_eq (congrArg (PV.sl 1) (full_row (f := PV.str) (l := x39)))) rfl) (canon0 ⟨rfl, trivial⟩ trivial rfl rfl))) ?_
  exact ⟨nofun, rfl, rfl⟩
end Go.Gp
end
section
set_option linter.unusedVariables false
set_option linter.unusedSimpArgs false
set_option maxRecDepth 4000
namespace Go.Gp
open Go.Vd Go.RowKit Go.Proofs
def k86 : IC := (.seq (.reg [⟨(some 2), (.mov (.c (.bool false))), none⟩]) (.seq (.reg [⟨(some 3), (.mov (.t 0)), none⟩, ⟨(some 4), (.bin .eql (.t 3) (.c (.int .u8 44))), none⟩, ⟨(some 5), (.mov (.t 4)), none⟩, ⟨(some 6), (.mov (.t 0)), (some (5, false))⟩, ⟨(some 7), (.bin .eql (.t 6) (.c (.int .u8 43))), (some (5, false))⟩, ⟨(some 8), (.pick (.t 5) (.c (.bool true)) (.t 7)), none⟩, ⟨(some 9), (.mov (.t 8)), none⟩, ⟨(some 10), (.mov (.t 0)), (some (9, false))⟩, ⟨(some 11), (.bin .eql (.t 10) (.c (.int .u8 34))), (some (9, false))⟩, ⟨(some 12), (.pick (.t 9) (.c (.bool true)) (.t 11)), none⟩, ⟨(some 13), (.mov (.t 12)), none⟩, ⟨(some 14), (.mov (.t 0)), (some (13, false))⟩, ⟨(some 15), (.bin .eql (.t 14) (.c (.int .u8 92))), (some (13, false))⟩, ⟨(some 16), (.pick (.t 13) (.c (.bool true)) (.t 15)), none⟩, ⟨(some 17), (.mov (.t 16)), none⟩, ⟨(some 18), (.mov (.t 0)), (some (17, false))⟩, ⟨(some 19), (.bin .eql (.t 18) (.c (.int .u8 60))), (some (17, false))⟩, ⟨(some 20), (.pick (.t 17) (.c (.bool true)) (.t 19)), none⟩, ⟨(some 21), (.mov (.t 20)), none⟩, ⟨(some 22), (.mov (.t 0)), (some (21, false))⟩, ⟨(some 23), (.bin .eql (.t 22) (.c (.int .u8 62))), (some (21, false))⟩, ⟨(some 24), (.pick (.t 21) (.c (.bool true)) (.t 23)), none⟩, ⟨(some 25), (.mov (.t 24)), none⟩, ⟨(some 26), (.mov (.t 0)), (some (25, false))⟩, ⟨(some 27), (.bin .eql (.t 26) (.c (.int .u8 59))), (some (25, false))⟩, ⟨(some 28), (.pick (.t 25) (.c (.bool true)) (.t 27)), none⟩, ⟨(some 2), (.mov (.t 28)), none⟩]) .ret))
theorem k86_cf : cfunc Tryd.prog Tryd.f86 = some ⟨29, k86, [(.tmp 2)]⟩ := by kernel_rfl
theorem sat_prefectref4_special (N : Nat) (a0 : UInt8) (r : Bool) (h : prefectref4_special N a0 = some r) : Sat Tryd.prog 86 noRows [eb a0] (.bool r) noRows := by
  refine xsat mixed Tryd.func86 k86_cf (rs := [.bool r]) rfl rfl ?_
  refine xseq ?_
  refine xreg ?_
  refine wpp rfl rfl ?_
  obtain ⟨g1, hg1, h⟩ := bindS h
  refine xseg ⟨ofL [(2, .bool g1)], ofL []⟩ ?_ ?_
  · have h := hg1
    refine xreg ?_
    refine wpp rfl rfl ?_
    refine wpp (p := .bool (((a0).toNat : Int) == (44 : Int))) rfl rfl ?_
    refine wpp rfl rfl ?_
    rcases bifS h with ⟨c2, h⟩ | ⟨c2, h⟩
    · skip
      refine wsk (gn rfl c2) ?_
      refine wsk (gn rfl c2) ?_
      refine wpp rfl (p_pick1 c2 rfl rfl) ?_
      refine wpp rfl rfl ?_
      refine wsk rfl ?_
      refine wsk rfl ?_
      refine wpp rfl rfl ?_
      refine wpp rfl rfl ?_
      refine wsk rfl ?_
      refine wsk rfl ?_
      refine wpp rfl rfl ?_
      refine wpp rfl rfl ?_
      refine wsk rfl ?_
      refine wsk rfl ?_
      refine wpp rfl rfl ?_
      refine wpp rfl rfl ?_
      refine wsk rfl ?_
      refine wsk rfl ?_
      refine wpp rfl rfl ?_
      refine wpp rfl rfl ?_
      refine wsk rfl ?_
      refine wsk rfl ?_
      refine wpp rfl rfl ?_
      refine wpp rfl rfl ?_
      obtain rfl := someS h
      exact (canon0 ⟨rfl, trivial⟩ trivial rfl rfl)
    · skip
      refine wpp (gy rfl c2) rfl ?_
      refine wpp (p := .bool (((a0).toNat : Int) == (43 : Int))) (gy rfl c2) rfl ?_
      refine wpp rfl (p_pick0 c2 rfl rfl) ?_
      refine wpp rfl rfl ?_
      rcases bifS h with ⟨c3, h⟩ | ⟨c3, h⟩
      · skip
        refine wsk (gn rfl c3) ?_
        refine wsk (gn rfl c3) ?_
        refine wpp rfl (p_pick1 c3 rfl rfl) ?_
        refine wpp rfl rfl ?_
        refine wsk rfl ?_
        refine wsk rfl ?_
        refine wpp rfl rfl ?_
        refine wpp rfl rfl ?_
        refine wsk rfl ?_
        refine wsk rfl ?_
        refine wpp rfl rfl ?_
        refine wpp rfl rfl ?_
        refine wsk rfl ?_
        refine wsk rfl ?_
        refine wpp rfl rfl ?_
        refine wpp rfl rfl ?_
        refine wsk rfl ?_
        refine wsk rfl ?_
        refine wpp rfl rfl ?_
        refine wpp rfl rfl ?_
        obtain rfl := someS h
        exact (canon0 ⟨rfl, trivial⟩ trivial rfl rfl)
      · skip
        refine wpp (gy rfl c3) rfl ?_
        refine wpp (p := .bool (((a0).toNat : Int) == (34 : Int))) (gy rfl c3) rfl ?_
        refine wpp rfl (p_pick0 c3 rfl rfl) ?_
        refine wpp rfl rfl ?_
        rcases bifS h with ⟨c4, h⟩ | ⟨c4, h⟩
        · skip
          refine wsk (gn rfl c4) ?_
          refine wsk (gn rfl c4) ?_
          refine wpp rfl (p_pick1 c4 rfl rfl) ?_
          refine wpp rfl rfl ?_
          refine wsk rfl ?_
          refine wsk rfl ?_
          refine wpp rfl rfl ?_
          refine wpp rfl rfl ?_
          refine wsk rfl ?_
          refine wsk rfl ?_
          refine wpp rfl rfl ?_
          refine wpp rfl rfl ?_
          refine wsk rfl ?_
          refine wsk rfl ?_
          refine wpp rfl rfl ?_
          refine wpp rfl rfl ?_
          obtain rfl := someS h
          exact (canon0 ⟨rfl, trivial⟩ trivial rfl rfl)
        · skip
          refine wpp (gy rfl c4) rfl ?_
          refine wpp (p := .bool (((a0).toNat : Int) == (92 : Int))) (gy rfl c4) rfl ?_
          refine wpp rfl (p_pick0 c4 rfl rfl) ?_
          refine wpp rfl rfl ?_
          rcases bifS h with ⟨c5, h⟩ | ⟨c5, h⟩
          · skip
            refine wsk (gn rfl c5) ?_
            refine wsk (gn rfl c5) ?_
            refine wpp rfl (p_pick1 c5 rfl rfl) ?_
            refine wpp rfl rfl ?_
            refine wsk rfl ?_
            refine wsk rfl ?_
            refine wpp rfl rfl ?_
            refine wpp rfl rfl ?_
            refine wsk rfl ?_
            refine wsk rfl ?_
            refine wpp rfl rfl ?_
            refine wpp rfl rfl ?_
            obtain rfl := someS h
            exact (canon0 ⟨rfl, trivial⟩ trivial rfl rfl)
          · skip
            refine wpp (gy rfl c5) rfl ?_
            refine wpp (p := .bool (((a0).toNat : Int) == (60 : Int))) (gy rfl c5) rfl ?_
            refine wpp rfl (p_pick0 c5 rfl rfl) ?_
            refine wpp rfl rfl ?_
            rcases bifS h with ⟨c6, h⟩ | ⟨c6, h⟩
            · skip
              refine wsk (gn rfl c6) ?_
              refine wsk (gn rfl c6) ?_
              refine wpp rfl (p_pick1 c6 rfl rfl) ?_
              refine wpp rfl rfl ?_
              refine wsk rfl ?_
              refine wsk rfl ?_
              refine wpp rfl rfl ?_
              refine wpp rfl rfl ?_
              obtain rfl := someS h
              exact (canon0 ⟨rfl, trivial⟩ trivial rfl rfl)
            · skip
              refine wpp (gy rfl c6) rfl ?_
              refine wpp (p := .bool (((a0).toNat : Int) == (62 : Int))) (gy rfl c6) rfl ?_
              refine wpp rfl (p_pick0 c6 rfl rfl) ?_
              refine wpp rfl rfl ?_
              rcases bifS h with ⟨c7, h⟩ | ⟨c7, h⟩
              · skip
                refine wsk (gn rfl c7) ?_
                refine wsk (gn rfl c7) ?_
                refine wpp rfl (p_pick1 c7 rfl rfl) ?_
                refine wpp rfl rfl ?_
                obtain rfl := someS h
                exact (canon0 ⟨rfl, trivial⟩ trivial rfl rfl)
              · skip
                refine wpp (gy rfl c7) rfl ?_
                refine wpp (p := .bool (((a0).toNat : Int) == (59 : Int))) (gy rfl c7) rfl ?_
                refine wpp rfl (p_pick0 c7 rfl rfl) ?_
                refine wpp rfl rfl ?_
                obtain rfl := someS h
                exact (canon0 ⟨rfl, trivial⟩ trivial rfl rfl)
  · clear hg1
    obtain rfl := someS h
    refine xret ?_
    exact ⟨nofun, rfl, rfl⟩
end Go.Gp
end
section
set_option linter.unusedVariables false
set_option linter.unusedSimpArgs false
set_option maxRecDepth 4000
namespace Go.Gp
open Go.Vd Go.RowKit Go.Proofs
def k87 : IC := (.seq (.reg [⟨(some 2), (.mov (.c (.int .i64 0))), none⟩]) (.seq (.block 0 (.seq (.reg [⟨(some 4), (.mov (.t 0)), none⟩, ⟨(some 5), (.bin .geq (.t 4) (.c (.int .u8 48))), none⟩, ⟨(some 6), (.mov (.t 5)), none⟩, ⟨(some 7), (.mov (.t 0)), (some (6, true))⟩, ⟨(some 8), (.bin .leq (.t 7) (.c (.int .u8 57))), (some (6, true))⟩, ⟨(some 9), (.pick (.t 6) (.t 8) (.c (.bool false))), none⟩, ⟨(some 3), (.mov (.t 9)), none⟩]) (.cond (.t 3) (.seq (.reg [⟨(some 10), (.mov (.t 0)), none⟩, ⟨(some 11), (.bin .sub (.t 10) (.c (.int .u8 48))), none⟩, ⟨(some 12), (.cvi .i64 (.t 11)), none⟩, ⟨(some 2), (.mov (.t 12)), none⟩]) .ret) (.seq (.reg [⟨(some 14), (.mov (.t 0)), none⟩, ⟨(some 15), (.bin .geq (.t 14) (.c (.int .u8 97))), none⟩, ⟨(some 16), (.mov (.t 15)), none⟩, ⟨(some 17), (.mov (.t 0)), (some (16, true))⟩, ⟨(some 18), (.bin .leq (.t 17) (.c (.int .u8 102))), (some (16, true))⟩, ⟨(some 19), (.pick (.t 16) (.t 18) (.c (.bool false))), none⟩, ⟨(some 13), (.mov (.t 19)), none⟩]) (.cond (.t 13) (.seq (.reg [⟨(some 20), (.mov (.t 0)), none⟩, ⟨(some 21), (.bin .sub (.t 20) (.c (.int .u8 97))), none⟩, ⟨(some 22), (.cvi .i64 (.t 21)), none⟩, ⟨(some 23), (.bin .add (.t 22) (.c (.int .i64 10))), none⟩, ⟨(some 2), (.mov (.t 23)), none⟩]) .ret) (.seq (.reg [⟨(some 25), (.mov (.t 0)), none⟩, ⟨(some 26), (.bin .geq (.t 25) (.c (.int .u8 65))), none⟩, ⟨(some 27), (.mov (.t 26)), none⟩, ⟨(some 28), (.mov (.t 0)), (some (27, true))⟩, ⟨(some 29), (.bin .leq (.t 28) (.c (.int .u8 70))), (some (27, true))⟩, ⟨(some 30), (.pick (.t 27) (.t 29) (.c (.bool false))), none⟩, ⟨(some 24), (.mov (.t 30)), none⟩]) (.cond (.t 24) (.seq (.reg [⟨(some 31), (.mov (.t 0)), none⟩, ⟨(some 32), (.bin .sub (.t 31) (.c (.int .u8 65))), none⟩, ⟨(some 33), (.cvi .i64 (.t 32)), none⟩, ⟨(some 34), (.bin .add (.t 33) (.c (.int .i64 10))), none⟩, ⟨(some 2), (.mov (.t 34)), none⟩]) .ret) .skip))))))) (.seq (.reg [⟨(some 2), (.mov (.c (.int .i64 (-1)))), none⟩]) .ret)))
theorem k87_cf : cfunc Tryd.prog Tryd.f87 = some ⟨35, k87, [(.tmp 2)]⟩ := by kernel_rfl
theorem sat_prefectref4_digit (N : Nat) (a0 : UInt8) (r : Int) (h : prefectref4_digit N a0 = some r) : Sat Tryd.prog 87 noRows [eb a0] (.int .i64 r) noRows := by
  refine xsat mixed Tryd.func87 k87_cf (rs := [.int .i64 r]) rfl rfl ?_
  refine xseq ?_
  refine xreg ?_
  refine wpp rfl rfl ?_
  refine xseq ?_
  refine xblk ?_
  obtain ⟨g1, hg1, h⟩ := bindS h
  refine xseg ⟨ofL [(0, eb a0), (3, .bool g1)], ofL []⟩ ?_ ?_
  · have h := hg1
    refine xreg ?_
    refine wpp rfl rfl ?_
    refine wpp (p := .bool (decide (((a0).toNat : Int) ≥ (48 : Int)))) rfl rfl ?_
    refine wpp rfl rfl ?_
    rcases bifS h with ⟨c2, h⟩ | ⟨c2, h⟩
    · skip
      refine wpp (gy rfl c2) rfl ?_
      refine wpp (p := .bool (decide (((a0).toNat : Int) ≤ (57 : Int)))) (gy rfl c2) rfl ?_
      refine wpp rfl (p_pick1 c2 rfl rfl) ?_
      refine wpp rfl rfl ?_
      obtain rfl := someS h
      exact (canon0 ⟨rfl, rfl, trivial⟩ trivial rfl rfl)
    · skip
      refine wsk (gn rfl c2) ?_
      refine wsk (gn rfl c2) ?_
      refine wpp rfl (p_pick0 c2 rfl rfl) ?_
      refine wpp rfl rfl ?_
      obtain rfl := someS h
      exact (canon0 ⟨rfl, rfl, trivial⟩ trivial rfl rfl)
  · clear hg1
    rcases bifS h with ⟨c3, h⟩ | ⟨c3, h⟩
    · refine xcT rfl c3 ?_
      refine xseq ?_
      refine xreg ?_
      refine wpp rfl rfl ?_
      refine wpp rfl (p_u8sub (a := a0) (b := (48 : UInt8)) rfl rfl) ?_
      refine wpp rfl (p_u8cv (a := (a0 - (48 : UInt8))) rfl) ?_
      refine wpp rfl rfl ?_
      obtain rfl := someS h
      refine xret ?_
      exact ⟨nofun, rfl, rfl⟩
    · refine xcF rfl c3 ?_
      obtain ⟨g4, hg4, h⟩ := bindS h
      refine xseg ⟨ofL [(0, eb a0), (13, .bool g4)], ofL []⟩ ?_ ?_
      · have h := hg4
        refine xreg ?_
        refine wpp rfl rfl ?_
        refine wpp (p := .bool (decide (((a0).toNat : Int) ≥ (97 : Int)))) rfl rfl ?_
        refine wpp rfl rfl ?_
        rcases bifS h with ⟨c5, h⟩ | ⟨c5, h⟩
        · skip
          refine wpp (gy rfl c5) rfl ?_
          refine wpp (p := .bool (decide (((a0).toNat : Int) ≤ (102 : Int)))) (gy rfl c5) rfl ?_
          refine wpp rfl (p_pick1 c5 rfl rfl) ?_
          refine wpp rfl rfl ?_
          obtain rfl := someS h
          exact (canon0 ⟨rfl, rfl, trivial⟩ trivial rfl rfl)
        · skip
          refine wsk (gn rfl c5) ?_
          refine wsk (gn rfl c5) ?_
          refine wpp rfl (p_pick0 c5 rfl rfl) ?_
          refine wpp rfl rfl ?_
          obtain rfl := someS h
          exact (canon0 ⟨rfl, rfl, trivial⟩ trivial rfl rfl)
      · clear hg4
        rcases bifS h with ⟨c6, h⟩ | ⟨c6, h⟩
        · refine xcT rfl c6 ?_
          refine xseq ?_
          refine xreg ?_
          refine wpp rfl rfl ?_
          refine wpp rfl (p_u8sub (a := a0) (b := (97 : UInt8)) rfl rfl) ?_
          refine wpp rfl (p_u8cv (a := (a0 - (97 : UInt8))) rfl) ?_
          refine wpp (p := .int .i64 (w64 ((((a0 - (97 : UInt8))).toNat : Int) + (10 : Int)))) rfl rfl ?_
          refine wpp rfl rfl ?_
          obtain rfl := someS h
          refine xret ?_
          exact ⟨nofun, rfl, rfl⟩
        · refine xcF rfl c6 ?_
          obtain ⟨g7, hg7, h⟩ := bindS h
          refine xseg ⟨ofL [(0, eb a0), (24, .bool g7)], ofL []⟩ ?_ ?_
          · have h := hg7
            refine xreg ?_
            refine wpp rfl rfl ?_
            refine wpp (p := .bool (decide (((a0).toNat : Int) ≥ (65 : Int)))) rfl rfl ?_
            refine wpp rfl rfl ?_
            rcases bifS h with ⟨c8, h⟩ | ⟨c8, h⟩
            · skip
              refine wpp (gy rfl c8) rfl ?_
              refine wpp (p := .bool (decide (((a0).toNat : Int) ≤ (70 : Int)))) (gy rfl c8) rfl ?_
              refine wpp rfl (p_pick1 c8 rfl rfl) ?_
              refine wpp rfl rfl ?_
              obtain rfl := someS h
              exact (canon0 ⟨rfl, rfl, trivial⟩ trivial rfl rfl)
            · skip
              refine wsk (gn rfl c8) ?_
              refine wsk (gn rfl c8) ?_
              refine wpp rfl (p_pick0 c8 rfl rfl) ?_
              refine wpp rfl rfl ?_
              obtain rfl := someS h
              exact (canon0 ⟨rfl, rfl, trivial⟩ trivial rfl rfl)
          · clear hg7
            rcases bifS h with ⟨c9, h⟩ | ⟨c9, h⟩
            · refine xcT rfl c9 ?_
              refine xseq ?_
              refine xreg ?_
              refine wpp rfl rfl ?_
              refine wpp rfl (p_u8sub (a := a0) (b := (65 : UInt8)) rfl rfl) ?_
              refine wpp rfl (p_u8cv (a := (a0 - (65 : UInt8))) rfl) ?_
              refine wpp (p := .int .i64 (w64 ((((a0 - (65 : UInt8))).toNat : Int) + (10 : Int)))) rfl rfl ?_
              refine wpp rfl rfl ?_
              obtain rfl := someS h
              refine xret ?_
              exact ⟨nofun, rfl, rfl⟩
            · refine xcF rfl c9 ?_
              refine xskip ?_
              refine xseq ?_
              refine xreg ?_
              refine wpp rfl rfl ?_
              obtain rfl := someS h
              refine xret ?_
              exact ⟨nofun, rfl, rfl⟩
end Go.Gp
end
section
set_option linter.unusedVariables false
set_option linter.unusedSimpArgs false
set_option maxRecDepth 4000
set_option maxHeartbeats 4000000
namespace Go.Gp
open Go.Vd Go.RowKit Go.Proofs
def k66_l8 : IC := (.seq (.seq (.reg [⟨(some 7), (.mov (.t 5)), none⟩, ⟨(some 8), (.mov (.t 0)), none⟩, ⟨(some 9), (.len true (.t 8)), none⟩, ⟨(some 10), (.bin .lss (.t 7) (.t 9)), none⟩]) (.cond (.t 10) .skip (.exit 0))) (.seq (.block 1 (.seq (.reg [⟨(some 13), (.mov (.t 0)), none⟩, ⟨(some 14), (.mov (.t 5)), none⟩, ⟨(some 15), (.idxs (.t 13) (.t 14)), none⟩, ⟨(some 6), (.mov (.t 15)), none⟩]) (.seq (.seq (.reg [⟨(some 16), (.mov (.t 6)), none⟩, ⟨(some 17), (.bin .neq (.t 16) (.c (.int .u8 92))), none⟩]) (.cond (.t 17) (.seq (.seq (.reg [⟨(some 18), (.mov (.t 6)), none⟩, ⟨(some 19), (.call 86 [(.t 18)]), none⟩, ⟨(some 20), (.mov (.t 19)), none⟩, ⟨(some 21), (.mov (.t 5)), (some (20, false))⟩, ⟨(some 22), (.bin .eql (.t 21) (.c (.int .i64 0))), (some (20, false))⟩, ⟨(some 23), (.mov (.t 22)), (some (20, false))⟩, ⟨(some 24), (.mov (.t 6)), (some (23, true))⟩, ⟨(some 25), (.bin .eql (.t 24) (.c (.int .u8 35))), (some (23, true))⟩, ⟨(some 26), (.mov (.t 25)), (some (23, true))⟩, ⟨(some 27), (.mov (.t 6)), (some (26, false))⟩, ⟨(some 28), (.bin .eql (.t 27) (.c (.int .u8 32))), (some (26, false))⟩, ⟨(some 29), (.pick (.t 26) (.c (.bool true)) (.t 28)), (some (23, true))⟩, ⟨(some 30), (.pick (.t 23) (.t 29) (.c (.bool false))), (some (20, false))⟩, ⟨(some 31), (.pick (.t 20) (.c (.bool true)) (.t 30)), none⟩, ⟨(some 32), (.mov (.t 31)), none⟩, ⟨(some 33), (.mov (.t 5)), (some (32, false))⟩, ⟨(some 34), (.mov (.t 0)), (some (32, false))⟩, ⟨(some 35), (.len true (.t 34)), (some (32, false))⟩, ⟨(some 36), (.bin .sub (.t 35) (.c (.int .i64 1))), (some (32, false))⟩, ⟨(some 37), (.bin .eql (.t 33) (.t 36)), (some (32, false))⟩, ⟨(some 38), (.mov (.t 37)), (some (32, false))⟩, ⟨(some 39), (.mov (.t 6)), (some (38, true))⟩, ⟨(some 40), (.bin .eql (.t 39) (.c (.int .u8 32))), (some (38, true))⟩, ⟨(some 41), (.pick (.t 38) (.t 40) (.c (.bool false))), (some (32, false))⟩, ⟨(some 42), (.pick (.t 32) (.c (.bool true)) (.t 41)), none⟩]) (.cond (.t 42) (.seq (.reg [⟨(some 2), (.mov (.c (.str []))), none⟩, ⟨(some 3), (.mov (.c (.bool false))), none⟩]) .ret) .skip)) (.seq (.reg [⟨(some 43), (.mov (.t 4)), none⟩, ⟨(some 44), (.mov (.t 6)), none⟩, ⟨(some 45), (.bsl 1 [(.t 44)]), none⟩, ⟨(some 46), (.app 5 1 1 (.t 43) (.t 45)), none⟩, ⟨(some 4), (.mov (.t 46)), none⟩]) (.exit 1))) .skip)) (.block 2 (.seq (.reg [⟨(some 48), (.mov (.t 5)), none⟩, ⟨(some 49), (.bin .add (.t 48) (.c (.int .i64 1))), none⟩, ⟨(some 50), (.mov (.t 0)), none⟩, ⟨(some 51), (.len true (.t 50)), none⟩, ⟨(some 52), (.bin .lss (.t 49) (.t 51)), none⟩, ⟨(some 53), (.mov (.t 52)), none⟩, ⟨(some 54), (.mov (.t 0)), (some (53, true))⟩, ⟨(some 55), (.mov (.t 5)), (some (53, true))⟩, ⟨(some 56), (.bin .add (.t 55) (.c (.int .i64 1))), (some (53, true))⟩, ⟨(some 57), (.idxs (.t 54) (.t 56)), (some (53, true))⟩, ⟨(some 58), (.call 86 [(.t 57)]), (some (53, true))⟩, ⟨(some 59), (.mov (.t 58)), (some (53, true))⟩, ⟨(some 60), (.mov (.t 0)), (some (59, false))⟩, ⟨(some 61), (.mov (.t 5)), (some (59, false))⟩, ⟨(some 62), (.bin .add (.t 61) (.c (.int .i64 1))), (some (59, false))⟩, ⟨(some 63), (.idxs (.t 60) (.t 62)), (some (59, false))⟩, ⟨(some 64), (.bin .eql (.t 63) (.c (.int .u8 35))), (some (59, false))⟩, ⟨(some 65), (.pick (.t 59) (.c (.bool true)) (.t 64)), (some (53, true))⟩, ⟨(some 66), (.mov (.t 65)), (some (53, true))⟩, ⟨(some 67), (.mov (.t 0)), (some (66, false))⟩, ⟨(some 68), (.mov (.t 5)), (some (66, false))⟩, ⟨(some 69), (.bin .add (.t 68) (.c (.int .i64 1))), (some (66, false))⟩, ⟨(some 70), (.idxs (.t 67) (.t 69)), (some (66, false))⟩, ⟨(some 71), (.bin .eql (.t 70) (.c (.int .u8 61))), (some (66, false))⟩, ⟨(some 72), (.pick (.t 66) (.c (.bool true)) (.t 71)), (some (53, true))⟩, ⟨(some 73), (.mov (.t 72)), (some (53, true))⟩, ⟨(some 74), (.mov (.t 0)), (some (73, false))⟩, ⟨(some 75), (.mov (.t 5)), (some (73, false))⟩, ⟨(some 76), (.bin .add (.t 75) (.c (.int .i64 1))), (some (73, false))⟩, ⟨(some 77), (.idxs (.t 74) (.t 76)), (some (73, false))⟩, ⟨(some 78), (.bin .eql (.t 77) (.c (.int .u8 32))), (some (73, false))⟩, ⟨(some 79), (.pick (.t 73) (.c (.bool true)) (.t 78)), (some (53, true))⟩, ⟨(some 80), (.pick (.t 53) (.t 79) (.c (.bool false))), none⟩, ⟨(some 47), (.mov (.t 80)), none⟩]) (.cond (.t 47) (.seq (.reg [⟨(some 81), (.mov (.t 4)), none⟩, ⟨(some 82), (.mov (.t 0)), none⟩, ⟨(some 83), (.mov (.t 5)), none⟩, ⟨(some 84), (.bin .add (.t 83) (.c (.int .i64 1))), none⟩, ⟨(some 85), (.idxs (.t 82) (.t 84)), none⟩, ⟨(some 86), (.bsl 1 [(.t 85)]), none⟩, ⟨(some 87), (.app 5 1 1 (.t 81) (.t 86)), none⟩, ⟨(some 4), (.mov (.t 87)), none⟩]) (.reg [⟨(some 88), (.mov (.t 5)), none⟩, ⟨(some 89), (.bin .add (.t 88) (.c (.int .i64 1))), none⟩, ⟨(some 5), (.mov (.t 89)), none⟩])) (.seq (.reg [⟨(some 91), (.mov (.t 5)), none⟩, ⟨(some 92), (.bin .add (.t 91) (.c (.int .i64 2))), none⟩, ⟨(some 93), (.mov (.t 0)), none⟩, ⟨(some 94), (.len true (.t 93)), none⟩, ⟨(some 95), (.bin .lss (.t 92) (.t 94)), none⟩, ⟨(some 96), (.mov (.t 95)), none⟩, ⟨(some 97), (.mov (.t 0)), (some (96, true))⟩, ⟨(some 98), (.mov (.t 5)), (some (96, true))⟩, ⟨(some 99), (.bin .add (.t 98) (.c (.int .i64 1))), (some (96, true))⟩, ⟨(some 100), (.idxs (.t 97) (.t 99)), (some (96, true))⟩, ⟨(some 101), (.call 87 [(.t 100)]), (some (96, true))⟩, ⟨(some 102), (.bin .geq (.t 101) (.c (.int .i64 0))), (some (96, true))⟩, ⟨(some 103), (.pick (.t 96) (.t 102) (.c (.bool false))), none⟩, ⟨(some 104), (.mov (.t 103)), none⟩, ⟨(some 105), (.mov (.t 0)), (some (104, true))⟩, ⟨(some 106), (.mov (.t 5)), (some (104, true))⟩, ⟨(some 107), (.bin .add (.t 106) (.c (.int .i64 2))), (some (104, true))⟩, ⟨(some 108), (.idxs (.t 105) (.t 107)), (some (104, true))⟩, ⟨(some 109), (.call 87 [(.t 108)]), (some (104, true))⟩, ⟨(some 110), (.bin .geq (.t 109) (.c (.int .i64 0))), (some (104, true))⟩, ⟨(some 111), (.pick (.t 104) (.t 110) (.c (.bool false))), none⟩, ⟨(some 90), (.mov (.t 111)), none⟩]) (.cond (.t 90) (.seq (.regd 15 [⟨(some 112), (.mov (.t 4)), none⟩, ⟨(some 113), (.mov (.t 0)), none⟩, ⟨(some 114), (.mov (.t 5)), none⟩, ⟨(some 115), (.bin .add (.t 114) (.c (.int .i64 1))), none⟩, ⟨(some 116), (.idxs (.t 113) (.t 115)), none⟩, ⟨(some 117), (.call 87 [(.t 116)]), none⟩, ⟨(some 118), (.bin .mul (.c (.int .i64 16)) (.t 117)), none⟩, ⟨(some 119), (.mov (.t 0)), none⟩, ⟨(some 120), (.mov (.t 5)), none⟩, ⟨(some 121), (.bin .add (.t 120) (.c (.int .i64 2))), none⟩, ⟨(some 122), (.idxs (.t 119) (.t 121)), none⟩, ⟨(some 123), (.call 87 [(.t 122)]), none⟩, ⟨(some 124), (.bin .add (.t 118) (.t 123)), none⟩, ⟨(some 125), (.cvi .u8 (.t 124)), none⟩, ⟨(some 126), (.bsl 1 [(.t 125)]), none⟩, ⟨(some 127), (.app 5 1 1 (.t 112) (.t 126)), none⟩, ⟨(some 4), (.mov (.t 127)), none⟩]) (.reg [⟨(some 128), (.mov (.t 5)), none⟩, ⟨(some 129), (.bin .add (.t 128) (.c (.int .i64 2))), none⟩, ⟨(some 5), (.mov (.t 129)), none⟩])) (.seq (.reg [⟨(some 2), (.mov (.c (.str []))), none⟩, ⟨(some 3), (.mov (.c (.bool false))), none⟩]) .ret))))))))) (.reg [⟨(some 11), (.mov (.t 5)), none⟩, ⟨(some 12), (.bin .add (.t 11) (.c (.int .i64 1))), none⟩, ⟨(some 5), (.mov (.t 12)), none⟩])))
def k66 : IC := (.seq (.reg [⟨(some 2), (.mov (.c (.str []))), none⟩, ⟨(some 3), (.mov (.c (.bool false))), none⟩]) (.seq (.reg [⟨(some 4), (.mov (.c .nl)), none⟩]) (.seq (.seq (.reg [⟨(some 5), (.mov (.c (.int .i64 0))), none⟩]) (.block 0 (.loop k66_l8))) (.seq (.reg [⟨(some 130), (.mov (.t 4)), none⟩, ⟨(some 131), (.cvb (.t 130)), none⟩, ⟨(some 2), (.mov (.t 131)), none⟩, ⟨(some 3), (.mov (.c (.bool true))), none⟩]) .ret))))
theorem k66_cf : cfunc Tryd.prog Tryd.f66 = some ⟨132, k66, [(.tmp 2), (.tmp 3)]⟩ := by kernel_rfl
theorem w_prefectref4_plain_l8 (N : Nat) (a0 : List UInt8) : ∀ (n : Nat) (x : Int × List UInt8) (y : (List UInt8) ⊕ (List UInt8 × Bool)), prefectref4_plain_l8 N a0 n x = some y → WX Tryd.prog (fun _ => false) (.loop k66_l8) ((fun (x : Int × List UInt8) => ⟨ofL [(0, .str a0), (4, .slr 1004 0 x.2.length), (5, .int .i64 x.1)], ofL [(1004, ⟨1, true, List.map eb x.2⟩)]⟩) x) ((Sum.elim (fun y e s => e = .exit 0 ∧ s = ⟨ofL [(4, .slr 1004 0 y.length)], ofL [(1004, ⟨1, true, List.map eb y⟩)]⟩) (fun y e s => e = .ret ∧ s = ⟨ofL [(2, .str y.1), (3, .bool y.2)], ofL []⟩) : ((List UInt8) ⊕ (List UInt8 × Bool)) → Xt → St → Prop) y) := by
  refine xloop (fun (x : Int × List UInt8) => ⟨ofL [(0, .str a0), (4, .slr 1004 0 x.2.length), (5, .int .i64 x.1)], ofL [(1004, ⟨1, true, List.map eb x.2⟩)]⟩) _ (prefectref4_plain_l8 N a0) (prefectref4_plain_l8_b N a0) (fun _ => rfl) (fun _ _ => rfl) ?_
  rintro rec ⟨v5l8, r1004l8⟩ y h
  refine xseq ?_
  refine xseq ?_
  refine xreg ?_
  refine wpp rfl rfl ?_
  refine wpp rfl rfl ?_
  refine wpp rfl rfl ?_
  refine wpp rfl rfl ?_
  rcases bifS h with ⟨c1, h⟩ | ⟨c1, h⟩
  · refine xcT rfl c1 ?_
    refine xskip ?_
    refine xjoin (fun (x : Int × List UInt8) => ⟨ofL [(0, .str a0), (4, .slr 1004 0 x.2.length), (5, .int .i64 x.1)], ofL [(1004, ⟨1, true, List.map eb x.2⟩)]⟩) (fun x => prefectref4_plain_j15 rec x.1 x.2 = some y) ?_ ?_
    · rintro ⟨v5j15, r1004j15⟩ h
      refine xreg ?_
      refine wpp rfl rfl ?_
      refine wpp (p := .int .i64 (w64 (v5j15 + (1 : Int)))) rfl rfl ?_
      refine wpp rfl rfl ?_
      exact ⟨((w64 (v5j15 + (1 : Int))), r1004j15), (canon0 ⟨rfl, rfl, rfl, trivial⟩ ⟨rfl, trivial⟩ rfl rfl), h⟩
    · skip
      refine xblk ?_
      refine xseq ?_
      refine xreg ?_
      refine wpp rfl rfl ?_
      refine wpp rfl rfl ?_
      obtain ⟨x15, hx15, h⟩ := bindS h
      refine wpp rfl (p_idx hx15 rfl rfl) ?_
      refine wpp rfl rfl ?_
      refine xseq ?_
      refine xseq ?_
      refine xreg ?_
      refine wpp rfl rfl ?_
      refine wpp (p := .bool (((x15).toNat : Int) != (92 : Int))) rfl rfl ?_
      rcases bifS h with ⟨c2, h⟩ | ⟨c2, h⟩
      · refine xcT rfl c2 ?_
        refine xseq ?_
        obtain ⟨g3, hg3, h⟩ := bindS h
        refine xseg ⟨ofL [(0, .str a0), (4, .slr 1004 0 r1004l8.length), (5, .int .i64 v5l8), (6, eb x15), (42, .bool g3)], ofL [(1004, ⟨1, true, List.map eb r1004l8⟩)]⟩ ?_ ?_
        · have h := hg3
          refine xreg ?_
          refine wpp rfl rfl ?_
          obtain ⟨x19, hx19, h⟩ := bindS h
          refine woo rfl (ocal (sat_prefectref4_special N _ _ hx19) rfl (.cons sub_rfl .nil) rfl rfl rfl) ?_
          refine wpp rfl rfl ?_
          rcases bifS h with ⟨c4, h⟩ | ⟨c4, h⟩
          · skip
            refine wsk (gn rfl c4) ?_
            refine wsk (gn rfl c4) ?_
            refine wsk (gn rfl c4) ?_
            refine wsk (gu rfl) ?_
            refine wsk (gu rfl) ?_
            refine wsk (gu rfl) ?_
            refine wsk (gu rfl) ?_
            refine wsk (gu rfl) ?_
            refine wsk (gu rfl) ?_
            refine wsk (gn rfl c4) ?_
            refine wpp rfl (p_pick1 c4 rfl rfl) ?_
            refine wpp rfl rfl ?_
            refine wsk rfl ?_
            refine wsk rfl ?_
            refine wsk rfl ?_
            refine wsk rfl ?_
            refine wsk rfl ?_
            refine wsk rfl ?_
            refine wsk (gu rfl) ?_
            refine wsk (gu rfl) ?_
            refine wsk rfl ?_
            refine wpp rfl rfl ?_
            obtain rfl := someS h
            exact (canon0 ⟨rfl, rfl, rfl, rfl, rfl, trivial⟩ ⟨rfl, trivial⟩ rfl rfl)
          · skip
            refine wpp (gy rfl c4) rfl ?_
            refine wpp (gy rfl c4) rfl ?_
            refine wpp (gy rfl c4) rfl ?_
            rcases bifS h with ⟨c5, h⟩ | ⟨c5, h⟩
            · skip
              refine wpp (gy rfl c5) rfl ?_
              refine wpp (p := .bool (((x15).toNat : Int) == (35 : Int))) (gy rfl c5) rfl ?_
              refine wpp (gy rfl c5) rfl ?_
              rcases bifS h with ⟨c6, h⟩ | ⟨c6, h⟩
              · skip
                refine wsk (gn rfl c6) ?_
                refine wsk (gn rfl c6) ?_
                refine wpp (gy rfl c5) (p_pick1 c6 rfl rfl) ?_
                refine wpp (gy rfl c4) (p_pick1 c5 rfl rfl) ?_
                refine wpp rfl (p_pick0 c4 rfl rfl) ?_
                refine wpp rfl rfl ?_
                refine wsk rfl ?_
                refine wsk rfl ?_
                refine wsk rfl ?_
                refine wsk rfl ?_
                refine wsk rfl ?_
                refine wsk rfl ?_
                refine wsk (gu rfl) ?_
                refine wsk (gu rfl) ?_
                refine wsk rfl ?_
                refine wpp rfl rfl ?_
                obtain rfl := someS h
                exact (canon0 ⟨rfl, rfl, rfl, rfl, rfl, trivial⟩ ⟨rfl, trivial⟩ rfl rfl)
              · skip
                refine wpp (gy rfl c6) rfl ?_
                refine wpp (p := .bool (((x15).toNat : Int) == (32 : Int))) (gy rfl c6) rfl ?_
                refine wpp (gy rfl c5) (p_pick0 c6 rfl rfl) ?_
                refine wpp (gy rfl c4) (p_pick1 c5 rfl rfl) ?_
                refine wpp rfl (p_pick0 c4 rfl rfl) ?_
                refine wpp rfl rfl ?_
                rcases bifS h with ⟨c7, h⟩ | ⟨c7, h⟩
                · skip
                  refine wsk (gn rfl c7) ?_
                  refine wsk (gn rfl c7) ?_
                  refine wsk (gn rfl c7) ?_
                  refine wsk (gn rfl c7) ?_
                  refine wsk (gn rfl c7) ?_
                  refine wsk (gn rfl c7) ?_
                  refine wsk (gu rfl) ?_
                  refine wsk (gu rfl) ?_
                  refine wsk (gn rfl c7) ?_
                  refine wpp rfl (p_pick1 c7 rfl rfl) ?_
                  obtain rfl := someS h
                  exact (canon0 ⟨rfl, rfl, rfl, rfl, rfl, trivial⟩ ⟨rfl, trivial⟩ rfl rfl)
                · skip
                  refine wpp (gy rfl c7) rfl ?_
                  refine wpp (gy rfl c7) rfl ?_
                  refine wpp (gy rfl c7) rfl ?_
                  refine wpp (p := .int .i64 (w64 ((a0.length : Int) - (1 : Int)))) (gy rfl c7) rfl ?_
                  refine wpp (gy rfl c7) rfl ?_
                  refine wpp (gy rfl c7) rfl ?_
                  rcases bifS h with ⟨c8, h⟩ | ⟨c8, h⟩
                  · skip
                    refine wpp (gy rfl c8) rfl ?_
                    refine wpp (p := .bool (((x15).toNat : Int) == (32 : Int))) (gy rfl c8) rfl ?_
                    refine wpp (gy rfl c7) (p_pick1 c8 rfl rfl) ?_
                    refine wpp rfl (p_pick0 c7 rfl rfl) ?_
                    obtain rfl := someS h
                    exact (canon0 ⟨rfl, rfl, rfl, rfl, rfl, trivial⟩ ⟨rfl, trivial⟩ rfl rfl)
                  · skip
                    refine wsk (gn rfl c8) ?_
                    refine wsk (gn rfl c8) ?_
                    refine wpp (gy rfl c7) (p_pick0 c8 rfl rfl) ?_
                    refine wpp rfl (p_pick0 c7 rfl rfl) ?_
                    obtain rfl := someS h
                    exact (canon0 ⟨rfl, rfl, rfl, rfl, rfl, trivial⟩ ⟨rfl, trivial⟩ rfl rfl)
            · skip
              refine wsk (gn rfl c5) ?_
              refine wsk (gn rfl c5) ?_
              refine wsk (gn rfl c5) ?_
              refine wsk (gu rfl) ?_
              refine wsk (gu rfl) ?_
              refine wsk (gn rfl c5) ?_
              refine wpp (gy rfl c4) (p_pick0 c5 rfl rfl) ?_
              refine wpp rfl (p_pick0 c4 rfl rfl) ?_
              refine wpp rfl rfl ?_
              refine wpp rfl rfl ?_
              refine wpp rfl rfl ?_
              refine wpp rfl rfl ?_
              refine wpp (p := .int .i64 (w64 ((a0.length : Int) - (1 : Int)))) rfl rfl ?_
              refine wpp rfl rfl ?_
              refine wpp rfl rfl ?_
              rcases bifS h with ⟨c9, h⟩ | ⟨c9, h⟩
              · skip
                refine wpp (gy rfl c9) rfl ?_
                refine wpp (p := .bool (((x15).toNat : Int) == (32 : Int))) (gy rfl c9) rfl ?_
                refine wpp rfl (p_pick1 c9 rfl rfl) ?_
                refine wpp rfl rfl ?_
                obtain rfl := someS h
                exact (canon0 ⟨rfl, rfl, rfl, rfl, rfl, trivial⟩ ⟨rfl, trivial⟩ rfl rfl)
              · skip
                refine wsk (gn rfl c9) ?_
                refine wsk (gn rfl c9) ?_
                refine wpp rfl (p_pick0 c9 rfl rfl) ?_
                refine wpp rfl rfl ?_
                obtain rfl := someS h
                exact (canon0 ⟨rfl, rfl, rfl, rfl, rfl, trivial⟩ ⟨rfl, trivial⟩ rfl rfl)
        · clear hg3
          rcases bifS h with ⟨c10, h⟩ | ⟨c10, h⟩
          · refine xcT rfl c10 ?_
            refine xseq ?_
            refine xreg ?_
            refine wpp rfl rfl ?_
            refine wpp rfl rfl ?_
            obtain rfl := someS h
            exact xretn (st1 := ⟨ofL [(2, .str ([] : List UInt8)), (3, .bool false)], ofL []⟩) (canon0 ⟨rfl, rfl, trivial⟩ trivial rfl rfl) ⟨rfl, rfl⟩
          · refine xcF rfl c10 ?_
            refine xskip ?_
            refine xseq ?_
            refine xreg ?_
            refine wpp rfl rfl ?_
            refine wpp rfl rfl ?_
            refine woo rfl (obsl 45 rfl rfl rfl) ?_
            obtain ⟨x46, hx46, h⟩ := bindS h
            refine wapp (f := eb) 46 hx46 rfl rfl rfl rfl rfl (el_row rfl (full_row (f := eb) (l := [x15]))) rfl rfl rfl rfl ?_
            refine wpp rfl rfl ?_
            refine xexit ?_
            exact ⟨(v5l8, x46), (Norm.trans (rename 46 1004 rfl rfl) (canon0 ⟨rfl, rfl, rfl, trivial⟩ ⟨rfl, trivial⟩ rfl rfl)), h⟩
      · refine xcF rfl c2 ?_
        refine xskip ?_
        refine xblk ?_
        obtain ⟨g11, hg11, h⟩ := bindS h
        refine xseg ⟨ofL [(0, .str a0), (4, .slr 1004 0 r1004l8.length), (5, .int .i64 v5l8), (47, .bool g11)], ofL [(1004, ⟨1, true, List.map eb r1004l8⟩)]⟩ ?_ ?_
        · have h := hg11
          refine xreg ?_
          refine wpp rfl rfl ?_
          refine wpp (p := .int .i64 (w64 (v5l8 + (1 : Int)))) rfl rfl ?_
          refine wpp rfl rfl ?_
          refine wpp rfl rfl ?_
          refine wpp rfl rfl ?_
          refine wpp rfl rfl ?_
          rcases bifS h with ⟨c12, h⟩ | ⟨c12, h⟩
          · skip
            refine wpp (gy rfl c12) rfl ?_
            refine wpp (gy rfl c12) rfl ?_
            refine wpp (p := .int .i64 (w64 (v5l8 + (1 : Int)))) (gy rfl c12) rfl ?_
            obtain ⟨x57, hx57, h⟩ := bindS h
            refine wpp (gy rfl c12) (p_idx hx57 rfl rfl) ?_
            obtain ⟨x58, hx58, h⟩ := bindS h
            refine woo (gy rfl c12) (ocal (sat_prefectref4_special N _ _ hx58) rfl (.cons sub_rfl .nil) rfl rfl rfl) ?_
            refine wpp (gy rfl c12) rfl ?_
            rcases bifS h with ⟨c13, h⟩ | ⟨c13, h⟩
            · skip
              refine wsk (gn rfl c13) ?_
              refine wsk (gn rfl c13) ?_
              refine wsk (gn rfl c13) ?_
              refine wsk (gn rfl c13) ?_
              refine wsk (gn rfl c13) ?_
              refine wpp (gy rfl c12) (p_pick1 c13 rfl rfl) ?_
              refine wpp (gy rfl c12) rfl ?_
              refine wsk rfl ?_
              refine wsk rfl ?_
              refine wsk rfl ?_
              refine wsk rfl ?_
              refine wsk rfl ?_
              refine wpp (gy rfl c12) rfl ?_
              refine wpp (gy rfl c12) rfl ?_
              refine wsk rfl ?_
              refine wsk rfl ?_
              refine wsk rfl ?_
              refine wsk rfl ?_
              refine wsk rfl ?_
              refine wpp (gy rfl c12) rfl ?_
              refine wpp rfl (p_pick1 c12 rfl rfl) ?_
              refine wpp rfl rfl ?_
              obtain rfl := someS h
              exact (canon0 ⟨rfl, rfl, rfl, rfl, trivial⟩ ⟨rfl, trivial⟩ rfl rfl)
            · skip
              refine wpp (gy rfl c13) rfl ?_
              refine wpp (gy rfl c13) rfl ?_
              refine wpp (p := .int .i64 (w64 (v5l8 + (1 : Int)))) (gy rfl c13) rfl ?_
              obtain ⟨x63, hx63, h⟩ := bindS h
              refine wpp (gy rfl c13) (p_idx hx63 rfl rfl) ?_
              refine wpp (p := .bool (((x63).toNat : Int) == (35 : Int))) (gy rfl c13) rfl ?_
              refine wpp (gy rfl c12) (p_pick0 c13 rfl rfl) ?_
              refine wpp (gy rfl c12) rfl ?_
              rcases bifS h with ⟨c14, h⟩ | ⟨c14, h⟩
              · skip
                refine wsk (gn rfl c14) ?_
                refine wsk (gn rfl c14) ?_
                refine wsk (gn rfl c14) ?_
                refine wsk (gn rfl c14) ?_
                refine wsk (gn rfl c14) ?_
                refine wpp (gy rfl c12) (p_pick1 c14 rfl rfl) ?_
                refine wpp (gy rfl c12) rfl ?_
                refine wsk rfl ?_
                refine wsk rfl ?_
                refine wsk rfl ?_
                refine wsk rfl ?_
                refine wsk rfl ?_
                refine wpp (gy rfl c12) rfl ?_
                refine wpp rfl (p_pick1 c12 rfl rfl) ?_
                refine wpp rfl rfl ?_
                obtain rfl := someS h
                exact (canon0 ⟨rfl, rfl, rfl, rfl, trivial⟩ ⟨rfl, trivial⟩ rfl rfl)
              · skip
                refine wpp (gy rfl c14) rfl ?_
                refine wpp (gy rfl c14) rfl ?_
                refine wpp (p := .int .i64 (w64 (v5l8 + (1 : Int)))) (gy rfl c14) rfl ?_
                obtain ⟨x70, hx70, h⟩ := bindS h
                refine wpp (gy rfl c14) (p_idx hx70 rfl rfl) ?_
                refine wpp (p := .bool (((x70).toNat : Int) == (61 : Int))) (gy rfl c14) rfl ?_
                refine wpp (gy rfl c12) (p_pick0 c14 rfl rfl) ?_
                refine wpp (gy rfl c12) rfl ?_
                rcases bifS h with ⟨c15, h⟩ | ⟨c15, h⟩
                · skip
                  refine wsk (gn rfl c15) ?_
                  refine wsk (gn rfl c15) ?_
                  refine wsk (gn rfl c15) ?_
                  refine wsk (gn rfl c15) ?_
                  refine wsk (gn rfl c15) ?_
                  refine wpp (gy rfl c12) (p_pick1 c15 rfl rfl) ?_
                  refine wpp rfl (p_pick1 c12 rfl rfl) ?_
                  refine wpp rfl rfl ?_
                  obtain rfl := someS h
                  exact (canon0 ⟨rfl, rfl, rfl, rfl, trivial⟩ ⟨rfl, trivial⟩ rfl rfl)
                · skip
                  refine wpp (gy rfl c15) rfl ?_
                  refine wpp (gy rfl c15) rfl ?_
                  refine wpp (p := .int .i64 (w64 (v5l8 + (1 : Int)))) (gy rfl c15) rfl ?_
                  obtain ⟨x77, hx77, h⟩ := bindS h
                  refine wpp (gy rfl c15) (p_idx hx77 rfl rfl) ?_
                  refine wpp (p := .bool (((x77).toNat : Int) == (32 : Int))) (gy rfl c15) rfl ?_
                  refine wpp (gy rfl c12) (p_pick0 c15 rfl rfl) ?_
                  refine wpp rfl (p_pick1 c12 rfl rfl) ?_
                  refine wpp rfl rfl ?_
                  obtain rfl := someS h
                  exact (canon0 ⟨rfl, rfl, rfl, rfl, trivial⟩ ⟨rfl, trivial⟩ rfl rfl)
          · skip
            refine wsk (gn rfl c12) ?_
            refine wsk (gn rfl c12) ?_
            refine wsk (gn rfl c12) ?_
            refine wsk (gn rfl c12) ?_
            refine wsk (gn rfl c12) ?_
            refine wsk (gn rfl c12) ?_
            refine wsk (gu rfl) ?_
            refine wsk (gu rfl) ?_
            refine wsk (gu rfl) ?_
            refine wsk (gu rfl) ?_
            refine wsk (gu rfl) ?_
            refine wsk (gn rfl c12) ?_
            refine wsk (gn rfl c12) ?_
            refine wsk (gu rfl) ?_
            refine wsk (gu rfl) ?_
            refine wsk (gu rfl) ?_
            refine wsk (gu rfl) ?_
            refine wsk (gu rfl) ?_
            refine wsk (gn rfl c12) ?_
            refine wsk (gn rfl c12) ?_
            refine wsk (gu rfl) ?_
            refine wsk (gu rfl) ?_
            refine wsk (gu rfl) ?_
            refine wsk (gu rfl) ?_
            refine wsk (gu rfl) ?_
            refine wsk (gn rfl c12) ?_
            refine wpp rfl (p_pick0 c12 rfl rfl) ?_
            refine wpp rfl rfl ?_
            obtain rfl := someS h
            exact (canon0 ⟨rfl, rfl, rfl, rfl, trivial⟩ ⟨rfl, trivial⟩ rfl rfl)
        · clear hg11
          rcases bifS h with ⟨c16, h⟩ | ⟨c16, h⟩
          · refine xcT rfl c16 ?_
            refine xseq ?_
            refine xreg ?_
            refine wpp rfl rfl ?_
            refine wpp rfl rfl ?_
            refine wpp rfl rfl ?_
            refine wpp (p := .int .i64 (w64 (v5l8 + (1 : Int)))) rfl rfl ?_
            obtain ⟨x85, hx85, h⟩ := bindS h
            refine wpp rfl (p_idx hx85 rfl rfl) ?_
            refine woo rfl (obsl 86 rfl rfl rfl) ?_
            obtain ⟨x87, hx87, h⟩ := bindS h
            refine wapp (f := eb) 87 hx87 rfl rfl rfl rfl rfl (el_row rfl (full_row (f := eb) (l := [x85]))) rfl rfl rfl rfl ?_
            refine wpp rfl rfl ?_
            refine xreg ?_
            refine wpp rfl rfl ?_
            refine wpp (p := .int .i64 (w64 (v5l8 + (1 : Int)))) rfl rfl ?_
            refine wpp rfl rfl ?_
            exact ⟨((w64 (v5l8 + (1 : Int))), x87), (Norm.trans (rename 87 1004 rfl rfl) (canon0 ⟨rfl, rfl, rfl, trivial⟩ ⟨rfl, trivial⟩ rfl rfl)), h⟩
          · refine xcF rfl c16 ?_
            obtain ⟨g17, hg17, h⟩ := bindS h
            refine xseg ⟨ofL [(0, .str a0), (4, .slr 1004 0 r1004l8.length), (5, .int .i64 v5l8), (90, .bool g17)], ofL [(1004, ⟨1, true, List.map eb r1004l8⟩)]⟩ ?_ ?_
            · have h := hg17
              refine xreg ?_
              refine wpp rfl rfl ?_
              refine wpp (p := .int .i64 (w64 (v5l8 + (2 : Int)))) rfl rfl ?_
              refine wpp rfl rfl ?_
              refine wpp rfl rfl ?_
              refine wpp rfl rfl ?_
              refine wpp rfl rfl ?_
              rcases bifS h with ⟨c18, h⟩ | ⟨c18, h⟩
              · skip
                refine wpp (gy rfl c18) rfl ?_
                refine wpp (gy rfl c18) rfl ?_
                refine wpp (p := .int .i64 (w64 (v5l8 + (1 : Int)))) (gy rfl c18) rfl ?_
                obtain ⟨x100, hx100, h⟩ := bindS h
                refine wpp (gy rfl c18) (p_idx hx100 rfl rfl) ?_
                obtain ⟨x101, hx101, h⟩ := bindS h
                refine woo (gy rfl c18) (ocal (sat_prefectref4_digit N _ _ hx101) rfl (.cons sub_rfl .nil) rfl rfl rfl) ?_
                refine wpp (gy rfl c18) rfl ?_
                refine wpp rfl (p_pick1 c18 rfl rfl) ?_
                refine wpp rfl rfl ?_
                rcases bifS h with ⟨c19, h⟩ | ⟨c19, h⟩
                · skip
                  refine wpp (gy rfl c19) rfl ?_
                  refine wpp (gy rfl c19) rfl ?_
                  refine wpp (p := .int .i64 (w64 (v5l8 + (2 : Int)))) (gy rfl c19) rfl ?_
                  obtain ⟨x108, hx108, h⟩ := bindS h
                  refine wpp (gy rfl c19) (p_idx hx108 rfl rfl) ?_
                  obtain ⟨x109, hx109, h⟩ := bindS h
                  refine woo (gy rfl c19) (ocal (sat_prefectref4_digit N _ _ hx109) rfl (.cons sub_rfl .nil) rfl rfl rfl) ?_
                  refine wpp (gy rfl c19) rfl ?_
                  refine wpp rfl (p_pick1 c19 rfl rfl) ?_
                  refine wpp rfl rfl ?_
                  obtain rfl := someS h
                  exact (canon0 ⟨rfl, rfl, rfl, rfl, trivial⟩ ⟨rfl, trivial⟩ rfl rfl)
                · skip
                  refine wsk (gn rfl c19) ?_
                  refine wsk (gn rfl c19) ?_
                  refine wsk (gn rfl c19) ?_
                  refine wsk (gn rfl c19) ?_
                  refine wsk (gn rfl c19) ?_
                  refine wsk (gn rfl c19) ?_
                  refine wpp rfl (p_pick0 c19 rfl rfl) ?_
                  refine wpp rfl rfl ?_
                  obtain rfl := someS h
                  exact (canon0 ⟨rfl, rfl, rfl, rfl, trivial⟩ ⟨rfl, trivial⟩ rfl rfl)
              · skip
                refine wsk (gn rfl c18) ?_
                refine wsk (gn rfl c18) ?_
                refine wsk (gn rfl c18) ?_
                refine wsk (gn rfl c18) ?_
                refine wsk (gn rfl c18) ?_
                refine wsk (gn rfl c18) ?_
                refine wpp rfl (p_pick0 c18 rfl rfl) ?_
                refine wpp rfl rfl ?_
                refine wsk rfl ?_
                refine wsk rfl ?_
                refine wsk rfl ?_
                refine wsk rfl ?_
                refine wsk rfl ?_
                refine wsk rfl ?_
                refine wpp rfl rfl ?_
                refine wpp rfl rfl ?_
                obtain rfl := someS h
                exact (canon0 ⟨rfl, rfl, rfl, rfl, trivial⟩ ⟨rfl, trivial⟩ rfl rfl)
            · clear hg17
              rcases bifS h with ⟨c20, h⟩ | ⟨c20, h⟩
              · refine xcT rfl c20 ?_
                refine xseq ?_
                refine xregd ?_
                refine wdp rfl rfl ?_
                refine wdp rfl rfl ?_
                refine wdp rfl rfl ?_
                refine wdp (p := .int .i64 (w64 (v5l8 + (1 : Int)))) rfl rfl ?_
                obtain ⟨x116, hx116, h⟩ := bindS h
                refine wdp rfl (p_idx hx116 rfl rfl) ?_
                obtain ⟨x117, hx117, h⟩ := bindS h
                refine wdN rfl (pcal (sat_prefectref4_digit N _ _ hx117) rfl (.cons sub_rfl .nil) rfl rfl rfl) no_fresh ?_
                refine wdp (p := .int .i64 (w64 ((16 : Int) * x117))) rfl rfl ?_
                refine wdp rfl rfl ?_
                refine wdp rfl rfl ?_
                refine wdp (p := .int .i64 (w64 (v5l8 + (2 : Int)))) rfl rfl ?_
                obtain ⟨x122, hx122, h⟩ := bindS h
                refine wdp rfl (p_idx hx122 rfl rfl) ?_
                obtain ⟨x123, hx123, h⟩ := bindS h
                refine wdN rfl (pcal (sat_prefectref4_digit N _ _ hx123) rfl (.cons sub_rfl .nil) rfl rfl rfl) no_fresh ?_
                refine wdp (p := .int .i64 (w64 ((w64 ((16 : Int) * x117)) + x123))) rfl rfl ?_
                refine wdp rfl (p_cvu8 rfl) ?_
                refine wdN rfl (.bsl _ 126 rfl (okEl_spec rfl) rfl) (fresh1 rfl) ?_
                obtain ⟨x127, hx127, h⟩ := bindS h
                refine wapp (f := eb) 127 hx127 rfl rfl rfl rfl rfl (el_row rfl (full_row (f := eb) (l := [(byte (w64 ((w64 ((16 : Int) * x117)) + x123)))]))) rfl rfl rfl rfl ?_
                refine wpp rfl rfl ?_
                refine xreg ?_
                refine wpp rfl rfl ?_
                refine wpp (p := .int .i64 (w64 (v5l8 + (2 : Int)))) rfl rfl ?_
                refine wpp rfl rfl ?_
                exact ⟨((w64 (v5l8 + (2 : Int))), x127), (Norm.trans (rename 127 1004 rfl rfl) (canon0 ⟨rfl, rfl, rfl, trivial⟩ ⟨rfl, trivial⟩ rfl rfl)), h⟩
              · refine xcF rfl c20 ?_
                refine xseq ?_
                refine xreg ?_
                refine wpp rfl rfl ?_
                refine wpp rfl rfl ?_
                obtain rfl := someS h
                exact xretn (st1 := ⟨ofL [(2, .str ([] : List UInt8)), (3, .bool false)], ofL []⟩) (canon0 ⟨rfl, rfl, trivial⟩ trivial rfl rfl) ⟨rfl, rfl⟩
  · refine xcF rfl c1 ?_
    obtain rfl := someS h
    exact xexitn (st1 := ⟨ofL [(4, .slr 1004 0 r1004l8.length)], ofL [(1004, ⟨1, true, List.map eb r1004l8⟩)]⟩) (canon0 ⟨rfl, trivial⟩ ⟨rfl, trivial⟩ rfl rfl) ⟨rfl, rfl⟩
theorem sat_prefectref4_plain (N : Nat) (a0 : List UInt8) (r : List UInt8 × Bool) (h : prefectref4_plain N a0 = some r) : Sat Tryd.prog 66 noRows [.str a0] (.tup [.str r.1, .bool r.2]) noRows := by
  refine xsat mixed Tryd.func66 k66_cf (rs := [.str r.1, .bool r.2]) rfl rfl ?_
  refine xseq ?_
  refine xreg ?_
  refine wpp rfl rfl ?_
  refine wpp rfl rfl ?_
  refine xseq ?_
  refine xreg ?_
  refine wpp rfl rfl ?_
  refine xseq ?_
  refine xseq ?_
  refine xreg ?_
  refine wpp rfl rfl ?_
  refine xblk ?_
  obtain ⟨y21, hy21, h⟩ := bindS h
  refine xloopU (st1 := ⟨ofL [(0, .str a0), (4, .slr 1004 0 ([].length)), (5, .int .i64 0)], ofL [(1004, ⟨1, true, List.map eb []⟩)]⟩) (Norm.trans (nlrow 4 1004 1 true rfl rfl rfl) (canon0 ⟨rfl, rfl, rfl, trivial⟩ ⟨rfl, trivial⟩ rfl rfl)) (w_prefectref4_plain_l8 N a0 N _ _ hy21) ?_
  clear hy21
  rcases y21 with y21 | y21
  · rintro e s ⟨rfl, rfl⟩
    refine xseq ?_
    refine xreg ?_
    refine wpp rfl rfl ?_
    refine wpp rfl (p_cvbr (l := y21) rfl rfl (full_row (f := eb) (l := y21))) ?_
    refine wpp rfl rfl ?_
    refine wpp rfl rfl ?_
    obtain rfl := someS h
    refine xret ?_
    exact ⟨nofun, rfl, rfl⟩
  · rintro e s ⟨rfl, rfl⟩
    obtain rfl := someS h
    exact ⟨nofun, rfl, rfl⟩
end Go.Gp
end
