/- A part of the proof: functions of the program and what they compute. -/
import Derived.Test.YtbndinjjpafmjaaDoorA6
import Derived.Test.YtbndinjjpafmjaaDoorA12
section
set_option linter.unusedVariables false
set_option linter.unusedSimpArgs false
set_option maxRecDepth 4000
set_option maxHeartbeats 4000000
namespace Go.Gp
open Go.Vd Go.RowKit Go.Proofs
def k18 : IC := (.seq (.reg [⟨(some 0), (.mov (.c (.bool false))), none⟩]) (.seq (.reg [⟨(some 6), (.call 22 [(.c (.str [103, 114, 97, 110, 116, 32, 114, 115, 32, 115, 117, 98, 32, 99, 110, 44, 115, 110, 32, 100, 110, 58, 99, 110, 61, 97, 32, 98]))]), none⟩, ⟨(some 5), (.mov (.t 6)), none⟩, ⟨(some 7), (.ext 0 (.t 5)), none⟩, ⟨(some 8), (.ext 1 (.t 5)), none⟩, ⟨(some 1), (.box 41 (.c (.agg [(.bool false), (.str []), (.bool false), (.str []), .nl]))), none⟩, ⟨none, (.store 5 (.t 1) (.t 7)), none⟩, ⟨(some 2), (.mov (.t 8)), none⟩]) (.seq (.reg [⟨(some 10), (.call 22 [(.c (.str [103, 114, 97, 110, 116, 32, 115, 114, 32, 115, 117, 98, 32, 42, 32, 97, 110, 121]))]), none⟩, ⟨(some 9), (.mov (.t 10)), none⟩, ⟨(some 11), (.ext 0 (.t 9)), none⟩, ⟨(some 12), (.ext 1 (.t 9)), none⟩, ⟨(some 3), (.box 41 (.c (.agg [(.bool false), (.str []), (.bool false), (.str []), .nl]))), none⟩, ⟨none, (.store 5 (.t 3) (.t 11)), none⟩, ⟨(some 4), (.mov (.t 12)), none⟩]) (.seq (.reg [⟨(some 13), (.mov (.t 2)), none⟩, ⟨(some 14), (.bin .eql (.t 13) (.c (.int .i64 0))), none⟩, ⟨(some 15), (.mov (.t 14)), none⟩, ⟨(some 16), (.fda 0 (.t 1)), (some (15, true))⟩, ⟨(some 17), (.load 1 false (.t 16)), (some (15, true))⟩, ⟨(some 18), (.un .not (.t 17)), (some (15, true))⟩, ⟨(some 19), (.pick (.t 15) (.t 18) (.c (.bool false))), none⟩, ⟨(some 20), (.mov (.t 19)), none⟩, ⟨(some 21), (.fda 1 (.t 1)), (some (20, true))⟩, ⟨(some 22), (.load 1 false (.t 21)), (some (20, true))⟩, ⟨(some 23), (.bin .eql (.t 22) (.c (.str [114, 115]))), (some (20, true))⟩, ⟨(some 24), (.pick (.t 20) (.t 23) (.c (.bool false))), none⟩, ⟨(some 25), (.mov (.t 24)), none⟩, ⟨(some 26), (.fda 2 (.t 1)), (some (25, true))⟩, ⟨(some 27), (.load 1 false (.t 26)), (some (25, true))⟩, ⟨(some 28), (.pick (.t 25) (.t 27) (.c (.bool false))), none⟩, ⟨(some 29), (.mov (.t 28)), none⟩, ⟨(some 30), (.fda 4 (.t 1)), (some (29, true))⟩, ⟨(some 31), (.load 1 false (.t 30)), (some (29, true))⟩, ⟨(some 32), (.len false (.t 31)), (some (29, true))⟩, ⟨(some 33), (.bin .eql (.t 32) (.c (.int .i64 2))), (some (29, true))⟩, ⟨(some 34), (.pick (.t 29) (.t 33) (.c (.bool false))), none⟩, ⟨(some 35), (.mov (.t 34)), none⟩, ⟨(some 36), (.fda 3 (.t 1)), (some (35, true))⟩, ⟨(some 37), (.load 1 false (.t 36)), (some (35, true))⟩, ⟨(some 38), (.bin .eql (.t 37) (.c (.str [100, 110, 58, 99, 110, 61, 97, 32, 98]))), (some (35, true))⟩, ⟨(some 39), (.pick (.t 35) (.t 38) (.c (.bool false))), none⟩, ⟨(some 40), (.mov (.t 39)), none⟩, ⟨(some 41), (.mov (.t 4)), (some (40, true))⟩, ⟨(some 42), (.bin .eql (.t 41) (.c (.int .i64 20))), (some (40, true))⟩, ⟨(some 43), (.pick (.t 40) (.t 42) (.c (.bool false))), none⟩, ⟨(some 44), (.mov (.t 43)), none⟩, ⟨(some 45), (.load 5 true (.t 1)), (some (44, true))⟩, ⟨(some 46), (.call 25 [(.t 45)]), (some (44, true))⟩, ⟨(some 47), (.bin .eql (.t 46) (.c (.str [103, 114, 97, 110, 116, 32, 114, 115, 32, 115, 117, 98, 32, 99, 110, 44, 115, 110, 32, 100, 110, 58, 99, 110, 61, 97, 32, 98]))), (some (44, true))⟩, ⟨(some 48), (.pick (.t 44) (.t 47) (.c (.bool false))), none⟩, ⟨(some 49), (.mov (.t 48)), none⟩, ⟨(some 50), (.load 5 true (.t 1)), (some (49, true))⟩, ⟨(some 51), (.call 24 [(.t 50)]), (some (49, true))⟩, ⟨(some 52), (.pick (.t 49) (.t 51) (.c (.bool false))), none⟩, ⟨(some 53), (.mov (.t 52)), none⟩, ⟨(some 54), (.build [(.bool false), (.str []), (.bool false), (.str []), .nl] []), (some (53, true))⟩, ⟨(some 55), (.call 24 [(.t 54)]), (some (53, true))⟩, ⟨(some 56), (.un .not (.t 55)), (some (53, true))⟩, ⟨(some 57), (.pick (.t 53) (.t 56) (.c (.bool false))), none⟩, ⟨(some 58), (.mov (.t 57)), none⟩, ⟨(some 59), (.load 5 true (.t 1)), (some (58, true))⟩, ⟨(some 60), (.load 5 true (.t 1)), (some (58, true))⟩, ⟨(some 61), (.call 26 [(.t 59), (.t 60)]), (some (58, true))⟩, ⟨(some 62), (.pick (.t 58) (.t 61) (.c (.bool false))), none⟩, ⟨(some 0), (.mov (.t 62)), none⟩]) .ret))))
theorem k18_cf : cfunc Tryd.prog Tryd.f18 = some ⟨63, k18, [(.tmp 0)]⟩ := by kernel_rfl
theorem sat_prefectlaw18_known (N : Nat)  (r : Bool) (h : prefectlaw18_known N  = some r) : Sat Tryd.prog 18 noRows [] (.bool r) noRows := by
  refine xsat mixed Tryd.func18 k18_cf (rs := [.bool r]) rfl rfl ?_
  refine xseq ?_
  refine xreg ?_
  refine wpp rfl rfl ?_
  refine xseq ?_
  refine xreg ?_
  obtain ⟨x6, hx6, h⟩ := bindS h
  refine woo rfl (ocal (sat_aci_Parse N _ _ hx6) rfl (.cons sub_rfl .nil) rfl rfl rfl) ?_
  refine wpp rfl rfl ?_
  refine wpp rfl rfl ?_
  refine wpp rfl rfl ?_
  refine woo rfl (obox 1 rfl rfl rfl rfl rfl) ?_
  refine wstb (e' := e_api_Rule x6.1) rfl rfl rfl rfl rfl rfl rfl rfl nofun rfl ?_
  refine wpp rfl rfl ?_
  refine xseq ?_
  refine xreg ?_
  obtain ⟨x10, hx10, h⟩ := bindS h
  refine woo rfl (ocal (sat_aci_Parse N _ _ hx10) rfl (.cons sub_rfl .nil) rfl rfl rfl) ?_
  refine wpp rfl rfl ?_
  refine wpp rfl rfl ?_
  refine wpp rfl rfl ?_
  refine woo rfl (obox 3 rfl rfl rfl rfl rfl) ?_
  refine wstb (e' := e_api_Rule x10.1) rfl rfl rfl rfl rfl rfl rfl rfl nofun rfl ?_
  refine wpp rfl rfl ?_
  obtain ⟨g1, hg1, h⟩ := bindS h
  refine xseg ⟨ofL [(0, .bool g1)], ofL []⟩ ?_ ?_
  · have h := hg1
    refine xreg ?_
    refine wpp rfl rfl ?_
    refine wpp rfl rfl ?_
    refine wpp rfl rfl ?_
    rcases bifS h with ⟨c2, h⟩ | ⟨c2, h⟩
    · skip
      refine wpp (gy rfl c2) rfl ?_
      refine wpp (gy rfl c2) rfl ?_
      refine wpp (gy rfl c2) rfl ?_
      refine wpp rfl (p_pick1 c2 rfl rfl) ?_
      refine wpp rfl rfl ?_
      rcases bifS h with ⟨c3, h⟩ | ⟨c3, h⟩
      · skip
        refine wpp (gy rfl c3) rfl ?_
        refine wpp (gy rfl c3) rfl ?_
        refine wpp (gy rfl c3) rfl ?_
        refine wpp rfl (p_pick1 c3 rfl rfl) ?_
        refine wpp rfl rfl ?_
        rcases bifS h with ⟨c4, h⟩ | ⟨c4, h⟩
        · skip
          refine wpp (gy rfl c4) rfl ?_
          refine wpp (gy rfl c4) rfl ?_
          refine wpp rfl (p_pick1 c4 rfl rfl) ?_
          refine wpp rfl rfl ?_
          rcases bifS h with ⟨c5, h⟩ | ⟨c5, h⟩
          · skip
            refine wpp (gy rfl c5) rfl ?_
            refine wpp (gy rfl c5) rfl ?_
            refine wpp (gy rfl c5) (p_lens rfl) ?_
            refine wpp (gy rfl c5) rfl ?_
            refine wpp rfl (p_pick1 c5 rfl rfl) ?_
            refine wpp rfl rfl ?_
            rcases bifS h with ⟨c6, h⟩ | ⟨c6, h⟩
            · skip
              refine wpp (gy rfl c6) rfl ?_
              refine wpp (gy rfl c6) rfl ?_
              refine wpp (gy rfl c6) rfl ?_
              refine wpp rfl (p_pick1 c6 rfl rfl) ?_
              refine wpp rfl rfl ?_
              rcases bifS h with ⟨c7, h⟩ | ⟨c7, h⟩
              · skip
                refine wpp (gy rfl c7) rfl ?_
                refine wpp (gy rfl c7) rfl ?_
                refine wpp rfl (p_pick1 c7 rfl rfl) ?_
                refine wpp rfl rfl ?_
                rcases bifS h with ⟨c8, h⟩ | ⟨c8, h⟩
                · skip
                  refine wpp (p := e_api_Rule x6.1) (gy rfl c8) rfl ?_
                  obtain ⟨x46, hx46, h⟩ := bindS h
                  refine woo (gy rfl c8) (ocal (sat_aci_Print N _ _ hx46) rfl (.cons sub_rfl .nil) rfl rfl rfl) ?_
                  refine wpp (gy rfl c8) rfl ?_
                  refine wpp rfl (p_pick1 c8 rfl rfl) ?_
                  refine wpp rfl rfl ?_
                  rcases bifS h with ⟨c9, h⟩ | ⟨c9, h⟩
                  · skip
                    refine wpp (p := e_api_Rule x6.1) (gy rfl c9) rfl ?_
                    obtain ⟨x51, hx51, h⟩ := bindS h
                    refine woo (gy rfl c9) (ocal (sat_aci_Is N _ _ hx51) rfl (.cons sub_rfl .nil) rfl rfl rfl) ?_
                    refine wpp rfl (p_pick1 c9 rfl rfl) ?_
                    refine wpp rfl rfl ?_
                    rcases bifS h with ⟨c10, h⟩ | ⟨c10, h⟩
                    · skip
                      refine wpp (p := .agg [.bool false, .str ([] : List UInt8), .bool false, .str ([] : List UInt8), .nl]) (gy rfl c10) rfl ?_
                      refine wnK (nsub 54 (sub_agg (.cons sub_rfl (.cons sub_rfl (.cons sub_rfl (.cons sub_rfl (.cons (sub_nl 1) .nil))))) rfl) rfl) ?_
                      obtain ⟨x55, hx55, h⟩ := bindS h
                      refine woo (gy rfl c10) (ocal (sat_aci_Is N _ _ hx55) rfl (.cons sub_rfl .nil) rfl rfl rfl) ?_
                      refine wpp (gy rfl c10) rfl ?_
                      refine wpp rfl (p_pick1 c10 rfl rfl) ?_
                      refine wpp rfl rfl ?_
                      rcases bifS h with ⟨c11, h⟩ | ⟨c11, h⟩
                      · skip
                        refine wpp (p := e_api_Rule x6.1) (gy rfl c11) rfl ?_
                        refine wpp (p := e_api_Rule x6.1) (gy rfl c11) rfl ?_
                        obtain ⟨x61, hx61, h⟩ := bindS h
                        refine woo (gy rfl c11) (ocal (sat_aci_Same N _ _ _ hx61) rfl (.cons sub_rfl (.cons sub_rfl .nil)) rfl rfl rfl) ?_
                        refine wpp rfl (p_pick1 c11 rfl rfl) ?_
                        refine wpp rfl rfl ?_
                        obtain rfl := someS h
                        exact (canon0 ⟨rfl, trivial⟩ trivial rfl rfl)
                      · skip
                        refine wsk (gn rfl c11) ?_
                        refine wsk (gn rfl c11) ?_
                        refine wsk (gn rfl c11) ?_
                        refine wpp rfl (p_pick0 c11 rfl rfl) ?_
                        refine wpp rfl rfl ?_
                        obtain rfl := someS h
                        exact (canon0 ⟨rfl, trivial⟩ trivial rfl rfl)
                    · skip
                      refine wsk (gn rfl c10) ?_
                      refine wsk (gn rfl c10) ?_
                      refine wsk (gn rfl c10) ?_
                      refine wpp rfl (p_pick0 c10 rfl rfl) ?_
                      refine wpp rfl rfl ?_
                      refine wsk rfl ?_
                      refine wsk rfl ?_
                      refine wsk rfl ?_
                      refine wpp rfl rfl ?_
                      refine wpp rfl rfl ?_
                      obtain rfl := someS h
                      exact (canon0 ⟨rfl, trivial⟩ trivial rfl rfl)
                  · skip
                    refine wsk (gn rfl c9) ?_
                    refine wsk (gn rfl c9) ?_
                    refine wpp rfl (p_pick0 c9 rfl rfl) ?_
                    refine wpp rfl rfl ?_
                    refine wsk rfl ?_
                    refine wsk rfl ?_
                    refine wsk rfl ?_
                    refine wpp rfl rfl ?_
                    refine wpp rfl rfl ?_
                    refine wsk rfl ?_
                    refine wsk rfl ?_
                    refine wsk rfl ?_
                    refine wpp rfl rfl ?_
                    refine wpp rfl rfl ?_
                    obtain rfl := someS h
                    exact (canon0 ⟨rfl, trivial⟩ trivial rfl rfl)
                · skip
                  refine wsk (gn rfl c8) ?_
                  refine wsk (gn rfl c8) ?_
                  refine wsk (gn rfl c8) ?_
                  refine wpp rfl (p_pick0 c8 rfl rfl) ?_
                  refine wpp rfl rfl ?_
                  refine wsk rfl ?_
                  refine wsk rfl ?_
                  refine wpp rfl rfl ?_
                  refine wpp rfl rfl ?_
                  refine wsk rfl ?_
                  refine wsk rfl ?_
                  refine wsk rfl ?_
                  refine wpp rfl rfl ?_
                  refine wpp rfl rfl ?_
                  refine wsk rfl ?_
                  refine wsk rfl ?_
                  refine wsk rfl ?_
                  refine wpp rfl rfl ?_
                  refine wpp rfl rfl ?_
                  obtain rfl := someS h
                  exact (canon0 ⟨rfl, trivial⟩ trivial rfl rfl)
              · skip
                refine wsk (gn rfl c7) ?_
                refine wsk (gn rfl c7) ?_
                refine wpp rfl (p_pick0 c7 rfl rfl) ?_
                refine wpp rfl rfl ?_
                refine wsk rfl ?_
                refine wsk rfl ?_
                refine wsk rfl ?_
                refine wpp rfl rfl ?_
                refine wpp rfl rfl ?_
                refine wsk rfl ?_
                refine wsk rfl ?_
                refine wpp rfl rfl ?_
                refine wpp rfl rfl ?_
                refine wsk rfl ?_
                refine wsk rfl ?_
                refine wsk rfl ?_
                refine wpp rfl rfl ?_
                refine wpp rfl rfl ?_
                refine wsk rfl ?_
                refine wsk rfl ?_
                refine wsk rfl ?_
                refine wpp rfl rfl ?_
                refine wpp rfl rfl ?_
                obtain rfl := someS h
                exact (canon0 ⟨rfl, trivial⟩ trivial rfl rfl)
            · skip
              refine wsk (gn rfl c6) ?_
              refine wsk (gn rfl c6) ?_
              refine wsk (gn rfl c6) ?_
              refine wpp rfl (p_pick0 c6 rfl rfl) ?_
              refine wpp rfl rfl ?_
              refine wsk rfl ?_
              refine wsk rfl ?_
              refine wpp rfl rfl ?_
              refine wpp rfl rfl ?_
              refine wsk rfl ?_
              refine wsk rfl ?_
              refine wsk rfl ?_
              refine wpp rfl rfl ?_
              refine wpp rfl rfl ?_
              refine wsk rfl ?_
              refine wsk rfl ?_
              refine wpp rfl rfl ?_
              refine wpp rfl rfl ?_
              refine wsk rfl ?_
              refine wsk rfl ?_
              refine wsk rfl ?_
              refine wpp rfl rfl ?_
              refine wpp rfl rfl ?_
              refine wsk rfl ?_
              refine wsk rfl ?_
              refine wsk rfl ?_
              refine wpp rfl rfl ?_
              refine wpp rfl rfl ?_
              obtain rfl := someS h
              exact (canon0 ⟨rfl, trivial⟩ trivial rfl rfl)
          · skip
            refine wsk (gn rfl c5) ?_
            refine wsk (gn rfl c5) ?_
            refine wsk (gn rfl c5) ?_
            refine wsk (gn rfl c5) ?_
            refine wpp rfl (p_pick0 c5 rfl rfl) ?_
            refine wpp rfl rfl ?_
            refine wsk rfl ?_
            refine wsk rfl ?_
            refine wsk rfl ?_
            refine wpp rfl rfl ?_
            refine wpp rfl rfl ?_
            refine wsk rfl ?_
            refine wsk rfl ?_
            refine wpp rfl rfl ?_
            refine wpp rfl rfl ?_
            refine wsk rfl ?_
            refine wsk rfl ?_
            refine wsk rfl ?_
            refine wpp rfl rfl ?_
            refine wpp rfl rfl ?_
            refine wsk rfl ?_
            refine wsk rfl ?_
            refine wpp rfl rfl ?_
            refine wpp rfl rfl ?_
            refine wsk rfl ?_
            refine wsk rfl ?_
            refine wsk rfl ?_
            refine wpp rfl rfl ?_
            refine wpp rfl rfl ?_
            refine wsk rfl ?_
            refine wsk rfl ?_
            refine wsk rfl ?_
            refine wpp rfl rfl ?_
            refine wpp rfl rfl ?_
            obtain rfl := someS h
            exact (canon0 ⟨rfl, trivial⟩ trivial rfl rfl)
        · skip
          refine wsk (gn rfl c4) ?_
          refine wsk (gn rfl c4) ?_
          refine wpp rfl (p_pick0 c4 rfl rfl) ?_
          refine wpp rfl rfl ?_
          refine wsk rfl ?_
          refine wsk rfl ?_
          refine wsk rfl ?_
          refine wsk rfl ?_
          refine wpp rfl rfl ?_
          refine wpp rfl rfl ?_
          refine wsk rfl ?_
          refine wsk rfl ?_
          refine wsk rfl ?_
          refine wpp rfl rfl ?_
          refine wpp rfl rfl ?_
          refine wsk rfl ?_
          refine wsk rfl ?_
          refine wpp rfl rfl ?_
          refine wpp rfl rfl ?_
          refine wsk rfl ?_
          refine wsk rfl ?_
          refine wsk rfl ?_
          refine wpp rfl rfl ?_
          refine wpp rfl rfl ?_
          refine wsk rfl ?_
          refine wsk rfl ?_
          refine wpp rfl rfl ?_
          refine wpp rfl rfl ?_
          refine wsk rfl ?_
          refine wsk rfl ?_
          refine wsk rfl ?_
          refine wpp rfl rfl ?_
          refine wpp rfl rfl ?_
          refine wsk rfl ?_
          refine wsk rfl ?_
          refine wsk rfl ?_
          refine wpp rfl rfl ?_
          refine wpp rfl rfl ?_
          obtain rfl := someS h
          exact (canon0 ⟨rfl, trivial⟩ trivial rfl rfl)
      · skip
        refine wsk (gn rfl c3) ?_
        refine wsk (gn rfl c3) ?_
        refine wsk (gn rfl c3) ?_
        refine wpp rfl (p_pick0 c3 rfl rfl) ?_
        refine wpp rfl rfl ?_
        refine wsk rfl ?_
        refine wsk rfl ?_
        refine wpp rfl rfl ?_
        refine wpp rfl rfl ?_
        refine wsk rfl ?_
        refine wsk rfl ?_
        refine wsk rfl ?_
        refine wsk rfl ?_
        refine wpp rfl rfl ?_
        refine wpp rfl rfl ?_
        refine wsk rfl ?_
        refine wsk rfl ?_
        refine wsk rfl ?_
        refine wpp rfl rfl ?_
        refine wpp rfl rfl ?_
        refine wsk rfl ?_
        refine wsk rfl ?_
        refine wpp rfl rfl ?_
        refine wpp rfl rfl ?_
        refine wsk rfl ?_
        refine wsk rfl ?_
        refine wsk rfl ?_
        refine wpp rfl rfl ?_
        refine wpp rfl rfl ?_
        refine wsk rfl ?_
        refine wsk rfl ?_
        refine wpp rfl rfl ?_
        refine wpp rfl rfl ?_
        refine wsk rfl ?_
        refine wsk rfl ?_
        refine wsk rfl ?_
        refine wpp rfl rfl ?_
        refine wpp rfl rfl ?_
        refine wsk rfl ?_
        refine wsk rfl ?_
        refine wsk rfl ?_
        refine wpp rfl rfl ?_
        refine wpp rfl rfl ?_
        obtain rfl := someS h
        exact (canon0 ⟨rfl, trivial⟩ trivial rfl rfl)
    · skip
      refine wsk (gn rfl c2) ?_
      refine wsk (gn rfl c2) ?_
      refine wsk (gn rfl c2) ?_
      refine wpp rfl (p_pick0 c2 rfl rfl) ?_
      refine wpp rfl rfl ?_
      refine wsk rfl ?_
      refine wsk rfl ?_
      refine wsk rfl ?_
      refine wpp rfl rfl ?_
      refine wpp rfl rfl ?_
      refine wsk rfl ?_
      refine wsk rfl ?_
      refine wpp rfl rfl ?_
      refine wpp rfl rfl ?_
      refine wsk rfl ?_
      refine wsk rfl ?_
      refine wsk rfl ?_
      refine wsk rfl ?_
      refine wpp rfl rfl ?_
      refine wpp rfl rfl ?_
      refine wsk rfl ?_
      refine wsk rfl ?_
      refine wsk rfl ?_
      refine wpp rfl rfl ?_
      refine wpp rfl rfl ?_
      refine wsk rfl ?_
      refine wsk rfl ?_
      refine wpp rfl rfl ?_
      refine wpp rfl rfl ?_
      refine wsk rfl ?_
      refine wsk rfl ?_
      refine wsk rfl ?_
      refine wpp rfl rfl ?_
      refine wpp rfl rfl ?_
      refine wsk rfl ?_
      refine wsk rfl ?_
      refine wpp rfl rfl ?_
      refine wpp rfl rfl ?_
      refine wsk rfl ?_
      refine wsk rfl ?_
      refine wsk rfl ?_
      refine wpp rfl rfl ?_
      refine wpp rfl rfl ?_
      refine wsk rfl ?_
      refine wsk rfl ?_
      refine wsk rfl ?_
      refine wpp rfl rfl ?_
      refine wpp rfl rfl ?_
      obtain rfl := someS h
      exact (canon0 ⟨rfl, trivial⟩ trivial rfl rfl)
  · clear hg1
    obtain rfl := someS h
    refine xret ?_
    exact ⟨nofun, rfl, rfl⟩
end Go.Gp
end
section
set_option linter.unusedVariables false
set_option linter.unusedSimpArgs false
set_option maxRecDepth 4000
namespace Go.Gp
open Go.Vd Go.RowKit Go.Proofs
def k8_l18 : IC := (.seq (.seq (.reg [⟨(some 22), (.mov (.t 13)), none⟩, ⟨(some 23), (.bin .lss (.t 22) (.c (.int .i64 6))), none⟩]) (.cond (.t 23) .skip (.exit 0))) (.seq (.block 1 (.seq (.reg [⟨(some 26), (.mov (.t 0)), none⟩, ⟨(some 27), (.mov (.t 13)), none⟩, ⟨(some 28), (.cvi .u64 (.t 27)), none⟩, ⟨(some 29), (.bin .shr (.t 26) (.t 28)), none⟩, ⟨(some 30), (.bin .and (.t 29) (.c (.int .u8 1))), none⟩, ⟨(some 31), (.bin .eql (.t 30) (.c (.int .u8 1))), none⟩]) (.cond (.t 31) (.reg [⟨(some 32), (.mov (.t 12)), none⟩, ⟨(some 33), (.mov (.t 11)), none⟩, ⟨(some 34), (.mov (.t 13)), none⟩, ⟨(some 35), (.mov (.t 13)), none⟩, ⟨(some 36), (.bin .add (.t 35) (.c (.int .i64 1))), none⟩, ⟨(some 37), (.slcs (.t 33) (some (.t 34)) (some (.t 36))), none⟩, ⟨(some 38), (.bin .add (.t 32) (.t 37)), none⟩, ⟨(some 12), (.mov (.t 38)), none⟩]) .skip))) (.reg [⟨(some 24), (.mov (.t 13)), none⟩, ⟨(some 25), (.bin .add (.t 24) (.c (.int .i64 1))), none⟩, ⟨(some 13), (.mov (.t 25)), none⟩])))
def k8 : IC := (.seq (.reg [⟨(some 10), (.mov (.c (.bool false))), none⟩]) (.seq (.seq (.reg [⟨(some 20), (.call 18 []), none⟩, ⟨(some 21), (.un .not (.t 20)), none⟩]) (.cond (.t 21) (.seq (.reg [⟨(some 10), (.mov (.c (.bool false))), none⟩]) .ret) .skip)) (.seq (.reg [⟨(some 11), (.mov (.c (.str [114, 115, 99, 119, 97, 100]))), none⟩]) (.seq (.reg [⟨(some 12), (.mov (.c (.str []))), none⟩]) (.seq (.seq (.reg [⟨(some 13), (.mov (.c (.int .i64 0))), none⟩]) (.block 0 (.loop k8_l18))) (.seq (.reg [⟨(some 39), (.mov (.t 3)), none⟩, ⟨(some 40), (.mov (.t 12)), none⟩, ⟨(some 41), (.mov (.t 4)), none⟩, ⟨(some 42), (.build [(.bool false), (.str []), (.bool false), (.str []), .nl] [(0, (1, (.t 39))), (1, (1, (.t 40))), (2, (1, (.t 41))), (3, (1, (.c (.str [115, 101, 108, 102]))))]), none⟩, ⟨(some 14), (.box 41 (.c (.agg [(.bool false), (.str []), (.bool false), (.str []), .nl]))), none⟩, ⟨none, (.store 5 (.t 14) (.t 42)), none⟩]) (.seq (.seq (.reg [⟨(some 43), (.load 5 true (.t 14)), none⟩, ⟨(some 44), (.call 24 [(.t 43)]), none⟩, ⟨(some 45), (.mov (.t 12)), none⟩, ⟨(some 46), (.bin .neq (.t 45) (.c (.str []))), none⟩, ⟨(some 47), (.beq true (.t 44) (.t 46)), none⟩]) (.cond (.t 47) (.seq (.reg [⟨(some 10), (.mov (.c (.bool false))), none⟩]) .ret) .skip)) (.seq (.seq (.reg [⟨(some 48), (.mov (.t 12)), none⟩, ⟨(some 49), (.bin .eql (.t 48) (.c (.str []))), none⟩]) (.cond (.t 49) (.seq (.reg [⟨(some 50), (.load 5 true (.t 14)), none⟩, ⟨(some 51), (.call 25 [(.t 50)]), none⟩, ⟨(some 52), (.bin .eql (.t 51) (.c (.str []))), none⟩, ⟨(some 10), (.mov (.t 52)), none⟩]) .ret) .skip)) (.seq (.reg [⟨(some 54), (.load 5 true (.t 14)), none⟩, ⟨(some 55), (.call 25 [(.t 54)]), none⟩, ⟨(some 56), (.call 22 [(.t 55)]), none⟩, ⟨(some 53), (.mov (.t 56)), none⟩, ⟨(some 57), (.ext 0 (.t 53)), none⟩, ⟨(some 58), (.ext 1 (.t 53)), none⟩, ⟨(some 15), (.box 41 (.c (.agg [(.bool false), (.str []), (.bool false), (.str []), .nl]))), none⟩, ⟨none, (.store 5 (.t 15) (.t 57)), none⟩, ⟨(some 16), (.mov (.t 58)), none⟩]) (.seq (.reg [⟨(some 59), (.mov (.t 1)), none⟩, ⟨(some 60), (.bin .rem (.t 59) (.c (.int .u8 6))), none⟩, ⟨(some 61), (.cvi .i64 (.t 60)), none⟩, ⟨(some 62), (.mov (.t 2)), none⟩, ⟨(some 63), (.bin .rem (.t 62) (.c (.int .u8 6))), none⟩, ⟨(some 64), (.cvi .i64 (.t 63)), none⟩, ⟨(some 17), (.mov (.t 61)), none⟩, ⟨(some 18), (.mov (.t 64)), none⟩]) (.seq (.regd 13 [⟨(some 65), (.mov (.t 11)), none⟩, ⟨(some 66), (.mov (.t 17)), none⟩, ⟨(some 67), (.mov (.t 17)), none⟩, ⟨(some 68), (.bin .add (.t 67) (.c (.int .i64 1))), none⟩, ⟨(some 69), (.slcs (.t 65) (some (.t 66)) (some (.t 68))), none⟩, ⟨(some 70), (.mov (.t 11)), none⟩, ⟨(some 71), (.mov (.t 18)), none⟩, ⟨(some 72), (.mov (.t 18)), none⟩, ⟨(some 73), (.bin .add (.t 72) (.c (.int .i64 1))), none⟩, ⟨(some 74), (.slcs (.t 70) (some (.t 71)) (some (.t 73))), none⟩, ⟨(some 75), (.bin .add (.t 69) (.t 74)), none⟩, ⟨(some 76), (.build [(.bool false), (.str []), (.bool false), (.str []), .nl] [(1, (1, (.t 75))), (3, (1, (.c (.str [97, 110, 121]))))]), none⟩, ⟨(some 19), (.box 41 (.c (.agg [(.bool false), (.str []), (.bool false), (.str []), .nl]))), none⟩, ⟨none, (.store 5 (.t 19) (.t 76)), none⟩]) (.seq (.reg [⟨(some 77), (.mov (.t 16)), none⟩, ⟨(some 78), (.bin .eql (.t 77) (.c (.int .i64 0))), none⟩, ⟨(some 79), (.mov (.t 78)), none⟩, ⟨(some 80), (.load 5 true (.t 15)), (some (79, true))⟩, ⟨(some 81), (.load 5 true (.t 14)), (some (79, true))⟩, ⟨(some 82), (.call 26 [(.t 80), (.t 81)]), (some (79, true))⟩, ⟨(some 83), (.pick (.t 79) (.t 82) (.c (.bool false))), none⟩, ⟨(some 84), (.mov (.t 83)), none⟩, ⟨(some 85), (.load 5 true (.t 19)), (some (84, true))⟩, ⟨(some 86), (.call 24 [(.t 85)]), (some (84, true))⟩, ⟨(some 87), (.mov (.t 17)), (some (84, true))⟩, ⟨(some 88), (.mov (.t 18)), (some (84, true))⟩, ⟨(some 89), (.bin .lss (.t 87) (.t 88)), (some (84, true))⟩, ⟨(some 90), (.beq false (.t 86) (.t 89)), (some (84, true))⟩, ⟨(some 91), (.pick (.t 84) (.t 90) (.c (.bool false))), none⟩, ⟨(some 10), (.mov (.t 91)), none⟩]) .ret))))))))))))
theorem k8_cf : cfunc Tryd.prog Tryd.f8 = some ⟨92, k8, [(.tmp 10)]⟩ := by kernel_rfl
theorem w_prefectlaw18_RuleLetters_l18 (N : Nat) (a0 : UInt8) (a1 : UInt8) (a2 : UInt8) (a3 : Bool) (a4 : Bool) : ∀ (n : Nat) (x : List UInt8 × Int) (y : List UInt8), prefectlaw18_RuleLetters_l18 N a0 a1 a2 a3 a4 n x = some y → WX Tryd.prog (fun _ => false) (.loop k8_l18) ((fun (x : List UInt8 × Int) => ⟨ofL [(0, eb a0), (1, eb a1), (2, eb a2), (3, .bool a3), (4, .bool a4), (11, .str ([114, 115, 99, 119, 97, 100] : List UInt8)), (12, .str x.1), (13, .int .i64 x.2)], ofL []⟩) x) ((fun y e s => e = .exit 0 ∧ s = ⟨ofL [(1, eb a1), (2, eb a2), (3, .bool a3), (4, .bool a4), (11, .str ([114, 115, 99, 119, 97, 100] : List UInt8)), (12, .str y)], ofL []⟩ : (List UInt8) → Xt → St → Prop) y) := by
  refine xloop (fun (x : List UInt8 × Int) => ⟨ofL [(0, eb a0), (1, eb a1), (2, eb a2), (3, .bool a3), (4, .bool a4), (11, .str ([114, 115, 99, 119, 97, 100] : List UInt8)), (12, .str x.1), (13, .int .i64 x.2)], ofL []⟩) _ (prefectlaw18_RuleLetters_l18 N a0 a1 a2 a3 a4) (prefectlaw18_RuleLetters_l18_b N a0 a1 a2 a3 a4) (fun _ => rfl) (fun _ _ => rfl) ?_
  rintro rec ⟨v12l18, v13l18⟩ y h
  refine xseq ?_
  refine xseq ?_
  refine xreg ?_
  refine wpp rfl rfl ?_
  refine wpp rfl rfl ?_
  rcases bifS h with ⟨c2, h⟩ | ⟨c2, h⟩
  · refine xcT rfl c2 ?_
    refine xskip ?_
    refine xjoin (fun (x : List UInt8) => ⟨ofL [(0, eb a0), (1, eb a1), (2, eb a2), (3, .bool a3), (4, .bool a4), (11, .str ([114, 115, 99, 119, 97, 100] : List UInt8)), (12, .str x), (13, .int .i64 v13l18)], ofL []⟩) (fun x => prefectlaw18_RuleLetters_j25 v13l18 rec x = some y) ?_ ?_
    · rintro v12j25 h
      refine xreg ?_
      refine wpp rfl rfl ?_
      refine wpp (p := .int .i64 (w64 (v13l18 + (1 : Int)))) rfl rfl ?_
      refine wpp rfl rfl ?_
      exact ⟨(v12j25, (w64 (v13l18 + (1 : Int)))), (canon0 ⟨rfl, rfl, rfl, rfl, rfl, rfl, rfl, rfl, trivial⟩ trivial rfl rfl), h⟩
    · skip
      refine xblk ?_
      refine xseq ?_
      refine xreg ?_
      refine wpp rfl rfl ?_
      refine wpp rfl rfl ?_
      refine wpp (p := .int .u64 (IntKind.u64.wrap v13l18)) rfl rfl ?_
      obtain ⟨x29, hx29, h⟩ := bindS h
      refine wpp rfl (p_u8shr (a := a0) (nn_inv hx29) rfl rfl) ?_
      refine wpp rfl (p_u8and (a := (shrB a0 (IntKind.u64.wrap v13l18))) (b := (1 : UInt8)) rfl rfl) ?_
      refine wpp (p := .bool (((((shrB a0 (IntKind.u64.wrap v13l18)) &&& (1 : UInt8))).toNat : Int) == (1 : Int))) rfl rfl ?_
      rcases bifS h with ⟨c3, h⟩ | ⟨c3, h⟩
      · refine xcT rfl c3 ?_
        refine xreg ?_
        refine wpp rfl rfl ?_
        refine wpp rfl rfl ?_
        refine wpp rfl rfl ?_
        refine wpp rfl rfl ?_
        refine wpp (p := .int .i64 (w64 (v13l18 + (1 : Int)))) rfl rfl ?_
        obtain ⟨x37, hx37, h⟩ := bindS h
        refine wpp rfl (p_cut hx37 rfl rfl rfl) ?_
        obtain ⟨x38, hx38, h⟩ := bindS h
        refine wpp rfl (p_cat hx38 rfl rfl) ?_
        refine wpp rfl rfl ?_
        exact ⟨x38, (canon0 ⟨rfl, rfl, rfl, rfl, rfl, rfl, rfl, rfl, trivial⟩ trivial rfl rfl), h⟩
      · refine xcF rfl c3 ?_
        refine xskip ?_
        exact ⟨v12l18, (canon0 ⟨rfl, rfl, rfl, rfl, rfl, rfl, rfl, rfl, trivial⟩ trivial rfl rfl), h⟩
  · refine xcF rfl c2 ?_
    obtain rfl := someS h
    exact xexitn (st1 := ⟨ofL [(1, eb a1), (2, eb a2), (3, .bool a3), (4, .bool a4), (11, .str ([114, 115, 99, 119, 97, 100] : List UInt8)), (12, .str v12l18)], ofL []⟩) (canon0 ⟨rfl, rfl, rfl, rfl, rfl, rfl, trivial⟩ trivial rfl rfl) ⟨rfl, rfl⟩
theorem sat_prefectlaw18_RuleLetters (N : Nat) (a0 : UInt8) (a1 : UInt8) (a2 : UInt8) (a3 : Bool) (a4 : Bool) (r : Bool) (h : prefectlaw18_RuleLetters N a0 a1 a2 a3 a4 = some r) : Sat Tryd.prog 8 noRows [eb a0, eb a1, eb a2, .bool a3, .bool a4] (.bool r) noRows := by
  refine xsat mixed Tryd.func8 k8_cf (rs := [.bool r]) rfl rfl ?_
  refine xseq ?_
  refine xreg ?_
  refine wpp rfl rfl ?_
  refine xseq ?_
  refine xseq ?_
  refine xreg ?_
  obtain ⟨x20, hx20, h⟩ := bindS h
  refine woo rfl (ocal (sat_prefectlaw18_known N _ hx20) rfl .nil rfl rfl rfl) ?_
  refine wpp rfl rfl ?_
  rcases bifS h with ⟨c1, h⟩ | ⟨c1, h⟩
  · refine xcT rfl c1 ?_
    refine xseq ?_
    refine xreg ?_
    refine wpp rfl rfl ?_
    obtain rfl := someS h
    refine xret ?_
    exact ⟨nofun, rfl, rfl⟩
  · refine xcF rfl c1 ?_
    refine xskip ?_
    refine xseq ?_
    refine xreg ?_
    refine wpp rfl rfl ?_
    refine xseq ?_
    refine xreg ?_
    refine wpp rfl rfl ?_
    refine xseq ?_
    refine xseq ?_
    refine xreg ?_
    refine wpp rfl rfl ?_
    refine xblk ?_
    obtain ⟨y4, hy4, h⟩ := bindS h
    refine xloopU (st1 := ⟨ofL [(0, eb a0), (1, eb a1), (2, eb a2), (3, .bool a3), (4, .bool a4), (11, .str ([114, 115, 99, 119, 97, 100] : List UInt8)), (12, .str ([] : List UInt8)), (13, .int .i64 0)], ofL []⟩) (canon0 ⟨rfl, rfl, rfl, rfl, rfl, rfl, rfl, rfl, trivial⟩ trivial rfl rfl) (w_prefectlaw18_RuleLetters_l18 N a0 a1 a2 a3 a4 N _ _ hy4) ?_
    rintro e s ⟨rfl, rfl⟩
    refine xseq ?_
    refine xreg ?_
    refine wpp rfl rfl ?_
    refine wpp rfl rfl ?_
    refine wpp rfl rfl ?_
    refine wpp (p := .agg [.bool a3, .str y4, .bool a4, .str ([115, 101, 108, 102] : List UInt8), .nl]) rfl rfl ?_
    refine wnK (nsub 42 (sub_agg (.cons sub_rfl (.cons sub_rfl (.cons sub_rfl (.cons sub_rfl (.cons (sub_nl 1) .nil))))) rfl) rfl) ?_
    refine woo rfl (obox 14 rfl rfl rfl rfl rfl) ?_
    refine wstb (e' := .agg [.bool a3, .str y4, .bool a4, .str ([115, 101, 108, 102] : List UInt8), .sl 1 (List.map PV.str [])]) rfl rfl rfl rfl rfl rfl rfl rfl nofun rfl ?_
    refine xseq ?_
    refine xseq ?_
    refine xreg ?_
    refine wpp (p := .agg [.bool a3, .str y4, .bool a4, .str ([115, 101, 108, 102] : List UInt8), .sl 1 (List.map PV.str [])]) rfl rfl ?_
    obtain ⟨x44, hx44, h⟩ := bindS h
    refine woo rfl (ocal (sat_aci_Is N _ _ hx44) rfl (.cons sub_rfl .nil) rfl rfl rfl) ?_
    refine wpp rfl rfl ?_
    refine wpp rfl rfl ?_
    refine wpp rfl rfl ?_
    rcases bifS h with ⟨c5, h⟩ | ⟨c5, h⟩
    · refine xcT rfl c5 ?_
      refine xseq ?_
      refine xreg ?_
      refine wpp rfl rfl ?_
      obtain rfl := someS h
      refine xret ?_
      exact ⟨nofun, rfl, rfl⟩
    · refine xcF rfl c5 ?_
      refine xskip ?_
      refine xseq ?_
      refine xseq ?_
      refine xreg ?_
      refine wpp rfl rfl ?_
      refine wpp rfl rfl ?_
      rcases bifS h with ⟨c6, h⟩ | ⟨c6, h⟩
      · refine xcT rfl c6 ?_
        refine xseq ?_
        refine xreg ?_
        refine wpp (p := .agg [.bool a3, .str y4, .bool a4, .str ([115, 101, 108, 102] : List UInt8), .sl 1 (List.map PV.str [])]) rfl rfl ?_
        obtain ⟨x51, hx51, h⟩ := bindS h
        refine woo rfl (ocal (sat_aci_Print N _ _ hx51) rfl (.cons sub_rfl .nil) rfl rfl rfl) ?_
        refine wpp rfl rfl ?_
        refine wpp rfl rfl ?_
        obtain rfl := someS h
        refine xret ?_
        exact ⟨nofun, rfl, rfl⟩
      · refine xcF rfl c6 ?_
        refine xskip ?_
        refine xseq ?_
        refine xreg ?_
        refine wpp (p := .agg [.bool a3, .str y4, .bool a4, .str ([115, 101, 108, 102] : List UInt8), .sl 1 (List.map PV.str [])]) rfl rfl ?_
        obtain ⟨x55, hx55, h⟩ := bindS h
        refine woo rfl (ocal (sat_aci_Print N _ _ hx55) rfl (.cons sub_rfl .nil) rfl rfl rfl) ?_
        obtain ⟨x56, hx56, h⟩ := bindS h
        refine woo rfl (ocal (sat_aci_Parse N _ _ hx56) rfl (.cons sub_rfl .nil) rfl rfl rfl) ?_
        refine wpp rfl rfl ?_
        refine wpp rfl rfl ?_
        refine wpp rfl rfl ?_
        refine woo rfl (obox 15 rfl rfl rfl rfl rfl) ?_
        refine wstb (e' := e_api_Rule x56.1) rfl rfl rfl rfl rfl rfl rfl rfl nofun rfl ?_
        refine wpp rfl rfl ?_
        refine xseq ?_
        refine xreg ?_
        refine wpp rfl rfl ?_
        refine wpp rfl (p_u8rem (a := a1) (b := (6 : UInt8)) (u := ()) rfl rfl rfl) ?_
        refine wpp rfl (p_u8cv (a := (a1 % (6 : UInt8))) rfl) ?_
        refine wpp rfl rfl ?_
        refine wpp rfl (p_u8rem (a := a2) (b := (6 : UInt8)) (u := ()) rfl rfl rfl) ?_
        refine wpp rfl (p_u8cv (a := (a2 % (6 : UInt8))) rfl) ?_
        refine wpp rfl rfl ?_
        refine wpp rfl rfl ?_
        refine xseq ?_
        refine xregd ?_
        refine wdp rfl rfl ?_
        refine wdp rfl rfl ?_
        refine wdp rfl rfl ?_
        refine wdp (p := .int .i64 (w64 ((((a1 % (6 : UInt8))).toNat : Int) + (1 : Int)))) rfl rfl ?_
        obtain ⟨x69, hx69, h⟩ := bindS h
        refine wdp rfl (p_cut hx69 rfl rfl rfl) ?_
        refine wdp rfl rfl ?_
        refine wdp rfl rfl ?_
        refine wdp rfl rfl ?_
        refine wdp (p := .int .i64 (w64 ((((a2 % (6 : UInt8))).toNat : Int) + (1 : Int)))) rfl rfl ?_
        obtain ⟨x74, hx74, h⟩ := bindS h
        refine wdp rfl (p_cut hx74 rfl rfl rfl) ?_
        obtain ⟨x75, hx75, h⟩ := bindS h
        refine wdp rfl (p_cat hx75 rfl rfl) ?_
        refine wdp (p := .agg [.bool false, .str x75, .bool false, .str ([97, 110, 121] : List UInt8), .nl]) rfl rfl ?_
        refine wdN rfl (.box _ 19 rfl (Nat.le_of_ble_eq_true rfl) (by decide) rfl) (fresh1 rfl) ?_
        refine wstb (e' := .agg [.bool false, .str x75, .bool false, .str ([97, 110, 121] : List UInt8), .nl]) rfl rfl rfl rfl rfl rfl rfl rfl nofun rfl ?_
        obtain ⟨g7, hg7, h⟩ := bindS h
        refine xseg ⟨ofL [(10, .bool g7)], ofL []⟩ ?_ ?_
        · have h := hg7
          refine xreg ?_
          refine wpp rfl rfl ?_
          refine wpp rfl rfl ?_
          refine wpp rfl rfl ?_
          rcases bifS h with ⟨c8, h⟩ | ⟨c8, h⟩
          · skip
            refine wpp (p := e_api_Rule x56.1) (gy rfl c8) rfl ?_
            refine wpp (p := .agg [.bool a3, .str y4, .bool a4, .str ([115, 101, 108, 102] : List UInt8), .sl 1 (List.map PV.str [])]) (gy rfl c8) rfl ?_
            obtain ⟨x82, hx82, h⟩ := bindS h
            refine woo (gy rfl c8) (ocal (sat_aci_Same N _ _ _ hx82) rfl (.cons sub_rfl (.cons sub_rfl .nil)) rfl rfl rfl) ?_
            refine wpp rfl (p_pick1 c8 rfl rfl) ?_
            refine wpp rfl rfl ?_
            rcases bifS h with ⟨c9, h⟩ | ⟨c9, h⟩
            · skip
              refine wpp (p := .agg [.bool false, .str x75, .bool false, .str ([97, 110, 121] : List UInt8), .nl]) (gy rfl c9) rfl ?_
              obtain ⟨x86, hx86, h⟩ := bindS h
              refine woo (gy rfl c9) (ocal (sat_aci_Is N _ _ hx86) rfl (.cons (sub_agg (.cons sub_rfl (.cons sub_rfl (.cons sub_rfl (.cons sub_rfl (.cons (sub_nl 1) .nil))))) rfl) .nil) rfl rfl rfl) ?_
              refine wpp (gy rfl c9) rfl ?_
              refine wpp (gy rfl c9) rfl ?_
              refine wpp (gy rfl c9) rfl ?_
              refine wpp (gy rfl c9) rfl ?_
              refine wpp rfl (p_pick1 c9 rfl rfl) ?_
              refine wpp rfl rfl ?_
              obtain rfl := someS h
              exact (canon0 ⟨rfl, trivial⟩ trivial rfl rfl)
            · skip
              refine wsk (gn rfl c9) ?_
              refine wsk (gn rfl c9) ?_
              refine wsk (gn rfl c9) ?_
              refine wsk (gn rfl c9) ?_
              refine wsk (gn rfl c9) ?_
              refine wsk (gn rfl c9) ?_
              refine wpp rfl (p_pick0 c9 rfl rfl) ?_
              refine wpp rfl rfl ?_
              obtain rfl := someS h
              exact (canon0 ⟨rfl, trivial⟩ trivial rfl rfl)
          · skip
            refine wsk (gn rfl c8) ?_
            refine wsk (gn rfl c8) ?_
            refine wsk (gn rfl c8) ?_
            refine wpp rfl (p_pick0 c8 rfl rfl) ?_
            refine wpp rfl rfl ?_
            refine wsk rfl ?_
            refine wsk rfl ?_
            refine wsk rfl ?_
            refine wsk rfl ?_
            refine wsk rfl ?_
            refine wsk rfl ?_
            refine wpp rfl rfl ?_
            refine wpp rfl rfl ?_
            obtain rfl := someS h
            exact (canon0 ⟨rfl, trivial⟩ trivial rfl rfl)
        · clear hg7
          obtain rfl := someS h
          refine xret ?_
          exact ⟨nofun, rfl, rfl⟩
end Go.Gp
end
