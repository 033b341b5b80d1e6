/- A part of the proof: functions of the program and what they compute. -/
import Derived.Test.YtbndinjjpafmjaaDoorA5
import Derived.Test.YtbndinjjpafmjaaDoorA7
section
set_option linter.unusedVariables false
set_option linter.unusedSimpArgs false
set_option maxRecDepth 4000
set_option maxHeartbeats 4000000
namespace Go.Gp
open Go.Vd Go.RowKit Go.Proofs
def k84_l18 : IC := (.seq (.seq (.reg [⟨(some 18), (.mov (.t 6)), none⟩, ⟨(some 19), (.mov (.t 0)), none⟩, ⟨(some 20), (.len true (.t 19)), none⟩, ⟨(some 21), (.bin .lss (.t 18) (.t 20)), none⟩]) (.cond (.t 21) .skip (.exit 0))) (.seq (.block 1 (.seq (.reg [⟨(some 24), (.mov (.t 0)), none⟩, ⟨(some 25), (.mov (.t 6)), none⟩, ⟨(some 26), (.idxs (.t 24) (.t 25)), none⟩, ⟨(some 7), (.mov (.t 26)), none⟩]) (.seq (.reg [⟨(some 27), (.mov (.t 7)), none⟩, ⟨(some 28), (.bin .eql (.t 27) (.c (.int .u8 32))), none⟩, ⟨(some 5), (.mov (.t 28)), none⟩]) (.block 2 (.seq (.reg [⟨(some 34), (.mov (.t 7)), none⟩, ⟨(some 35), (.bin .eql (.t 34) (.c (.int .u8 92))), none⟩, ⟨(some 33), (.mov (.t 35)), none⟩]) (.cond (.t 33) (.seq (.reg [⟨(some 36), (.mov (.t 6)), none⟩, ⟨(some 37), (.bin .add (.t 36) (.c (.int .i64 1))), none⟩, ⟨(some 6), (.mov (.t 37)), none⟩]) (.seq (.seq (.reg [⟨(some 38), (.mov (.t 6)), none⟩, ⟨(some 39), (.mov (.t 0)), none⟩, ⟨(some 40), (.len true (.t 39)), none⟩, ⟨(some 41), (.bin .lss (.t 38) (.t 40)), none⟩, ⟨(some 42), (.mov (.t 41)), none⟩, ⟨(some 43), (.mov (.t 0)), (some (42, true))⟩, ⟨(some 44), (.mov (.t 6)), (some (42, true))⟩, ⟨(some 45), (.idxs (.t 43) (.t 44)), (some (42, true))⟩, ⟨(some 46), (.call 51 [(.c (.str [44, 43, 34, 92, 60, 62, 59, 35, 61, 32])), (.t 45)]), (some (42, true))⟩, ⟨(some 47), (.bin .geq (.t 46) (.c (.int .i64 0))), (some (42, true))⟩, ⟨(some 48), (.pick (.t 42) (.t 47) (.c (.bool false))), none⟩]) (.cond (.t 48) (.seq (.reg [⟨(some 49), (.mov (.t 4)), none⟩, ⟨(some 50), (.mov (.t 0)), none⟩, ⟨(some 51), (.mov (.t 6)), none⟩, ⟨(some 52), (.idxs (.t 50) (.t 51)), none⟩, ⟨(some 53), (.bsl 1 [(.t 52)]), none⟩, ⟨(some 54), (.app 5 1 1 (.t 49) (.t 53)), none⟩, ⟨(some 4), (.mov (.t 54)), none⟩]) (.exit 1)) .skip)) (.seq (.reg [⟨(some 56), (.mov (.t 0)), none⟩, ⟨(some 57), (.mov (.t 6)), none⟩, ⟨(some 58), (.call 104 [(.t 56), (.t 57)]), none⟩, ⟨(some 55), (.mov (.t 58)), none⟩, ⟨(some 59), (.ext 0 (.t 55)), none⟩, ⟨(some 60), (.ext 1 (.t 55)), none⟩, ⟨(some 8), (.mov (.t 59)), none⟩, ⟨(some 9), (.mov (.t 60)), none⟩]) (.seq (.reg [⟨(some 62), (.mov (.t 0)), none⟩, ⟨(some 63), (.mov (.t 6)), none⟩, ⟨(some 64), (.bin .add (.t 63) (.c (.int .i64 1))), none⟩, ⟨(some 65), (.call 104 [(.t 62), (.t 64)]), none⟩, ⟨(some 61), (.mov (.t 65)), none⟩, ⟨(some 66), (.ext 0 (.t 61)), none⟩, ⟨(some 67), (.ext 1 (.t 61)), none⟩, ⟨(some 10), (.mov (.t 66)), none⟩, ⟨(some 11), (.mov (.t 67)), none⟩]) (.seq (.seq (.reg [⟨(some 68), (.mov (.t 9)), none⟩, ⟨(some 69), (.un .not (.t 68)), none⟩, ⟨(some 70), (.mov (.t 69)), none⟩, ⟨(some 71), (.mov (.t 11)), (some (70, false))⟩, ⟨(some 72), (.un .not (.t 71)), (some (70, false))⟩, ⟨(some 73), (.pick (.t 70) (.c (.bool true)) (.t 72)), none⟩]) (.cond (.t 73) (.seq (.reg [⟨(some 2), (.mov (.c (.str []))), none⟩, ⟨(some 3), (.mov (.c (.bool false))), none⟩]) .ret) .skip)) (.seq (.reg [⟨(some 74), (.mov (.t 4)), none⟩, ⟨(some 75), (.mov (.t 8)), none⟩, ⟨(some 76), (.bin .shl (.t 75) (.c (.int .u64 4))), none⟩, ⟨(some 77), (.mov (.t 10)), none⟩, ⟨(some 78), (.bin .or (.t 76) (.t 77)), none⟩, ⟨(some 79), (.bsl 1 [(.t 78)]), none⟩, ⟨(some 80), (.app 5 1 1 (.t 74) (.t 79)), none⟩, ⟨(some 4), (.mov (.t 80)), none⟩]) (.reg [⟨(some 81), (.mov (.t 6)), none⟩, ⟨(some 82), (.bin .add (.t 81) (.c (.int .i64 1))), none⟩, ⟨(some 6), (.mov (.t 82)), none⟩]))))))) (.seq (.reg [⟨(some 84), (.mov (.t 7)), none⟩, ⟨(some 85), (.call 51 [(.c (.str [44, 43, 34, 92, 60, 62, 59])), (.t 84)]), none⟩, ⟨(some 86), (.bin .geq (.t 85) (.c (.int .i64 0))), none⟩, ⟨(some 83), (.mov (.t 86)), none⟩]) (.cond (.t 83) (.seq (.reg [⟨(some 2), (.mov (.c (.str []))), none⟩, ⟨(some 3), (.mov (.c (.bool false))), none⟩]) .ret) (.reg [⟨(some 29), (.mov (.t 4)), none⟩, ⟨(some 30), (.mov (.t 7)), none⟩, ⟨(some 31), (.bsl 1 [(.t 30)]), none⟩, ⟨(some 32), (.app 5 1 1 (.t 29) (.t 31)), none⟩, ⟨(some 4), (.mov (.t 32)), none⟩]))))))))) (.reg [⟨(some 22), (.mov (.t 6)), none⟩, ⟨(some 23), (.bin .add (.t 22) (.c (.int .i64 1))), none⟩, ⟨(some 6), (.mov (.t 23)), none⟩])))
def k84 : IC := (.seq (.reg [⟨(some 2), (.mov (.c (.str []))), none⟩, ⟨(some 3), (.mov (.c (.bool false))), none⟩]) (.seq (.seq (.reg [⟨(some 12), (.mov (.t 0)), none⟩, ⟨(some 13), (.call 103 [(.t 12), (.c (.str [35]))]), none⟩, ⟨(some 14), (.mov (.t 13)), none⟩, ⟨(some 15), (.mov (.t 0)), (some (14, false))⟩, ⟨(some 16), (.call 103 [(.t 15), (.c (.str [32]))]), (some (14, false))⟩, ⟨(some 17), (.pick (.t 14) (.c (.bool true)) (.t 16)), none⟩]) (.cond (.t 17) (.seq (.reg [⟨(some 2), (.mov (.c (.str []))), none⟩, ⟨(some 3), (.mov (.c (.bool false))), none⟩]) .ret) .skip)) (.seq (.reg [⟨(some 4), (.mov (.c .nl)), none⟩]) (.seq (.reg [⟨(some 5), (.mov (.c (.bool false))), none⟩]) (.seq (.seq (.reg [⟨(some 6), (.mov (.c (.int .i64 0))), none⟩]) (.block 0 (.loop k84_l18))) (.seq (.reg [⟨(some 87), (.mov (.t 4)), none⟩, ⟨(some 88), (.cvb (.t 87)), none⟩, ⟨(some 89), (.mov (.t 5)), none⟩, ⟨(some 90), (.un .not (.t 89)), none⟩, ⟨(some 2), (.mov (.t 88)), none⟩, ⟨(some 3), (.mov (.t 90)), none⟩]) .ret))))))
theorem k84_cf : cfunc Tryd.prog Tryd.f84 = some ⟨91, k84, [(.tmp 2), (.tmp 3)]⟩ := by kernel_rfl
theorem w_dn_unescape_l18 (N : Nat) (a0 : List UInt8) : ∀ (n : Nat) (x : Bool × Int × List UInt8) (y : (Bool × List UInt8) ⊕ (List UInt8 × Bool)), dn_unescape_l18 N a0 n x = some y → WX Tryd.prog (fun _ => false) (.loop k84_l18) ((fun (x : Bool × Int × List UInt8) => ⟨ofL [(0, .str a0), (4, .slr 1004 0 x.2.2.length), (5, .bool x.1), (6, .int .i64 x.2.1)], ofL [(1004, ⟨1, true, List.map eb x.2.2⟩)]⟩) x) ((Sum.elim (fun y e s => e = .exit 0 ∧ s = ⟨ofL [(4, .slr 1004 0 y.2.length), (5, .bool y.1)], ofL [(1004, ⟨1, true, List.map eb y.2⟩)]⟩) (fun y e s => e = .ret ∧ s = ⟨ofL [(2, .str y.1), (3, .bool y.2)], ofL []⟩) : ((Bool × List UInt8) ⊕ (List UInt8 × Bool)) → Xt → St → Prop) y) := by
  refine xloop (fun (x : Bool × Int × List UInt8) => ⟨ofL [(0, .str a0), (4, .slr 1004 0 x.2.2.length), (5, .bool x.1), (6, .int .i64 x.2.1)], ofL [(1004, ⟨1, true, List.map eb x.2.2⟩)]⟩) _ (dn_unescape_l18 N a0) (dn_unescape_l18_b N a0) (fun _ => rfl) (fun _ _ => rfl) ?_
  rintro rec ⟨v5l18, v6l18, r1004l18⟩ y h
  refine xseq ?_
  refine xseq ?_
  refine xreg ?_
  refine wpp rfl rfl ?_
  refine wpp rfl rfl ?_
  refine wpp rfl rfl ?_
  refine wpp rfl rfl ?_
  rcases bifS h with ⟨c4, h⟩ | ⟨c4, h⟩
  · refine xcT rfl c4 ?_
    refine xskip ?_
    refine xjoin (fun (x : Bool × Int × List UInt8) => ⟨ofL [(0, .str a0), (4, .slr 1004 0 x.2.2.length), (5, .bool x.1), (6, .int .i64 x.2.1)], ofL [(1004, ⟨1, true, List.map eb x.2.2⟩)]⟩) (fun x => dn_unescape_j25 rec x.1 x.2.1 x.2.2 = some y) ?_ ?_
    · rintro ⟨v5j25, v6j25, r1004j25⟩ h
      refine xreg ?_
      refine wpp rfl rfl ?_
      refine wpp (p := .int .i64 (w64 (v6j25 + (1 : Int)))) rfl rfl ?_
      refine wpp rfl rfl ?_
      exact ⟨(v5j25, (w64 (v6j25 + (1 : Int))), r1004j25), (canon0 ⟨rfl, rfl, rfl, rfl, trivial⟩ ⟨rfl, trivial⟩ rfl rfl), h⟩
    · skip
      refine xblk ?_
      refine xseq ?_
      refine xreg ?_
      refine wpp rfl rfl ?_
      refine wpp rfl rfl ?_
      obtain ⟨x26, hx26, h⟩ := bindS h
      refine wpp rfl (p_idx hx26 rfl rfl) ?_
      refine wpp rfl rfl ?_
      refine xseq ?_
      refine xreg ?_
      refine wpp rfl rfl ?_
      refine wpp (p := .bool (((x26).toNat : Int) == (32 : Int))) rfl rfl ?_
      refine wpp rfl rfl ?_
      refine xblk ?_
      refine xseq ?_
      refine xreg ?_
      refine wpp rfl rfl ?_
      refine wpp (p := .bool (((x26).toNat : Int) == (92 : Int))) rfl rfl ?_
      refine wpp rfl rfl ?_
      rcases bifS h with ⟨c5, h⟩ | ⟨c5, h⟩
      · refine xcT rfl c5 ?_
        refine xseq ?_
        refine xreg ?_
        refine wpp rfl rfl ?_
        refine wpp (p := .int .i64 (w64 (v6l18 + (1 : Int)))) rfl rfl ?_
        refine wpp rfl rfl ?_
        refine xseq ?_
        obtain ⟨g6, hg6, h⟩ := bindS h
        refine xseg ⟨ofL [(0, .str a0), (4, .slr 1004 0 r1004l18.length), (5, .bool (((x26).toNat : Int) == (32 : Int))), (6, .int .i64 (w64 (v6l18 + (1 : Int)))), (48, .bool g6)], ofL [(1004, ⟨1, true, List.map eb r1004l18⟩)]⟩ ?_ ?_
        · have h := hg6
          refine xreg ?_
          refine wpp rfl rfl ?_
          refine wpp rfl rfl ?_
          refine wpp rfl rfl ?_
          refine wpp rfl rfl ?_
          refine wpp rfl rfl ?_
          rcases bifS h with ⟨c7, h⟩ | ⟨c7, h⟩
          · skip
            refine wpp (gy rfl c7) rfl ?_
            refine wpp (gy rfl c7) rfl ?_
            obtain ⟨x45, hx45, h⟩ := bindS h
            refine wpp (gy rfl c7) (p_idx hx45 rfl rfl) ?_
            obtain ⟨x46, hx46, h⟩ := bindS h
            refine woo (gy rfl c7) (ocal (sat_strings_IndexByte N _ _ _ hx46) rfl (.cons sub_rfl (.cons sub_rfl .nil)) rfl rfl rfl) ?_
            refine wpp (gy rfl c7) rfl ?_
            refine wpp rfl (p_pick1 c7 rfl rfl) ?_
            obtain rfl := someS h
            exact (canon0 ⟨rfl, rfl, rfl, rfl, rfl, trivial⟩ ⟨rfl, trivial⟩ rfl rfl)
          · skip
            refine wsk (gn rfl c7) ?_
            refine wsk (gn rfl c7) ?_
            refine wsk (gn rfl c7) ?_
            refine wsk (gn rfl c7) ?_
            refine wsk (gn rfl c7) ?_
            refine wpp rfl (p_pick0 c7 rfl rfl) ?_
            obtain rfl := someS h
            exact (canon0 ⟨rfl, rfl, rfl, rfl, rfl, trivial⟩ ⟨rfl, trivial⟩ rfl rfl)
        · clear hg6
          rcases bifS h with ⟨c8, h⟩ | ⟨c8, h⟩
          · refine xcT rfl c8 ?_
            refine xseq ?_
            refine xreg ?_
            refine wpp rfl rfl ?_
            refine wpp rfl rfl ?_
            refine wpp rfl rfl ?_
            obtain ⟨x52, hx52, h⟩ := bindS h
            refine wpp rfl (p_idx hx52 rfl rfl) ?_
            refine woo rfl (obsl 53 rfl rfl rfl) ?_
            obtain ⟨x54, hx54, h⟩ := bindS h
            refine wapp (f := eb) 54 hx54 rfl rfl rfl rfl rfl (el_row rfl (full_row (f := eb) (l := [x52]))) rfl rfl rfl rfl ?_
            refine wpp rfl rfl ?_
            refine xexit ?_
            exact ⟨((((x26).toNat : Int) == (32 : Int)), (w64 (v6l18 + (1 : Int))), x54), (Norm.trans (rename 54 1004 rfl rfl) (canon0 ⟨rfl, rfl, rfl, rfl, trivial⟩ ⟨rfl, trivial⟩ rfl rfl)), h⟩
          · refine xcF rfl c8 ?_
            refine xskip ?_
            refine xseq ?_
            refine xreg ?_
            refine wpp rfl rfl ?_
            refine wpp rfl rfl ?_
            obtain ⟨x58, hx58, h⟩ := bindS h
            refine woo rfl (ocal (sat_dn_digit N _ _ _ hx58) rfl (.cons sub_rfl (.cons sub_rfl .nil)) rfl rfl rfl) ?_
            refine wpp rfl rfl ?_
            refine wpp rfl rfl ?_
            refine wpp rfl rfl ?_
            refine wpp rfl rfl ?_
            refine wpp rfl rfl ?_
            refine xseq ?_
            refine xreg ?_
            refine wpp rfl rfl ?_
            refine wpp rfl rfl ?_
            refine wpp (p := .int .i64 (w64 ((w64 (v6l18 + (1 : Int))) + (1 : Int)))) rfl rfl ?_
            obtain ⟨x65, hx65, h⟩ := bindS h
            refine woo rfl (ocal (sat_dn_digit N _ _ _ hx65) rfl (.cons sub_rfl (.cons sub_rfl .nil)) rfl rfl rfl) ?_
            refine wpp rfl rfl ?_
            refine wpp rfl rfl ?_
            refine wpp rfl rfl ?_
            refine wpp rfl rfl ?_
            refine wpp rfl rfl ?_
            refine xseq ?_
            obtain ⟨g9, hg9, h⟩ := bindS h
            refine xseg ⟨ofL [(0, .str a0), (4, .slr 1004 0 r1004l18.length), (5, .bool (((x26).toNat : Int) == (32 : Int))), (6, .int .i64 (w64 (v6l18 + (1 : Int)))), (8, eb x58.1), (10, eb x65.1), (73, .bool g9)], ofL [(1004, ⟨1, true, List.map eb r1004l18⟩)]⟩ ?_ ?_
            · have h := hg9
              refine xreg ?_
              refine wpp rfl rfl ?_
              refine wpp rfl rfl ?_
              refine wpp rfl rfl ?_
              rcases bifS h with ⟨c10, h⟩ | ⟨c10, h⟩
              · skip
                refine wsk (gn rfl c10) ?_
                refine wsk (gn rfl c10) ?_
                refine wpp rfl (p_pick1 c10 rfl rfl) ?_
                obtain rfl := someS h
                exact (canon0 ⟨rfl, rfl, rfl, rfl, rfl, rfl, rfl, trivial⟩ ⟨rfl, trivial⟩ rfl rfl)
              · skip
                refine wpp (gy rfl c10) rfl ?_
                refine wpp (gy rfl c10) rfl ?_
                refine wpp rfl (p_pick0 c10 rfl rfl) ?_
                obtain rfl := someS h
                exact (canon0 ⟨rfl, rfl, rfl, rfl, rfl, rfl, rfl, trivial⟩ ⟨rfl, trivial⟩ rfl rfl)
            · clear hg9
              rcases bifS h with ⟨c11, h⟩ | ⟨c11, h⟩
              · refine xcT rfl c11 ?_
                refine xseq ?_
                refine xreg ?_
                refine wpp rfl rfl ?_
                refine wpp rfl rfl ?_
                obtain rfl := someS h
                exact xretn (st1 := ⟨ofL [(2, .str ([] : List UInt8)), (3, .bool false)], ofL []⟩) (canon0 ⟨rfl, rfl, trivial⟩ trivial rfl rfl) ⟨rfl, rfl⟩
              · refine xcF rfl c11 ?_
                refine xskip ?_
                refine xseq ?_
                refine xreg ?_
                refine wpp rfl rfl ?_
                refine wpp rfl rfl ?_
                refine wpp rfl (p_u8shl (a := x58.1) (by decide) rfl rfl) ?_
                refine wpp rfl rfl ?_
                refine wpp rfl (p_u8or (a := (shlB x58.1 4)) (b := x65.1) rfl rfl) ?_
                refine woo rfl (obsl 79 rfl rfl rfl) ?_
                obtain ⟨x80, hx80, h⟩ := bindS h
                refine wapp (f := eb) 80 hx80 rfl rfl rfl rfl rfl (el_row rfl (full_row (f := eb) (l := [((shlB x58.1 4) ||| x65.1)]))) rfl rfl rfl rfl ?_
                refine wpp rfl rfl ?_
                refine xreg ?_
                refine wpp rfl rfl ?_
                refine wpp (p := .int .i64 (w64 ((w64 (v6l18 + (1 : Int))) + (1 : Int)))) rfl rfl ?_
                refine wpp rfl rfl ?_
                exact ⟨((((x26).toNat : Int) == (32 : Int)), (w64 ((w64 (v6l18 + (1 : Int))) + (1 : Int))), x80), (Norm.trans (rename 80 1004 rfl rfl) (canon0 ⟨rfl, rfl, rfl, rfl, trivial⟩ ⟨rfl, trivial⟩ rfl rfl)), h⟩
      · refine xcF rfl c5 ?_
        refine xseq ?_
        refine xreg ?_
        refine wpp rfl rfl ?_
        obtain ⟨x85, hx85, h⟩ := bindS h
        refine woo rfl (ocal (sat_strings_IndexByte N _ _ _ hx85) rfl (.cons sub_rfl (.cons sub_rfl .nil)) rfl rfl rfl) ?_
        refine wpp rfl rfl ?_
        refine wpp rfl rfl ?_
        rcases bifS h with ⟨c12, h⟩ | ⟨c12, h⟩
        · refine xcT rfl c12 ?_
          refine xseq ?_
          refine xreg ?_
          refine wpp rfl rfl ?_
          refine wpp rfl rfl ?_
          obtain rfl := someS h
          exact xretn (st1 := ⟨ofL [(2, .str ([] : List UInt8)), (3, .bool false)], ofL []⟩) (canon0 ⟨rfl, rfl, trivial⟩ trivial rfl rfl) ⟨rfl, rfl⟩
        · refine xcF rfl c12 ?_
          refine xreg ?_
          refine wpp rfl rfl ?_
          refine wpp rfl rfl ?_
          refine woo rfl (obsl 31 rfl rfl rfl) ?_
          obtain ⟨x32, hx32, h⟩ := bindS h
          refine wapp (f := eb) 32 hx32 rfl rfl rfl rfl rfl (el_row rfl (full_row (f := eb) (l := [x26]))) rfl rfl rfl rfl ?_
          refine wpp rfl rfl ?_
          exact ⟨((((x26).toNat : Int) == (32 : Int)), v6l18, x32), (Norm.trans (rename 32 1004 rfl rfl) (canon0 ⟨rfl, rfl, rfl, rfl, trivial⟩ ⟨rfl, trivial⟩ rfl rfl)), h⟩
  · refine xcF rfl c4 ?_
    obtain rfl := someS h
    exact xexitn (st1 := ⟨ofL [(4, .slr 1004 0 r1004l18.length), (5, .bool v5l18)], ofL [(1004, ⟨1, true, List.map eb r1004l18⟩)]⟩) (canon0 ⟨rfl, rfl, trivial⟩ ⟨rfl, trivial⟩ rfl rfl) ⟨rfl, rfl⟩
theorem sat_dn_unescape (N : Nat) (a0 : List UInt8) (r : List UInt8 × Bool) (h : dn_unescape N a0 = some r) : Sat Tryd.prog 84 noRows [.str a0] (.tup [.str r.1, .bool r.2]) noRows := by
  refine xsat mixed Tryd.func84 k84_cf (rs := [.str r.1, .bool r.2]) rfl rfl ?_
  refine xseq ?_
  refine xreg ?_
  refine wpp rfl rfl ?_
  refine wpp rfl rfl ?_
  refine xseq ?_
  obtain ⟨g1, hg1, h⟩ := bindS h
  refine xseg ⟨ofL [(0, .str a0), (17, .bool g1)], ofL []⟩ ?_ ?_
  · have h := hg1
    refine xreg ?_
    refine wpp rfl rfl ?_
    obtain ⟨x13, hx13, h⟩ := bindS h
    refine woo rfl (ocal (sat_strings_HasPrefix N _ _ _ hx13) rfl (.cons sub_rfl (.cons sub_rfl .nil)) rfl rfl rfl) ?_
    refine wpp rfl rfl ?_
    rcases bifS h with ⟨c2, h⟩ | ⟨c2, h⟩
    · skip
      refine wsk (gn rfl c2) ?_
      refine wsk (gn rfl c2) ?_
      refine wpp rfl (p_pick1 c2 rfl rfl) ?_
      obtain rfl := someS h
      exact (canon0 ⟨rfl, rfl, trivial⟩ trivial rfl rfl)
    · skip
      refine wpp (gy rfl c2) rfl ?_
      obtain ⟨x16, hx16, h⟩ := bindS h
      refine woo (gy rfl c2) (ocal (sat_strings_HasPrefix N _ _ _ hx16) rfl (.cons sub_rfl (.cons sub_rfl .nil)) rfl rfl rfl) ?_
      refine wpp rfl (p_pick0 c2 rfl rfl) ?_
      obtain rfl := someS h
      exact (canon0 ⟨rfl, rfl, trivial⟩ trivial rfl rfl)
  · clear hg1
    rcases bifS h with ⟨c3, h⟩ | ⟨c3, h⟩
    · refine xcT rfl c3 ?_
      refine xseq ?_
      refine xreg ?_
      refine wpp rfl rfl ?_
      refine wpp rfl rfl ?_
      obtain rfl := someS h
      refine xret ?_
      exact ⟨nofun, rfl, rfl⟩
    · refine xcF rfl c3 ?_
      refine xskip ?_
      refine xseq ?_
      refine xreg ?_
      refine wpp rfl rfl ?_
      refine xseq ?_
      refine xreg ?_
      refine wpp rfl rfl ?_
      refine xseq ?_
      refine xseq ?_
      refine xreg ?_
      refine wpp rfl rfl ?_
      refine xblk ?_
      obtain ⟨y13, hy13, h⟩ := bindS h
      refine xloopU (st1 := ⟨ofL [(0, .str a0), (4, .slr 1004 0 ([].length)), (5, .bool false), (6, .int .i64 0)], ofL [(1004, ⟨1, true, List.map eb []⟩)]⟩) (Norm.trans (nlrow 4 1004 1 true rfl rfl rfl) (canon0 ⟨rfl, rfl, rfl, rfl, trivial⟩ ⟨rfl, trivial⟩ rfl rfl)) (w_dn_unescape_l18 N a0 N _ _ hy13) ?_
      clear hy13
      rcases y13 with y13 | y13
      · rintro e s ⟨rfl, rfl⟩
        refine xseq ?_
        refine xreg ?_
        refine wpp rfl rfl ?_
        refine wpp rfl (p_cvbr (l := y13.2) rfl rfl (full_row (f := eb) (l := y13.2))) ?_
        refine wpp rfl rfl ?_
        refine wpp rfl rfl ?_
        refine wpp rfl rfl ?_
        refine wpp rfl rfl ?_
        obtain rfl := someS h
        refine xret ?_
        exact ⟨nofun, rfl, rfl⟩
      · rintro e s ⟨rfl, rfl⟩
        obtain rfl := someS h
        exact ⟨nofun, rfl, rfl⟩
end Go.Gp
end
section
set_option linter.unusedVariables false
set_option linter.unusedSimpArgs false
set_option maxRecDepth 4000
namespace Go.Gp
open Go.Vd Go.RowKit Go.Proofs
def k105_l14 : IC := (.seq (.reg [⟨(some 26), (.bin .lss (.t 25) (.t 24)), none⟩]) (.seq (.cond (.t 26) .skip (.exit 0)) (.seq (.block 1 (.seq (.reg [⟨(some 27), (.ixp 1 (.t 23) (.t 25)), none⟩, ⟨(some 28), (.load 1 false (.t 27)), none⟩, ⟨(some 4), (.mov (.t 28)), none⟩]) (.block 2 (.seq (.block 5 (.seq (.block 4 (.block 3 (.seq (.seq (.seq (.reg [⟨(some 30), (.mov (.t 4)), none⟩, ⟨(some 31), (.bin .geq (.t 30) (.c (.int .u8 97))), none⟩, ⟨(some 32), (.mov (.t 31)), none⟩, ⟨(some 33), (.mov (.t 4)), (some (32, true))⟩, ⟨(some 34), (.bin .leq (.t 33) (.c (.int .u8 122))), (some (32, true))⟩, ⟨(some 35), (.pick (.t 32) (.t 34) (.c (.bool false))), none⟩, ⟨(some 29), (.mov (.t 35)), none⟩]) (.cond (.t 29) (.exit 3) .skip)) (.seq (.seq (.reg [⟨(some 37), (.mov (.t 4)), none⟩, ⟨(some 38), (.bin .geq (.t 37) (.c (.int .u8 48))), none⟩, ⟨(some 39), (.mov (.t 38)), none⟩, ⟨(some 40), (.mov (.t 4)), (some (39, true))⟩, ⟨(some 41), (.bin .leq (.t 40) (.c (.int .u8 57))), (some (39, true))⟩, ⟨(some 42), (.pick (.t 39) (.t 41) (.c (.bool false))), none⟩, ⟨(some 36), (.mov (.t 42)), none⟩]) (.cond (.t 36) .skip (.reg [⟨(some 43), (.mov (.t 4)), none⟩, ⟨(some 44), (.bin .eql (.t 43) (.c (.int .u8 45))), none⟩, ⟨(some 36), (.mov (.t 44)), none⟩]))) (.cond (.t 36) (.exit 4) .skip))) (.exit 5)))) (.exit 2))) (.seq (.seq (.reg [⟨(some 2), (.mov (.c (.bool false))), none⟩]) .ret) (.exit 2)))))) (.reg [⟨(some 45), (.bin .add (.t 25) (.c (.int .i64 1))), none⟩, ⟨(some 25), (.mov (.t 45)), none⟩]))))
def k105 : IC := (.seq (.reg [⟨(some 2), (.mov (.c (.bool false))), none⟩]) (.seq (.seq (.reg [⟨(some 5), (.mov (.t 0)), none⟩, ⟨(some 6), (.bin .eql (.t 5) (.c (.str []))), none⟩, ⟨(some 7), (.mov (.t 6)), none⟩, ⟨(some 8), (.mov (.t 0)), (some (7, false))⟩, ⟨(some 9), (.len true (.t 8)), (some (7, false))⟩, ⟨(some 10), (.bin .gtr (.t 9) (.c (.int .i64 16))), (some (7, false))⟩, ⟨(some 11), (.pick (.t 7) (.c (.bool true)) (.t 10)), none⟩, ⟨(some 12), (.mov (.t 11)), none⟩, ⟨(some 13), (.mov (.t 0)), (some (12, false))⟩, ⟨(some 14), (.idxs (.t 13) (.c (.int .i64 0))), (some (12, false))⟩, ⟨(some 15), (.bin .lss (.t 14) (.c (.int .u8 97))), (some (12, false))⟩, ⟨(some 16), (.pick (.t 12) (.c (.bool true)) (.t 15)), none⟩, ⟨(some 17), (.mov (.t 16)), none⟩, ⟨(some 18), (.mov (.t 0)), (some (17, false))⟩, ⟨(some 19), (.idxs (.t 18) (.c (.int .i64 0))), (some (17, false))⟩, ⟨(some 20), (.bin .gtr (.t 19) (.c (.int .u8 122))), (some (17, false))⟩, ⟨(some 21), (.pick (.t 17) (.c (.bool true)) (.t 20)), none⟩]) (.cond (.t 21) (.seq (.reg [⟨(some 2), (.mov (.c (.bool false))), none⟩]) .ret) .skip)) (.seq (.seq (.reg [⟨(some 22), (.mov (.t 0)), none⟩, ⟨(some 23), (.cvs (.t 22)), none⟩, ⟨(some 24), (.len false (.t 23)), none⟩, ⟨(some 25), (.mov (.c (.int .i64 0))), none⟩]) (.block 0 (.loop k105_l14))) (.seq (.reg [⟨(some 2), (.mov (.c (.bool true))), none⟩]) .ret))))
theorem k105_cf : cfunc Tryd.prog Tryd.f105 = some ⟨46, k105, [(.tmp 2)]⟩ := by kernel_rfl
theorem w_dn_IsType_l14 (N : Nat) (a0 : List UInt8) : ∀ (n : Nat) (x : Int) (y : Unit ⊕ Bool), dn_IsType_l14 N a0 n x = some y → WX Tryd.prog (fun _ => false) (.loop k105_l14) ((fun (x : Int) => ⟨ofL [(23, .slr 23 0 a0.length), (24, .int .i64 (a0.length : Int)), (25, .int .i64 x)], ofL [(23, ⟨1, true, List.map eb a0⟩)]⟩) x) ((Sum.elim (fun y e s => e = .exit 0 ∧ s = ⟨ofL [], ofL []⟩) (fun y e s => e = .ret ∧ s = ⟨ofL [(2, .bool y)], ofL []⟩) : (Unit ⊕ Bool) → Xt → St → Prop) y) := by
  refine xloop (fun (x : Int) => ⟨ofL [(23, .slr 23 0 a0.length), (24, .int .i64 (a0.length : Int)), (25, .int .i64 x)], ofL [(23, ⟨1, true, List.map eb a0⟩)]⟩) _ (dn_IsType_l14 N a0) (dn_IsType_l14_b N a0) (fun _ => rfl) (fun _ _ => rfl) ?_
  rintro rec v25l14 y h
  refine xseq ?_
  refine xreg ?_
  refine wpp rfl rfl ?_
  refine xseq ?_
  rcases bifS h with ⟨c6, h⟩ | ⟨c6, h⟩
  · refine xcT rfl c6 ?_
    refine xskip ?_
    refine xseq ?_
    refine xblk ?_
    refine xseq ?_
    refine xreg ?_
    obtain ⟨x27, hx27, h⟩ := bindS h
    refine wpp rfl (p_ixr hx27 rfl rfl rfl rfl) ?_
    obtain ⟨x28, hx28, h⟩ := bindS h
    refine wpp rfl (p_ldr (f := eb) (v := eb x28) hx28 rfl rfl rfl) ?_
    refine wpp rfl rfl ?_
    refine xblk ?_
    refine xseq ?_
    refine xblk ?_
    refine xjoin (fun (x : Unit) => ⟨ofL [(23, .slr 23 0 a0.length), (24, .int .i64 (a0.length : Int)), (25, .int .i64 v25l14)], ofL [(23, ⟨1, true, List.map eb a0⟩)]⟩) (fun x => dn_IsType_j28 v25l14 rec = some y) ?_ ?_
    · rintro ⟨⟩ h
      refine xexit ?_
      refine xreg ?_
      refine wpp (p := .int .i64 (w64 (v25l14 + (1 : Int)))) rfl rfl ?_
      refine wpp rfl rfl ?_
      exact ⟨(w64 (v25l14 + (1 : Int))), (canon0 ⟨rfl, rfl, rfl, trivial⟩ ⟨rfl, trivial⟩ rfl rfl), h⟩
    · skip
      refine xblk ?_
      refine xblk ?_
      refine xseq ?_
      refine xseq ?_
      obtain ⟨g7, hg7, h⟩ := bindS h
      refine xseg ⟨ofL [(4, eb x28), (23, .slr 23 0 a0.length), (24, .int .i64 (a0.length : Int)), (25, .int .i64 v25l14), (29, .bool g7)], ofL [(23, ⟨1, true, List.map eb a0⟩)]⟩ ?_ ?_
      · have h := hg7
        refine xreg ?_
        refine wpp rfl rfl ?_
        refine wpp (p := .bool (decide (((x28).toNat : Int) ≥ (97 : Int)))) rfl rfl ?_
        refine wpp rfl rfl ?_
        rcases bifS h with ⟨c8, h⟩ | ⟨c8, h⟩
        · skip
          refine wpp (gy rfl c8) rfl ?_
          refine wpp (p := .bool (decide (((x28).toNat : Int) ≤ (122 : Int)))) (gy rfl c8) rfl ?_
          refine wpp rfl (p_pick1 c8 rfl rfl) ?_
          refine wpp rfl rfl ?_
          obtain rfl := someS h
          exact (canon0 ⟨rfl, rfl, rfl, rfl, rfl, trivial⟩ ⟨rfl, trivial⟩ rfl rfl)
        · skip
          refine wsk (gn rfl c8) ?_
          refine wsk (gn rfl c8) ?_
          refine wpp rfl (p_pick0 c8 rfl rfl) ?_
          refine wpp rfl rfl ?_
          obtain rfl := someS h
          exact (canon0 ⟨rfl, rfl, rfl, rfl, rfl, trivial⟩ ⟨rfl, trivial⟩ rfl rfl)
      · clear hg7
        rcases bifS h with ⟨c9, h⟩ | ⟨c9, h⟩
        · refine xcT rfl c9 ?_
          refine xexit ?_
          exact ⟨(), (canon0 ⟨rfl, rfl, rfl, trivial⟩ ⟨rfl, trivial⟩ rfl rfl), h⟩
        · refine xcF rfl c9 ?_
          refine xskip ?_
          refine xjoin (fun (x : Bool) => ⟨ofL [(23, .slr 23 0 a0.length), (24, .int .i64 (a0.length : Int)), (25, .int .i64 v25l14), (36, .bool x)], ofL [(23, ⟨1, true, List.map eb a0⟩)]⟩) (fun x => dn_IsType_j38 v25l14 rec x = some y) ?_ ?_
          · rintro v36j38 h
            rcases bifS h with ⟨c10, h⟩ | ⟨c10, h⟩
            · refine xcT rfl c10 ?_
              refine xexit ?_
              exact ⟨(), (canon0 ⟨rfl, rfl, rfl, trivial⟩ ⟨rfl, trivial⟩ rfl rfl), h⟩
            · refine xcF rfl c10 ?_
              refine xskip ?_
              refine xexit ?_
              refine xseq ?_
              refine xseq ?_
              refine xreg ?_
              refine wpp rfl rfl ?_
              obtain rfl := someS h
              exact xretn (st1 := ⟨ofL [(2, .bool false)], ofL []⟩) (canon0 ⟨rfl, trivial⟩ trivial rfl rfl) ⟨rfl, rfl⟩
          · skip
            obtain ⟨g11, hg11, h⟩ := bindS h
            refine xseg ⟨ofL [(4, eb x28), (23, .slr 23 0 a0.length), (24, .int .i64 (a0.length : Int)), (25, .int .i64 v25l14), (36, .bool g11)], ofL [(23, ⟨1, true, List.map eb a0⟩)]⟩ ?_ ?_
            · have h := hg11
              refine xreg ?_
              refine wpp rfl rfl ?_
              refine wpp (p := .bool (decide (((x28).toNat : Int) ≥ (48 : Int)))) rfl rfl ?_
              refine wpp rfl rfl ?_
              rcases bifS h with ⟨c12, h⟩ | ⟨c12, h⟩
              · skip
                refine wpp (gy rfl c12) rfl ?_
                refine wpp (p := .bool (decide (((x28).toNat : Int) ≤ (57 : Int)))) (gy rfl c12) rfl ?_
                refine wpp rfl (p_pick1 c12 rfl rfl) ?_
                refine wpp rfl rfl ?_
                obtain rfl := someS h
                exact (canon0 ⟨rfl, rfl, rfl, rfl, rfl, trivial⟩ ⟨rfl, trivial⟩ rfl rfl)
              · skip
                refine wsk (gn rfl c12) ?_
                refine wsk (gn rfl c12) ?_
                refine wpp rfl (p_pick0 c12 rfl rfl) ?_
                refine wpp rfl rfl ?_
                obtain rfl := someS h
                exact (canon0 ⟨rfl, rfl, rfl, rfl, rfl, trivial⟩ ⟨rfl, trivial⟩ rfl rfl)
            · clear hg11
              rcases bifS h with ⟨c13, h⟩ | ⟨c13, h⟩
              · refine xcT rfl c13 ?_
                refine xskip ?_
                exact ⟨g11, (canon0 ⟨rfl, rfl, rfl, rfl, trivial⟩ ⟨rfl, trivial⟩ rfl rfl), h⟩
              · refine xcF rfl c13 ?_
                refine xreg ?_
                refine wpp rfl rfl ?_
                refine wpp (p := .bool (((x28).toNat : Int) == (45 : Int))) rfl rfl ?_
                refine wpp rfl rfl ?_
                exact ⟨(((x28).toNat : Int) == (45 : Int)), (canon0 ⟨rfl, rfl, rfl, rfl, trivial⟩ ⟨rfl, trivial⟩ rfl rfl), h⟩
  · refine xcF rfl c6 ?_
    obtain rfl := someS h
    exact xexitn (st1 := ⟨ofL [], ofL []⟩) (canon0 trivial trivial rfl rfl) ⟨rfl, rfl⟩
theorem sat_dn_IsType (N : Nat) (a0 : List UInt8) (r : Bool) (h : dn_IsType N a0 = some r) : Sat Tryd.prog 105 noRows [.str a0] (.bool r) noRows := by
  refine xsat mixed Tryd.func105 k105_cf (rs := [.bool r]) rfl rfl ?_
  refine xseq ?_
  refine xreg ?_
  refine wpp rfl rfl ?_
  refine xseq ?_
  obtain ⟨g1, hg1, h⟩ := bindS h
  refine xseg ⟨ofL [(0, .str a0), (21, .bool g1)], ofL []⟩ ?_ ?_
  · have h := hg1
    refine xreg ?_
    refine wpp rfl rfl ?_
    refine wpp rfl rfl ?_
    refine wpp rfl rfl ?_
    rcases bifS h with ⟨c2, h⟩ | ⟨c2, h⟩
    · skip
      refine wsk (gn rfl c2) ?_
      refine wsk (gn rfl c2) ?_
      refine wsk (gn rfl c2) ?_
      refine wpp rfl (p_pick1 c2 rfl rfl) ?_
      refine wpp rfl rfl ?_
      refine wsk rfl ?_
      refine wsk rfl ?_
      refine wsk rfl ?_
      refine wpp rfl rfl ?_
      refine wpp rfl rfl ?_
      refine wsk rfl ?_
      refine wsk rfl ?_
      refine wsk rfl ?_
      refine wpp rfl rfl ?_
      obtain rfl := someS h
      exact (canon0 ⟨rfl, rfl, trivial⟩ trivial rfl rfl)
    · skip
      refine wpp (gy rfl c2) rfl ?_
      refine wpp (gy rfl c2) rfl ?_
      refine wpp (gy rfl c2) rfl ?_
      refine wpp rfl (p_pick0 c2 rfl rfl) ?_
      refine wpp rfl rfl ?_
      rcases bifS h with ⟨c3, h⟩ | ⟨c3, h⟩
      · skip
        refine wsk (gn rfl c3) ?_
        refine wsk (gn rfl c3) ?_
        refine wsk (gn rfl c3) ?_
        refine wpp rfl (p_pick1 c3 rfl rfl) ?_
        refine wpp rfl rfl ?_
        refine wsk rfl ?_
        refine wsk rfl ?_
        refine wsk rfl ?_
        refine wpp rfl rfl ?_
        obtain rfl := someS h
        exact (canon0 ⟨rfl, rfl, trivial⟩ trivial rfl rfl)
      · skip
        refine wpp (gy rfl c3) rfl ?_
        obtain ⟨x14, hx14, h⟩ := bindS h
        refine wpp (gy rfl c3) (p_idx hx14 rfl rfl) ?_
        refine wpp (p := .bool (decide (((x14).toNat : Int) < (97 : Int)))) (gy rfl c3) rfl ?_
        refine wpp rfl (p_pick0 c3 rfl rfl) ?_
        refine wpp rfl rfl ?_
        rcases bifS h with ⟨c4, h⟩ | ⟨c4, h⟩
        · skip
          refine wsk (gn rfl c4) ?_
          refine wsk (gn rfl c4) ?_
          refine wsk (gn rfl c4) ?_
          refine wpp rfl (p_pick1 c4 rfl rfl) ?_
          obtain rfl := someS h
          exact (canon0 ⟨rfl, rfl, trivial⟩ trivial rfl rfl)
        · skip
          refine wpp (gy rfl c4) rfl ?_
          obtain ⟨x19, hx19, h⟩ := bindS h
          refine wpp (gy rfl c4) (p_idx hx19 rfl rfl) ?_
          refine wpp (p := .bool (decide (((x19).toNat : Int) > (122 : Int)))) (gy rfl c4) rfl ?_
          refine wpp rfl (p_pick0 c4 rfl rfl) ?_
          obtain rfl := someS h
          exact (canon0 ⟨rfl, rfl, trivial⟩ trivial rfl rfl)
  · clear hg1
    rcases bifS h with ⟨c5, h⟩ | ⟨c5, h⟩
    · refine xcT rfl c5 ?_
      refine xseq ?_
      refine xreg ?_
      refine wpp rfl rfl ?_
      obtain rfl := someS h
      refine xret ?_
      exact ⟨nofun, rfl, rfl⟩
    · refine xcF rfl c5 ?_
      refine xskip ?_
      refine xseq ?_
      refine xseq ?_
      refine xreg ?_
      refine wpp rfl rfl ?_
      refine woo rfl (ocvs 23 rfl rfl) ?_
      refine wpp rfl rfl ?_
      refine wpp rfl rfl ?_
      refine xblk ?_
      obtain ⟨y14, hy14, h⟩ := bindS h
      refine xloopU (st1 := ⟨ofL [(23, .slr 23 0 a0.length), (24, .int .i64 (a0.length : Int)), (25, .int .i64 0)], ofL [(23, ⟨1, true, List.map eb a0⟩)]⟩) (canon0 ⟨rfl, rfl, rfl, trivial⟩ ⟨rfl, trivial⟩ rfl rfl) (w_dn_IsType_l14 N a0 N _ _ hy14) ?_
      clear hy14
      rcases y14 with y14 | y14
      · rintro e s ⟨rfl, rfl⟩
        refine xseq ?_
        refine xreg ?_
        refine wpp rfl rfl ?_
        obtain rfl := someS h
        refine xret ?_
        exact ⟨nofun, rfl, rfl⟩
      · rintro e s ⟨rfl, rfl⟩
        obtain rfl := someS h
        exact ⟨nofun, rfl, rfl⟩
end Go.Gp
end
section
set_option linter.unusedVariables false
set_option linter.unusedSimpArgs false
set_option maxRecDepth 4000
namespace Go.Gp
open Go.Vd Go.RowKit Go.Proofs
def k107 : IC := (.seq (.reg [⟨(some 2), (.box 101 (.t 0)), none⟩, ⟨(some 3), (.mov (.c (.bool false))), none⟩]) (.seq (.reg [⟨(some 4), (.fda 0 (.t 2)), none⟩, ⟨(some 5), (.load 1 false (.t 4)), none⟩, ⟨(some 6), (.fda 0 (.t 1)), none⟩, ⟨(some 7), (.load 1 false (.t 6)), none⟩, ⟨(some 8), (.bin .eql (.t 5) (.t 7)), none⟩, ⟨(some 3), (.mov (.t 8)), none⟩]) .ret))
theorem k107_cf : cfunc Tryd.prog Tryd.f107 = some ⟨9, k107, [(.tmp 3)]⟩ := by kernel_rfl
theorem sat_dn_IsRDN_1 (N : Nat) (a0 : api_AVA) (c0 : api_AVA) (r : Bool) (h : dn_IsRDN_1 N a0 c0 = some r) : Sat Tryd.prog 107 noRows [e_api_AVA a0, .ep [.str c0.Attr, .str c0.Value]] (.bool r) noRows := by
  refine xsat mixed Tryd.func107 k107_cf (rs := [.bool r]) rfl rfl ?_
  refine xseq ?_
  refine xreg ?_
  refine woo rfl (obox 2 rfl rfl rfl rfl rfl) ?_
  refine wpp rfl rfl ?_
  refine xseq ?_
  refine xreg ?_
  refine wpp rfl rfl ?_
  refine wpp rfl rfl ?_
  refine wpp (p := .ep [.str c0.Attr, .str c0.Value]) rfl rfl ?_
  refine wpp rfl rfl ?_
  refine wpp rfl rfl ?_
  refine wpp rfl rfl ?_
  obtain rfl := someS h
  refine xret ?_
  exact ⟨nofun, rfl, rfl⟩
end Go.Gp
end
section
set_option linter.unusedVariables false
set_option linter.unusedSimpArgs false
set_option maxRecDepth 4000
namespace Go.Gp
open Go.Vd Go.RowKit Go.Proofs
def k114c107_l6 : IC := (.seq (.reg [⟨(some 9), (.bin .lss (.t 8) (.t 7)), none⟩]) (.seq (.cond (.t 9) .skip (.exit 0)) (.seq (.block 1 (.seq (.reg [⟨(some 10), (.mov (.t 8)), none⟩, ⟨(some 5), (.mov (.t 10)), none⟩]) (.seq (.reg [⟨(some 11), (.mov (.t 1)), none⟩, ⟨(some 12), (.mov (.t 0)), none⟩, ⟨(some 13), (.mov (.t 5)), none⟩, ⟨(some 14), (.ixp 2 (.t 12) (.t 13)), none⟩, ⟨(some 15), (.load 2 true (.t 14)), none⟩, ⟨(some 16), (.calv (.t 11) [(.t 15)]), none⟩]) (.cond (.t 16) (.seq (.reg [⟨(some 17), (.mov (.t 5)), none⟩, ⟨(some 4), (.mov (.t 17)), none⟩]) .ret) .skip)))) (.reg [⟨(some 18), (.bin .add (.t 8) (.c (.int .i64 1))), none⟩, ⟨(some 8), (.mov (.t 18)), none⟩]))))
def k114c107 : IC := (.seq (.reg [⟨(some 4), (.mov (.c (.int .i64 0))), none⟩]) (.seq (.seq (.reg [⟨(some 6), (.mov (.t 0)), none⟩, ⟨(some 7), (.len false (.t 6)), none⟩, ⟨(some 8), (.mov (.c (.int .i64 0))), none⟩]) (.block 0 (.loop k114c107_l6))) (.seq (.reg [⟨(some 4), (.mov (.c (.int .i64 (-1)))), none⟩]) .ret)))
theorem k114c107_cf : cfunc Tryd.prog Tryd.f114 = some ⟨19, k114c107, [(.tmp 4)]⟩ := by kernel_rfl
theorem w_slices_IndexFunc_api_RDN_api_AVA_c_dn_IsRDN_1_l6 (N : Nat) (a0 : List api_AVA) (a1_0 : api_AVA) : ∀ (n : Nat) (x : Int) (y : Unit ⊕ Int), slices_IndexFunc_api_RDN_api_AVA_c_dn_IsRDN_1_l6 N a0 a1_0 n x = some y → WX Tryd.prog (fun _ => false) (.loop k114c107_l6) ((fun (x : Int) => ⟨ofL [(0, .sl 2 (List.map e_api_AVA a0)), (1, .clo 107 [.ep [.str a1_0.Attr, .str a1_0.Value]]), (7, .int .i64 (a0.length : Int)), (8, .int .i64 x)], ofL []⟩) x) ((Sum.elim (fun y e s => e = .exit 0 ∧ s = ⟨ofL [], ofL []⟩) (fun y e s => e = .ret ∧ s = ⟨ofL [(4, .int .i64 y)], ofL []⟩) : (Unit ⊕ Int) → Xt → St → Prop) y) := by
  refine xloop (fun (x : Int) => ⟨ofL [(0, .sl 2 (List.map e_api_AVA a0)), (1, .clo 107 [.ep [.str a1_0.Attr, .str a1_0.Value]]), (7, .int .i64 (a0.length : Int)), (8, .int .i64 x)], ofL []⟩) _ (slices_IndexFunc_api_RDN_api_AVA_c_dn_IsRDN_1_l6 N a0 a1_0) (slices_IndexFunc_api_RDN_api_AVA_c_dn_IsRDN_1_l6_b N a0 a1_0) (fun _ => rfl) (fun _ _ => rfl) ?_
  rintro rec v8l6 y h
  refine xseq ?_
  refine xreg ?_
  refine wpp rfl rfl ?_
  refine xseq ?_
  rcases bifS h with ⟨c1, h⟩ | ⟨c1, h⟩
  · refine xcT rfl c1 ?_
    refine xskip ?_
    refine xseq ?_
    refine xblk ?_
    refine xseq ?_
    refine xreg ?_
    refine wpp rfl rfl ?_
    refine wpp rfl rfl ?_
    refine xseq ?_
    refine xreg ?_
    refine wpp rfl rfl ?_
    refine wpp rfl rfl ?_
    refine wpp rfl rfl ?_
    obtain ⟨x14, hx14, h⟩ := bindS h
    refine wpp rfl (p_ixs (cs := [.str x14.Attr, .str x14.Value]) hx14 rfl rfl rfl) ?_
    refine wpp (p := e_api_AVA x14) rfl rfl ?_
    obtain ⟨x16, hx16, h⟩ := bindS h
    refine woo rfl (ocalv (sat_dn_IsRDN_1 N _ _ _ hx16) rfl rfl rfl (.cons sub_rfl (.cons sub_rfl .nil)) rfl rfl rfl) ?_
    rcases bifS h with ⟨c2, h⟩ | ⟨c2, h⟩
    · refine xcT rfl c2 ?_
      refine xseq ?_
      refine xreg ?_
      refine wpp rfl rfl ?_
      refine wpp rfl rfl ?_
      obtain rfl := someS h
      exact xretn (st1 := ⟨ofL [(4, .int .i64 v8l6)], ofL []⟩) (canon0 ⟨rfl, trivial⟩ trivial rfl rfl) ⟨rfl, rfl⟩
    · refine xcF rfl c2 ?_
      refine xskip ?_
      refine xreg ?_
      refine wpp (p := .int .i64 (w64 (v8l6 + (1 : Int)))) rfl rfl ?_
      refine wpp rfl rfl ?_
      exact ⟨(w64 (v8l6 + (1 : Int))), (canon0 ⟨rfl, rfl, rfl, rfl, trivial⟩ trivial rfl rfl), h⟩
  · refine xcF rfl c1 ?_
    obtain rfl := someS h
    exact xexitn (st1 := ⟨ofL [], ofL []⟩) (canon0 trivial trivial rfl rfl) ⟨rfl, rfl⟩
theorem sat_slices_IndexFunc_api_RDN_api_AVA_c_dn_IsRDN_1 (N : Nat) (a0 : List api_AVA) (a1_0 : api_AVA) (r : Int) (h : slices_IndexFunc_api_RDN_api_AVA_c_dn_IsRDN_1 N a0 a1_0 = some r) : Sat Tryd.prog 114 noRows [.sl 2 (List.map e_api_AVA a0), .clo 107 [.ep [.str a1_0.Attr, .str a1_0.Value]]] (.int .i64 r) noRows := by
  refine xsat mixed Tryd.func114 k114c107_cf (rs := [.int .i64 r]) rfl rfl ?_
  refine xseq ?_
  refine xreg ?_
  refine wpp rfl rfl ?_
  refine xseq ?_
  refine xseq ?_
  refine xreg ?_
  refine wpp rfl rfl ?_
  refine wpp rfl (p_lens rfl) ?_
  refine wpp rfl rfl ?_
  refine xblk ?_
  obtain ⟨y3, hy3, h⟩ := bindS h
  refine xloopU (st1 := ⟨ofL [(0, .sl 2 (List.map e_api_AVA a0)), (1, .clo 107 [.ep [.str a1_0.Attr, .str a1_0.Value]]), (7, .int .i64 (a0.length : Int)), (8, .int .i64 0)], ofL []⟩) (canon0 ⟨rfl, rfl, rfl, rfl, trivial⟩ trivial rfl rfl) (w_slices_IndexFunc_api_RDN_api_AVA_c_dn_IsRDN_1_l6 N a0 a1_0 N _ _ hy3) ?_
  clear hy3
  rcases y3 with y3 | y3
  · rintro e s ⟨rfl, rfl⟩
    refine xseq ?_
    refine xreg ?_
    refine wpp rfl rfl ?_
    obtain rfl := someS h
    refine xret ?_
    exact ⟨nofun, rfl, rfl⟩
  · rintro e s ⟨rfl, rfl⟩
    obtain rfl := someS h
    exact ⟨nofun, rfl, rfl⟩
end Go.Gp
end
section
set_option linter.unusedVariables false
set_option linter.unusedSimpArgs false
set_option maxRecDepth 4000
namespace Go.Gp
open Go.Vd Go.RowKit Go.Proofs
def k106c107 : IC := (.seq (.reg [⟨(some 4), (.mov (.c (.bool false))), none⟩]) (.seq (.reg [⟨(some 5), (.mov (.t 0)), none⟩, ⟨(some 6), (.mov (.t 1)), none⟩, ⟨(some 7), (.call 114 [(.t 5), (.t 6)]), none⟩, ⟨(some 8), (.bin .geq (.t 7) (.c (.int .i64 0))), none⟩, ⟨(some 4), (.mov (.t 8)), none⟩]) .ret))
theorem k106c107_cf : cfunc Tryd.prog Tryd.f106 = some ⟨9, k106c107, [(.tmp 4)]⟩ := by kernel_rfl
theorem sat_slices_ContainsFunc_api_RDN_api_AVA_c_dn_IsRDN_1 (N : Nat) (a0 : List api_AVA) (a1_0 : api_AVA) (r : Bool) (h : slices_ContainsFunc_api_RDN_api_AVA_c_dn_IsRDN_1 N a0 a1_0 = some r) : Sat Tryd.prog 106 noRows [.sl 2 (List.map e_api_AVA a0), .clo 107 [.ep [.str a1_0.Attr, .str a1_0.Value]]] (.bool r) noRows := by
  refine xsat mixed Tryd.func106 k106c107_cf (rs := [.bool r]) rfl rfl ?_
  refine xseq ?_
  refine xreg ?_
  refine wpp rfl rfl ?_
  refine xseq ?_
  refine xreg ?_
  refine wpp rfl rfl ?_
  refine wpp rfl rfl ?_
  obtain ⟨x7, hx7, h⟩ := bindS h
  refine woo rfl (ocal (sat_slices_IndexFunc_api_RDN_api_AVA_c_dn_IsRDN_1 N _ _ _ hx7) rfl (.cons sub_rfl (.cons sub_rfl .nil)) rfl rfl rfl) ?_
  refine wpp rfl rfl ?_
  refine wpp rfl rfl ?_
  obtain rfl := someS h
  refine xret ?_
  exact ⟨nofun, rfl, rfl⟩
end Go.Gp
end
section
set_option linter.unusedVariables false
set_option linter.unusedSimpArgs false
set_option maxRecDepth 4000
namespace Go.Gp
open Go.Vd Go.RowKit Go.Proofs
def k85_l6 : IC := (.seq (.reg [⟨(some 8), (.bin .lss (.t 7) (.t 6)), none⟩]) (.seq (.cond (.t 8) .skip (.exit 0)) (.seq (.block 1 (.seq (.reg [⟨(some 9), (.mov (.t 7)), none⟩, ⟨(some 10), (.ixp 2 (.t 5) (.t 7)), none⟩, ⟨(some 11), (.load 2 true (.t 10)), none⟩, ⟨(some 4), (.box 101 (.c (.agg [(.str []), (.str [])]))), none⟩, ⟨(some 3), (.mov (.t 9)), none⟩, ⟨none, (.store 2 (.t 4) (.t 11)), none⟩]) (.seq (.seq (.reg [⟨(some 12), (.mov (.t 3)), none⟩, ⟨(some 13), (.bin .geq (.t 12) (.c (.int .i64 4))), none⟩, ⟨(some 14), (.mov (.t 13)), none⟩, ⟨(some 15), (.fda 0 (.t 4)), (some (14, false))⟩, ⟨(some 16), (.load 1 false (.t 15)), (some (14, false))⟩, ⟨(some 17), (.call 105 [(.t 16)]), (some (14, false))⟩, ⟨(some 18), (.un .not (.t 17)), (some (14, false))⟩, ⟨(some 19), (.pick (.t 14) (.c (.bool true)) (.t 18)), none⟩, ⟨(some 20), (.mov (.t 19)), none⟩, ⟨(some 21), (.fda 1 (.t 4)), (some (20, false))⟩, ⟨(some 22), (.load 1 false (.t 21)), (some (20, false))⟩, ⟨(some 23), (.bin .eql (.t 22) (.c (.str []))), (some (20, false))⟩, ⟨(some 24), (.pick (.t 20) (.c (.bool true)) (.t 23)), none⟩, ⟨(some 25), (.mov (.t 24)), none⟩, ⟨(some 26), (.fda 1 (.t 4)), (some (25, false))⟩, ⟨(some 27), (.load 1 false (.t 26)), (some (25, false))⟩, ⟨(some 28), (.len true (.t 27)), (some (25, false))⟩, ⟨(some 29), (.bin .gtr (.t 28) (.c (.int .i64 60))), (some (25, false))⟩, ⟨(some 30), (.pick (.t 25) (.c (.bool true)) (.t 29)), none⟩]) (.cond (.t 30) (.seq (.reg [⟨(some 2), (.mov (.c (.bool false))), none⟩]) .ret) .skip)) (.seq (.reg [⟨(some 31), (.mov (.t 0)), none⟩, ⟨(some 32), (.mov (.t 3)), none⟩, ⟨(some 33), (.slcl 2 (.t 31) none (some (.t 32))), none⟩, ⟨(some 34), (.mkf 107 [(.t 4)]), none⟩, ⟨(some 35), (.call 106 [(.t 33), (.t 34)]), none⟩]) (.cond (.t 35) (.seq (.reg [⟨(some 2), (.mov (.c (.bool false))), none⟩]) .ret) .skip))))) (.reg [⟨(some 36), (.bin .add (.t 7) (.c (.int .i64 1))), none⟩, ⟨(some 7), (.mov (.t 36)), none⟩]))))
def k85 : IC := (.seq (.reg [⟨(some 2), (.mov (.c (.bool false))), none⟩]) (.seq (.seq (.reg [⟨(some 5), (.mov (.t 0)), none⟩, ⟨(some 6), (.len false (.t 5)), none⟩, ⟨(some 7), (.mov (.c (.int .i64 0))), none⟩]) (.block 0 (.loop k85_l6))) (.seq (.reg [⟨(some 37), (.mov (.t 0)), none⟩, ⟨(some 38), (.len false (.t 37)), none⟩, ⟨(some 39), (.bin .gtr (.t 38) (.c (.int .i64 0))), none⟩, ⟨(some 2), (.mov (.t 39)), none⟩]) .ret)))
theorem k85_cf : cfunc Tryd.prog Tryd.f85 = some ⟨40, k85, [(.tmp 2)]⟩ := by kernel_rfl
theorem w_dn_IsRDN_l6 (N : Nat) (a0 : List api_AVA) : ∀ (n : Nat) (x : Int) (y : Unit ⊕ Bool), dn_IsRDN_l6 N a0 n x = some y → WX Tryd.prog (fun _ => false) (.loop k85_l6) ((fun (x : Int) => ⟨ofL [(0, .sl 2 (List.map e_api_AVA a0)), (5, .sl 2 (List.map e_api_AVA a0)), (6, .int .i64 (a0.length : Int)), (7, .int .i64 x)], ofL []⟩) x) ((Sum.elim (fun y e s => e = .exit 0 ∧ s = ⟨ofL [(0, .sl 2 (List.map e_api_AVA a0))], ofL []⟩) (fun y e s => e = .ret ∧ s = ⟨ofL [(2, .bool y)], ofL []⟩) : (Unit ⊕ Bool) → Xt → St → Prop) y) := by
  refine xloop (fun (x : Int) => ⟨ofL [(0, .sl 2 (List.map e_api_AVA a0)), (5, .sl 2 (List.map e_api_AVA a0)), (6, .int .i64 (a0.length : Int)), (7, .int .i64 x)], ofL []⟩) _ (dn_IsRDN_l6 N a0) (dn_IsRDN_l6_b N a0) (fun _ => rfl) (fun _ _ => rfl) ?_
  rintro rec v7l6 y h
  refine xseq ?_
  refine xreg ?_
  refine wpp rfl rfl ?_
  refine xseq ?_
  rcases bifS h with ⟨c1, h⟩ | ⟨c1, h⟩
  · refine xcT rfl c1 ?_
    refine xskip ?_
    refine xseq ?_
    refine xblk ?_
    refine xseq ?_
    refine xreg ?_
    refine wpp rfl rfl ?_
    obtain ⟨x10, hx10, h⟩ := bindS h
    refine wpp rfl (p_ixs (cs := [.str x10.Attr, .str x10.Value]) hx10 rfl rfl rfl) ?_
    refine wpp (p := e_api_AVA x10) rfl rfl ?_
    refine woo rfl (obox 4 rfl rfl rfl rfl rfl) ?_
    refine wpp rfl rfl ?_
    refine wstb (e' := e_api_AVA x10) rfl rfl rfl rfl rfl rfl rfl rfl nofun rfl ?_
    refine xseq ?_
    obtain ⟨g2, hg2, h⟩ := bindS h
    refine xseg ⟨ofL [(0, .sl 2 (List.map e_api_AVA a0)), (3, .int .i64 v7l6), (4, .ptr 4 0 0), (5, .sl 2 (List.map e_api_AVA a0)), (6, .int .i64 (a0.length : Int)), (7, .int .i64 v7l6), (30, .bool g2)], ofL [(4, ⟨2, false, [e_api_AVA x10]⟩)]⟩ ?_ ?_
    · have h := hg2
      refine xreg ?_
      refine wpp rfl rfl ?_
      refine wpp rfl rfl ?_
      refine wpp rfl rfl ?_
      rcases bifS h with ⟨c3, h⟩ | ⟨c3, h⟩
      · skip
        refine wsk (gn rfl c3) ?_
        refine wsk (gn rfl c3) ?_
        refine wsk (gn rfl c3) ?_
        refine wsk (gn rfl c3) ?_
        refine wpp rfl (p_pick1 c3 rfl rfl) ?_
        refine wpp rfl rfl ?_
        refine wsk rfl ?_
        refine wsk rfl ?_
        refine wsk rfl ?_
        refine wpp rfl rfl ?_
        refine wpp rfl rfl ?_
        refine wsk rfl ?_
        refine wsk rfl ?_
        refine wsk rfl ?_
        refine wsk rfl ?_
        refine wpp rfl rfl ?_
        obtain rfl := someS h
        exact (canon0 ⟨rfl, rfl, rfl, rfl, rfl, rfl, rfl, trivial⟩ ⟨rfl, trivial⟩ rfl rfl)
      · skip
        refine wpp (gy rfl c3) rfl ?_
        refine wpp (gy rfl c3) rfl ?_
        obtain ⟨x17, hx17, h⟩ := bindS h
        refine woo (gy rfl c3) (ocal (sat_dn_IsType N _ _ hx17) rfl (.cons sub_rfl .nil) rfl rfl rfl) ?_
        refine wpp (gy rfl c3) rfl ?_
        refine wpp rfl (p_pick0 c3 rfl rfl) ?_
        refine wpp rfl rfl ?_
        rcases bifS h with ⟨c4, h⟩ | ⟨c4, h⟩
        · skip
          refine wsk (gn rfl c4) ?_
          refine wsk (gn rfl c4) ?_
          refine wsk (gn rfl c4) ?_
          refine wpp rfl (p_pick1 c4 rfl rfl) ?_
          refine wpp rfl rfl ?_
          refine wsk rfl ?_
          refine wsk rfl ?_
          refine wsk rfl ?_
          refine wsk rfl ?_
          refine wpp rfl rfl ?_
          obtain rfl := someS h
          exact (canon0 ⟨rfl, rfl, rfl, rfl, rfl, rfl, rfl, trivial⟩ ⟨rfl, trivial⟩ rfl rfl)
        · skip
          refine wpp (gy rfl c4) rfl ?_
          refine wpp (gy rfl c4) rfl ?_
          refine wpp (gy rfl c4) rfl ?_
          refine wpp rfl (p_pick0 c4 rfl rfl) ?_
          refine wpp rfl rfl ?_
          rcases bifS h with ⟨c5, h⟩ | ⟨c5, h⟩
          · skip
            refine wsk (gn rfl c5) ?_
            refine wsk (gn rfl c5) ?_
            refine wsk (gn rfl c5) ?_
            refine wsk (gn rfl c5) ?_
            refine wpp rfl (p_pick1 c5 rfl rfl) ?_
            obtain rfl := someS h
            exact (canon0 ⟨rfl, rfl, rfl, rfl, rfl, rfl, rfl, trivial⟩ ⟨rfl, trivial⟩ rfl rfl)
          · skip
            refine wpp (gy rfl c5) rfl ?_
            refine wpp (gy rfl c5) rfl ?_
            refine wpp (gy rfl c5) rfl ?_
            refine wpp (gy rfl c5) rfl ?_
            refine wpp rfl (p_pick0 c5 rfl rfl) ?_
            obtain rfl := someS h
            exact (canon0 ⟨rfl, rfl, rfl, rfl, rfl, rfl, rfl, trivial⟩ ⟨rfl, trivial⟩ rfl rfl)
    · clear hg2
      rcases bifS h with ⟨c6, h⟩ | ⟨c6, h⟩
      · refine xcT rfl c6 ?_
        refine xseq ?_
        refine xreg ?_
        refine wpp rfl rfl ?_
        obtain rfl := someS h
        exact xretn (st1 := ⟨ofL [(2, .bool false)], ofL []⟩) (canon0 ⟨rfl, trivial⟩ trivial rfl rfl) ⟨rfl, rfl⟩
      · refine xcF rfl c6 ?_
        refine xskip ?_
        refine xseq ?_
        refine xreg ?_
        refine wpp rfl rfl ?_
        refine wpp rfl rfl ?_
        obtain ⟨x33, hx33, h⟩ := bindS h
        refine wpp rfl (p_takel hx33 rfl rfl) ?_
        refine wpp rfl rfl ?_
        refine wn (bfreeze 4 rfl rfl rfl) ?_
        obtain ⟨x35, hx35, h⟩ := bindS h
        refine woo rfl (ocal (sat_slices_ContainsFunc_api_RDN_api_AVA_c_dn_IsRDN_1 N _ _ _ hx35) rfl (.cons sub_rfl (.cons sub_rfl .nil)) rfl rfl rfl) ?_
        rcases bifS h with ⟨c7, h⟩ | ⟨c7, h⟩
        · refine xcT rfl c7 ?_
          refine xseq ?_
          refine xreg ?_
          refine wpp rfl rfl ?_
          obtain rfl := someS h
          exact xretn (st1 := ⟨ofL [(2, .bool false)], ofL []⟩) (canon0 ⟨rfl, trivial⟩ trivial rfl rfl) ⟨rfl, rfl⟩
        · refine xcF rfl c7 ?_
          refine xskip ?_
          refine xreg ?_
          refine wpp (p := .int .i64 (w64 (v7l6 + (1 : Int)))) rfl rfl ?_
          refine wpp rfl rfl ?_
          exact ⟨(w64 (v7l6 + (1 : Int))), (canon0 ⟨rfl, rfl, rfl, rfl, trivial⟩ trivial rfl rfl), h⟩
  · refine xcF rfl c1 ?_
    obtain rfl := someS h
    exact xexitn (st1 := ⟨ofL [(0, .sl 2 (List.map e_api_AVA a0))], ofL []⟩) (canon0 ⟨rfl, trivial⟩ trivial rfl rfl) ⟨rfl, rfl⟩
theorem sat_dn_IsRDN (N : Nat) (a0 : List api_AVA) (r : Bool) (h : dn_IsRDN N a0 = some r) : Sat Tryd.prog 85 noRows [.sl 2 (List.map e_api_AVA a0)] (.bool r) noRows := by
  refine xsat mixed Tryd.func85 k85_cf (rs := [.bool r]) rfl rfl ?_
  refine xseq ?_
  refine xreg ?_
  refine wpp rfl rfl ?_
  refine xseq ?_
  refine xseq ?_
  refine xreg ?_
  refine wpp rfl rfl ?_
  refine wpp rfl (p_lens rfl) ?_
  refine wpp rfl rfl ?_
  refine xblk ?_
  obtain ⟨y8, hy8, h⟩ := bindS h
  refine xloopU (st1 := ⟨ofL [(0, .sl 2 (List.map e_api_AVA a0)), (5, .sl 2 (List.map e_api_AVA a0)), (6, .int .i64 (a0.length : Int)), (7, .int .i64 0)], ofL []⟩) (canon0 ⟨rfl, rfl, rfl, rfl, trivial⟩ trivial rfl rfl) (w_dn_IsRDN_l6 N a0 N _ _ hy8) ?_
  clear hy8
  rcases y8 with y8 | y8
  · rintro e s ⟨rfl, rfl⟩
    refine xseq ?_
    refine xreg ?_
    refine wpp rfl rfl ?_
    refine wpp rfl (p_lens rfl) ?_
    refine wpp rfl rfl ?_
    refine wpp rfl rfl ?_
    obtain rfl := someS h
    refine xret ?_
    exact ⟨nofun, rfl, rfl⟩
  · rintro e s ⟨rfl, rfl⟩
    obtain rfl := someS h
    exact ⟨nofun, rfl, rfl⟩
end Go.Gp
end
section
set_option linter.unusedVariables false
set_option linter.unusedSimpArgs false
set_option maxRecDepth 4000
namespace Go.Gp
open Go.Vd Go.RowKit Go.Proofs
def k65_l8 : IC := (.seq (.reg [⟨(some 16), (.bin .lss (.t 15) (.t 14)), none⟩]) (.seq (.cond (.t 16) .skip (.exit 0)) (.seq (.block 1 (.seq (.reg [⟨(some 17), (.ixp 1 (.t 13) (.t 15)), none⟩, ⟨(some 18), (.load 1 false (.t 17)), none⟩, ⟨(some 6), (.mov (.t 18)), none⟩]) (.seq (.reg [⟨(some 20), (.mov (.t 6)), none⟩, ⟨(some 21), (.call 83 [(.t 20), (.c (.str [61]))]), none⟩, ⟨(some 19), (.mov (.t 21)), none⟩, ⟨(some 22), (.ext 0 (.t 19)), none⟩, ⟨(some 23), (.ext 1 (.t 19)), none⟩, ⟨(some 24), (.ext 2 (.t 19)), none⟩, ⟨(some 7), (.mov (.t 22)), none⟩, ⟨(some 8), (.mov (.t 23)), none⟩, ⟨(some 9), (.mov (.t 24)), none⟩]) (.seq (.reg [⟨(some 26), (.mov (.t 8)), none⟩, ⟨(some 27), (.call 84 [(.t 26)]), none⟩, ⟨(some 25), (.mov (.t 27)), none⟩, ⟨(some 28), (.ext 0 (.t 25)), none⟩, ⟨(some 29), (.ext 1 (.t 25)), none⟩, ⟨(some 10), (.mov (.t 28)), none⟩, ⟨(some 11), (.mov (.t 29)), none⟩]) (.seq (.seq (.reg [⟨(some 30), (.mov (.t 9)), none⟩, ⟨(some 31), (.un .not (.t 30)), none⟩, ⟨(some 32), (.mov (.t 31)), none⟩, ⟨(some 33), (.mov (.t 11)), (some (32, false))⟩, ⟨(some 34), (.un .not (.t 33)), (some (32, false))⟩, ⟨(some 35), (.pick (.t 32) (.c (.bool true)) (.t 34)), none⟩, ⟨(some 36), (.mov (.t 35)), none⟩, ⟨(some 37), (.mov (.t 4)), (some (36, false))⟩, ⟨(some 38), (.len false (.t 37)), (some (36, false))⟩, ⟨(some 39), (.bin .gtr (.t 38) (.c (.int .i64 4))), (some (36, false))⟩, ⟨(some 40), (.pick (.t 36) (.c (.bool true)) (.t 39)), none⟩]) (.cond (.t 40) (.seq (.reg [⟨(some 2), (.mov (.c .nl)), none⟩, ⟨(some 3), (.mov (.c (.int .i64 15))), none⟩]) .ret) .skip)) (.reg [⟨(some 41), (.mov (.t 4)), none⟩, ⟨(some 42), (.mov (.t 7)), none⟩, ⟨(some 43), (.call 28 [(.t 42)]), none⟩, ⟨(some 44), (.mov (.t 10)), none⟩, ⟨(some 45), (.build [(.str []), (.str [])] [(0, (1, (.t 43))), (1, (1, (.t 44)))]), none⟩, ⟨(some 46), (.bsl 2 [(.t 45)]), none⟩, ⟨(some 47), (.app 101 2 32 (.t 41) (.t 46)), none⟩, ⟨(some 4), (.mov (.t 47)), none⟩])))))) (.reg [⟨(some 48), (.bin .add (.t 15) (.c (.int .i64 1))), none⟩, ⟨(some 15), (.mov (.t 48)), none⟩]))))
def k65 : IC := (.seq (.reg [⟨(some 2), (.mov (.c .nl)), none⟩, ⟨(some 3), (.mov (.c (.int .i64 0))), none⟩]) (.seq (.reg [⟨(some 4), (.mov (.c .nl)), none⟩]) (.seq (.seq (.reg [⟨(some 12), (.mov (.t 0)), none⟩, ⟨(some 13), (.call 64 [(.t 12), (.c (.int .u8 43))]), none⟩, ⟨(some 14), (.len false (.t 13)), none⟩, ⟨(some 15), (.mov (.c (.int .i64 0))), none⟩]) (.block 0 (.loop k65_l8))) (.seq (.seq (.reg [⟨(some 49), (.mov (.t 4)), none⟩, ⟨(some 50), (.call 85 [(.t 49)]), none⟩, ⟨(some 51), (.un .not (.t 50)), none⟩]) (.cond (.t 51) (.seq (.reg [⟨(some 2), (.mov (.c .nl)), none⟩, ⟨(some 3), (.mov (.c (.int .i64 15))), none⟩]) .ret) .skip)) (.seq (.reg [⟨(some 52), (.mov (.t 4)), none⟩, ⟨(some 2), (.mov (.t 52)), none⟩, ⟨(some 3), (.mov (.c (.int .i64 0))), none⟩]) .ret)))))
theorem k65_cf : cfunc Tryd.prog Tryd.f65 = some ⟨53, k65, [(.tmp 2), (.tmp 3)]⟩ := by kernel_rfl
theorem w_dn_ParseRDN_l8 (N : Nat) (x13 : List (List UInt8)) : ∀ (n : Nat) (x : Int × List api_AVA) (y : (List api_AVA) ⊕ (List api_AVA × Int)), dn_ParseRDN_l8 N x13 n x = some y → WX Tryd.prog (fun _ => false) (.loop k65_l8) ((fun (x : Int × List api_AVA) => ⟨ofL [(4, .slr 1004 0 x.2.length), (13, .sl 1 (List.map PV.str x13)), (14, .int .i64 (x13.length : Int)), (15, .int .i64 x.1)], ofL [(1004, ⟨2, true, List.map e_api_AVA x.2⟩)]⟩) x) ((Sum.elim (fun y e s => e = .exit 0 ∧ s = ⟨ofL [(4, .slr 1004 0 y.length)], ofL [(1004, ⟨2, true, List.map e_api_AVA y⟩)]⟩) (fun y e s => e = .ret ∧ s = ⟨ofL [(2, .sl 2 (List.map e_api_AVA y.1)), (3, .int .i64 y.2)], ofL []⟩) : ((List api_AVA) ⊕ (List api_AVA × Int)) → Xt → St → Prop) y) := by
  refine xloop (fun (x : Int × List api_AVA) => ⟨ofL [(4, .slr 1004 0 x.2.length), (13, .sl 1 (List.map PV.str x13)), (14, .int .i64 (x13.length : Int)), (15, .int .i64 x.1)], ofL [(1004, ⟨2, true, List.map e_api_AVA x.2⟩)]⟩) _ (dn_ParseRDN_l8 N x13) (dn_ParseRDN_l8_b N x13) (fun _ => rfl) (fun _ _ => rfl) ?_
  rintro rec ⟨v15l8, r1004l8⟩ y h
  refine xseq ?_
  refine xreg ?_
  refine wpp rfl rfl ?_
  refine xseq ?_
  rcases bifS h with ⟨c1, h⟩ | ⟨c1, h⟩
  · refine xcT rfl c1 ?_
    refine xskip ?_
    refine xseq ?_
    refine xblk ?_
    refine xseq ?_
    refine xreg ?_
    obtain ⟨x17, hx17, h⟩ := bindS h
    refine wpp rfl (p_ixs (cs := [.str x17]) hx17 rfl rfl rfl) ?_
    refine wpp rfl rfl ?_
    refine wpp rfl rfl ?_
    refine xseq ?_
    refine xreg ?_
    refine wpp rfl rfl ?_
    obtain ⟨x21, hx21, h⟩ := bindS h
    refine woo rfl (ocal (sat_strings_Cut N _ _ _ hx21) rfl (.cons sub_rfl (.cons sub_rfl .nil)) rfl rfl rfl) ?_
    refine wpp rfl rfl ?_
    refine wpp rfl rfl ?_
    refine wpp rfl rfl ?_
    refine wpp rfl rfl ?_
    refine wpp rfl rfl ?_
    refine wpp rfl rfl ?_
    refine wpp rfl rfl ?_
    refine xseq ?_
    refine xreg ?_
    refine wpp rfl rfl ?_
    obtain ⟨x27, hx27, h⟩ := bindS h
    refine woo rfl (ocal (sat_dn_unescape N _ _ hx27) rfl (.cons sub_rfl .nil) rfl rfl rfl) ?_
    refine wpp rfl rfl ?_
    refine wpp rfl rfl ?_
    refine wpp rfl rfl ?_
    refine wpp rfl rfl ?_
    refine wpp rfl rfl ?_
    refine xseq ?_
    obtain ⟨g2, hg2, h⟩ := bindS h
    refine xseg ⟨ofL [(4, .slr 1004 0 r1004l8.length), (7, .str x21.1), (10, .str x27.1), (13, .sl 1 (List.map PV.str x13)), (14, .int .i64 (x13.length : Int)), (15, .int .i64 v15l8), (40, .bool g2)], ofL [(1004, ⟨2, true, List.map e_api_AVA r1004l8⟩)]⟩ ?_ ?_
    · have h := hg2
      refine xreg ?_
      refine wpp rfl rfl ?_
      refine wpp rfl rfl ?_
      refine wpp rfl rfl ?_
      rcases bifS h with ⟨c3, h⟩ | ⟨c3, h⟩
      · skip
        refine wsk (gn rfl c3) ?_
        refine wsk (gn rfl c3) ?_
        refine wpp rfl (p_pick1 c3 rfl rfl) ?_
        refine wpp rfl rfl ?_
        refine wsk rfl ?_
        refine wsk rfl ?_
        refine wsk rfl ?_
        refine wpp rfl rfl ?_
        obtain rfl := someS h
        exact (canon0 ⟨rfl, rfl, rfl, rfl, rfl, rfl, rfl, trivial⟩ ⟨rfl, trivial⟩ rfl rfl)
      · skip
        refine wpp (gy rfl c3) rfl ?_
        refine wpp (gy rfl c3) rfl ?_
        refine wpp rfl (p_pick0 c3 rfl rfl) ?_
        refine wpp rfl rfl ?_
        rcases bifS h with ⟨c4, h⟩ | ⟨c4, h⟩
        · skip
          refine wsk (gn rfl c4) ?_
          refine wsk (gn rfl c4) ?_
          refine wsk (gn rfl c4) ?_
          refine wpp rfl (p_pick1 c4 rfl rfl) ?_
          obtain rfl := someS h
          exact (canon0 ⟨rfl, rfl, rfl, rfl, rfl, rfl, rfl, trivial⟩ ⟨rfl, trivial⟩ rfl rfl)
        · skip
          refine wpp (gy rfl c4) rfl ?_
          refine wpp (gy rfl c4) rfl ?_
          refine wpp (gy rfl c4) rfl ?_
          refine wpp rfl (p_pick0 c4 rfl rfl) ?_
          obtain rfl := someS h
          exact (canon0 ⟨rfl, rfl, rfl, rfl, rfl, rfl, rfl, trivial⟩ ⟨rfl, trivial⟩ rfl rfl)
    · clear hg2
      rcases bifS h with ⟨c5, h⟩ | ⟨c5, h⟩
      · refine xcT rfl c5 ?_
        refine xseq ?_
        refine xreg ?_
        refine wpp rfl rfl ?_
        refine wpp rfl rfl ?_
        obtain rfl := someS h
        exact xretn (st1 := ⟨ofL [(2, .sl 2 (List.map e_api_AVA [])), (3, .int .i64 15)], ofL []⟩) (Norm.trans (nsub 2 (sub_nl 2) rfl) (canon0 ⟨rfl, rfl, trivial⟩ trivial rfl rfl)) ⟨rfl, rfl⟩
      · refine xcF rfl c5 ?_
        refine xskip ?_
        refine xreg ?_
        refine wpp rfl rfl ?_
        refine wpp rfl rfl ?_
        obtain ⟨x43, hx43, h⟩ := bindS h
        refine woo rfl (ocal (sat_dn_Lower N _ _ hx43) rfl (.cons sub_rfl .nil) rfl rfl rfl) ?_
        refine wpp rfl rfl ?_
        refine wpp (p := .agg [.str x43, .str x27.1]) rfl rfl ?_
        refine woo rfl (obsl 46 rfl rfl rfl) ?_
        obtain ⟨x47, hx47, h⟩ := bindS h
        refine wapp (f := e_api_AVA) 47 hx47 rfl rfl rfl rfl rfl (el_row rfl (full_row (f := e_api_AVA) (l := [(⟨x43, x27.1⟩ : api_AVA)]))) rfl rfl rfl rfl ?_
        refine wpp rfl rfl ?_
        refine xreg ?_
        refine wpp (p := .int .i64 (w64 (v15l8 + (1 : Int)))) rfl rfl ?_
        refine wpp rfl rfl ?_
        exact ⟨((w64 (v15l8 + (1 : Int))), x47), (Norm.trans (rename 47 1004 rfl rfl) (canon0 ⟨rfl, rfl, rfl, rfl, trivial⟩ ⟨rfl, trivial⟩ rfl rfl)), h⟩
  · refine xcF rfl c1 ?_
    obtain rfl := someS h
    exact xexitn (st1 := ⟨ofL [(4, .slr 1004 0 r1004l8.length)], ofL [(1004, ⟨2, true, List.map e_api_AVA r1004l8⟩)]⟩) (canon0 ⟨rfl, trivial⟩ ⟨rfl, trivial⟩ rfl rfl) ⟨rfl, rfl⟩
theorem sat_dn_ParseRDN (N : Nat) (a0 : List UInt8) (r : List api_AVA × Int) (h : dn_ParseRDN N a0 = some r) : Sat Tryd.prog 65 noRows [.str a0] (.tup [.sl 2 (List.map e_api_AVA r.1), .int .i64 r.2]) noRows := by
  refine xsat mixed Tryd.func65 k65_cf (rs := [.sl 2 (List.map e_api_AVA r.1), .int .i64 r.2]) rfl rfl ?_
  refine xseq ?_
  refine xreg ?_
  refine wpp rfl rfl ?_
  refine wpp rfl rfl ?_
  refine xseq ?_
  refine xreg ?_
  refine wpp rfl rfl ?_
  refine xseq ?_
  refine xseq ?_
  refine xreg ?_
  refine wpp rfl rfl ?_
  obtain ⟨x13, hx13, h⟩ := bindS h
  refine woo rfl (ocal (sat_dn_cut N _ _ _ hx13) rfl (.cons sub_rfl (.cons sub_rfl .nil)) rfl rfl rfl) ?_
  refine wpp rfl (p_lens rfl) ?_
  refine wpp rfl rfl ?_
  refine xblk ?_
  obtain ⟨y6, hy6, h⟩ := bindS h
  refine xloopU (st1 := ⟨ofL [(4, .slr 1004 0 ([].length)), (13, .sl 1 (List.map PV.str x13)), (14, .int .i64 (x13.length : Int)), (15, .int .i64 0)], ofL [(1004, ⟨2, true, List.map e_api_AVA []⟩)]⟩) (Norm.trans (nlrow 4 1004 2 true rfl rfl rfl) (canon0 ⟨rfl, rfl, rfl, rfl, trivial⟩ ⟨rfl, trivial⟩ rfl rfl)) (w_dn_ParseRDN_l8 N x13 N _ _ hy6) ?_
  clear hy6
  rcases y6 with y6 | y6
  · rintro e s ⟨rfl, rfl⟩
    refine xseq ?_
    refine xseq ?_
    refine xreg ?_
    refine wpp rfl rfl ?_
    obtain ⟨x50, hx50, h⟩ := bindS h
    refine woo rfl (ocal (sat_dn_IsRDN N _ _ hx50) rfl (.cons (bor_row rfl (full_row (f := e_api_AVA) (l := y6))) .nil) rfl rfl rfl) ?_
    refine wpp rfl rfl ?_
    rcases bifS h with ⟨c7, h⟩ | ⟨c7, h⟩
    · refine xcT rfl c7 ?_
      refine xseq ?_
      refine xreg ?_
      refine wpp rfl rfl ?_
      refine wpp rfl rfl ?_
      obtain rfl := someS h
      refine xretn (st1 := ⟨ofL [(2, .sl 2 (List.map e_api_AVA [])), (3, .int .i64 15)], ofL []⟩) (Norm.trans (nsub 2 (sub_nl 2) rfl) (canon0 ⟨rfl, rfl, trivial⟩ trivial rfl rfl)) ?_
      exact ⟨nofun, rfl, rfl⟩
    · refine xcF rfl c7 ?_
      refine xskip ?_
      refine xseq ?_
      refine xreg ?_
      refine wpp rfl rfl ?_
      refine wpp rfl rfl ?_
      refine wpp rfl rfl ?_
      obtain rfl := someS h
      refine xretn (st1 := ⟨ofL [(2, .sl 2 (List.map e_api_AVA y6)), (3, .int .i64 0)], ofL []⟩) (Norm.trans (Vd.freeze 1004 _ rfl rfl rfl) (Norm.trans (nsub 2 (sub_eq (congrArg (PV.sl 2) (full_row (f := e_api_AVA) (l := y6)))) rfl) (canon0 ⟨rfl, rfl, trivial⟩ trivial rfl rfl))) ?_
      exact ⟨nofun, rfl, rfl⟩
  · rintro e s ⟨rfl, rfl⟩
    obtain rfl := someS h
    exact ⟨nofun, rfl, rfl⟩
end Go.Gp
end
section
set_option linter.unusedVariables false
set_option linter.unusedSimpArgs false
set_option maxRecDepth 4000
namespace Go.Gp
open Go.Vd Go.RowKit Go.Proofs
def k44_l16 : IC := (.seq (.reg [⟨(some 15), (.bin .lss (.t 14) (.t 13)), none⟩]) (.seq (.cond (.t 15) .skip (.exit 0)) (.seq (.block 1 (.seq (.reg [⟨(some 16), (.ixp 1 (.t 12) (.t 14)), none⟩, ⟨(some 17), (.load 1 false (.t 16)), none⟩, ⟨(some 6), (.mov (.t 17)), none⟩]) (.seq (.reg [⟨(some 19), (.mov (.t 6)), none⟩, ⟨(some 20), (.call 65 [(.t 19)]), none⟩, ⟨(some 18), (.mov (.t 20)), none⟩, ⟨(some 21), (.ext 0 (.t 18)), none⟩, ⟨(some 22), (.ext 1 (.t 18)), none⟩, ⟨(some 7), (.mov (.t 21)), none⟩, ⟨(some 8), (.mov (.t 22)), none⟩]) (.seq (.seq (.reg [⟨(some 23), (.mov (.t 8)), none⟩, ⟨(some 24), (.bin .neq (.t 23) (.c (.int .i64 0))), none⟩, ⟨(some 25), (.mov (.t 24)), none⟩, ⟨(some 26), (.mov (.t 4)), (some (25, false))⟩, ⟨(some 27), (.len false (.t 26)), (some (25, false))⟩, ⟨(some 28), (.bin .eql (.t 27) (.c (.int .i64 8))), (some (25, false))⟩, ⟨(some 29), (.pick (.t 25) (.c (.bool true)) (.t 28)), none⟩]) (.cond (.t 29) (.seq (.reg [⟨(some 2), (.mov (.c .nl)), none⟩, ⟨(some 3), (.mov (.c (.int .i64 15))), none⟩]) .ret) .skip)) (.reg [⟨(some 30), (.mov (.t 4)), none⟩, ⟨(some 31), (.mov (.t 7)), none⟩, ⟨(some 32), (.bsl 1 [(.t 31)]), none⟩, ⟨(some 33), (.app 72 1 24 (.t 30) (.t 32)), none⟩, ⟨(some 4), (.mov (.t 33)), none⟩]))))) (.reg [⟨(some 34), (.bin .add (.t 14) (.c (.int .i64 1))), none⟩, ⟨(some 14), (.mov (.t 34)), none⟩]))))
def k44 : IC := (.seq (.reg [⟨(some 2), (.mov (.c .nl)), none⟩, ⟨(some 3), (.mov (.c (.int .i64 0))), none⟩]) (.seq (.seq (.reg [⟨(some 9), (.mov (.t 0)), none⟩, ⟨(some 10), (.bin .eql (.t 9) (.c (.str []))), none⟩]) (.cond (.t 10) (.seq (.reg [⟨(some 2), (.mov (.c .nl)), none⟩, ⟨(some 3), (.mov (.c (.int .i64 0))), none⟩]) .ret) .skip)) (.seq (.reg [⟨(some 4), (.mov (.c .nl)), none⟩]) (.seq (.seq (.reg [⟨(some 11), (.mov (.t 0)), none⟩, ⟨(some 12), (.call 64 [(.t 11), (.c (.int .u8 44))]), none⟩, ⟨(some 13), (.len false (.t 12)), none⟩, ⟨(some 14), (.mov (.c (.int .i64 0))), none⟩]) (.block 0 (.loop k44_l16))) (.seq (.reg [⟨(some 35), (.mov (.t 4)), none⟩, ⟨(some 2), (.mov (.t 35)), none⟩, ⟨(some 3), (.mov (.c (.int .i64 0))), none⟩]) .ret)))))
theorem k44_cf : cfunc Tryd.prog Tryd.f44 = some ⟨36, k44, [(.tmp 2), (.tmp 3)]⟩ := by kernel_rfl
theorem w_dn_Parse_l16 (N : Nat) (x12 : List (List UInt8)) : ∀ (n : Nat) (x : Int × List (List api_AVA)) (y : (List (List api_AVA)) ⊕ (List (List api_AVA) × Int)), dn_Parse_l16 N x12 n x = some y → WX Tryd.prog (fun _ => false) (.loop k44_l16) ((fun (x : Int × List (List api_AVA)) => ⟨ofL [(4, .slr 1004 0 x.2.length), (12, .sl 1 (List.map PV.str x12)), (13, .int .i64 (x12.length : Int)), (14, .int .i64 x.1)], ofL [(1004, ⟨1, true, List.map (es 2 e_api_AVA) x.2⟩)]⟩) x) ((Sum.elim (fun y e s => e = .exit 0 ∧ s = ⟨ofL [(4, .slr 1004 0 y.length)], ofL [(1004, ⟨1, true, List.map (es 2 e_api_AVA) y⟩)]⟩) (fun y e s => e = .ret ∧ s = ⟨ofL [(2, .sl 1 (List.map (es 2 e_api_AVA) y.1)), (3, .int .i64 y.2)], ofL []⟩) : ((List (List api_AVA)) ⊕ (List (List api_AVA) × Int)) → Xt → St → Prop) y) := by
  refine xloop (fun (x : Int × List (List api_AVA)) => ⟨ofL [(4, .slr 1004 0 x.2.length), (12, .sl 1 (List.map PV.str x12)), (13, .int .i64 (x12.length : Int)), (14, .int .i64 x.1)], ofL [(1004, ⟨1, true, List.map (es 2 e_api_AVA) x.2⟩)]⟩) _ (dn_Parse_l16 N x12) (dn_Parse_l16_b N x12) (fun _ => rfl) (fun _ _ => rfl) ?_
  rintro rec ⟨v14l16, r1004l16⟩ y h
  refine xseq ?_
  refine xreg ?_
  refine wpp rfl rfl ?_
  refine xseq ?_
  rcases bifS h with ⟨c2, h⟩ | ⟨c2, h⟩
  · refine xcT rfl c2 ?_
    refine xskip ?_
    refine xseq ?_
    refine xblk ?_
    refine xseq ?_
    refine xreg ?_
    obtain ⟨x16, hx16, h⟩ := bindS h
    refine wpp rfl (p_ixs (cs := [.str x16]) hx16 rfl rfl rfl) ?_
    refine wpp rfl rfl ?_
    refine wpp rfl rfl ?_
    refine xseq ?_
    refine xreg ?_
    refine wpp rfl rfl ?_
    obtain ⟨x20, hx20, h⟩ := bindS h
    refine woo rfl (ocal (sat_dn_ParseRDN N _ _ hx20) rfl (.cons sub_rfl .nil) rfl rfl rfl) ?_
    refine wpp rfl rfl ?_
    refine wpp rfl rfl ?_
    refine wpp rfl rfl ?_
    refine wpp rfl rfl ?_
    refine wpp rfl rfl ?_
    refine xseq ?_
    obtain ⟨g3, hg3, h⟩ := bindS h
    refine xseg ⟨ofL [(4, .slr 1004 0 r1004l16.length), (7, .sl 2 (List.map e_api_AVA x20.1)), (12, .sl 1 (List.map PV.str x12)), (13, .int .i64 (x12.length : Int)), (14, .int .i64 v14l16), (29, .bool g3)], ofL [(1004, ⟨1, true, List.map (es 2 e_api_AVA) r1004l16⟩)]⟩ ?_ ?_
    · have h := hg3
      refine xreg ?_
      refine wpp rfl rfl ?_
      refine wpp rfl rfl ?_
      refine wpp rfl rfl ?_
      rcases bifS h with ⟨c4, h⟩ | ⟨c4, h⟩
      · skip
        refine wsk (gn rfl c4) ?_
        refine wsk (gn rfl c4) ?_
        refine wsk (gn rfl c4) ?_
        refine wpp rfl (p_pick1 c4 rfl rfl) ?_
        obtain rfl := someS h
        exact (canon0 ⟨rfl, rfl, rfl, rfl, rfl, rfl, trivial⟩ ⟨rfl, trivial⟩ rfl rfl)
      · skip
        refine wpp (gy rfl c4) rfl ?_
        refine wpp (gy rfl c4) rfl ?_
        refine wpp (gy rfl c4) rfl ?_
        refine wpp rfl (p_pick0 c4 rfl rfl) ?_
        obtain rfl := someS h
        exact (canon0 ⟨rfl, rfl, rfl, rfl, rfl, rfl, trivial⟩ ⟨rfl, trivial⟩ rfl rfl)
    · clear hg3
      rcases bifS h with ⟨c5, h⟩ | ⟨c5, h⟩
      · refine xcT rfl c5 ?_
        refine xseq ?_
        refine xreg ?_
        refine wpp rfl rfl ?_
        refine wpp rfl rfl ?_
        obtain rfl := someS h
        exact xretn (st1 := ⟨ofL [(2, .sl 1 (List.map (es 2 e_api_AVA) [])), (3, .int .i64 15)], ofL []⟩) (Norm.trans (nsub 2 (sub_nl 1) rfl) (canon0 ⟨rfl, rfl, trivial⟩ trivial rfl rfl)) ⟨rfl, rfl⟩
      · refine xcF rfl c5 ?_
        refine xskip ?_
        refine xreg ?_
        refine wpp rfl rfl ?_
        refine wpp rfl rfl ?_
        refine woo rfl (obsl 32 rfl rfl rfl) ?_
        obtain ⟨x33, hx33, h⟩ := bindS h
        refine wapp (f := (es 2 e_api_AVA)) 33 hx33 rfl rfl rfl rfl rfl (el_row rfl (full_row (f := (es 2 e_api_AVA)) (l := [x20.1]))) rfl rfl rfl rfl ?_
        refine wpp rfl rfl ?_
        refine xreg ?_
        refine wpp (p := .int .i64 (w64 (v14l16 + (1 : Int)))) rfl rfl ?_
        refine wpp rfl rfl ?_
        exact ⟨((w64 (v14l16 + (1 : Int))), x33), (Norm.trans (rename 33 1004 rfl rfl) (canon0 ⟨rfl, rfl, rfl, rfl, trivial⟩ ⟨rfl, trivial⟩ rfl rfl)), h⟩
  · refine xcF rfl c2 ?_
    obtain rfl := someS h
    exact xexitn (st1 := ⟨ofL [(4, .slr 1004 0 r1004l16.length)], ofL [(1004, ⟨1, true, List.map (es 2 e_api_AVA) r1004l16⟩)]⟩) (canon0 ⟨rfl, trivial⟩ ⟨rfl, trivial⟩ rfl rfl) ⟨rfl, rfl⟩
theorem sat_dn_Parse (N : Nat) (a0 : List UInt8) (r : List (List api_AVA) × Int) (h : dn_Parse N a0 = some r) : Sat Tryd.prog 44 noRows [.str a0] (.tup [.sl 1 (List.map (es 2 e_api_AVA) r.1), .int .i64 r.2]) noRows := by
  refine xsat mixed Tryd.func44 k44_cf (rs := [.sl 1 (List.map (es 2 e_api_AVA) r.1), .int .i64 r.2]) rfl rfl ?_
  refine xseq ?_
  refine xreg ?_
  refine wpp rfl rfl ?_
  refine wpp rfl rfl ?_
  refine xseq ?_
  refine xseq ?_
  refine xreg ?_
  refine wpp rfl rfl ?_
  refine wpp rfl rfl ?_
  rcases bifS h with ⟨c1, h⟩ | ⟨c1, h⟩
  · refine xcT rfl c1 ?_
    refine xseq ?_
    refine xreg ?_
    refine wpp rfl rfl ?_
    refine wpp rfl rfl ?_
    obtain rfl := someS h
    refine xretn (st1 := ⟨ofL [(2, .sl 1 (List.map (es 2 e_api_AVA) [])), (3, .int .i64 0)], ofL []⟩) (Norm.trans (nsub 2 (sub_nl 1) rfl) (canon0 ⟨rfl, rfl, trivial⟩ trivial rfl rfl)) ?_
    exact ⟨nofun, rfl, rfl⟩
  · refine xcF rfl c1 ?_
    refine xskip ?_
    refine xseq ?_
    refine xreg ?_
    refine wpp rfl rfl ?_
    refine xseq ?_
    refine xseq ?_
    refine xreg ?_
    refine wpp rfl rfl ?_
    obtain ⟨x12, hx12, h⟩ := bindS h
    refine woo rfl (ocal (sat_dn_cut N _ _ _ hx12) rfl (.cons sub_rfl (.cons sub_rfl .nil)) rfl rfl rfl) ?_
    refine wpp rfl (p_lens rfl) ?_
    refine wpp rfl rfl ?_
    refine xblk ?_
    obtain ⟨y6, hy6, h⟩ := bindS h
    refine xloopU (st1 := ⟨ofL [(4, .slr 1004 0 ([].length)), (12, .sl 1 (List.map PV.str x12)), (13, .int .i64 (x12.length : Int)), (14, .int .i64 0)], ofL [(1004, ⟨1, true, List.map (es 2 e_api_AVA) []⟩)]⟩) (Norm.trans (nlrow 4 1004 1 true rfl rfl rfl) (canon0 ⟨rfl, rfl, rfl, rfl, trivial⟩ ⟨rfl, trivial⟩ rfl rfl)) (w_dn_Parse_l16 N x12 N _ _ hy6) ?_
    clear hy6
    rcases y6 with y6 | y6
    · rintro e s ⟨rfl, rfl⟩
      refine xseq ?_
      refine xreg ?_
      refine wpp rfl rfl ?_
      refine wpp rfl rfl ?_
      refine wpp rfl rfl ?_
      obtain rfl := someS h
      refine xretn (st1 := ⟨ofL [(2, .sl 1 (List.map (es 2 e_api_AVA) y6)), (3, .int .i64 0)], ofL []⟩) (Norm.trans (Vd.freeze 1004 _ rfl rfl rfl) (Norm.trans (nsub 2 (sub_eq (congrArg (PV.sl 1) (full_row (f := (es 2 e_api_AVA)) (l := y6)))) rfl) (canon0 ⟨rfl, rfl, trivial⟩ trivial rfl rfl))) ?_
      exact ⟨nofun, rfl, rfl⟩
    · rintro e s ⟨rfl, rfl⟩
      obtain rfl := someS h
      exact ⟨nofun, rfl, rfl⟩
end Go.Gp
end
section
set_option linter.unusedVariables false
set_option linter.unusedSimpArgs false
set_option maxRecDepth 4000
namespace Go.Gp
open Go.Vd Go.RowKit Go.Proofs
def k95 : IC := (.seq (.reg [⟨(some 2), (.mov (.c (.bool false))), none⟩]) (.seq (.reg [⟨(some 3), (.mov (.t 0)), none⟩, ⟨(some 4), (.call 85 [(.t 3)]), none⟩, ⟨(some 5), (.un .not (.t 4)), none⟩, ⟨(some 2), (.mov (.t 5)), none⟩]) .ret))
theorem k95_cf : cfunc Tryd.prog Tryd.f95 = some ⟨6, k95, [(.tmp 2)]⟩ := by kernel_rfl
theorem sat_dn_Is_1 (N : Nat) (a0 : List api_AVA) (r : Bool) (h : dn_Is_1 N a0 = some r) : Sat Tryd.prog 95 noRows [.sl 2 (List.map e_api_AVA a0)] (.bool r) noRows := by
  refine xsat mixed Tryd.func95 k95_cf (rs := [.bool r]) rfl rfl ?_
  refine xseq ?_
  refine xreg ?_
  refine wpp rfl rfl ?_
  refine xseq ?_
  refine xreg ?_
  refine wpp rfl rfl ?_
  obtain ⟨x4, hx4, h⟩ := bindS h
  refine woo rfl (ocal (sat_dn_IsRDN N _ _ hx4) rfl (.cons sub_rfl .nil) rfl rfl rfl) ?_
  refine wpp rfl rfl ?_
  refine wpp rfl rfl ?_
  obtain rfl := someS h
  refine xret ?_
  exact ⟨nofun, rfl, rfl⟩
end Go.Gp
end
section
set_option linter.unusedVariables false
set_option linter.unusedSimpArgs false
set_option maxRecDepth 4000
namespace Go.Gp
open Go.Vd Go.RowKit Go.Proofs
def k111c95_l6 : IC := (.seq (.reg [⟨(some 9), (.bin .lss (.t 8) (.t 7)), none⟩]) (.seq (.cond (.t 9) .skip (.exit 0)) (.seq (.block 1 (.seq (.reg [⟨(some 10), (.mov (.t 8)), none⟩, ⟨(some 5), (.mov (.t 10)), none⟩]) (.seq (.reg [⟨(some 11), (.mov (.t 1)), none⟩, ⟨(some 12), (.mov (.t 0)), none⟩, ⟨(some 13), (.mov (.t 5)), none⟩, ⟨(some 14), (.ixp 1 (.t 12) (.t 13)), none⟩, ⟨(some 15), (.load 1 false (.t 14)), none⟩, ⟨(some 16), (.calv (.t 11) [(.t 15)]), none⟩]) (.cond (.t 16) (.seq (.reg [⟨(some 17), (.mov (.t 5)), none⟩, ⟨(some 4), (.mov (.t 17)), none⟩]) .ret) .skip)))) (.reg [⟨(some 18), (.bin .add (.t 8) (.c (.int .i64 1))), none⟩, ⟨(some 8), (.mov (.t 18)), none⟩]))))
def k111c95 : IC := (.seq (.reg [⟨(some 4), (.mov (.c (.int .i64 0))), none⟩]) (.seq (.seq (.reg [⟨(some 6), (.mov (.t 0)), none⟩, ⟨(some 7), (.len false (.t 6)), none⟩, ⟨(some 8), (.mov (.c (.int .i64 0))), none⟩]) (.block 0 (.loop k111c95_l6))) (.seq (.reg [⟨(some 4), (.mov (.c (.int .i64 (-1)))), none⟩]) .ret)))
theorem k111c95_cf : cfunc Tryd.prog Tryd.f111 = some ⟨19, k111c95, [(.tmp 4)]⟩ := by kernel_rfl
theorem w_slices_IndexFunc_api_DN_api_RDN_c_dn_Is_1_l6 (N : Nat) (a0 : List (List api_AVA)) : ∀ (n : Nat) (x : Int) (y : Unit ⊕ Int), slices_IndexFunc_api_DN_api_RDN_c_dn_Is_1_l6 N a0 n x = some y → WX Tryd.prog (fun _ => false) (.loop k111c95_l6) ((fun (x : Int) => ⟨ofL [(0, .sl 1 (List.map (es 2 e_api_AVA) a0)), (1, .clo 95 []), (7, .int .i64 (a0.length : Int)), (8, .int .i64 x)], ofL []⟩) x) ((Sum.elim (fun y e s => e = .exit 0 ∧ s = ⟨ofL [], ofL []⟩) (fun y e s => e = .ret ∧ s = ⟨ofL [(4, .int .i64 y)], ofL []⟩) : (Unit ⊕ Int) → Xt → St → Prop) y) := by
  refine xloop (fun (x : Int) => ⟨ofL [(0, .sl 1 (List.map (es 2 e_api_AVA) a0)), (1, .clo 95 []), (7, .int .i64 (a0.length : Int)), (8, .int .i64 x)], ofL []⟩) _ (slices_IndexFunc_api_DN_api_RDN_c_dn_Is_1_l6 N a0) (slices_IndexFunc_api_DN_api_RDN_c_dn_Is_1_l6_b N a0) (fun _ => rfl) (fun _ _ => rfl) ?_
  rintro rec v8l6 y h
  refine xseq ?_
  refine xreg ?_
  refine wpp rfl rfl ?_
  refine xseq ?_
  rcases bifS h with ⟨c1, h⟩ | ⟨c1, h⟩
  · refine xcT rfl c1 ?_
    refine xskip ?_
    refine xseq ?_
    refine xblk ?_
    refine xseq ?_
    refine xreg ?_
    refine wpp rfl rfl ?_
    refine wpp rfl rfl ?_
    refine xseq ?_
    refine xreg ?_
    refine wpp rfl rfl ?_
    refine wpp rfl rfl ?_
    refine wpp rfl rfl ?_
    obtain ⟨x14, hx14, h⟩ := bindS h
    refine wpp rfl (p_ixs (cs := [.sl 2 (List.map e_api_AVA x14)]) hx14 rfl rfl rfl) ?_
    refine wpp rfl rfl ?_
    obtain ⟨x16, hx16, h⟩ := bindS h
    refine woo rfl (ocalv (sat_dn_Is_1 N _ _ hx16) rfl rfl rfl (.cons sub_rfl .nil) rfl rfl rfl) ?_
    rcases bifS h with ⟨c2, h⟩ | ⟨c2, h⟩
    · refine xcT rfl c2 ?_
      refine xseq ?_
      refine xreg ?_
      refine wpp rfl rfl ?_
      refine wpp rfl rfl ?_
      obtain rfl := someS h
      exact xretn (st1 := ⟨ofL [(4, .int .i64 v8l6)], ofL []⟩) (canon0 ⟨rfl, trivial⟩ trivial rfl rfl) ⟨rfl, rfl⟩
    · refine xcF rfl c2 ?_
      refine xskip ?_
      refine xreg ?_
      refine wpp (p := .int .i64 (w64 (v8l6 + (1 : Int)))) rfl rfl ?_
      refine wpp rfl rfl ?_
      exact ⟨(w64 (v8l6 + (1 : Int))), (canon0 ⟨rfl, rfl, rfl, rfl, trivial⟩ trivial rfl rfl), h⟩
  · refine xcF rfl c1 ?_
    obtain rfl := someS h
    exact xexitn (st1 := ⟨ofL [], ofL []⟩) (canon0 trivial trivial rfl rfl) ⟨rfl, rfl⟩
theorem sat_slices_IndexFunc_api_DN_api_RDN_c_dn_Is_1 (N : Nat) (a0 : List (List api_AVA)) (r : Int) (h : slices_IndexFunc_api_DN_api_RDN_c_dn_Is_1 N a0 = some r) : Sat Tryd.prog 111 noRows [.sl 1 (List.map (es 2 e_api_AVA) a0), .clo 95 []] (.int .i64 r) noRows := by
  refine xsat mixed Tryd.func111 k111c95_cf (rs := [.int .i64 r]) rfl rfl ?_
  refine xseq ?_
  refine xreg ?_
  refine wpp rfl rfl ?_
  refine xseq ?_
  refine xseq ?_
  refine xreg ?_
  refine wpp rfl rfl ?_
  refine wpp rfl (p_lens rfl) ?_
  refine wpp rfl rfl ?_
  refine xblk ?_
  obtain ⟨y3, hy3, h⟩ := bindS h
  refine xloopU (st1 := ⟨ofL [(0, .sl 1 (List.map (es 2 e_api_AVA) a0)), (1, .clo 95 []), (7, .int .i64 (a0.length : Int)), (8, .int .i64 0)], ofL []⟩) (canon0 ⟨rfl, rfl, rfl, rfl, trivial⟩ trivial rfl rfl) (w_slices_IndexFunc_api_DN_api_RDN_c_dn_Is_1_l6 N a0 N _ _ hy3) ?_
  clear hy3
  rcases y3 with y3 | y3
  · rintro e s ⟨rfl, rfl⟩
    refine xseq ?_
    refine xreg ?_
    refine wpp rfl rfl ?_
    obtain rfl := someS h
    refine xret ?_
    exact ⟨nofun, rfl, rfl⟩
  · rintro e s ⟨rfl, rfl⟩
    obtain rfl := someS h
    exact ⟨nofun, rfl, rfl⟩
end Go.Gp
end
section
set_option linter.unusedVariables false
set_option linter.unusedSimpArgs false
set_option maxRecDepth 4000
namespace Go.Gp
open Go.Vd Go.RowKit Go.Proofs
def k94c95 : IC := (.seq (.reg [⟨(some 4), (.mov (.c (.bool false))), none⟩]) (.seq (.reg [⟨(some 5), (.mov (.t 0)), none⟩, ⟨(some 6), (.mov (.t 1)), none⟩, ⟨(some 7), (.call 111 [(.t 5), (.t 6)]), none⟩, ⟨(some 8), (.bin .geq (.t 7) (.c (.int .i64 0))), none⟩, ⟨(some 4), (.mov (.t 8)), none⟩]) .ret))
theorem k94c95_cf : cfunc Tryd.prog Tryd.f94 = some ⟨9, k94c95, [(.tmp 4)]⟩ := by kernel_rfl
theorem sat_slices_ContainsFunc_api_DN_api_RDN_c_dn_Is_1 (N : Nat) (a0 : List (List api_AVA)) (r : Bool) (h : slices_ContainsFunc_api_DN_api_RDN_c_dn_Is_1 N a0 = some r) : Sat Tryd.prog 94 noRows [.sl 1 (List.map (es 2 e_api_AVA) a0), .clo 95 []] (.bool r) noRows := by
  refine xsat mixed Tryd.func94 k94c95_cf (rs := [.bool r]) rfl rfl ?_
  refine xseq ?_
  refine xreg ?_
  refine wpp rfl rfl ?_
  refine xseq ?_
  refine xreg ?_
  refine wpp rfl rfl ?_
  refine wpp rfl rfl ?_
  obtain ⟨x7, hx7, h⟩ := bindS h
  refine woo rfl (ocal (sat_slices_IndexFunc_api_DN_api_RDN_c_dn_Is_1 N _ _ hx7) rfl (.cons sub_rfl (.cons sub_rfl .nil)) rfl rfl rfl) ?_
  refine wpp rfl rfl ?_
  refine wpp rfl rfl ?_
  obtain rfl := someS h
  refine xret ?_
  exact ⟨nofun, rfl, rfl⟩
end Go.Gp
end
section
set_option linter.unusedVariables false
set_option linter.unusedSimpArgs false
set_option maxRecDepth 4000
namespace Go.Gp
open Go.Vd Go.RowKit Go.Proofs
def k75 : IC := (.seq (.reg [⟨(some 2), (.mov (.c (.bool false))), none⟩]) (.seq (.reg [⟨(some 3), (.mov (.t 0)), none⟩, ⟨(some 4), (.len false (.t 3)), none⟩, ⟨(some 5), (.bin .leq (.t 4) (.c (.int .i64 8))), none⟩, ⟨(some 6), (.mov (.t 5)), none⟩, ⟨(some 7), (.mov (.t 0)), (some (6, true))⟩, ⟨(some 8), (.call 94 [(.t 7), (.c (.clo 95 []))]), (some (6, true))⟩, ⟨(some 9), (.un .not (.t 8)), (some (6, true))⟩, ⟨(some 10), (.pick (.t 6) (.t 9) (.c (.bool false))), none⟩, ⟨(some 2), (.mov (.t 10)), none⟩]) .ret))
theorem k75_cf : cfunc Tryd.prog Tryd.f75 = some ⟨11, k75, [(.tmp 2)]⟩ := by kernel_rfl
theorem sat_dn_Is (N : Nat) (a0 : List (List api_AVA)) (r : Bool) (h : dn_Is N a0 = some r) : Sat Tryd.prog 75 noRows [.sl 1 (List.map (es 2 e_api_AVA) a0)] (.bool r) noRows := by
  refine xsat mixed Tryd.func75 k75_cf (rs := [.bool r]) rfl rfl ?_
  refine xseq ?_
  refine xreg ?_
  refine wpp rfl rfl ?_
  obtain ⟨g1, hg1, h⟩ := bindS h
  refine xseg ⟨ofL [(2, .bool g1)], ofL []⟩ ?_ ?_
  · have h := hg1
    refine xreg ?_
    refine wpp rfl rfl ?_
    refine wpp rfl (p_lens rfl) ?_
    refine wpp rfl rfl ?_
    refine wpp rfl rfl ?_
    rcases bifS h with ⟨c2, h⟩ | ⟨c2, h⟩
    · skip
      refine wpp (gy rfl c2) rfl ?_
      obtain ⟨x8, hx8, h⟩ := bindS h
      refine woo (gy rfl c2) (ocal (sat_slices_ContainsFunc_api_DN_api_RDN_c_dn_Is_1 N _ _ hx8) rfl (.cons sub_rfl (.cons sub_rfl .nil)) rfl rfl rfl) ?_
      refine wpp (gy rfl c2) rfl ?_
      refine wpp rfl (p_pick1 c2 rfl rfl) ?_
      refine wpp rfl rfl ?_
      obtain rfl := someS h
      exact (canon0 ⟨rfl, trivial⟩ trivial rfl rfl)
    · skip
      refine wsk (gn rfl c2) ?_
      refine wsk (gn rfl c2) ?_
      refine wsk (gn rfl c2) ?_
      refine wpp rfl (p_pick0 c2 rfl rfl) ?_
      refine wpp rfl rfl ?_
      obtain rfl := someS h
      exact (canon0 ⟨rfl, trivial⟩ trivial rfl rfl)
  · clear hg1
    obtain rfl := someS h
    refine xret ?_
    exact ⟨nofun, rfl, rfl⟩
end Go.Gp
end
