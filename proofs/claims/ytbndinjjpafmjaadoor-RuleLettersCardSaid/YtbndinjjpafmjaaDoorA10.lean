/- A part of the proof: functions of the program and what they compute. -/
import Derived.Test.YtbndinjjpafmjaaDoorA6
import Derived.Test.YtbndinjjpafmjaaDoorA9
section
set_option linter.unusedVariables false
set_option linter.unusedSimpArgs false
set_option maxRecDepth 4000
namespace Go.Gp
open Go.Vd Go.RowKit Go.Proofs
def k85_l6 : IC := (.seq (.reg [⟨(some 8), (.bin .lss (.t 7) (.t 6)), none⟩]) (.seq (.cond (.t 8) .skip (.exit 0)) (.seq (.block 1 (.seq (.reg [⟨(some 9), (.mov (.t 7)), none⟩, ⟨(some 10), (.ixp 2 (.t 5) (.t 7)), none⟩, ⟨(some 11), (.load 2 true (.t 10)), none⟩, ⟨(some 4), (.box 101 (.c (.agg [(.str []), (.str [])]))), none⟩, ⟨(some 3), (.mov (.t 9)), none⟩, ⟨none, (.store 2 (.t 4) (.t 11)), none⟩]) (.seq (.seq (.reg [⟨(some 12), (.mov (.t 3)), none⟩, ⟨(some 13), (.bin .geq (.t 12) (.c (.int .i64 4))), none⟩, ⟨(some 14), (.mov (.t 13)), none⟩, ⟨(some 15), (.fda 0 (.t 4)), (some (14, false))⟩, ⟨(some 16), (.load 1 false (.t 15)), (some (14, false))⟩, ⟨(some 17), (.call 105 [(.t 16)]), (some (14, false))⟩, ⟨(some 18), (.un .not (.t 17)), (some (14, false))⟩, ⟨(some 19), (.pick (.t 14) (.c (.bool true)) (.t 18)), none⟩, ⟨(some 20), (.mov (.t 19)), none⟩, ⟨(some 21), (.fda 1 (.t 4)), (some (20, false))⟩, ⟨(some 22), (.load 1 false (.t 21)), (some (20, false))⟩, ⟨(some 23), (.bin .eql (.t 22) (.c (.str []))), (some (20, false))⟩, ⟨(some 24), (.pick (.t 20) (.c (.bool true)) (.t 23)), none⟩, ⟨(some 25), (.mov (.t 24)), none⟩, ⟨(some 26), (.fda 1 (.t 4)), (some (25, false))⟩, ⟨(some 27), (.load 1 false (.t 26)), (some (25, false))⟩, ⟨(some 28), (.len true (.t 27)), (some (25, false))⟩, ⟨(some 29), (.bin .gtr (.t 28) (.c (.int .i64 60))), (some (25, false))⟩, ⟨(some 30), (.pick (.t 25) (.c (.bool true)) (.t 29)), none⟩]) (.cond (.t 30) (.seq (.reg [⟨(some 2), (.mov (.c (.bool false))), none⟩]) .ret) .skip)) (.seq (.reg [⟨(some 31), (.mov (.t 0)), none⟩, ⟨(some 32), (.mov (.t 3)), none⟩, ⟨(some 33), (.slcl 2 (.t 31) none (some (.t 32))), none⟩, ⟨(some 34), (.mkf 107 [(.t 4)]), none⟩, ⟨(some 35), (.call 106 [(.t 33), (.t 34)]), none⟩]) (.cond (.t 35) (.seq (.reg [⟨(some 2), (.mov (.c (.bool false))), none⟩]) .ret) .skip))))) (.reg [⟨(some 36), (.bin .add (.t 7) (.c (.int .i64 1))), none⟩, ⟨(some 7), (.mov (.t 36)), none⟩]))))
def k85 : IC := (.seq (.reg [⟨(some 2), (.mov (.c (.bool false))), none⟩]) (.seq (.seq (.reg [⟨(some 5), (.mov (.t 0)), none⟩, ⟨(some 6), (.len false (.t 5)), none⟩, ⟨(some 7), (.mov (.c (.int .i64 0))), none⟩]) (.block 0 (.loop k85_l6))) (.seq (.reg [⟨(some 37), (.mov (.t 0)), none⟩, ⟨(some 38), (.len false (.t 37)), none⟩, ⟨(some 39), (.bin .gtr (.t 38) (.c (.int .i64 0))), none⟩, ⟨(some 2), (.mov (.t 39)), none⟩]) .ret)))
theorem k85_cf : cfunc Tryd.prog Tryd.f85 = some ⟨40, k85, [(.tmp 2)]⟩ := by kernel_rfl
theorem w_dn_IsRDN_l6 (N : Nat) (a0 : List api_AVA) : ∀ (n : Nat) (x : Int) (y : Unit ⊕ Bool), dn_IsRDN_l6 N a0 n x = some y → WX Tryd.prog (fun _ => false) (.loop k85_l6) ((fun (x : Int) => ⟨ofL [(0, .sl 2 (List.map e_api_AVA a0)), (5, .sl 2 (List.map e_api_AVA a0)), (6, .int .i64 (a0.length : Int)), (7, .int .i64 x)], ofL []⟩) x) ((Sum.elim (fun y e s => e = .exit 0 ∧ s = ⟨ofL [(0, .sl 2 (List.map e_api_AVA a0))], ofL []⟩) (fun y e s => e = .ret ∧ s = ⟨ofL [(2, .bool y)], ofL []⟩) : (Unit ⊕ Bool) → Xt → St → Prop) y) := by
  refine xloop (fun (x : Int) => ⟨ofL [(0, .sl 2 (List.map e_api_AVA a0)), (5, .sl 2 (List.map e_api_AVA a0)), (6, .int .i64 (a0.length : Int)), (7, .int .i64 x)], ofL []⟩) _ (dn_IsRDN_l6 N a0) (dn_IsRDN_l6_b N a0) (fun _ => rfl) (fun _ _ => rfl) ?_
  rintro rec v7l6 y h
  refine xseq ?_
  refine xreg ?_
  refine wpp rfl rfl ?_
  refine xseq ?_
  rcases bifS h with ⟨c1, h⟩ | ⟨c1, h⟩
  · refine xcT rfl c1 ?_
    refine xskip ?_
    refine xseq ?_
    refine xblk ?_
    refine xseq ?_
    refine xreg ?_
    refine wpp rfl rfl ?_
    obtain ⟨x10, hx10, h⟩ := bindS h
    refine wpp rfl (p_ixs (cs := [.str x10.Attr, .str x10.Value]) hx10 rfl rfl rfl) ?_
    refine wpp (p := e_api_AVA x10) rfl rfl ?_
    refine woo rfl (obox 4 rfl rfl rfl rfl rfl) ?_
    refine wpp rfl rfl ?_
    refine wstb (e' := e_api_AVA x10) rfl rfl rfl rfl rfl rfl rfl rfl nofun rfl ?_
    refine xseq ?_
    obtain ⟨g2, hg2, h⟩ := bindS h
    refine xseg ⟨ofL [(0, .sl 2 (List.map e_api_AVA a0)), (3, .int .i64 v7l6), (4, .ptr 4 0 0), (5, .sl 2 (List.map e_api_AVA a0)), (6, .int .i64 (a0.length : Int)), (7, .int .i64 v7l6), (30, .bool g2)], ofL [(4, ⟨2, false, [e_api_AVA x10]⟩)]⟩ ?_ ?_
    · have h := hg2
      refine xreg ?_
      refine wpp rfl rfl ?_
      refine wpp rfl rfl ?_
      refine wpp rfl rfl ?_
      rcases bifS h with ⟨c3, h⟩ | ⟨c3, h⟩
      · skip
        refine wsk (gn rfl c3) ?_
        refine wsk (gn rfl c3) ?_
        refine wsk (gn rfl c3) ?_
        refine wsk (gn rfl c3) ?_
        refine wpp rfl (p_pick1 c3 rfl rfl) ?_
        refine wpp rfl rfl ?_
        refine wsk rfl ?_
        refine wsk rfl ?_
        refine wsk rfl ?_
        refine wpp rfl rfl ?_
        refine wpp rfl rfl ?_
        refine wsk rfl ?_
        refine wsk rfl ?_
        refine wsk rfl ?_
        refine wsk rfl ?_
        refine wpp rfl rfl ?_
        obtain rfl := someS h
        exact (canon0 ⟨rfl, rfl, rfl, rfl, rfl, rfl, rfl, trivial⟩ ⟨rfl, trivial⟩ rfl rfl)
      · skip
        refine wpp (gy rfl c3) rfl ?_
        refine wpp (gy rfl c3) rfl ?_
        obtain ⟨x17, hx17, h⟩ := bindS h
        refine woo (gy rfl c3) (ocal (sat_dn_IsType N _ _ hx17) rfl (.cons sub_rfl .nil) rfl rfl rfl) ?_
        refine wpp (gy rfl c3) rfl ?_
        refine wpp rfl (p_pick0 c3 rfl rfl) ?_
        refine wpp rfl rfl ?_
        rcases bifS h with ⟨c4, h⟩ | ⟨c4, h⟩
        · skip
          refine wsk (gn rfl c4) ?_
          refine wsk (gn rfl c4) ?_
          refine wsk (gn rfl c4) ?_
          refine wpp rfl (p_pick1 c4 rfl rfl) ?_
          refine wpp rfl rfl ?_
          refine wsk rfl ?_
          refine wsk rfl ?_
          refine wsk rfl ?_
          refine wsk rfl ?_
          refine wpp rfl rfl ?_
          obtain rfl := someS h
          exact (canon0 ⟨rfl, rfl, rfl, rfl, rfl, rfl, rfl, trivial⟩ ⟨rfl, trivial⟩ rfl rfl)
        · skip
          refine wpp (gy rfl c4) rfl ?_
          refine wpp (gy rfl c4) rfl ?_
          refine wpp (gy rfl c4) rfl ?_
          refine wpp rfl (p_pick0 c4 rfl rfl) ?_
          refine wpp rfl rfl ?_
          rcases bifS h with ⟨c5, h⟩ | ⟨c5, h⟩
          · skip
            refine wsk (gn rfl c5) ?_
            refine wsk (gn rfl c5) ?_
            refine wsk (gn rfl c5) ?_
            refine wsk (gn rfl c5) ?_
            refine wpp rfl (p_pick1 c5 rfl rfl) ?_
            obtain rfl := someS h
            exact (canon0 ⟨rfl, rfl, rfl, rfl, rfl, rfl, rfl, trivial⟩ ⟨rfl, trivial⟩ rfl rfl)
          · skip
            refine wpp (gy rfl c5) rfl ?_
            refine wpp (gy rfl c5) rfl ?_
            refine wpp (gy rfl c5) rfl ?_
            refine wpp (gy rfl c5) rfl ?_
            refine wpp rfl (p_pick0 c5 rfl rfl) ?_
            obtain rfl := someS h
            exact (canon0 ⟨rfl, rfl, rfl, rfl, rfl, rfl, rfl, trivial⟩ ⟨rfl, trivial⟩ rfl rfl)
    · clear hg2
      rcases bifS h with ⟨c6, h⟩ | ⟨c6, h⟩
      · refine xcT rfl c6 ?_
        refine xseq ?_
        refine xreg ?_
        refine wpp rfl rfl ?_
        obtain rfl := someS h
        exact xretn (st1 := ⟨ofL [(2, .bool false)], ofL []⟩) (canon0 ⟨rfl, trivial⟩ trivial rfl rfl) ⟨rfl, rfl⟩
      · refine xcF rfl c6 ?_
        refine xskip ?_
        refine xseq ?_
        refine xreg ?_
        refine wpp rfl rfl ?_
        refine wpp rfl rfl ?_
        obtain ⟨x33, hx33, h⟩ := bindS h
        refine wpp rfl (p_takel hx33 rfl rfl) ?_
        refine wpp rfl rfl ?_
        refine wn (bfreeze 4 rfl rfl rfl) ?_
        obtain ⟨x35, hx35, h⟩ := bindS h
        refine woo rfl (ocal (sat_slices_ContainsFunc_api_RDN_api_AVA_c_dn_IsRDN_1 N _ _ _ hx35) rfl (.cons sub_rfl (.cons sub_rfl .nil)) rfl rfl rfl) ?_
        rcases bifS h with ⟨c7, h⟩ | ⟨c7, h⟩
        · refine xcT rfl c7 ?_
          refine xseq ?_
          refine xreg ?_
          refine wpp rfl rfl ?_
          obtain rfl := someS h
          exact xretn (st1 := ⟨ofL [(2, .bool false)], ofL []⟩) (canon0 ⟨rfl, trivial⟩ trivial rfl rfl) ⟨rfl, rfl⟩
        · refine xcF rfl c7 ?_
          refine xskip ?_
          refine xreg ?_
          refine wpp (p := .int .i64 (w64 (v7l6 + (1 : Int)))) rfl rfl ?_
          refine wpp rfl rfl ?_
          exact ⟨(w64 (v7l6 + (1 : Int))), (canon0 ⟨rfl, rfl, rfl, rfl, trivial⟩ trivial rfl rfl), h⟩
  · refine xcF rfl c1 ?_
    obtain rfl := someS h
    exact xexitn (st1 := ⟨ofL [(0, .sl 2 (List.map e_api_AVA a0))], ofL []⟩) (canon0 ⟨rfl, trivial⟩ trivial rfl rfl) ⟨rfl, rfl⟩
theorem sat_dn_IsRDN (N : Nat) (a0 : List api_AVA) (r : Bool) (h : dn_IsRDN N a0 = some r) : Sat Tryd.prog 85 noRows [.sl 2 (List.map e_api_AVA a0)] (.bool r) noRows := by
  refine xsat mixed Tryd.func85 k85_cf (rs := [.bool r]) rfl rfl ?_
  refine xseq ?_
  refine xreg ?_
  refine wpp rfl rfl ?_
  refine xseq ?_
  refine xseq ?_
  refine xreg ?_
  refine wpp rfl rfl ?_
  refine wpp rfl (p_lens rfl) ?_
  refine wpp rfl rfl ?_
  refine xblk ?_
  obtain ⟨y8, hy8, h⟩ := bindS h
  refine xloopU (st1 := ⟨ofL [(0, .sl 2 (List.map e_api_AVA a0)), (5, .sl 2 (List.map e_api_AVA a0)), (6, .int .i64 (a0.length : Int)), (7, .int .i64 0)], ofL []⟩) (canon0 ⟨rfl, rfl, rfl, rfl, trivial⟩ trivial rfl rfl) (w_dn_IsRDN_l6 N a0 N _ _ hy8) ?_
  clear hy8
  rcases y8 with y8 | y8
  · rintro e s ⟨rfl, rfl⟩
    refine xseq ?_
    refine xreg ?_
    refine wpp rfl rfl ?_
    refine wpp rfl (p_lens rfl) ?_
    refine wpp rfl rfl ?_
    refine wpp rfl rfl ?_
    obtain rfl := someS h
    refine xret ?_
    exact ⟨nofun, rfl, rfl⟩
  · rintro e s ⟨rfl, rfl⟩
    obtain rfl := someS h
    exact ⟨nofun, rfl, rfl⟩
end Go.Gp
end
section
set_option linter.unusedVariables false
set_option linter.unusedSimpArgs false
set_option maxRecDepth 4000
namespace Go.Gp
open Go.Vd Go.RowKit Go.Proofs
def k65_l8 : IC := (.seq (.reg [⟨(some 16), (.bin .lss (.t 15) (.t 14)), none⟩]) (.seq (.cond (.t 16) .skip (.exit 0)) (.seq (.block 1 (.seq (.reg [⟨(some 17), (.ixp 1 (.t 13) (.t 15)), none⟩, ⟨(some 18), (.load 1 false (.t 17)), none⟩, ⟨(some 6), (.mov (.t 18)), none⟩]) (.seq (.reg [⟨(some 20), (.mov (.t 6)), none⟩, ⟨(some 21), (.call 83 [(.t 20), (.c (.str [61]))]), none⟩, ⟨(some 19), (.mov (.t 21)), none⟩, ⟨(some 22), (.ext 0 (.t 19)), none⟩, ⟨(some 23), (.ext 1 (.t 19)), none⟩, ⟨(some 24), (.ext 2 (.t 19)), none⟩, ⟨(some 7), (.mov (.t 22)), none⟩, ⟨(some 8), (.mov (.t 23)), none⟩, ⟨(some 9), (.mov (.t 24)), none⟩]) (.seq (.reg [⟨(some 26), (.mov (.t 8)), none⟩, ⟨(some 27), (.call 84 [(.t 26)]), none⟩, ⟨(some 25), (.mov (.t 27)), none⟩, ⟨(some 28), (.ext 0 (.t 25)), none⟩, ⟨(some 29), (.ext 1 (.t 25)), none⟩, ⟨(some 10), (.mov (.t 28)), none⟩, ⟨(some 11), (.mov (.t 29)), none⟩]) (.seq (.seq (.reg [⟨(some 30), (.mov (.t 9)), none⟩, ⟨(some 31), (.un .not (.t 30)), none⟩, ⟨(some 32), (.mov (.t 31)), none⟩, ⟨(some 33), (.mov (.t 11)), (some (32, false))⟩, ⟨(some 34), (.un .not (.t 33)), (some (32, false))⟩, ⟨(some 35), (.pick (.t 32) (.c (.bool true)) (.t 34)), none⟩, ⟨(some 36), (.mov (.t 35)), none⟩, ⟨(some 37), (.mov (.t 4)), (some (36, false))⟩, ⟨(some 38), (.len false (.t 37)), (some (36, false))⟩, ⟨(some 39), (.bin .gtr (.t 38) (.c (.int .i64 4))), (some (36, false))⟩, ⟨(some 40), (.pick (.t 36) (.c (.bool true)) (.t 39)), none⟩]) (.cond (.t 40) (.seq (.reg [⟨(some 2), (.mov (.c .nl)), none⟩, ⟨(some 3), (.mov (.c (.int .i64 15))), none⟩]) .ret) .skip)) (.reg [⟨(some 41), (.mov (.t 4)), none⟩, ⟨(some 42), (.mov (.t 7)), none⟩, ⟨(some 43), (.call 28 [(.t 42)]), none⟩, ⟨(some 44), (.mov (.t 10)), none⟩, ⟨(some 45), (.build [(.str []), (.str [])] [(0, (1, (.t 43))), (1, (1, (.t 44)))]), none⟩, ⟨(some 46), (.bsl 2 [(.t 45)]), none⟩, ⟨(some 47), (.app 101 2 32 (.t 41) (.t 46)), none⟩, ⟨(some 4), (.mov (.t 47)), none⟩])))))) (.reg [⟨(some 48), (.bin .add (.t 15) (.c (.int .i64 1))), none⟩, ⟨(some 15), (.mov (.t 48)), none⟩]))))
def k65 : IC := (.seq (.reg [⟨(some 2), (.mov (.c .nl)), none⟩, ⟨(some 3), (.mov (.c (.int .i64 0))), none⟩]) (.seq (.reg [⟨(some 4), (.mov (.c .nl)), none⟩]) (.seq (.seq (.reg [⟨(some 12), (.mov (.t 0)), none⟩, ⟨(some 13), (.call 64 [(.t 12), (.c (.int .u8 43))]), none⟩, ⟨(some 14), (.len false (.t 13)), none⟩, ⟨(some 15), (.mov (.c (.int .i64 0))), none⟩]) (.block 0 (.loop k65_l8))) (.seq (.seq (.reg [⟨(some 49), (.mov (.t 4)), none⟩, ⟨(some 50), (.call 85 [(.t 49)]), none⟩, ⟨(some 51), (.un .not (.t 50)), none⟩]) (.cond (.t 51) (.seq (.reg [⟨(some 2), (.mov (.c .nl)), none⟩, ⟨(some 3), (.mov (.c (.int .i64 15))), none⟩]) .ret) .skip)) (.seq (.reg [⟨(some 52), (.mov (.t 4)), none⟩, ⟨(some 2), (.mov (.t 52)), none⟩, ⟨(some 3), (.mov (.c (.int .i64 0))), none⟩]) .ret)))))
theorem k65_cf : cfunc Tryd.prog Tryd.f65 = some ⟨53, k65, [(.tmp 2), (.tmp 3)]⟩ := by kernel_rfl
theorem w_dn_ParseRDN_l8 (N : Nat) (x13 : List (List UInt8)) : ∀ (n : Nat) (x : Int × List api_AVA) (y : (List api_AVA) ⊕ (List api_AVA × Int)), dn_ParseRDN_l8 N x13 n x = some y → WX Tryd.prog (fun _ => false) (.loop k65_l8) ((fun (x : Int × List api_AVA) => ⟨ofL [(4, .slr 1004 0 x.2.length), (13, .sl 1 (List.map PV.str x13)), (14, .int .i64 (x13.length : Int)), (15, .int .i64 x.1)], ofL [(1004, ⟨2, true, List.map e_api_AVA x.2⟩)]⟩) x) ((Sum.elim (fun y e s => e = .exit 0 ∧ s = ⟨ofL [(4, .slr 1004 0 y.length)], ofL [(1004, ⟨2, true, List.map e_api_AVA y⟩)]⟩) (fun y e s => e = .ret ∧ s = ⟨ofL [(2, .sl 2 (List.map e_api_AVA y.1)), (3, .int .i64 y.2)], ofL []⟩) : ((List api_AVA) ⊕ (List api_AVA × Int)) → Xt → St → Prop) y) := by
  refine xloop (fun (x : Int × List api_AVA) => ⟨ofL [(4, .slr 1004 0 x.2.length), (13, .sl 1 (List.map PV.str x13)), (14, .int .i64 (x13.length : Int)), (15, .int .i64 x.1)], ofL [(1004, ⟨2, true, List.map e_api_AVA x.2⟩)]⟩) _ (dn_ParseRDN_l8 N x13) (dn_ParseRDN_l8_b N x13) (fun _ => rfl) (fun _ _ => rfl) ?_
  rintro rec ⟨v15l8, r1004l8⟩ y h
  refine xseq ?_
  refine xreg ?_
  refine wpp rfl rfl ?_
  refine xseq ?_
  rcases bifS h with ⟨c1, h⟩ | ⟨c1, h⟩
  · refine xcT rfl c1 ?_
    refine xskip ?_
    refine xseq ?_
    refine xblk ?_
    refine xseq ?_
    refine xreg ?_
    obtain ⟨x17, hx17, h⟩ := bindS h
    refine wpp rfl (p_ixs (cs := [.str x17]) hx17 rfl rfl rfl) ?_
    refine wpp rfl rfl ?_
    refine wpp rfl rfl ?_
    refine xseq ?_
    refine xreg ?_
    refine wpp rfl rfl ?_
    obtain ⟨x21, hx21, h⟩ := bindS h
    refine woo rfl (ocal (sat_strings_Cut N _ _ _ hx21) rfl (.cons sub_rfl (.cons sub_rfl .nil)) rfl rfl rfl) ?_
    refine wpp rfl rfl ?_
    refine wpp rfl rfl ?_
    refine wpp rfl rfl ?_
    refine wpp rfl rfl ?_
    refine wpp rfl rfl ?_
    refine wpp rfl rfl ?_
    refine wpp rfl rfl ?_
    refine xseq ?_
    refine xreg ?_
    refine wpp rfl rfl ?_
    obtain ⟨x27, hx27, h⟩ := bindS h
    refine woo rfl (ocal (sat_dn_unescape N _ _ hx27) rfl (.cons sub_rfl .nil) rfl rfl rfl) ?_
    refine wpp rfl rfl ?_
    refine wpp rfl rfl ?_
    refine wpp rfl rfl ?_
    refine wpp rfl rfl ?_
    refine wpp rfl rfl ?_
    refine xseq ?_
    obtain ⟨g2, hg2, h⟩ := bindS h
    refine xseg ⟨ofL [(4, .slr 1004 0 r1004l8.length), (7, .str x21.1), (10, .str x27.1), (13, .sl 1 (List.map PV.str x13)), (14, .int .i64 (x13.length : Int)), (15, .int .i64 v15l8), (40, .bool g2)], ofL [(1004, ⟨2, true, List.map e_api_AVA r1004l8⟩)]⟩ ?_ ?_
    · have h := hg2
      refine xreg ?_
      refine wpp rfl rfl ?_
      refine wpp rfl rfl ?_
      refine wpp rfl rfl ?_
      rcases bifS h with ⟨c3, h⟩ | ⟨c3, h⟩
      · skip
        refine wsk (gn rfl c3) ?_
        refine wsk (gn rfl c3) ?_
        refine wpp rfl (p_pick1 c3 rfl rfl) ?_
        refine wpp rfl rfl ?_
        refine wsk rfl ?_
        refine wsk rfl ?_
        refine wsk rfl ?_
        refine wpp rfl rfl ?_
        obtain rfl := someS h
        exact (canon0 ⟨rfl, rfl, rfl, rfl, rfl, rfl, rfl, trivial⟩ ⟨rfl, trivial⟩ rfl rfl)
      · skip
        refine wpp (gy rfl c3) rfl ?_
        refine wpp (gy rfl c3) rfl ?_
        refine wpp rfl (p_pick0 c3 rfl rfl) ?_
        refine wpp rfl rfl ?_
        rcases bifS h with ⟨c4, h⟩ | ⟨c4, h⟩
        · skip
          refine wsk (gn rfl c4) ?_
          refine wsk (gn rfl c4) ?_
          refine wsk (gn rfl c4) ?_
          refine wpp rfl (p_pick1 c4 rfl rfl) ?_
          obtain rfl := someS h
          exact (canon0 ⟨rfl, rfl, rfl, rfl, rfl, rfl, rfl, trivial⟩ ⟨rfl, trivial⟩ rfl rfl)
        · skip
          refine wpp (gy rfl c4) rfl ?_
          refine wpp (gy rfl c4) rfl ?_
          refine wpp (gy rfl c4) rfl ?_
          refine wpp rfl (p_pick0 c4 rfl rfl) ?_
          obtain rfl := someS h
          exact (canon0 ⟨rfl, rfl, rfl, rfl, rfl, rfl, rfl, trivial⟩ ⟨rfl, trivial⟩ rfl rfl)
    · clear hg2
      rcases bifS h with ⟨c5, h⟩ | ⟨c5, h⟩
      · refine xcT rfl c5 ?_
        refine xseq ?_
        refine xreg ?_
        refine wpp rfl rfl ?_
        refine wpp rfl rfl ?_
        obtain rfl := someS h
        exact xretn (st1 := ⟨ofL [(2, .sl 2 (List.map e_api_AVA [])), (3, .int .i64 15)], ofL []⟩) (Norm.trans (nsub 2 (sub_nl 2) rfl) (canon0 ⟨rfl, rfl, trivial⟩ trivial rfl rfl)) ⟨rfl, rfl⟩
      · refine xcF rfl c5 ?_
        refine xskip ?_
        refine xreg ?_
        refine wpp rfl rfl ?_
        refine wpp rfl rfl ?_
        obtain ⟨x43, hx43, h⟩ := bindS h
        refine woo rfl (ocal (sat_dn_Lower N _ _ hx43) rfl (.cons sub_rfl .nil) rfl rfl rfl) ?_
        refine wpp rfl rfl ?_
        refine wpp (p := .agg [.str x43, .str x27.1]) rfl rfl ?_
        refine woo rfl (obsl 46 rfl rfl rfl) ?_
        obtain ⟨x47, hx47, h⟩ := bindS h
        refine wapp (f := e_api_AVA) 47 hx47 rfl rfl rfl rfl rfl (el_row rfl (full_row (f := e_api_AVA) (l := [(⟨x43, x27.1⟩ : api_AVA)]))) rfl rfl rfl rfl ?_
        refine wpp rfl rfl ?_
        refine xreg ?_
        refine wpp (p := .int .i64 (w64 (v15l8 + (1 : Int)))) rfl rfl ?_
        refine wpp rfl rfl ?_
        exact ⟨((w64 (v15l8 + (1 : Int))), x47), (Norm.trans (rename 47 1004 rfl rfl) (canon0 ⟨rfl, rfl, rfl, rfl, trivial⟩ ⟨rfl, trivial⟩ rfl rfl)), h⟩
  · refine xcF rfl c1 ?_
    obtain rfl := someS h
    exact xexitn (st1 := ⟨ofL [(4, .slr 1004 0 r1004l8.length)], ofL [(1004, ⟨2, true, List.map e_api_AVA r1004l8⟩)]⟩) (canon0 ⟨rfl, trivial⟩ ⟨rfl, trivial⟩ rfl rfl) ⟨rfl, rfl⟩
theorem sat_dn_ParseRDN (N : Nat) (a0 : List UInt8) (r : List api_AVA × Int) (h : dn_ParseRDN N a0 = some r) : Sat Tryd.prog 65 noRows [.str a0] (.tup [.sl 2 (List.map e_api_AVA r.1), .int .i64 r.2]) noRows := by
  refine xsat mixed Tryd.func65 k65_cf (rs := [.sl 2 (List.map e_api_AVA r.1), .int .i64 r.2]) rfl rfl ?_
  refine xseq ?_
  refine xreg ?_
  refine wpp rfl rfl ?_
  refine wpp rfl rfl ?_
  refine xseq ?_
  refine xreg ?_
  refine wpp rfl rfl ?_
  refine xseq ?_
  refine xseq ?_
  refine xreg ?_
  refine wpp rfl rfl ?_
  obtain ⟨x13, hx13, h⟩ := bindS h
  refine woo rfl (ocal (sat_dn_cut N _ _ _ hx13) rfl (.cons sub_rfl (.cons sub_rfl .nil)) rfl rfl rfl) ?_
  refine wpp rfl (p_lens rfl) ?_
  refine wpp rfl rfl ?_
  refine xblk ?_
  obtain ⟨y6, hy6, h⟩ := bindS h
  refine xloopU (st1 := ⟨ofL [(4, .slr 1004 0 ([].length)), (13, .sl 1 (List.map PV.str x13)), (14, .int .i64 (x13.length : Int)), (15, .int .i64 0)], ofL [(1004, ⟨2, true, List.map e_api_AVA []⟩)]⟩) (Norm.trans (nlrow 4 1004 2 true rfl rfl rfl) (canon0 ⟨rfl, rfl, rfl, rfl, trivial⟩ ⟨rfl, trivial⟩ rfl rfl)) (w_dn_ParseRDN_l8 N x13 N _ _ hy6) ?_
  clear hy6
  rcases y6 with y6 | y6
  · rintro e s ⟨rfl, rfl⟩
    refine xseq ?_
    refine xseq ?_
    refine xreg ?_
    refine wpp rfl rfl ?_
    obtain ⟨x50, hx50, h⟩ := bindS h
    refine woo rfl (ocal (sat_dn_IsRDN N _ _ hx50) rfl (.cons (bor_row rfl (full_row (f := e_api_AVA) (l := y6))) .nil) rfl rfl rfl) ?_
    refine wpp rfl rfl ?_
    rcases bifS h with ⟨c7, h⟩ | ⟨c7, h⟩
    · refine xcT rfl c7 ?_
      refine xseq ?_
      refine xreg ?_
      refine wpp rfl rfl ?_
      refine wpp rfl rfl ?_
      obtain rfl := someS h
      refine xretn (st1 := ⟨ofL [(2, .sl 2 (List.map e_api_AVA [])), (3, .int .i64 15)], ofL []⟩) (Norm.trans (nsub 2 (sub_nl 2) rfl) (canon0 ⟨rfl, rfl, trivial⟩ trivial rfl rfl)) ?_
      exact ⟨nofun, rfl, rfl⟩
    · refine xcF rfl c7 ?_
      refine xskip ?_
      refine xseq ?_
      refine xreg ?_
      refine wpp rfl rfl ?_
      refine wpp rfl rfl ?_
      refine wpp rfl rfl ?_
      obtain rfl := someS h
      refine xretn (st1 := ⟨ofL [(2, .sl 2 (List.map e_api_AVA y6)), (3, .int .i64 0)], ofL []⟩) (Norm.trans (Vd.freeze 1004 _ rfl rfl rfl) (Norm.trans (nsub 2 (sub_eq (congrArg (PV.sl 2) (full_row (f := e_api_AVA) (l := y6)))) rfl) (canon0 ⟨rfl, rfl, trivial⟩ trivial rfl rfl))) ?_
      exact ⟨nofun, rfl, rfl⟩
  · rintro e s ⟨rfl, rfl⟩
    obtain rfl := someS h
    exact ⟨nofun, rfl, rfl⟩
end Go.Gp
end
section
set_option linter.unusedVariables false
set_option linter.unusedSimpArgs false
set_option maxRecDepth 4000
namespace Go.Gp
open Go.Vd Go.RowKit Go.Proofs
def k44_l16 : IC := (.seq (.reg [⟨(some 15), (.bin .lss (.t 14) (.t 13)), none⟩]) (.seq (.cond (.t 15) .skip (.exit 0)) (.seq (.block 1 (.seq (.reg [⟨(some 16), (.ixp 1 (.t 12) (.t 14)), none⟩, ⟨(some 17), (.load 1 false (.t 16)), none⟩, ⟨(some 6), (.mov (.t 17)), none⟩]) (.seq (.reg [⟨(some 19), (.mov (.t 6)), none⟩, ⟨(some 20), (.call 65 [(.t 19)]), none⟩, ⟨(some 18), (.mov (.t 20)), none⟩, ⟨(some 21), (.ext 0 (.t 18)), none⟩, ⟨(some 22), (.ext 1 (.t 18)), none⟩, ⟨(some 7), (.mov (.t 21)), none⟩, ⟨(some 8), (.mov (.t 22)), none⟩]) (.seq (.seq (.reg [⟨(some 23), (.mov (.t 8)), none⟩, ⟨(some 24), (.bin .neq (.t 23) (.c (.int .i64 0))), none⟩, ⟨(some 25), (.mov (.t 24)), none⟩, ⟨(some 26), (.mov (.t 4)), (some (25, false))⟩, ⟨(some 27), (.len false (.t 26)), (some (25, false))⟩, ⟨(some 28), (.bin .eql (.t 27) (.c (.int .i64 8))), (some (25, false))⟩, ⟨(some 29), (.pick (.t 25) (.c (.bool true)) (.t 28)), none⟩]) (.cond (.t 29) (.seq (.reg [⟨(some 2), (.mov (.c .nl)), none⟩, ⟨(some 3), (.mov (.c (.int .i64 15))), none⟩]) .ret) .skip)) (.reg [⟨(some 30), (.mov (.t 4)), none⟩, ⟨(some 31), (.mov (.t 7)), none⟩, ⟨(some 32), (.bsl 1 [(.t 31)]), none⟩, ⟨(some 33), (.app 72 1 24 (.t 30) (.t 32)), none⟩, ⟨(some 4), (.mov (.t 33)), none⟩]))))) (.reg [⟨(some 34), (.bin .add (.t 14) (.c (.int .i64 1))), none⟩, ⟨(some 14), (.mov (.t 34)), none⟩]))))
def k44 : IC := (.seq (.reg [⟨(some 2), (.mov (.c .nl)), none⟩, ⟨(some 3), (.mov (.c (.int .i64 0))), none⟩]) (.seq (.seq (.reg [⟨(some 9), (.mov (.t 0)), none⟩, ⟨(some 10), (.bin .eql (.t 9) (.c (.str []))), none⟩]) (.cond (.t 10) (.seq (.reg [⟨(some 2), (.mov (.c .nl)), none⟩, ⟨(some 3), (.mov (.c (.int .i64 0))), none⟩]) .ret) .skip)) (.seq (.reg [⟨(some 4), (.mov (.c .nl)), none⟩]) (.seq (.seq (.reg [⟨(some 11), (.mov (.t 0)), none⟩, ⟨(some 12), (.call 64 [(.t 11), (.c (.int .u8 44))]), none⟩, ⟨(some 13), (.len false (.t 12)), none⟩, ⟨(some 14), (.mov (.c (.int .i64 0))), none⟩]) (.block 0 (.loop k44_l16))) (.seq (.reg [⟨(some 35), (.mov (.t 4)), none⟩, ⟨(some 2), (.mov (.t 35)), none⟩, ⟨(some 3), (.mov (.c (.int .i64 0))), none⟩]) .ret)))))
theorem k44_cf : cfunc Tryd.prog Tryd.f44 = some ⟨36, k44, [(.tmp 2), (.tmp 3)]⟩ := by kernel_rfl
theorem w_dn_Parse_l16 (N : Nat) (x12 : List (List UInt8)) : ∀ (n : Nat) (x : Int × List (List api_AVA)) (y : (List (List api_AVA)) ⊕ (List (List api_AVA) × Int)), dn_Parse_l16 N x12 n x = some y → WX Tryd.prog (fun _ => false) (.loop k44_l16) ((fun (x : Int × List (List api_AVA)) => ⟨ofL [(4, .slr 1004 0 x.2.length), (12, .sl 1 (List.map PV.str x12)), (13, .int .i64 (x12.length : Int)), (14, .int .i64 x.1)], ofL [(1004, ⟨1, true, List.map (es 2 e_api_AVA) x.2⟩)]⟩) x) ((Sum.elim (fun y e s => e = .exit 0 ∧ s = ⟨ofL [(4, .slr 1004 0 y.length)], ofL [(1004, ⟨1, true, List.map (es 2 e_api_AVA) y⟩)]⟩) (fun y e s => e = .ret ∧ s = ⟨ofL [(2, .sl 1 (List.map (es 2 e_api_AVA) y.1)), (3, .int .i64 y.2)], ofL []⟩) : ((List (List api_AVA)) ⊕ (List (List api_AVA) × Int)) → Xt → St → Prop) y) := by
  refine xloop (fun (x : Int × List (List api_AVA)) => ⟨ofL [(4, .slr 1004 0 x.2.length), (12, .sl 1 (List.map PV.str x12)), (13, .int .i64 (x12.length : Int)), (14, .int .i64 x.1)], ofL [(1004, ⟨1, true, List.map (es 2 e_api_AVA) x.2⟩)]⟩) _ (dn_Parse_l16 N x12) (dn_Parse_l16_b N x12) (fun _ => rfl) (fun _ _ => rfl) ?_
  rintro rec ⟨v14l16, r1004l16⟩ y h
  refine xseq ?_
  refine xreg ?_
  refine wpp rfl rfl ?_
  refine xseq ?_
  rcases bifS h with ⟨c2, h⟩ | ⟨c2, h⟩
  · refine xcT rfl c2 ?_
    refine xskip ?_
    refine xseq ?_
    refine xblk ?_
    refine xseq ?_
    refine xreg ?_
    obtain ⟨x16, hx16, h⟩ := bindS h
    refine wpp rfl (p_ixs (cs := [.str x16]) hx16 rfl rfl rfl) ?_
    refine wpp rfl rfl ?_
    refine wpp rfl rfl ?_
    refine xseq ?_
    refine xreg ?_
    refine wpp rfl rfl ?_
    obtain ⟨x20, hx20, h⟩ := bindS h
    refine woo rfl (ocal (sat_dn_ParseRDN N _ _ hx20) rfl (.cons sub_rfl .nil) rfl rfl rfl) ?_
    refine wpp rfl rfl ?_
    refine wpp rfl rfl ?_
    refine wpp rfl rfl ?_
    refine wpp rfl rfl ?_
    refine wpp rfl rfl ?_
    refine xseq ?_
    obtain ⟨g3, hg3, h⟩ := bindS h
    refine xseg ⟨ofL [(4, .slr 1004 0 r1004l16.length), (7, .sl 2 (List.map e_api_AVA x20.1)), (12, .sl 1 (List.map PV.str x12)), (13, .int .i64 (x12.length : Int)), (14, .int .i64 v14l16), (29, .bool g3)], ofL [(1004, ⟨1, true, List.map (es 2 e_api_AVA) r1004l16⟩)]⟩ ?_ ?_
    · have h := hg3
      refine xreg ?_
      refine wpp rfl rfl ?_
      refine wpp rfl rfl ?_
      refine wpp rfl rfl ?_
      rcases bifS h with ⟨c4, h⟩ | ⟨c4, h⟩
      · skip
        refine wsk (gn rfl c4) ?_
        refine wsk (gn rfl c4) ?_
        refine wsk (gn rfl c4) ?_
        refine wpp rfl (p_pick1 c4 rfl rfl) ?_
        obtain rfl := someS h
        exact (canon0 ⟨rfl, rfl, rfl, rfl, rfl, rfl, trivial⟩ ⟨rfl, trivial⟩ rfl rfl)
      · skip
        refine wpp (gy rfl c4) rfl ?_
        refine wpp (gy rfl c4) rfl ?_
        refine wpp (gy rfl c4) rfl ?_
        refine wpp rfl (p_pick0 c4 rfl rfl) ?_
        obtain rfl := someS h
        exact (canon0 ⟨rfl, rfl, rfl, rfl, rfl, rfl, trivial⟩ ⟨rfl, trivial⟩ rfl rfl)
    · clear hg3
      rcases bifS h with ⟨c5, h⟩ | ⟨c5, h⟩
      · refine xcT rfl c5 ?_
        refine xseq ?_
        refine xreg ?_
        refine wpp rfl rfl ?_
        refine wpp rfl rfl ?_
        obtain rfl := someS h
        exact xretn (st1 := ⟨ofL [(2, .sl 1 (List.map (es 2 e_api_AVA) [])), (3, .int .i64 15)], ofL []⟩) (Norm.trans (nsub 2 (sub_nl 1) rfl) (canon0 ⟨rfl, rfl, trivial⟩ trivial rfl rfl)) ⟨rfl, rfl⟩
      · refine xcF rfl c5 ?_
        refine xskip ?_
        refine xreg ?_
        refine wpp rfl rfl ?_
        refine wpp rfl rfl ?_
        refine woo rfl (obsl 32 rfl rfl rfl) ?_
        obtain ⟨x33, hx33, h⟩ := bindS h
        refine wapp (f := (es 2 e_api_AVA)) 33 hx33 rfl rfl rfl rfl rfl (el_row rfl (full_row (f := (es 2 e_api_AVA)) (l := [x20.1]))) rfl rfl rfl rfl ?_
        refine wpp rfl rfl ?_
        refine xreg ?_
        refine wpp (p := .int .i64 (w64 (v14l16 + (1 : Int)))) rfl rfl ?_
        refine wpp rfl rfl ?_
        exact ⟨((w64 (v14l16 + (1 : Int))), x33), (Norm.trans (rename 33 1004 rfl rfl) (canon0 ⟨rfl, rfl, rfl, rfl, trivial⟩ ⟨rfl, trivial⟩ rfl rfl)), h⟩
  · refine xcF rfl c2 ?_
    obtain rfl := someS h
    exact xexitn (st1 := ⟨ofL [(4, .slr 1004 0 r1004l16.length)], ofL [(1004, ⟨1, true, List.map (es 2 e_api_AVA) r1004l16⟩)]⟩) (canon0 ⟨rfl, trivial⟩ ⟨rfl, trivial⟩ rfl rfl) ⟨rfl, rfl⟩
theorem sat_dn_Parse (N : Nat) (a0 : List UInt8) (r : List (List api_AVA) × Int) (h : dn_Parse N a0 = some r) : Sat Tryd.prog 44 noRows [.str a0] (.tup [.sl 1 (List.map (es 2 e_api_AVA) r.1), .int .i64 r.2]) noRows := by
  refine xsat mixed Tryd.func44 k44_cf (rs := [.sl 1 (List.map (es 2 e_api_AVA) r.1), .int .i64 r.2]) rfl rfl ?_
  refine xseq ?_
  refine xreg ?_
  refine wpp rfl rfl ?_
  refine wpp rfl rfl ?_
  refine xseq ?_
  refine xseq ?_
  refine xreg ?_
  refine wpp rfl rfl ?_
  refine wpp rfl rfl ?_
  rcases bifS h with ⟨c1, h⟩ | ⟨c1, h⟩
  · refine xcT rfl c1 ?_
    refine xseq ?_
    refine xreg ?_
    refine wpp rfl rfl ?_
    refine wpp rfl rfl ?_
    obtain rfl := someS h
    refine xretn (st1 := ⟨ofL [(2, .sl 1 (List.map (es 2 e_api_AVA) [])), (3, .int .i64 0)], ofL []⟩) (Norm.trans (nsub 2 (sub_nl 1) rfl) (canon0 ⟨rfl, rfl, trivial⟩ trivial rfl rfl)) ?_
    exact ⟨nofun, rfl, rfl⟩
  · refine xcF rfl c1 ?_
    refine xskip ?_
    refine xseq ?_
    refine xreg ?_
    refine wpp rfl rfl ?_
    refine xseq ?_
    refine xseq ?_
    refine xreg ?_
    refine wpp rfl rfl ?_
    obtain ⟨x12, hx12, h⟩ := bindS h
    refine woo rfl (ocal (sat_dn_cut N _ _ _ hx12) rfl (.cons sub_rfl (.cons sub_rfl .nil)) rfl rfl rfl) ?_
    refine wpp rfl (p_lens rfl) ?_
    refine wpp rfl rfl ?_
    refine xblk ?_
    obtain ⟨y6, hy6, h⟩ := bindS h
    refine xloopU (st1 := ⟨ofL [(4, .slr 1004 0 ([].length)), (12, .sl 1 (List.map PV.str x12)), (13, .int .i64 (x12.length : Int)), (14, .int .i64 0)], ofL [(1004, ⟨1, true, List.map (es 2 e_api_AVA) []⟩)]⟩) (Norm.trans (nlrow 4 1004 1 true rfl rfl rfl) (canon0 ⟨rfl, rfl, rfl, rfl, trivial⟩ ⟨rfl, trivial⟩ rfl rfl)) (w_dn_Parse_l16 N x12 N _ _ hy6) ?_
    clear hy6
    rcases y6 with y6 | y6
    · rintro e s ⟨rfl, rfl⟩
      refine xseq ?_
      refine xreg ?_
      refine wpp rfl rfl ?_
      refine wpp rfl rfl ?_
      refine wpp rfl rfl ?_
      obtain rfl := someS h
      refine xretn (st1 := ⟨ofL [(2, .sl 1 (List.map (es 2 e_api_AVA) y6)), (3, .int .i64 0)], ofL []⟩) (Norm.trans (Vd.freeze 1004 _ rfl rfl rfl) (Norm.trans (nsub 2 (sub_eq (congrArg (PV.sl 1) (full_row (f := (es 2 e_api_AVA)) (l := y6)))) rfl) (canon0 ⟨rfl, rfl, trivial⟩ trivial rfl rfl))) ?_
      exact ⟨nofun, rfl, rfl⟩
    · rintro e s ⟨rfl, rfl⟩
      obtain rfl := someS h
      exact ⟨nofun, rfl, rfl⟩
end Go.Gp
end
section
set_option linter.unusedVariables false
set_option linter.unusedSimpArgs false
set_option maxRecDepth 4000
namespace Go.Gp
open Go.Vd Go.RowKit Go.Proofs
def k95 : IC := (.seq (.reg [⟨(some 2), (.mov (.c (.bool false))), none⟩]) (.seq (.reg [⟨(some 3), (.mov (.t 0)), none⟩, ⟨(some 4), (.call 85 [(.t 3)]), none⟩, ⟨(some 5), (.un .not (.t 4)), none⟩, ⟨(some 2), (.mov (.t 5)), none⟩]) .ret))
theorem k95_cf : cfunc Tryd.prog Tryd.f95 = some ⟨6, k95, [(.tmp 2)]⟩ := by kernel_rfl
theorem sat_dn_Is_1 (N : Nat) (a0 : List api_AVA) (r : Bool) (h : dn_Is_1 N a0 = some r) : Sat Tryd.prog 95 noRows [.sl 2 (List.map e_api_AVA a0)] (.bool r) noRows := by
  refine xsat mixed Tryd.func95 k95_cf (rs := [.bool r]) rfl rfl ?_
  refine xseq ?_
  refine xreg ?_
  refine wpp rfl rfl ?_
  refine xseq ?_
  refine xreg ?_
  refine wpp rfl rfl ?_
  obtain ⟨x4, hx4, h⟩ := bindS h
  refine woo rfl (ocal (sat_dn_IsRDN N _ _ hx4) rfl (.cons sub_rfl .nil) rfl rfl rfl) ?_
  refine wpp rfl rfl ?_
  refine wpp rfl rfl ?_
  obtain rfl := someS h
  refine xret ?_
  exact ⟨nofun, rfl, rfl⟩
end Go.Gp
end
section
set_option linter.unusedVariables false
set_option linter.unusedSimpArgs false
set_option maxRecDepth 4000
namespace Go.Gp
open Go.Vd Go.RowKit Go.Proofs
def k111c95_l6 : IC := (.seq (.reg [⟨(some 9), (.bin .lss (.t 8) (.t 7)), none⟩]) (.seq (.cond (.t 9) .skip (.exit 0)) (.seq (.block 1 (.seq (.reg [⟨(some 10), (.mov (.t 8)), none⟩, ⟨(some 5), (.mov (.t 10)), none⟩]) (.seq (.reg [⟨(some 11), (.mov (.t 1)), none⟩, ⟨(some 12), (.mov (.t 0)), none⟩, ⟨(some 13), (.mov (.t 5)), none⟩, ⟨(some 14), (.ixp 1 (.t 12) (.t 13)), none⟩, ⟨(some 15), (.load 1 false (.t 14)), none⟩, ⟨(some 16), (.calv (.t 11) [(.t 15)]), none⟩]) (.cond (.t 16) (.seq (.reg [⟨(some 17), (.mov (.t 5)), none⟩, ⟨(some 4), (.mov (.t 17)), none⟩]) .ret) .skip)))) (.reg [⟨(some 18), (.bin .add (.t 8) (.c (.int .i64 1))), none⟩, ⟨(some 8), (.mov (.t 18)), none⟩]))))
def k111c95 : IC := (.seq (.reg [⟨(some 4), (.mov (.c (.int .i64 0))), none⟩]) (.seq (.seq (.reg [⟨(some 6), (.mov (.t 0)), none⟩, ⟨(some 7), (.len false (.t 6)), none⟩, ⟨(some 8), (.mov (.c (.int .i64 0))), none⟩]) (.block 0 (.loop k111c95_l6))) (.seq (.reg [⟨(some 4), (.mov (.c (.int .i64 (-1)))), none⟩]) .ret)))
theorem k111c95_cf : cfunc Tryd.prog Tryd.f111 = some ⟨19, k111c95, [(.tmp 4)]⟩ := by kernel_rfl
theorem w_slices_IndexFunc_api_DN_api_RDN_c_dn_Is_1_l6 (N : Nat) (a0 : List (List api_AVA)) : ∀ (n : Nat) (x : Int) (y : Unit ⊕ Int), slices_IndexFunc_api_DN_api_RDN_c_dn_Is_1_l6 N a0 n x = some y → WX Tryd.prog (fun _ => false) (.loop k111c95_l6) ((fun (x : Int) => ⟨ofL [(0, .sl 1 (List.map (es 2 e_api_AVA) a0)), (1, .clo 95 []), (7, .int .i64 (a0.length : Int)), (8, .int .i64 x)], ofL []⟩) x) ((Sum.elim (fun y e s => e = .exit 0 ∧ s = ⟨ofL [], ofL []⟩) (fun y e s => e = .ret ∧ s = ⟨ofL [(4, .int .i64 y)], ofL []⟩) : (Unit ⊕ Int) → Xt → St → Prop) y) := by
  refine xloop (fun (x : Int) => ⟨ofL [(0, .sl 1 (List.map (es 2 e_api_AVA) a0)), (1, .clo 95 []), (7, .int .i64 (a0.length : Int)), (8, .int .i64 x)], ofL []⟩) _ (slices_IndexFunc_api_DN_api_RDN_c_dn_Is_1_l6 N a0) (slices_IndexFunc_api_DN_api_RDN_c_dn_Is_1_l6_b N a0) (fun _ => rfl) (fun _ _ => rfl) ?_
  rintro rec v8l6 y h
  refine xseq ?_
  refine xreg ?_
  refine wpp rfl rfl ?_
  refine xseq ?_
  rcases bifS h with ⟨c1, h⟩ | ⟨c1, h⟩
  · refine xcT rfl c1 ?_
    refine xskip ?_
    refine xseq ?_
    refine xblk ?_
    refine xseq ?_
    refine xreg ?_
    refine wpp rfl rfl ?_
    refine wpp rfl rfl ?_
    refine xseq ?_
    refine xreg ?_
    refine wpp rfl rfl ?_
    refine wpp rfl rfl ?_
    refine wpp rfl rfl ?_
    obtain ⟨x14, hx14, h⟩ := bindS h
    refine wpp rfl (p_ixs (cs := [.sl 2 (List.map e_api_AVA x14)]) hx14 rfl rfl rfl) ?_
    refine wpp rfl rfl ?_
    obtain ⟨x16, hx16, h⟩ := bindS h
    refine woo rfl (ocalv (sat_dn_Is_1 N _ _ hx16) rfl rfl rfl (.cons sub_rfl .nil) rfl rfl rfl) ?_
    rcases bifS h with ⟨c2, h⟩ | ⟨c2, h⟩
    · refine xcT rfl c2 ?_
      refine xseq ?_
      refine xreg ?_
      refine wpp rfl rfl ?_
      refine wpp rfl rfl ?_
      obtain rfl := someS h
      exact xretn (st1 := ⟨ofL [(4, .int .i64 v8l6)], ofL []⟩) (canon0 ⟨rfl, trivial⟩ trivial rfl rfl) ⟨rfl, rfl⟩
    · refine xcF rfl c2 ?_
      refine xskip ?_
      refine xreg ?_
      refine wpp (p := .int .i64 (w64 (v8l6 + (1 : Int)))) rfl rfl ?_
      refine wpp rfl rfl ?_
      exact ⟨(w64 (v8l6 + (1 : Int))), (canon0 ⟨rfl, rfl, rfl, rfl, trivial⟩ trivial rfl rfl), h⟩
  · refine xcF rfl c1 ?_
    obtain rfl := someS h
    exact xexitn (st1 := ⟨ofL [], ofL []⟩) (canon0 trivial trivial rfl rfl) ⟨rfl, rfl⟩
theorem sat_slices_IndexFunc_api_DN_api_RDN_c_dn_Is_1 (N : Nat) (a0 : List (List api_AVA)) (r : Int) (h : slices_IndexFunc_api_DN_api_RDN_c_dn_Is_1 N a0 = some r) : Sat Tryd.prog 111 noRows [.sl 1 (List.map (es 2 e_api_AVA) a0), .clo 95 []] (.int .i64 r) noRows := by
  refine xsat mixed Tryd.func111 k111c95_cf (rs := [.int .i64 r]) rfl rfl ?_
  refine xseq ?_
  refine xreg ?_
  refine wpp rfl rfl ?_
  refine xseq ?_
  refine xseq ?_
  refine xreg ?_
  refine wpp rfl rfl ?_
  refine wpp rfl (p_lens rfl) ?_
  refine wpp rfl rfl ?_
  refine xblk ?_
  obtain ⟨y3, hy3, h⟩ := bindS h
  refine xloopU (st1 := ⟨ofL [(0, .sl 1 (List.map (es 2 e_api_AVA) a0)), (1, .clo 95 []), (7, .int .i64 (a0.length : Int)), (8, .int .i64 0)], ofL []⟩) (canon0 ⟨rfl, rfl, rfl, rfl, trivial⟩ trivial rfl rfl) (w_slices_IndexFunc_api_DN_api_RDN_c_dn_Is_1_l6 N a0 N _ _ hy3) ?_
  clear hy3
  rcases y3 with y3 | y3
  · rintro e s ⟨rfl, rfl⟩
    refine xseq ?_
    refine xreg ?_
    refine wpp rfl rfl ?_
    obtain rfl := someS h
    refine xret ?_
    exact ⟨nofun, rfl, rfl⟩
  · rintro e s ⟨rfl, rfl⟩
    obtain rfl := someS h
    exact ⟨nofun, rfl, rfl⟩
end Go.Gp
end
section
set_option linter.unusedVariables false
set_option linter.unusedSimpArgs false
set_option maxRecDepth 4000
namespace Go.Gp
open Go.Vd Go.RowKit Go.Proofs
def k94c95 : IC := (.seq (.reg [⟨(some 4), (.mov (.c (.bool false))), none⟩]) (.seq (.reg [⟨(some 5), (.mov (.t 0)), none⟩, ⟨(some 6), (.mov (.t 1)), none⟩, ⟨(some 7), (.call 111 [(.t 5), (.t 6)]), none⟩, ⟨(some 8), (.bin .geq (.t 7) (.c (.int .i64 0))), none⟩, ⟨(some 4), (.mov (.t 8)), none⟩]) .ret))
theorem k94c95_cf : cfunc Tryd.prog Tryd.f94 = some ⟨9, k94c95, [(.tmp 4)]⟩ := by kernel_rfl
theorem sat_slices_ContainsFunc_api_DN_api_RDN_c_dn_Is_1 (N : Nat) (a0 : List (List api_AVA)) (r : Bool) (h : slices_ContainsFunc_api_DN_api_RDN_c_dn_Is_1 N a0 = some r) : Sat Tryd.prog 94 noRows [.sl 1 (List.map (es 2 e_api_AVA) a0), .clo 95 []] (.bool r) noRows := by
  refine xsat mixed Tryd.func94 k94c95_cf (rs := [.bool r]) rfl rfl ?_
  refine xseq ?_
  refine xreg ?_
  refine wpp rfl rfl ?_
  refine xseq ?_
  refine xreg ?_
  refine wpp rfl rfl ?_
  refine wpp rfl rfl ?_
  obtain ⟨x7, hx7, h⟩ := bindS h
  refine woo rfl (ocal (sat_slices_IndexFunc_api_DN_api_RDN_c_dn_Is_1 N _ _ hx7) rfl (.cons sub_rfl (.cons sub_rfl .nil)) rfl rfl rfl) ?_
  refine wpp rfl rfl ?_
  refine wpp rfl rfl ?_
  obtain rfl := someS h
  refine xret ?_
  exact ⟨nofun, rfl, rfl⟩
end Go.Gp
end
section
set_option linter.unusedVariables false
set_option linter.unusedSimpArgs false
set_option maxRecDepth 4000
namespace Go.Gp
open Go.Vd Go.RowKit Go.Proofs
def k75 : IC := (.seq (.reg [⟨(some 2), (.mov (.c (.bool false))), none⟩]) (.seq (.reg [⟨(some 3), (.mov (.t 0)), none⟩, ⟨(some 4), (.len false (.t 3)), none⟩, ⟨(some 5), (.bin .leq (.t 4) (.c (.int .i64 8))), none⟩, ⟨(some 6), (.mov (.t 5)), none⟩, ⟨(some 7), (.mov (.t 0)), (some (6, true))⟩, ⟨(some 8), (.call 94 [(.t 7), (.c (.clo 95 []))]), (some (6, true))⟩, ⟨(some 9), (.un .not (.t 8)), (some (6, true))⟩, ⟨(some 10), (.pick (.t 6) (.t 9) (.c (.bool false))), none⟩, ⟨(some 2), (.mov (.t 10)), none⟩]) .ret))
theorem k75_cf : cfunc Tryd.prog Tryd.f75 = some ⟨11, k75, [(.tmp 2)]⟩ := by kernel_rfl
theorem sat_dn_Is (N : Nat) (a0 : List (List api_AVA)) (r : Bool) (h : dn_Is N a0 = some r) : Sat Tryd.prog 75 noRows [.sl 1 (List.map (es 2 e_api_AVA) a0)] (.bool r) noRows := by
  refine xsat mixed Tryd.func75 k75_cf (rs := [.bool r]) rfl rfl ?_
  refine xseq ?_
  refine xreg ?_
  refine wpp rfl rfl ?_
  obtain ⟨g1, hg1, h⟩ := bindS h
  refine xseg ⟨ofL [(2, .bool g1)], ofL []⟩ ?_ ?_
  · have h := hg1
    refine xreg ?_
    refine wpp rfl rfl ?_
    refine wpp rfl (p_lens rfl) ?_
    refine wpp rfl rfl ?_
    refine wpp rfl rfl ?_
    rcases bifS h with ⟨c2, h⟩ | ⟨c2, h⟩
    · skip
      refine wpp (gy rfl c2) rfl ?_
      obtain ⟨x8, hx8, h⟩ := bindS h
      refine woo (gy rfl c2) (ocal (sat_slices_ContainsFunc_api_DN_api_RDN_c_dn_Is_1 N _ _ hx8) rfl (.cons sub_rfl (.cons sub_rfl .nil)) rfl rfl rfl) ?_
      refine wpp (gy rfl c2) rfl ?_
      refine wpp rfl (p_pick1 c2 rfl rfl) ?_
      refine wpp rfl rfl ?_
      obtain rfl := someS h
      exact (canon0 ⟨rfl, trivial⟩ trivial rfl rfl)
    · skip
      refine wsk (gn rfl c2) ?_
      refine wsk (gn rfl c2) ?_
      refine wsk (gn rfl c2) ?_
      refine wpp rfl (p_pick0 c2 rfl rfl) ?_
      refine wpp rfl rfl ?_
      obtain rfl := someS h
      exact (canon0 ⟨rfl, trivial⟩ trivial rfl rfl)
  · clear hg1
    obtain rfl := someS h
    refine xret ?_
    exact ⟨nofun, rfl, rfl⟩
end Go.Gp
end
