/- A part of the proof: functions of the program and what they compute. -/
import Derived.Test.YtgjeiamilppafaaDoorA5
import Derived.Test.YtgjeiamilppafaaDoorA7
section
set_option linter.unusedVariables false
set_option linter.unusedSimpArgs false
set_option maxRecDepth 4000
namespace Go.Gp
open Go.Vd Go.RowKit Go.Proofs
def k8_l18 : IC := (.seq (.reg [⟨(some 20), (.bin .lss (.t 19) (.t 18)), none⟩]) (.seq (.cond (.t 20) .skip (.exit 0)) (.seq (.block 1 (.seq (.reg [⟨(some 21), (.mov (.t 19)), none⟩, ⟨(some 22), (.ixp 1 (.t 17) (.t 19)), none⟩, ⟨(some 23), (.load 1 false (.t 22)), none⟩, ⟨(some 6), (.mov (.t 21)), none⟩, ⟨(some 7), (.mov (.t 23)), none⟩]) (.seq (.reg [⟨(some 25), (.mov (.t 7)), none⟩, ⟨(some 26), (.call 25 [(.t 25), (.c (.int .i64 10)), (.c (.int .i64 64))]), none⟩, ⟨(some 24), (.mov (.t 26)), none⟩, ⟨(some 27), (.ext 0 (.t 24)), none⟩, ⟨(some 28), (.ext 1 (.t 24)), none⟩, ⟨(some 8), (.mov (.t 27)), none⟩, ⟨(some 9), (.mov (.t 28)), none⟩]) (.seq (.seq (.reg [⟨(some 29), (.mov (.t 9)), none⟩, ⟨(some 30), (.eqi true (.t 29)), none⟩, ⟨(some 31), (.mov (.t 30)), none⟩, ⟨(some 32), (.mov (.t 8)), (some (31, false))⟩, ⟨(some 33), (.bin .lss (.t 32) (.c (.int .i64 0))), (some (31, false))⟩, ⟨(some 34), (.pick (.t 31) (.c (.bool true)) (.t 33)), none⟩, ⟨(some 35), (.mov (.t 34)), none⟩, ⟨(some 36), (.mov (.t 8)), (some (35, false))⟩, ⟨(some 37), (.bin .gtr (.t 36) (.c (.int .i64 1099511627776))), (some (35, false))⟩, ⟨(some 38), (.pick (.t 35) (.c (.bool true)) (.t 37)), none⟩]) (.cond (.t 38) (.seq (.reg [⟨(some 39), (.build [(.int .i64 0), (.int .i64 0), (.int .i64 0)] []), none⟩, ⟨none, (.store 3 (.t 2) (.t 39)), none⟩, ⟨(some 3), (.mov (.c (.int .i64 14))), none⟩]) .ret) .skip)) (.reg [⟨(some 40), (.mov (.t 6)), none⟩, ⟨(some 41), (.mov (.t 8)), none⟩, ⟨(some 42), (.ixq 3 1 (.t 5) (.t 40)), none⟩, ⟨none, (.store 1 (.t 42) (.t 41)), none⟩]))))) (.reg [⟨(some 43), (.bin .add (.t 19) (.c (.int .i64 1))), none⟩, ⟨(some 19), (.mov (.t 43)), none⟩]))))
def k8 : IC := (.seq (.reg [⟨(some 2), (.box 23 (.c (.agg [(.int .i64 0), (.int .i64 0), (.int .i64 0)]))), none⟩, ⟨(some 3), (.mov (.c (.int .i64 0))), none⟩]) (.seq (.reg [⟨(some 11), (.mov (.t 0)), none⟩, ⟨(some 12), (.call 24 [(.t 11), (.c (.str [46]))]), none⟩, ⟨(some 4), (.mov (.t 12)), none⟩]) (.seq (.seq (.reg [⟨(some 13), (.mov (.t 4)), none⟩, ⟨(some 14), (.len false (.t 13)), none⟩, ⟨(some 15), (.bin .neq (.t 14) (.c (.int .i64 3))), none⟩]) (.cond (.t 15) (.seq (.reg [⟨(some 16), (.build [(.int .i64 0), (.int .i64 0), (.int .i64 0)] []), none⟩, ⟨none, (.store 3 (.t 2) (.t 16)), none⟩, ⟨(some 3), (.mov (.c (.int .i64 14))), none⟩]) .ret) .skip)) (.seq (.reg [⟨(some 5), (.box 52 (.c (.agg [(.int .i64 0), (.int .i64 0), (.int .i64 0)]))), none⟩]) (.seq (.seq (.reg [⟨(some 17), (.mov (.t 4)), none⟩, ⟨(some 18), (.len false (.t 17)), none⟩, ⟨(some 19), (.mov (.c (.int .i64 0))), none⟩]) (.block 0 (.loop k8_l18))) (.seq (.reg [⟨(some 44), (.ixq 3 1 (.t 5) (.c (.int .i64 0))), none⟩, ⟨(some 45), (.load 1 false (.t 44)), none⟩, ⟨(some 46), (.ixq 3 1 (.t 5) (.c (.int .i64 1))), none⟩, ⟨(some 47), (.load 1 false (.t 46)), none⟩, ⟨(some 48), (.ixq 3 1 (.t 5) (.c (.int .i64 2))), none⟩, ⟨(some 49), (.load 1 false (.t 48)), none⟩, ⟨(some 50), (.build [(.int .i64 0), (.int .i64 0), (.int .i64 0)] [(0, (1, (.t 45))), (1, (1, (.t 47))), (2, (1, (.t 49)))]), none⟩, ⟨(some 10), (.box 23 (.c (.agg [(.int .i64 0), (.int .i64 0), (.int .i64 0)]))), none⟩, ⟨none, (.store 3 (.t 10) (.t 50)), none⟩]) (.seq (.seq (.reg [⟨(some 51), (.load 3 true (.t 10)), none⟩, ⟨(some 52), (.call 11 [(.t 51)]), none⟩, ⟨(some 53), (.un .not (.t 52)), none⟩, ⟨(some 54), (.mov (.t 53)), none⟩, ⟨(some 55), (.load 3 true (.t 10)), (some (54, false))⟩, ⟨(some 56), (.call 16 [(.t 55)]), (some (54, false))⟩, ⟨(some 57), (.mov (.t 0)), (some (54, false))⟩, ⟨(some 58), (.bin .neq (.t 56) (.t 57)), (some (54, false))⟩, ⟨(some 59), (.pick (.t 54) (.c (.bool true)) (.t 58)), none⟩]) (.cond (.t 59) (.seq (.reg [⟨(some 60), (.build [(.int .i64 0), (.int .i64 0), (.int .i64 0)] []), none⟩, ⟨none, (.store 3 (.t 2) (.t 60)), none⟩, ⟨(some 3), (.mov (.c (.int .i64 14))), none⟩]) .ret) .skip)) (.seq (.reg [⟨(some 61), (.load 3 true (.t 10)), none⟩, ⟨none, (.store 3 (.t 2) (.t 61)), none⟩, ⟨(some 3), (.mov (.c (.int .i64 0))), none⟩]) .ret))))))))
theorem k8_cf : cfunc Tryd.prog Tryd.f8 = some ⟨62, k8, [(.cell 3 true 2), (.tmp 3)]⟩ := by kernel_rfl
theorem w_csn_Parse_l18 (N : Nat) (a0 : List UInt8) (x12 : List (List UInt8)) : ∀ (n : Nat) (x : Int × List Int) (y : (List Int) ⊕ (api_CSN × Int)), csn_Parse_l18 N a0 x12 n x = some y → WX Tryd.prog (fun _ => false) (.loop k8_l18) ((fun (x : Int × List Int) => ⟨ofL [(0, .str a0), (2, .ptr 12802 0 0), (5, .ptr 12805 0 0), (17, .sl 1 (List.map PV.str x12)), (18, .int .i64 (x12.length : Int)), (19, .int .i64 x.1)], ofL [(12802, ⟨3, false, [.agg [.int .i64 0, .int .i64 0, .int .i64 0]]⟩), (12805, ⟨3, true, [.agg (List.map ei x.2)]⟩)]⟩) x) ((Sum.elim (fun y e s => e = .exit 0 ∧ s = ⟨ofL [(0, .str a0), (2, .ptr 12802 0 0), (5, .ptr 12805 0 0)], ofL [(12802, ⟨3, false, [.agg [.int .i64 0, .int .i64 0, .int .i64 0]]⟩), (12805, ⟨3, true, [.agg (List.map ei y)]⟩)]⟩) (fun y e s => e = .ret ∧ s = ⟨ofL [(2, .ptr 12802 0 0), (3, .int .i64 y.2)], ofL [(12802, ⟨3, false, [e_api_CSN y.1]⟩)]⟩) : ((List Int) ⊕ (api_CSN × Int)) → Xt → St → Prop) y) := by
  refine xloop (fun (x : Int × List Int) => ⟨ofL [(0, .str a0), (2, .ptr 12802 0 0), (5, .ptr 12805 0 0), (17, .sl 1 (List.map PV.str x12)), (18, .int .i64 (x12.length : Int)), (19, .int .i64 x.1)], ofL [(12802, ⟨3, false, [.agg [.int .i64 0, .int .i64 0, .int .i64 0]]⟩), (12805, ⟨3, true, [.agg (List.map ei x.2)]⟩)]⟩) _ (csn_Parse_l18 N a0 x12) (csn_Parse_l18_b N a0 x12) (fun _ => rfl) (fun _ _ => rfl) ?_
  rintro rec ⟨v19l18, r12805l18⟩ y h
  refine xseq ?_
  refine xreg ?_
  refine wpp rfl rfl ?_
  refine xseq ?_
  rcases bifS h with ⟨c2, h⟩ | ⟨c2, h⟩
  · refine xcT rfl c2 ?_
    refine xskip ?_
    refine xseq ?_
    refine xblk ?_
    refine xseq ?_
    refine xreg ?_
    refine wpp rfl rfl ?_
    obtain ⟨x22, hx22, h⟩ := bindS h
    refine wpp rfl (p_ixs (cs := [.str x22]) hx22 rfl rfl rfl) ?_
    refine wpp rfl rfl ?_
    refine wpp rfl rfl ?_
    refine wpp rfl rfl ?_
    refine xseq ?_
    refine xreg ?_
    refine wpp rfl rfl ?_
    obtain ⟨x26, hx26, h⟩ := bindS h
    refine woo rfl (ocal (sat_strconv_ParseInt N _ _ _ _ hx26) rfl (.cons sub_rfl (.cons sub_rfl (.cons sub_rfl .nil))) rfl rfl rfl) ?_
    refine wpp rfl rfl ?_
    refine wpp rfl rfl ?_
    refine wpp rfl rfl ?_
    refine wpp rfl rfl ?_
    refine wpp rfl rfl ?_
    refine xseq ?_
    obtain ⟨g3, hg3, h⟩ := bindS h
    refine xseg ⟨ofL [(0, .str a0), (2, .ptr 12802 0 0), (5, .ptr 12805 0 0), (6, .int .i64 v19l18), (8, .int .i64 x26.1), (17, .sl 1 (List.map PV.str x12)), (18, .int .i64 (x12.length : Int)), (19, .int .i64 v19l18), (38, .bool g3)], ofL [(12802, ⟨3, false, [.agg [.int .i64 0, .int .i64 0, .int .i64 0]]⟩), (12805, ⟨3, true, [.agg (List.map ei r12805l18)]⟩)]⟩ ?_ ?_
    · have h := hg3
      refine xreg ?_
      refine wpp rfl rfl ?_
      refine wpp rfl (p_eqi1 rfl) ?_
      refine wpp rfl rfl ?_
      rcases bifS h with ⟨c4, h⟩ | ⟨c4, h⟩
      · skip
        refine wsk (gn rfl c4) ?_
        refine wsk (gn rfl c4) ?_
        refine wpp rfl (p_pick1 c4 rfl rfl) ?_
        refine wpp rfl rfl ?_
        refine wsk rfl ?_
        refine wsk rfl ?_
        refine wpp rfl rfl ?_
        obtain rfl := someS h
        exact (canon0 ⟨rfl, rfl, rfl, rfl, rfl, rfl, rfl, rfl, rfl, trivial⟩ ⟨rfl, rfl, trivial⟩ rfl rfl)
      · skip
        refine wpp (gy rfl c4) rfl ?_
        refine wpp (gy rfl c4) rfl ?_
        refine wpp rfl (p_pick0 c4 rfl rfl) ?_
        refine wpp rfl rfl ?_
        rcases bifS h with ⟨c5, h⟩ | ⟨c5, h⟩
        · skip
          refine wsk (gn rfl c5) ?_
          refine wsk (gn rfl c5) ?_
          refine wpp rfl (p_pick1 c5 rfl rfl) ?_
          obtain rfl := someS h
          exact (canon0 ⟨rfl, rfl, rfl, rfl, rfl, rfl, rfl, rfl, rfl, trivial⟩ ⟨rfl, rfl, trivial⟩ rfl rfl)
        · skip
          refine wpp (gy rfl c5) rfl ?_
          refine wpp (gy rfl c5) rfl ?_
          refine wpp rfl (p_pick0 c5 rfl rfl) ?_
          obtain rfl := someS h
          exact (canon0 ⟨rfl, rfl, rfl, rfl, rfl, rfl, rfl, rfl, rfl, trivial⟩ ⟨rfl, rfl, trivial⟩ rfl rfl)
    · clear hg3
      rcases bifS h with ⟨c6, h⟩ | ⟨c6, h⟩
      · refine xcT rfl c6 ?_
        refine xseq ?_
        refine xreg ?_
        refine wpp (p := .agg [.int .i64 0, .int .i64 0, .int .i64 0]) rfl rfl ?_
        refine wstb (e' := .agg [.int .i64 0, .int .i64 0, .int .i64 0]) rfl rfl rfl rfl rfl rfl rfl rfl nofun rfl ?_
        refine wpp rfl rfl ?_
        obtain rfl := someS h
        exact xretn (st1 := ⟨ofL [(2, .ptr 12802 0 0), (3, .int .i64 14)], ofL [(12802, ⟨3, false, [e_api_CSN (⟨0, 0, 0⟩ : api_CSN)]⟩)]⟩) (canon0 ⟨rfl, rfl, trivial⟩ ⟨rfl, trivial⟩ rfl rfl) ⟨rfl, rfl⟩
      · refine xcF rfl c6 ?_
        refine xskip ?_
        refine xreg ?_
        refine wpp rfl rfl ?_
        refine wpp rfl rfl ?_
        obtain ⟨x42, hx42, h⟩ := bindS h
        refine wpp rfl (p_ixq hx42 rfl rfl rfl rfl) ?_
        obtain ⟨x9006, hx9006, h⟩ := bindS h
        refine wstq (f := ei) (e' := x26.1) hx9006 rfl rfl rfl rfl (chk_ble hx42) rfl rfl (fun _ => rfl) ?_
        refine xreg ?_
        refine wpp (p := .int .i64 (w64 (v19l18 + (1 : Int)))) rfl rfl ?_
        refine wpp rfl rfl ?_
        exact ⟨((w64 (v19l18 + (1 : Int))), (r12805l18.set x42 x26.1)), (canon0 ⟨rfl, rfl, rfl, rfl, rfl, rfl, trivial⟩ ⟨rfl, rfl, trivial⟩ rfl rfl), h⟩
  · refine xcF rfl c2 ?_
    obtain rfl := someS h
    exact xexitn (st1 := ⟨ofL [(0, .str a0), (2, .ptr 12802 0 0), (5, .ptr 12805 0 0)], ofL [(12802, ⟨3, false, [.agg [.int .i64 0, .int .i64 0, .int .i64 0]]⟩), (12805, ⟨3, true, [.agg (List.map ei r12805l18)]⟩)]⟩) (canon0 ⟨rfl, rfl, rfl, trivial⟩ ⟨rfl, rfl, trivial⟩ rfl rfl) ⟨rfl, rfl⟩
theorem sat_csn_Parse (N : Nat) (a0 : List UInt8) (r : api_CSN × Int) (h : csn_Parse N a0 = some r) : Sat Tryd.prog 8 noRows [.str a0] (.tup [e_api_CSN r.1, .int .i64 r.2]) noRows := by
  refine xsat mixed Tryd.func8 k8_cf (rs := [e_api_CSN r.1, .int .i64 r.2]) rfl rfl ?_
  refine xseq ?_
  refine xreg ?_
  refine woo rfl (obox 12802 rfl rfl rfl rfl rfl) ?_
  refine wpp rfl rfl ?_
  refine xseq ?_
  refine xreg ?_
  refine wpp rfl rfl ?_
  obtain ⟨x12, hx12, h⟩ := bindS h
  refine woo rfl (ocal (sat_strings_Split N _ _ _ hx12) rfl (.cons sub_rfl (.cons sub_rfl .nil)) rfl rfl rfl) ?_
  refine wpp rfl rfl ?_
  refine xseq ?_
  refine xseq ?_
  refine xreg ?_
  refine wpp rfl rfl ?_
  refine wpp rfl (p_lens rfl) ?_
  refine wpp rfl rfl ?_
  rcases bifS h with ⟨c1, h⟩ | ⟨c1, h⟩
  · refine xcT rfl c1 ?_
    refine xseq ?_
    refine xreg ?_
    refine wpp (p := .agg [.int .i64 0, .int .i64 0, .int .i64 0]) rfl rfl ?_
    refine wstb (e' := .agg [.int .i64 0, .int .i64 0, .int .i64 0]) rfl rfl rfl rfl rfl rfl rfl rfl nofun rfl ?_
    refine wpp rfl rfl ?_
    obtain rfl := someS h
    refine xret ?_
    exact ⟨nofun, rfl, rfl⟩
  · refine xcF rfl c1 ?_
    refine xskip ?_
    refine xseq ?_
    refine xreg ?_
    refine woo rfl (obox 12805 rfl rfl rfl rfl rfl) ?_
    refine xnorm (boxpr 12805 rfl rfl) ?_
    refine xseq ?_
    refine xseq ?_
    refine xreg ?_
    refine wpp rfl rfl ?_
    refine wpp rfl (p_lens rfl) ?_
    refine wpp rfl rfl ?_
    refine xblk ?_
    obtain ⟨y8, hy8, h⟩ := bindS h
    refine xloopU (st1 := ⟨ofL [(0, .str a0), (2, .ptr 12802 0 0), (5, .ptr 12805 0 0), (17, .sl 1 (List.map PV.str x12)), (18, .int .i64 (x12.length : Int)), (19, .int .i64 0)], ofL [(12802, ⟨3, false, [.agg [.int .i64 0, .int .i64 0, .int .i64 0]]⟩), (12805, ⟨3, true, [.agg (List.map ei [0, 0, 0])]⟩)]⟩) (canon0 ⟨rfl, rfl, rfl, rfl, rfl, rfl, trivial⟩ ⟨rfl, rfl, trivial⟩ rfl rfl) (w_csn_Parse_l18 N a0 x12 N _ _ hy8) ?_
    clear hy8
    rcases y8 with y8 | y8
    · rintro e s ⟨rfl, rfl⟩
      refine xseq ?_
      refine xreg ?_
      refine wpp rfl rfl ?_
      obtain ⟨x45, hx45, h⟩ := bindS h
      refine wpp rfl (p_ldq (f := ei) hx45 rfl rfl) ?_
      refine wpp rfl rfl ?_
      obtain ⟨x47, hx47, h⟩ := bindS h
      refine wpp rfl (p_ldq (f := ei) hx47 rfl rfl) ?_
      refine wpp rfl rfl ?_
      obtain ⟨x49, hx49, h⟩ := bindS h
      refine wpp rfl (p_ldq (f := ei) hx49 rfl rfl) ?_
      refine wpp (p := .agg [.int .i64 x45, .int .i64 x47, .int .i64 x49]) rfl rfl ?_
      refine woo rfl (obox 12810 rfl rfl rfl rfl rfl) ?_
      refine wstb (e' := .agg [.int .i64 x45, .int .i64 x47, .int .i64 x49]) rfl rfl rfl rfl rfl rfl rfl rfl nofun rfl ?_
      refine xseq ?_
      obtain ⟨g9, hg9, h⟩ := bindS h
      refine xseg ⟨ofL [(2, .ptr 12802 0 0), (10, .ptr 12810 0 0), (59, .bool g9)], ofL [(12802, ⟨3, false, [.agg [.int .i64 0, .int .i64 0, .int .i64 0]]⟩), (12810, ⟨3, false, [.agg [.int .i64 x45, .int .i64 x47, .int .i64 x49]]⟩)]⟩ ?_ ?_
      · have h := hg9
        refine xreg ?_
        refine wpp (p := .agg [.int .i64 x45, .int .i64 x47, .int .i64 x49]) rfl rfl ?_
        obtain ⟨x52, hx52, h⟩ := bindS h
        refine woo rfl (ocal (sat_csn_Is N _ _ hx52) rfl (.cons sub_rfl .nil) rfl rfl rfl) ?_
        refine wpp rfl rfl ?_
        refine wpp rfl rfl ?_
        rcases bifS h with ⟨c10, h⟩ | ⟨c10, h⟩
        · skip
          refine wsk (gn rfl c10) ?_
          refine wsk (gn rfl c10) ?_
          refine wsk (gn rfl c10) ?_
          refine wsk (gn rfl c10) ?_
          refine wpp rfl (p_pick1 c10 rfl rfl) ?_
          obtain rfl := someS h
          exact (canon0 ⟨rfl, rfl, rfl, trivial⟩ ⟨rfl, rfl, trivial⟩ rfl rfl)
        · skip
          refine wpp (p := .agg [.int .i64 x45, .int .i64 x47, .int .i64 x49]) (gy rfl c10) rfl ?_
          obtain ⟨x56, hx56, h⟩ := bindS h
          refine woo (gy rfl c10) (ocal (sat_csn_Text N _ _ hx56) rfl (.cons sub_rfl .nil) rfl rfl rfl) ?_
          refine wpp (gy rfl c10) rfl ?_
          refine wpp (gy rfl c10) rfl ?_
          refine wpp rfl (p_pick0 c10 rfl rfl) ?_
          obtain rfl := someS h
          exact (canon0 ⟨rfl, rfl, rfl, trivial⟩ ⟨rfl, rfl, trivial⟩ rfl rfl)
      · clear hg9
        rcases bifS h with ⟨c11, h⟩ | ⟨c11, h⟩
        · refine xcT rfl c11 ?_
          refine xseq ?_
          refine xreg ?_
          refine wpp (p := .agg [.int .i64 0, .int .i64 0, .int .i64 0]) rfl rfl ?_
          refine wstb (e' := .agg [.int .i64 0, .int .i64 0, .int .i64 0]) rfl rfl rfl rfl rfl rfl rfl rfl nofun rfl ?_
          refine wpp rfl rfl ?_
          obtain rfl := someS h
          refine xret ?_
          exact ⟨nofun, rfl, rfl⟩
        · refine xcF rfl c11 ?_
          refine xskip ?_
          refine xseq ?_
          refine xreg ?_
          refine wpp (p := .agg [.int .i64 x45, .int .i64 x47, .int .i64 x49]) rfl rfl ?_
          refine wstb (e' := .agg [.int .i64 x45, .int .i64 x47, .int .i64 x49]) rfl rfl rfl rfl rfl rfl rfl rfl nofun rfl ?_
          refine wpp rfl rfl ?_
          obtain rfl := someS h
          refine xret ?_
          exact ⟨nofun, rfl, rfl⟩
    · rintro e s ⟨rfl, rfl⟩
      obtain rfl := someS h
      exact ⟨nofun, rfl, rfl⟩
end Go.Gp
end
section
set_option linter.unusedVariables false
set_option linter.unusedSimpArgs false
set_option maxRecDepth 4000
namespace Go.Gp
open Go.Vd Go.RowKit Go.Proofs
def k12 : IC := (.seq (.reg [⟨(some 1), (.box 23 (.t 0)), none⟩, ⟨(some 2), (.mov (.c (.bool false))), none⟩]) (.seq (.reg [⟨(some 3), (.load 3 true (.t 1)), none⟩, ⟨(some 4), (.build [(.int .i64 0), (.int .i64 0), (.int .i64 0)] []), none⟩, ⟨(some 5), (.eqs false [(.i .i64), (.i .i64), (.i .i64)] (.t 3) (.t 4)), none⟩, ⟨(some 2), (.mov (.t 5)), none⟩]) .ret))
theorem k12_cf : cfunc Tryd.prog Tryd.f12 = some ⟨6, k12, [(.tmp 2)]⟩ := by kernel_rfl
theorem sat_csn_Zero (N : Nat) (a0 : api_CSN) (r : Bool) (h : csn_Zero N a0 = some r) : Sat Tryd.prog 12 noRows [e_api_CSN a0] (.bool r) noRows := by
  refine xsat mixed Tryd.func12 k12_cf (rs := [.bool r]) rfl rfl ?_
  refine xseq ?_
  refine xreg ?_
  refine woo rfl (obox 19201 rfl rfl rfl rfl rfl) ?_
  refine wpp rfl rfl ?_
  refine xseq ?_
  refine xreg ?_
  refine wpp (p := e_api_CSN a0) rfl rfl ?_
  refine wpp (p := .agg [.int .i64 0, .int .i64 0, .int .i64 0]) rfl rfl ?_
  refine wpp (p := .bool (a0.Time == (0 : Int) && (a0.Seq == (0 : Int) && (a0.Rep == (0 : Int) && true)))) rfl rfl ?_
  refine wpp rfl rfl ?_
  obtain rfl := someS h
  refine xret ?_
  exact ⟨nofun, rfl, rfl⟩
end Go.Gp
end
section
set_option linter.unusedVariables false
set_option linter.unusedSimpArgs false
set_option maxRecDepth 4000
namespace Go.Gp
open Go.Vd Go.RowKit Go.Proofs
def k20 : IC := (.seq (.reg [⟨(some 2), (.box 23 (.c (.agg [(.int .i64 0), (.int .i64 0), (.int .i64 0)]))), none⟩]) (.seq (.reg [⟨(some 3), (.mov (.t 0)), none⟩, ⟨(some 4), (.nck (.t 3)), none⟩, ⟨(some 5), (.fda 0 (.t 4)), none⟩, ⟨(some 6), (.load 3 true (.t 5)), none⟩, ⟨none, (.store 3 (.t 2) (.t 6)), none⟩]) .ret))
theorem k20_cf : cfunc Tryd.prog Tryd.f20 = some ⟨7, k20, [(.cell 3 true 2)]⟩ := by kernel_rfl
theorem sat_csn_Gen_Last (N : Nat) (a0 : csn_Gen) (r : api_CSN) (h : csn_Gen_Last N a0 = some r) : Sat Tryd.prog 20 noRows [.ep [.int .i64 a0.last.Time, .int .i64 a0.last.Seq, .int .i64 a0.last.Rep]] (e_api_CSN r) noRows := by
  refine xsat mixed Tryd.func20 k20_cf (rs := [e_api_CSN r]) rfl rfl ?_
  refine xseq ?_
  refine xreg ?_
  refine woo rfl (obox 32002 rfl rfl rfl rfl rfl) ?_
  refine xseq ?_
  refine xreg ?_
  refine wpp rfl rfl ?_
  refine wpp rfl rfl ?_
  refine wpp (p := .ep [.int .i64 a0.last.Time, .int .i64 a0.last.Seq, .int .i64 a0.last.Rep]) rfl rfl ?_
  refine wpp (p := .agg [.int .i64 a0.last.Time, .int .i64 a0.last.Seq, .int .i64 a0.last.Rep]) rfl rfl ?_
  refine wstb (e' := .agg [.int .i64 a0.last.Time, .int .i64 a0.last.Seq, .int .i64 a0.last.Rep]) rfl rfl rfl rfl rfl rfl rfl rfl nofun rfl ?_
  obtain rfl := someS h
  refine xret ?_
  exact ⟨nofun, rfl, rfl⟩
end Go.Gp
end
section
set_option linter.unusedVariables false
set_option linter.unusedSimpArgs false
set_option maxRecDepth 4000
set_option maxHeartbeats 4000000
namespace Go.Gp
open Go.Vd Go.RowKit Go.Proofs
def k7 : IC := (.seq (.reg [⟨(some 0), (.mov (.c (.bool false))), none⟩]) (.seq (.reg [⟨(some 14), (.call 17 [(.c (.int .i64 2))]), none⟩, ⟨(some 1), (.mov (.t 14)), none⟩]) (.seq (.seq (.reg [⟨(some 15), (.mov (.t 1)), none⟩, ⟨(some 16), (.eqn false (.t 15) (.c .nilp)), none⟩]) (.cond (.t 16) (.seq (.reg [⟨(some 0), (.mov (.c (.bool false))), none⟩]) .ret) .skip)) (.seq (.reg [⟨(some 18), (.mov (.t 1)), none⟩, ⟨(some 19), (.call 19 [(.t 18), (.c (.int .i64 5))]), none⟩, ⟨(some 17), (.mov (.t 19)), none⟩, ⟨(some 20), (.ext 0 (.t 17)), none⟩, ⟨(some 21), (.ext 1 (.t 17)), none⟩, ⟨(some 2), (.box 23 (.c (.agg [(.int .i64 0), (.int .i64 0), (.int .i64 0)]))), none⟩, ⟨none, (.store 3 (.t 2) (.t 20)), none⟩, ⟨(some 3), (.mov (.t 21)), none⟩]) (.seq (.reg [⟨(some 23), (.mov (.t 1)), none⟩, ⟨(some 24), (.call 19 [(.t 23), (.c (.int .i64 3))]), none⟩, ⟨(some 22), (.mov (.t 24)), none⟩, ⟨(some 25), (.ext 0 (.t 22)), none⟩, ⟨(some 26), (.ext 1 (.t 22)), none⟩, ⟨(some 4), (.box 23 (.c (.agg [(.int .i64 0), (.int .i64 0), (.int .i64 0)]))), none⟩, ⟨none, (.store 3 (.t 4) (.t 25)), none⟩, ⟨(some 5), (.mov (.t 26)), none⟩]) (.seq (.reg [⟨(some 27), (.mov (.t 1)), none⟩, ⟨(some 28), (.build [(.int .i64 0), (.int .i64 0), (.int .i64 0)] [(0, (1, (.c (.int .i64 9)))), (1, (1, (.c (.int .i64 4))))]), none⟩, ⟨(some 29), (.call 18 [(.t 27), (.t 28)]), none⟩]) (.seq (.reg [⟨(some 31), (.mov (.t 1)), none⟩, ⟨(some 32), (.call 19 [(.t 31), (.c (.int .i64 1))]), none⟩, ⟨(some 30), (.mov (.t 32)), none⟩, ⟨(some 33), (.ext 0 (.t 30)), none⟩, ⟨(some 34), (.ext 1 (.t 30)), none⟩, ⟨(some 6), (.box 23 (.c (.agg [(.int .i64 0), (.int .i64 0), (.int .i64 0)]))), none⟩, ⟨none, (.store 3 (.t 6) (.t 33)), none⟩, ⟨(some 7), (.mov (.t 34)), none⟩]) (.seq (.reg [⟨(some 36), (.mov (.t 1)), none⟩, ⟨(some 37), (.call 19 [(.t 36), (.c (.int .i64 1099511627777))]), none⟩, ⟨(some 35), (.mov (.t 37)), none⟩, ⟨(some 38), (.ext 0 (.t 35)), none⟩, ⟨(some 39), (.ext 1 (.t 35)), none⟩, ⟨(some 8), (.box 23 (.c (.agg [(.int .i64 0), (.int .i64 0), (.int .i64 0)]))), none⟩, ⟨none, (.store 3 (.t 8) (.t 38)), none⟩, ⟨(some 9), (.mov (.t 39)), none⟩]) (.seq (.reg [⟨(some 41), (.call 8 [(.c (.str [57, 46, 53, 46, 50]))]), none⟩, ⟨(some 40), (.mov (.t 41)), none⟩, ⟨(some 42), (.ext 0 (.t 40)), none⟩, ⟨(some 43), (.ext 1 (.t 40)), none⟩, ⟨(some 10), (.box 23 (.c (.agg [(.int .i64 0), (.int .i64 0), (.int .i64 0)]))), none⟩, ⟨none, (.store 3 (.t 10) (.t 42)), none⟩, ⟨(some 11), (.mov (.t 43)), none⟩]) (.seq (.reg [⟨(some 45), (.call 8 [(.c (.str [57, 46, 48, 53, 46, 50]))]), none⟩, ⟨(some 44), (.mov (.t 45)), none⟩, ⟨(some 46), (.ext 0 (.t 44)), none⟩, ⟨(some 47), (.ext 1 (.t 44)), none⟩, ⟨(some 12), (.box 23 (.c (.agg [(.int .i64 0), (.int .i64 0), (.int .i64 0)]))), none⟩, ⟨none, (.store 3 (.t 12) (.t 46)), none⟩, ⟨(some 13), (.mov (.t 47)), none⟩]) (.seq (.regd 68 [⟨(some 48), (.mov (.t 3)), none⟩, ⟨(some 49), (.bin .eql (.t 48) (.c (.int .i64 0))), none⟩, ⟨(some 50), (.mov (.t 49)), none⟩, ⟨(some 51), (.load 3 true (.t 2)), (some (50, true))⟩, ⟨(some 52), (.build [(.int .i64 0), (.int .i64 0), (.int .i64 0)] [(0, (1, (.c (.int .i64 5)))), (2, (1, (.c (.int .i64 2))))]), (some (50, true))⟩, ⟨(some 53), (.eqs false [(.i .i64), (.i .i64), (.i .i64)] (.t 51) (.t 52)), (some (50, true))⟩, ⟨(some 54), (.pick (.t 50) (.t 53) (.c (.bool false))), none⟩, ⟨(some 55), (.mov (.t 54)), none⟩, ⟨(some 56), (.mov (.t 5)), (some (55, true))⟩, ⟨(some 57), (.bin .eql (.t 56) (.c (.int .i64 0))), (some (55, true))⟩, ⟨(some 58), (.pick (.t 55) (.t 57) (.c (.bool false))), none⟩, ⟨(some 59), (.mov (.t 58)), none⟩, ⟨(some 60), (.load 3 true (.t 4)), (some (59, true))⟩, ⟨(some 61), (.build [(.int .i64 0), (.int .i64 0), (.int .i64 0)] [(0, (1, (.c (.int .i64 5)))), (1, (1, (.c (.int .i64 1)))), (2, (1, (.c (.int .i64 2))))]), (some (59, true))⟩, ⟨(some 62), (.eqs false [(.i .i64), (.i .i64), (.i .i64)] (.t 60) (.t 61)), (some (59, true))⟩, ⟨(some 63), (.pick (.t 59) (.t 62) (.c (.bool false))), none⟩, ⟨(some 64), (.mov (.t 63)), none⟩, ⟨(some 65), (.mov (.t 7)), (some (64, true))⟩, ⟨(some 66), (.bin .eql (.t 65) (.c (.int .i64 0))), (some (64, true))⟩, ⟨(some 67), (.pick (.t 64) (.t 66) (.c (.bool false))), none⟩, ⟨(some 68), (.mov (.t 67)), none⟩, ⟨(some 69), (.load 3 true (.t 6)), (some (68, true))⟩, ⟨(some 70), (.build [(.int .i64 0), (.int .i64 0), (.int .i64 0)] [(0, (1, (.c (.int .i64 9)))), (1, (1, (.c (.int .i64 5)))), (2, (1, (.c (.int .i64 2))))]), (some (68, true))⟩, ⟨(some 71), (.eqs false [(.i .i64), (.i .i64), (.i .i64)] (.t 69) (.t 70)), (some (68, true))⟩, ⟨(some 72), (.pick (.t 68) (.t 71) (.c (.bool false))), none⟩, ⟨(some 73), (.mov (.t 72)), none⟩, ⟨(some 74), (.mov (.t 9)), (some (73, true))⟩, ⟨(some 75), (.bin .eql (.t 74) (.c (.int .i64 19))), (some (73, true))⟩, ⟨(some 76), (.pick (.t 73) (.t 75) (.c (.bool false))), none⟩, ⟨(some 77), (.mov (.t 76)), none⟩, ⟨(some 78), (.mov (.t 11)), (some (77, true))⟩, ⟨(some 79), (.bin .eql (.t 78) (.c (.int .i64 0))), (some (77, true))⟩, ⟨(some 80), (.pick (.t 77) (.t 79) (.c (.bool false))), none⟩, ⟨(some 81), (.mov (.t 80)), none⟩, ⟨(some 82), (.load 3 true (.t 10)), (some (81, true))⟩, ⟨(some 83), (.load 3 true (.t 6)), (some (81, true))⟩, ⟨(some 84), (.eqs false [(.i .i64), (.i .i64), (.i .i64)] (.t 82) (.t 83)), (some (81, true))⟩, ⟨(some 85), (.pick (.t 81) (.t 84) (.c (.bool false))), none⟩, ⟨(some 86), (.mov (.t 85)), none⟩, ⟨(some 87), (.mov (.t 13)), (some (86, true))⟩, ⟨(some 88), (.bin .eql (.t 87) (.c (.int .i64 14))), (some (86, true))⟩, ⟨(some 89), (.pick (.t 86) (.t 88) (.c (.bool false))), none⟩, ⟨(some 90), (.mov (.t 89)), none⟩, ⟨(some 91), (.load 3 true (.t 6)), (some (90, true))⟩, ⟨(some 92), (.call 16 [(.t 91)]), (some (90, true))⟩, ⟨(some 93), (.bin .eql (.t 92) (.c (.str [57, 46, 53, 46, 50]))), (some (90, true))⟩, ⟨(some 94), (.pick (.t 90) (.t 93) (.c (.bool false))), none⟩, ⟨(some 95), (.mov (.t 94)), none⟩, ⟨(some 96), (.load 3 true (.t 2)), (some (95, true))⟩, ⟨(some 97), (.load 3 true (.t 4)), (some (95, true))⟩, ⟨(some 98), (.call 14 [(.t 96), (.t 97)]), (some (95, true))⟩, ⟨(some 99), (.bin .eql (.t 98) (.c (.int .i64 (-1)))), (some (95, true))⟩, ⟨(some 100), (.pick (.t 95) (.t 99) (.c (.bool false))), none⟩, ⟨(some 101), (.mov (.t 100)), none⟩, ⟨(some 102), (.load 3 true (.t 6)), (some (101, true))⟩, ⟨(some 103), (.call 11 [(.t 102)]), (some (101, true))⟩, ⟨(some 104), (.pick (.t 101) (.t 103) (.c (.bool false))), none⟩, ⟨(some 105), (.mov (.t 104)), none⟩, ⟨(some 106), (.build [(.int .i64 0), (.int .i64 0), (.int .i64 0)] []), (some (105, true))⟩, ⟨(some 107), (.call 12 [(.t 106)]), (some (105, true))⟩, ⟨(some 108), (.pick (.t 105) (.t 107) (.c (.bool false))), none⟩, ⟨(some 109), (.mov (.t 108)), none⟩, ⟨(some 110), (.mov (.t 1)), (some (109, true))⟩, ⟨(some 111), (.call 20 [(.t 110)]), (some (109, true))⟩, ⟨(some 112), (.load 3 true (.t 6)), (some (109, true))⟩, ⟨(some 113), (.eqs false [(.i .i64), (.i .i64), (.i .i64)] (.t 111) (.t 112)), (some (109, true))⟩, ⟨(some 114), (.pick (.t 109) (.t 113) (.c (.bool false))), none⟩, ⟨(some 0), (.mov (.t 114)), none⟩]) .ret)))))))))))
theorem k7_cf : cfunc Tryd.prog Tryd.f7 = some ⟨115, k7, [(.tmp 0)]⟩ := by kernel_rfl
theorem sat_prefectlaw10_known (N : Nat)  (r : Bool) (h : prefectlaw10_known N  = some r) : Sat Tryd.prog 7 noRows [] (.bool r) noRows := by
  refine xsat mixed Tryd.func7 k7_cf (rs := [.bool r]) rfl rfl ?_
  refine xseq ?_
  refine xreg ?_
  refine wpp rfl rfl ?_
  refine xseq ?_
  refine xreg ?_
  obtain ⟨x14, hx14, h⟩ := bindS h
  refine woo rfl (ocalN [(700640, ⟨3, false, [e_csn_Gen x14]⟩)] (sat_csn_New_n0 N _ _ hx14) rfl (.cons sub_rfl .nil) rfl rfl rfl rfl rfl rfl) ?_
  refine wpp rfl rfl ?_
  refine xseq ?_
  refine xseq ?_
  refine xreg ?_
  refine wpp rfl rfl ?_
  refine wpp (p := .bool false) rfl rfl ?_
  refine xcF rfl rfl ?_
  refine xskip ?_
  refine xseq ?_
  refine xreg ?_
  refine wpp rfl rfl ?_
  obtain ⟨x19, hx19, h⟩ := bindS h
  refine woo rfl (olendB [(700640, ⟨3, false, [e_csn_Gen x14]⟩)] [(700640, ⟨3, false, [e_csn_Gen x19.2.2]⟩)] (sat_csn_Gen_Next_o0 N _ _ _ hx19) rfl (.cons sub_rfl (.cons sub_rfl .nil)) ⟨rfl, trivial⟩ rfl rfl rfl) ?_
  refine wpp rfl rfl ?_
  refine wpp rfl rfl ?_
  refine wpp rfl rfl ?_
  refine woo rfl (obox 11202 rfl rfl rfl rfl rfl) ?_
  refine wstb (e' := e_api_CSN x19.1) rfl rfl rfl rfl rfl rfl rfl rfl nofun rfl ?_
  refine wpp rfl rfl ?_
  refine xseq ?_
  refine xreg ?_
  refine wpp rfl rfl ?_
  obtain ⟨x24, hx24, h⟩ := bindS h
  refine woo rfl (olendB [(700640, ⟨3, false, [e_csn_Gen x19.2.2]⟩)] [(700640, ⟨3, false, [e_csn_Gen x24.2.2]⟩)] (sat_csn_Gen_Next_o0 N _ _ _ hx24) rfl (.cons sub_rfl (.cons sub_rfl .nil)) ⟨rfl, trivial⟩ rfl rfl rfl) ?_
  refine wpp rfl rfl ?_
  refine wpp rfl rfl ?_
  refine wpp rfl rfl ?_
  refine woo rfl (obox 11204 rfl rfl rfl rfl rfl) ?_
  refine wstb (e' := e_api_CSN x24.1) rfl rfl rfl rfl rfl rfl rfl rfl nofun rfl ?_
  refine wpp rfl rfl ?_
  refine xseq ?_
  refine xreg ?_
  refine wpp rfl rfl ?_
  refine wpp (p := .agg [.int .i64 9, .int .i64 4, .int .i64 0]) rfl rfl ?_
  obtain ⟨x29, hx29, h⟩ := bindS h
  refine woo rfl (olendB [(700640, ⟨3, false, [e_csn_Gen x24.2.2]⟩)] [(700640, ⟨3, false, [e_csn_Gen x29]⟩)] (sat_csn_Gen_See_o0 N _ _ _ hx29) rfl (.cons sub_rfl (.cons sub_rfl .nil)) ⟨rfl, trivial⟩ rfl rfl rfl) ?_
  refine xseq ?_
  refine xreg ?_
  refine wpp rfl rfl ?_
  obtain ⟨x32, hx32, h⟩ := bindS h
  refine woo rfl (olendB [(700640, ⟨3, false, [e_csn_Gen x29]⟩)] [(700640, ⟨3, false, [e_csn_Gen x32.2.2]⟩)] (sat_csn_Gen_Next_o0 N _ _ _ hx32) rfl (.cons sub_rfl (.cons sub_rfl .nil)) ⟨rfl, trivial⟩ rfl rfl rfl) ?_
  refine wpp rfl rfl ?_
  refine wpp rfl rfl ?_
  refine wpp rfl rfl ?_
  refine woo rfl (obox 11206 rfl rfl rfl rfl rfl) ?_
  refine wstb (e' := e_api_CSN x32.1) rfl rfl rfl rfl rfl rfl rfl rfl nofun rfl ?_
  refine wpp rfl rfl ?_
  refine xseq ?_
  refine xnorm (canon0 (st := _) (l := [(1, .ptr 700640 0 0), (2, .ptr 11202 0 0), (3, .int .i64 x19.2.1), (4, .ptr 11204 0 0), (5, .int .i64 x24.2.1), (6, .ptr 11206 0 0), (7, .int .i64 x32.2.1)]) (m := [(11202, ⟨3, false, [e_api_CSN x19.1]⟩), (11204, ⟨3, false, [e_api_CSN x24.1]⟩), (11206, ⟨3, false, [e_api_CSN x32.1]⟩), (700640, ⟨3, false, [e_csn_Gen x32.2.2]⟩)]) ⟨rfl, rfl, rfl, rfl, rfl, rfl, rfl, trivial⟩ ⟨rfl, rfl, rfl, rfl, trivial⟩ rfl rfl) ?_
  refine xreg ?_
  refine wpp rfl rfl ?_
  obtain ⟨x37, hx37, h⟩ := bindS h
  refine woo rfl (olendB [(700640, ⟨3, false, [e_csn_Gen x32.2.2]⟩)] [(700640, ⟨3, false, [e_csn_Gen x37.2.2]⟩)] (sat_csn_Gen_Next_o0 N _ _ _ hx37) rfl (.cons sub_rfl (.cons sub_rfl .nil)) ⟨rfl, trivial⟩ rfl rfl rfl) ?_
  refine wpp rfl rfl ?_
  refine wpp rfl rfl ?_
  refine wpp rfl rfl ?_
  refine woo rfl (obox 11208 rfl rfl rfl rfl rfl) ?_
  refine wstb (e' := e_api_CSN x37.1) rfl rfl rfl rfl rfl rfl rfl rfl nofun rfl ?_
  refine wpp rfl rfl ?_
  refine xseq ?_
  refine xreg ?_
  obtain ⟨x41, hx41, h⟩ := bindS h
  refine woo rfl (ocal (sat_csn_Parse N _ _ hx41) rfl (.cons sub_rfl .nil) rfl rfl rfl) ?_
  refine wpp rfl rfl ?_
  refine wpp rfl rfl ?_
  refine wpp rfl rfl ?_
  refine woo rfl (obox 11210 rfl rfl rfl rfl rfl) ?_
  refine wstb (e' := e_api_CSN x41.1) rfl rfl rfl rfl rfl rfl rfl rfl nofun rfl ?_
  refine wpp rfl rfl ?_
  refine xseq ?_
  refine xreg ?_
  obtain ⟨x45, hx45, h⟩ := bindS h
  refine woo rfl (ocal (sat_csn_Parse N _ _ hx45) rfl (.cons sub_rfl .nil) rfl rfl rfl) ?_
  refine wpp rfl rfl ?_
  refine wpp rfl rfl ?_
  refine wpp rfl rfl ?_
  refine woo rfl (obox 11212 rfl rfl rfl rfl rfl) ?_
  refine wstb (e' := e_api_CSN x45.1) rfl rfl rfl rfl rfl rfl rfl rfl nofun rfl ?_
  refine wpp rfl rfl ?_
  obtain ⟨g1, hg1, h⟩ := bindS h
  refine xseg ⟨ofL [(0, .bool g1)], ofL []⟩ ?_ ?_
  · have h := hg1
    refine xregd ?_
    refine wdp rfl rfl ?_
    refine wdp rfl rfl ?_
    refine wdp rfl rfl ?_
    rcases bifS h with ⟨c2, h⟩ | ⟨c2, h⟩
    · skip
      refine wdp (p := e_api_CSN x19.1) (gy rfl c2) rfl ?_
      refine wdp (p := .agg [.int .i64 5, .int .i64 0, .int .i64 2]) (gy rfl c2) rfl ?_
      refine wdp (p := .bool (x19.1.Time == (5 : Int) && (x19.1.Seq == (0 : Int) && (x19.1.Rep == (2 : Int) && true)))) (gy rfl c2) rfl ?_
      refine wdp rfl (p_pick1 c2 rfl rfl) ?_
      refine wdp rfl rfl ?_
      rcases bifS h with ⟨c3, h⟩ | ⟨c3, h⟩
      · skip
        refine wdp (gy rfl c3) rfl ?_
        refine wdp (gy rfl c3) rfl ?_
        refine wdp rfl (p_pick1 c3 rfl rfl) ?_
        refine wdp rfl rfl ?_
        rcases bifS h with ⟨c4, h⟩ | ⟨c4, h⟩
        · skip
          refine wdp (p := e_api_CSN x24.1) (gy rfl c4) rfl ?_
          refine wdp (p := .agg [.int .i64 5, .int .i64 1, .int .i64 2]) (gy rfl c4) rfl ?_
          refine wdp (p := .bool (x24.1.Time == (5 : Int) && (x24.1.Seq == (1 : Int) && (x24.1.Rep == (2 : Int) && true)))) (gy rfl c4) rfl ?_
          refine wdp rfl (p_pick1 c4 rfl rfl) ?_
          refine wdp rfl rfl ?_
          rcases bifS h with ⟨c5, h⟩ | ⟨c5, h⟩
          · skip
            refine wdp (gy rfl c5) rfl ?_
            refine wdp (gy rfl c5) rfl ?_
            refine wdp rfl (p_pick1 c5 rfl rfl) ?_
            refine wdp rfl rfl ?_
            rcases bifS h with ⟨c6, h⟩ | ⟨c6, h⟩
            · skip
              refine wdp (p := e_api_CSN x32.1) (gy rfl c6) rfl ?_
              refine wdp (p := .agg [.int .i64 9, .int .i64 5, .int .i64 2]) (gy rfl c6) rfl ?_
              refine wdp (p := .bool (x32.1.Time == (9 : Int) && (x32.1.Seq == (5 : Int) && (x32.1.Rep == (2 : Int) && true)))) (gy rfl c6) rfl ?_
              refine wdp rfl (p_pick1 c6 rfl rfl) ?_
              refine wdp rfl rfl ?_
              rcases bifS h with ⟨c7, h⟩ | ⟨c7, h⟩
              · skip
                refine wdp (gy rfl c7) rfl ?_
                refine wdp (gy rfl c7) rfl ?_
                refine wdp rfl (p_pick1 c7 rfl rfl) ?_
                refine wdp rfl rfl ?_
                rcases bifS h with ⟨c8, h⟩ | ⟨c8, h⟩
                · skip
                  refine wdp (gy rfl c8) rfl ?_
                  refine wdp (gy rfl c8) rfl ?_
                  refine wdp rfl (p_pick1 c8 rfl rfl) ?_
                  refine wdp rfl rfl ?_
                  rcases bifS h with ⟨c9, h⟩ | ⟨c9, h⟩
                  · skip
                    refine wdp (p := e_api_CSN x41.1) (gy rfl c9) rfl ?_
                    refine wdp (p := e_api_CSN x32.1) (gy rfl c9) rfl ?_
                    refine wdp (p := .bool (x41.1.Time == x32.1.Time && (x41.1.Seq == x32.1.Seq && (x41.1.Rep == x32.1.Rep && true)))) (gy rfl c9) rfl ?_
                    refine wdp rfl (p_pick1 c9 rfl rfl) ?_
                    refine wdp rfl rfl ?_
                    rcases bifS h with ⟨c10, h⟩ | ⟨c10, h⟩
                    · skip
                      refine wdp (gy rfl c10) rfl ?_
                      refine wdp (gy rfl c10) rfl ?_
                      refine wdp rfl (p_pick1 c10 rfl rfl) ?_
                      refine wdp rfl rfl ?_
                      rcases bifS h with ⟨c11, h⟩ | ⟨c11, h⟩
                      · skip
                        refine wdp (p := e_api_CSN x32.1) (gy rfl c11) rfl ?_
                        obtain ⟨x92, hx92, h⟩ := bindS h
                        refine wdN (gy rfl c11) (pcal (sat_csn_Text N _ _ hx92) rfl (.cons sub_rfl .nil) rfl rfl rfl) no_fresh ?_
                        refine wdp (gy rfl c11) rfl ?_
                        refine wdp rfl (p_pick1 c11 rfl rfl) ?_
                        refine wdp rfl rfl ?_
                        rcases bifS h with ⟨c12, h⟩ | ⟨c12, h⟩
                        · skip
                          refine wdp (p := e_api_CSN x19.1) (gy rfl c12) rfl ?_
                          refine wdp (p := e_api_CSN x24.1) (gy rfl c12) rfl ?_
                          obtain ⟨x98, hx98, h⟩ := bindS h
                          refine wdN (gy rfl c12) (pcal (sat_csn_Cmp N _ _ _ hx98) rfl (.cons sub_rfl (.cons sub_rfl .nil)) rfl rfl rfl) no_fresh ?_
                          refine wdp (gy rfl c12) rfl ?_
                          refine wdp rfl (p_pick1 c12 rfl rfl) ?_
                          refine wdp rfl rfl ?_
                          rcases bifS h with ⟨c13, h⟩ | ⟨c13, h⟩
                          · skip
                            refine wdp (p := e_api_CSN x32.1) (gy rfl c13) rfl ?_
                            obtain ⟨x103, hx103, h⟩ := bindS h
                            refine wdN (gy rfl c13) (pcal (sat_csn_Is N _ _ hx103) rfl (.cons sub_rfl .nil) rfl rfl rfl) no_fresh ?_
                            refine wdp rfl (p_pick1 c13 rfl rfl) ?_
                            refine wdp rfl rfl ?_
                            rcases bifS h with ⟨c14, h⟩ | ⟨c14, h⟩
                            · skip
                              refine wdp (p := .agg [.int .i64 0, .int .i64 0, .int .i64 0]) (gy rfl c14) rfl ?_
                              obtain ⟨x107, hx107, h⟩ := bindS h
                              refine wdN (gy rfl c14) (pcal (sat_csn_Zero N _ _ hx107) rfl (.cons sub_rfl .nil) rfl rfl rfl) no_fresh ?_
                              refine wdp rfl (p_pick1 c14 rfl rfl) ?_
                              refine wdp rfl rfl ?_
                              rcases bifS h with ⟨c15, h⟩ | ⟨c15, h⟩
                              · skip
                                refine wdp (gy rfl c15) rfl ?_
                                obtain ⟨x111, hx111, h⟩ := bindS h
                                refine wdN (gy rfl c15) (pcal (sat_csn_Gen_Last N _ _ hx111) rfl (.cons (sub_eq rfl) .nil) rfl rfl rfl) no_fresh ?_
                                refine wdp (p := e_api_CSN x32.1) (gy rfl c15) rfl ?_
                                refine wdp (p := .bool (x111.Time == x32.1.Time && (x111.Seq == x32.1.Seq && (x111.Rep == x32.1.Rep && true)))) (gy rfl c15) rfl ?_
                                refine wdp rfl (p_pick1 c15 rfl rfl) ?_
                                refine wdp rfl rfl ?_
                                obtain rfl := someS h
                                exact (canon0 ⟨rfl, trivial⟩ trivial rfl rfl)
                              · skip
                                refine wdn (gn rfl c15) ?_
                                refine wdn (gn rfl c15) ?_
                                refine wdn (gn rfl c15) ?_
                                refine wdn (gn rfl c15) ?_
                                refine wdp rfl (p_pick0 c15 rfl rfl) ?_
                                refine wdp rfl rfl ?_
                                obtain rfl := someS h
                                exact (canon0 ⟨rfl, trivial⟩ trivial rfl rfl)
                            · skip
                              refine wdn (gn rfl c14) ?_
                              refine wdn (gn rfl c14) ?_
                              refine wdp rfl (p_pick0 c14 rfl rfl) ?_
                              refine wdp rfl rfl ?_
                              refine wdn rfl ?_
                              refine wdn rfl ?_
                              refine wdn rfl ?_
                              refine wdn rfl ?_
                              refine wdp rfl rfl ?_
                              refine wdp rfl rfl ?_
                              obtain rfl := someS h
                              exact (canon0 ⟨rfl, trivial⟩ trivial rfl rfl)
                          · skip
                            refine wdn (gn rfl c13) ?_
                            refine wdn (gn rfl c13) ?_
                            refine wdp rfl (p_pick0 c13 rfl rfl) ?_
                            refine wdp rfl rfl ?_
                            refine wdn rfl ?_
                            refine wdn rfl ?_
                            refine wdp rfl rfl ?_
                            refine wdp rfl rfl ?_
                            refine wdn rfl ?_
                            refine wdn rfl ?_
                            refine wdn rfl ?_
                            refine wdn rfl ?_
                            refine wdp rfl rfl ?_
                            refine wdp rfl rfl ?_
                            obtain rfl := someS h
                            exact (canon0 ⟨rfl, trivial⟩ trivial rfl rfl)
                        · skip
                          refine wdn (gn rfl c12) ?_
                          refine wdn (gn rfl c12) ?_
                          refine wdn (gn rfl c12) ?_
                          refine wdn (gn rfl c12) ?_
                          refine wdp rfl (p_pick0 c12 rfl rfl) ?_
                          refine wdp rfl rfl ?_
                          refine wdn rfl ?_
                          refine wdn rfl ?_
                          refine wdp rfl rfl ?_
                          refine wdp rfl rfl ?_
                          refine wdn rfl ?_
                          refine wdn rfl ?_
                          refine wdp rfl rfl ?_
                          refine wdp rfl rfl ?_
                          refine wdn rfl ?_
                          refine wdn rfl ?_
                          refine wdn rfl ?_
                          refine wdn rfl ?_
                          refine wdp rfl rfl ?_
                          refine wdp rfl rfl ?_
                          obtain rfl := someS h
                          exact (canon0 ⟨rfl, trivial⟩ trivial rfl rfl)
                      · skip
                        refine wdn (gn rfl c11) ?_
                        refine wdn (gn rfl c11) ?_
                        refine wdn (gn rfl c11) ?_
                        refine wdp rfl (p_pick0 c11 rfl rfl) ?_
                        refine wdp rfl rfl ?_
                        refine wdn rfl ?_
                        refine wdn rfl ?_
                        refine wdn rfl ?_
                        refine wdn rfl ?_
                        refine wdp rfl rfl ?_
                        refine wdp rfl rfl ?_
                        refine wdn rfl ?_
                        refine wdn rfl ?_
                        refine wdp rfl rfl ?_
                        refine wdp rfl rfl ?_
                        refine wdn rfl ?_
                        refine wdn rfl ?_
                        refine wdp rfl rfl ?_
                        refine wdp rfl rfl ?_
                        refine wdn rfl ?_
                        refine wdn rfl ?_
                        refine wdn rfl ?_
                        refine wdn rfl ?_
                        refine wdp rfl rfl ?_
                        refine wdp rfl rfl ?_
                        obtain rfl := someS h
                        exact (canon0 ⟨rfl, trivial⟩ trivial rfl rfl)
                    · skip
                      refine wdn (gn rfl c10) ?_
                      refine wdn (gn rfl c10) ?_
                      refine wdp rfl (p_pick0 c10 rfl rfl) ?_
                      refine wdp rfl rfl ?_
                      refine wdn rfl ?_
                      refine wdn rfl ?_
                      refine wdn rfl ?_
                      refine wdp rfl rfl ?_
                      refine wdp rfl rfl ?_
                      refine wdn rfl ?_
                      refine wdn rfl ?_
                      refine wdn rfl ?_
                      refine wdn rfl ?_
                      refine wdp rfl rfl ?_
                      refine wdp rfl rfl ?_
                      refine wdn rfl ?_
                      refine wdn rfl ?_
                      refine wdp rfl rfl ?_
                      refine wdp rfl rfl ?_
                      refine wdn rfl ?_
                      refine wdn rfl ?_
                      refine wdp rfl rfl ?_
                      refine wdp rfl rfl ?_
                      refine wdn rfl ?_
                      refine wdn rfl ?_
                      refine wdn rfl ?_
                      refine wdn rfl ?_
                      refine wdp rfl rfl ?_
                      refine wdp rfl rfl ?_
                      obtain rfl := someS h
                      exact (canon0 ⟨rfl, trivial⟩ trivial rfl rfl)
                  · skip
                    refine wdn (gn rfl c9) ?_
                    refine wdn (gn rfl c9) ?_
                    refine wdn (gn rfl c9) ?_
                    refine wdp rfl (p_pick0 c9 rfl rfl) ?_
                    refine wdp rfl rfl ?_
                    refine wdn rfl ?_
                    refine wdn rfl ?_
                    refine wdp rfl rfl ?_
                    refine wdp rfl rfl ?_
                    refine wdn rfl ?_
                    refine wdn rfl ?_
                    refine wdn rfl ?_
                    refine wdp rfl rfl ?_
                    refine wdp rfl rfl ?_
                    refine wdn rfl ?_
                    refine wdn rfl ?_
                    refine wdn rfl ?_
                    refine wdn rfl ?_
                    refine wdp rfl rfl ?_
                    refine wdp rfl rfl ?_
                    refine wdn rfl ?_
                    refine wdn rfl ?_
                    refine wdp rfl rfl ?_
                    refine wdp rfl rfl ?_
                    refine wdn rfl ?_
                    refine wdn rfl ?_
                    refine wdp rfl rfl ?_
                    refine wdp rfl rfl ?_
                    refine wdn rfl ?_
                    refine wdn rfl ?_
                    refine wdn rfl ?_
                    refine wdn rfl ?_
                    refine wdp rfl rfl ?_
                    refine wdp rfl rfl ?_
                    obtain rfl := someS h
                    exact (canon0 ⟨rfl, trivial⟩ trivial rfl rfl)
                · skip
                  refine wdn (gn rfl c8) ?_
                  refine wdn (gn rfl c8) ?_
                  refine wdp rfl (p_pick0 c8 rfl rfl) ?_
                  refine wdp rfl rfl ?_
                  refine wdn rfl ?_
                  refine wdn rfl ?_
                  refine wdn rfl ?_
                  refine wdp rfl rfl ?_
                  refine wdp rfl rfl ?_
                  refine wdn rfl ?_
                  refine wdn rfl ?_
                  refine wdp rfl rfl ?_
                  refine wdp rfl rfl ?_
                  refine wdn rfl ?_
                  refine wdn rfl ?_
                  refine wdn rfl ?_
                  refine wdp rfl rfl ?_
                  refine wdp rfl rfl ?_
                  refine wdn rfl ?_
                  refine wdn rfl ?_
                  refine wdn rfl ?_
                  refine wdn rfl ?_
                  refine wdp rfl rfl ?_
                  refine wdp rfl rfl ?_
                  refine wdn rfl ?_
                  refine wdn rfl ?_
                  refine wdp rfl rfl ?_
                  refine wdp rfl rfl ?_
                  refine wdn rfl ?_
                  refine wdn rfl ?_
                  refine wdp rfl rfl ?_
                  refine wdp rfl rfl ?_
                  refine wdn rfl ?_
                  refine wdn rfl ?_
                  refine wdn rfl ?_
                  refine wdn rfl ?_
                  refine wdp rfl rfl ?_
                  refine wdp rfl rfl ?_
                  obtain rfl := someS h
                  exact (canon0 ⟨rfl, trivial⟩ trivial rfl rfl)
              · skip
                refine wdn (gn rfl c7) ?_
                refine wdn (gn rfl c7) ?_
                refine wdp rfl (p_pick0 c7 rfl rfl) ?_
                refine wdp rfl rfl ?_
                refine wdn rfl ?_
                refine wdn rfl ?_
                refine wdp rfl rfl ?_
                refine wdp rfl rfl ?_
                refine wdn rfl ?_
                refine wdn rfl ?_
                refine wdn rfl ?_
                refine wdp rfl rfl ?_
                refine wdp rfl rfl ?_
                refine wdn rfl ?_
                refine wdn rfl ?_
                refine wdp rfl rfl ?_
                refine wdp rfl rfl ?_
                refine wdn rfl ?_
                refine wdn rfl ?_
                refine wdn rfl ?_
                refine wdp rfl rfl ?_
                refine wdp rfl rfl ?_
                refine wdn rfl ?_
                refine wdn rfl ?_
                refine wdn rfl ?_
                refine wdn rfl ?_
                refine wdp rfl rfl ?_
                refine wdp rfl rfl ?_
                refine wdn rfl ?_
                refine wdn rfl ?_
                refine wdp rfl rfl ?_
                refine wdp rfl rfl ?_
                refine wdn rfl ?_
                refine wdn rfl ?_
                refine wdp rfl rfl ?_
                refine wdp rfl rfl ?_
                refine wdn rfl ?_
                refine wdn rfl ?_
                refine wdn rfl ?_
                refine wdn rfl ?_
                refine wdp rfl rfl ?_
                refine wdp rfl rfl ?_
                obtain rfl := someS h
                exact (canon0 ⟨rfl, trivial⟩ trivial rfl rfl)
            · skip
              refine wdn (gn rfl c6) ?_
              refine wdn (gn rfl c6) ?_
              refine wdn (gn rfl c6) ?_
              refine wdp rfl (p_pick0 c6 rfl rfl) ?_
              refine wdp rfl rfl ?_
              refine wdn rfl ?_
              refine wdn rfl ?_
              refine wdp rfl rfl ?_
              refine wdp rfl rfl ?_
              refine wdn rfl ?_
              refine wdn rfl ?_
              refine wdp rfl rfl ?_
              refine wdp rfl rfl ?_
              refine wdn rfl ?_
              refine wdn rfl ?_
              refine wdn rfl ?_
              refine wdp rfl rfl ?_
              refine wdp rfl rfl ?_
              refine wdn rfl ?_
              refine wdn rfl ?_
              refine wdp rfl rfl ?_
              refine wdp rfl rfl ?_
              refine wdn rfl ?_
              refine wdn rfl ?_
              refine wdn rfl ?_
              refine wdp rfl rfl ?_
              refine wdp rfl rfl ?_
              refine wdn rfl ?_
              refine wdn rfl ?_
              refine wdn rfl ?_
              refine wdn rfl ?_
              refine wdp rfl rfl ?_
              refine wdp rfl rfl ?_
              refine wdn rfl ?_
              refine wdn rfl ?_
              refine wdp rfl rfl ?_
              refine wdp rfl rfl ?_
              refine wdn rfl ?_
              refine wdn rfl ?_
              refine wdp rfl rfl ?_
              refine wdp rfl rfl ?_
              refine wdn rfl ?_
              refine wdn rfl ?_
              refine wdn rfl ?_
              refine wdn rfl ?_
              refine wdp rfl rfl ?_
              refine wdp rfl rfl ?_
              obtain rfl := someS h
              exact (canon0 ⟨rfl, trivial⟩ trivial rfl rfl)
          · skip
            refine wdn (gn rfl c5) ?_
            refine wdn (gn rfl c5) ?_
            refine wdp rfl (p_pick0 c5 rfl rfl) ?_
            refine wdp rfl rfl ?_
            refine wdn rfl ?_
            refine wdn rfl ?_
            refine wdn rfl ?_
            refine wdp rfl rfl ?_
            refine wdp rfl rfl ?_
            refine wdn rfl ?_
            refine wdn rfl ?_
            refine wdp rfl rfl ?_
            refine wdp rfl rfl ?_
            refine wdn rfl ?_
            refine wdn rfl ?_
            refine wdp rfl rfl ?_
            refine wdp rfl rfl ?_
            refine wdn rfl ?_
            refine wdn rfl ?_
            refine wdn rfl ?_
            refine wdp rfl rfl ?_
            refine wdp rfl rfl ?_
            refine wdn rfl ?_
            refine wdn rfl ?_
            refine wdp rfl rfl ?_
            refine wdp rfl rfl ?_
            refine wdn rfl ?_
            refine wdn rfl ?_
            refine wdn rfl ?_
            refine wdp rfl rfl ?_
            refine wdp rfl rfl ?_
            refine wdn rfl ?_
            refine wdn rfl ?_
            refine wdn rfl ?_
            refine wdn rfl ?_
            refine wdp rfl rfl ?_
            refine wdp rfl rfl ?_
            refine wdn rfl ?_
            refine wdn rfl ?_
            refine wdp rfl rfl ?_
            refine wdp rfl rfl ?_
            refine wdn rfl ?_
            refine wdn rfl ?_
            refine wdp rfl rfl ?_
            refine wdp rfl rfl ?_
            refine wdn rfl ?_
            refine wdn rfl ?_
            refine wdn rfl ?_
            refine wdn rfl ?_
            refine wdp rfl rfl ?_
            refine wdp rfl rfl ?_
            obtain rfl := someS h
            exact (canon0 ⟨rfl, trivial⟩ trivial rfl rfl)
        · skip
          refine wdn (gn rfl c4) ?_
          refine wdn (gn rfl c4) ?_
          refine wdn (gn rfl c4) ?_
          refine wdp rfl (p_pick0 c4 rfl rfl) ?_
          refine wdp rfl rfl ?_
          refine wdn rfl ?_
          refine wdn rfl ?_
          refine wdp rfl rfl ?_
          refine wdp rfl rfl ?_
          refine wdn rfl ?_
          refine wdn rfl ?_
          refine wdn rfl ?_
          refine wdp rfl rfl ?_
          refine wdp rfl rfl ?_
          refine wdn rfl ?_
          refine wdn rfl ?_
          refine wdp rfl rfl ?_
          refine wdp rfl rfl ?_
          refine wdn rfl ?_
          refine wdn rfl ?_
          refine wdp rfl rfl ?_
          refine wdp rfl rfl ?_
          refine wdn rfl ?_
          refine wdn rfl ?_
          refine wdn rfl ?_
          refine wdp rfl rfl ?_
          refine wdp rfl rfl ?_
          refine wdn rfl ?_
          refine wdn rfl ?_
          refine wdp rfl rfl ?_
          refine wdp rfl rfl ?_
          refine wdn rfl ?_
          refine wdn rfl ?_
          refine wdn rfl ?_
          refine wdp rfl rfl ?_
          refine wdp rfl rfl ?_
          refine wdn rfl ?_
          refine wdn rfl ?_
          refine wdn rfl ?_
          refine wdn rfl ?_
          refine wdp rfl rfl ?_
          refine wdp rfl rfl ?_
          refine wdn rfl ?_
          refine wdn rfl ?_
          refine wdp rfl rfl ?_
          refine wdp rfl rfl ?_
          refine wdn rfl ?_
          refine wdn rfl ?_
          refine wdp rfl rfl ?_
          refine wdp rfl rfl ?_
          refine wdn rfl ?_
          refine wdn rfl ?_
          refine wdn rfl ?_
          refine wdn rfl ?_
          refine wdp rfl rfl ?_
          refine wdp rfl rfl ?_
          obtain rfl := someS h
          exact (canon0 ⟨rfl, trivial⟩ trivial rfl rfl)
      · skip
        refine wdn (gn rfl c3) ?_
        refine wdn (gn rfl c3) ?_
        refine wdp rfl (p_pick0 c3 rfl rfl) ?_
        refine wdp rfl rfl ?_
        refine wdn rfl ?_
        refine wdn rfl ?_
        refine wdn rfl ?_
        refine wdp rfl rfl ?_
        refine wdp rfl rfl ?_
        refine wdn rfl ?_
        refine wdn rfl ?_
        refine wdp rfl rfl ?_
        refine wdp rfl rfl ?_
        refine wdn rfl ?_
        refine wdn rfl ?_
        refine wdn rfl ?_
        refine wdp rfl rfl ?_
        refine wdp rfl rfl ?_
        refine wdn rfl ?_
        refine wdn rfl ?_
        refine wdp rfl rfl ?_
        refine wdp rfl rfl ?_
        refine wdn rfl ?_
        refine wdn rfl ?_
        refine wdp rfl rfl ?_
        refine wdp rfl rfl ?_
        refine wdn rfl ?_
        refine wdn rfl ?_
        refine wdn rfl ?_
        refine wdp rfl rfl ?_
        refine wdp rfl rfl ?_
        refine wdn rfl ?_
        refine wdn rfl ?_
        refine wdp rfl rfl ?_
        refine wdp rfl rfl ?_
        refine wdn rfl ?_
        refine wdn rfl ?_
        refine wdn rfl ?_
        refine wdp rfl rfl ?_
        refine wdp rfl rfl ?_
        refine wdn rfl ?_
        refine wdn rfl ?_
        refine wdn rfl ?_
        refine wdn rfl ?_
        refine wdp rfl rfl ?_
        refine wdp rfl rfl ?_
        refine wdn rfl ?_
        refine wdn rfl ?_
        refine wdp rfl rfl ?_
        refine wdp rfl rfl ?_
        refine wdn rfl ?_
        refine wdn rfl ?_
        refine wdp rfl rfl ?_
        refine wdp rfl rfl ?_
        refine wdn rfl ?_
        refine wdn rfl ?_
        refine wdn rfl ?_
        refine wdn rfl ?_
        refine wdp rfl rfl ?_
        refine wdp rfl rfl ?_
        obtain rfl := someS h
        exact (canon0 ⟨rfl, trivial⟩ trivial rfl rfl)
    · skip
      refine wdn (gn rfl c2) ?_
      refine wdn (gn rfl c2) ?_
      refine wdn (gn rfl c2) ?_
      refine wdp rfl (p_pick0 c2 rfl rfl) ?_
      refine wdp rfl rfl ?_
      refine wdn rfl ?_
      refine wdn rfl ?_
      refine wdp rfl rfl ?_
      refine wdp rfl rfl ?_
      refine wdn rfl ?_
      refine wdn rfl ?_
      refine wdn rfl ?_
      refine wdp rfl rfl ?_
      refine wdp rfl rfl ?_
      refine wdn rfl ?_
      refine wdn rfl ?_
      refine wdp rfl rfl ?_
      refine wdp rfl rfl ?_
      refine wdn rfl ?_
      refine wdn rfl ?_
      refine wdn rfl ?_
      refine wdp rfl rfl ?_
      refine wdp rfl rfl ?_
      refine wdn rfl ?_
      refine wdn rfl ?_
      refine wdp rfl rfl ?_
      refine wdp rfl rfl ?_
      refine wdn rfl ?_
      refine wdn rfl ?_
      refine wdp rfl rfl ?_
      refine wdp rfl rfl ?_
      refine wdn rfl ?_
      refine wdn rfl ?_
      refine wdn rfl ?_
      refine wdp rfl rfl ?_
      refine wdp rfl rfl ?_
      refine wdn rfl ?_
      refine wdn rfl ?_
      refine wdp rfl rfl ?_
      refine wdp rfl rfl ?_
      refine wdn rfl ?_
      refine wdn rfl ?_
      refine wdn rfl ?_
      refine wdp rfl rfl ?_
      refine wdp rfl rfl ?_
      refine wdn rfl ?_
      refine wdn rfl ?_
      refine wdn rfl ?_
      refine wdn rfl ?_
      refine wdp rfl rfl ?_
      refine wdp rfl rfl ?_
      refine wdn rfl ?_
      refine wdn rfl ?_
      refine wdp rfl rfl ?_
      refine wdp rfl rfl ?_
      refine wdn rfl ?_
      refine wdn rfl ?_
      refine wdp rfl rfl ?_
      refine wdp rfl rfl ?_
      refine wdn rfl ?_
      refine wdn rfl ?_
      refine wdn rfl ?_
      refine wdn rfl ?_
      refine wdp rfl rfl ?_
      refine wdp rfl rfl ?_
      obtain rfl := someS h
      exact (canon0 ⟨rfl, trivial⟩ trivial rfl rfl)
  · clear hg1
    obtain rfl := someS h
    refine xret ?_
    exact ⟨nofun, rfl, rfl⟩
end Go.Gp
end
section
set_option linter.unusedVariables false
set_option linter.unusedSimpArgs false
set_option maxRecDepth 4000
namespace Go.Gp
open Go.Vd Go.RowKit Go.Proofs
def k9 : IC := (.seq (.reg [⟨(some 1), (.box 23 (.t 0)), none⟩, ⟨(some 2), (.mov (.c (.bool false))), none⟩]) (.seq (.reg [⟨(some 3), (.fda 0 (.t 1)), none⟩, ⟨(some 4), (.load 1 false (.t 3)), none⟩, ⟨(some 5), (.bin .geq (.t 4) (.c (.int .i64 0))), none⟩, ⟨(some 6), (.mov (.t 5)), none⟩, ⟨(some 7), (.fda 0 (.t 1)), (some (6, true))⟩, ⟨(some 8), (.load 1 false (.t 7)), (some (6, true))⟩, ⟨(some 9), (.bin .leq (.t 8) (.c (.int .i64 1099511627776))), (some (6, true))⟩, ⟨(some 10), (.pick (.t 6) (.t 9) (.c (.bool false))), none⟩, ⟨(some 11), (.mov (.t 10)), none⟩, ⟨(some 12), (.fda 1 (.t 1)), (some (11, true))⟩, ⟨(some 13), (.load 1 false (.t 12)), (some (11, true))⟩, ⟨(some 14), (.bin .geq (.t 13) (.c (.int .i64 0))), (some (11, true))⟩, ⟨(some 15), (.pick (.t 11) (.t 14) (.c (.bool false))), none⟩, ⟨(some 16), (.mov (.t 15)), none⟩, ⟨(some 17), (.fda 1 (.t 1)), (some (16, true))⟩, ⟨(some 18), (.load 1 false (.t 17)), (some (16, true))⟩, ⟨(some 19), (.bin .leq (.t 18) (.c (.int .i64 65535))), (some (16, true))⟩, ⟨(some 20), (.pick (.t 16) (.t 19) (.c (.bool false))), none⟩, ⟨(some 21), (.mov (.t 20)), none⟩, ⟨(some 22), (.fda 2 (.t 1)), (some (21, true))⟩, ⟨(some 23), (.load 1 false (.t 22)), (some (21, true))⟩, ⟨(some 24), (.bin .geq (.t 23) (.c (.int .i64 0))), (some (21, true))⟩, ⟨(some 25), (.pick (.t 21) (.t 24) (.c (.bool false))), none⟩, ⟨(some 26), (.mov (.t 25)), none⟩, ⟨(some 27), (.fda 2 (.t 1)), (some (26, true))⟩, ⟨(some 28), (.load 1 false (.t 27)), (some (26, true))⟩, ⟨(some 29), (.bin .lss (.t 28) (.c (.int .i64 6))), (some (26, true))⟩, ⟨(some 30), (.pick (.t 26) (.t 29) (.c (.bool false))), none⟩, ⟨(some 2), (.mov (.t 30)), none⟩]) .ret))
theorem k9_cf : cfunc Tryd.prog Tryd.f9 = some ⟨31, k9, [(.tmp 2)]⟩ := by kernel_rfl
theorem sat_prefectref10_Is (N : Nat) (a0 : api_CSN) (r : Bool) (h : prefectref10_Is N a0 = some r) : Sat Tryd.prog 9 noRows [e_api_CSN a0] (.bool r) noRows := by
  refine xsat mixed Tryd.func9 k9_cf (rs := [.bool r]) rfl rfl ?_
  refine xseq ?_
  refine xreg ?_
  refine woo rfl (obox 14401 rfl rfl rfl rfl rfl) ?_
  refine wpp rfl rfl ?_
  obtain ⟨g1, hg1, h⟩ := bindS h
  refine xseg ⟨ofL [(2, .bool g1)], ofL []⟩ ?_ ?_
  · have h := hg1
    refine xreg ?_
    refine wpp rfl rfl ?_
    refine wpp rfl rfl ?_
    refine wpp rfl rfl ?_
    refine wpp rfl rfl ?_
    rcases bifS h with ⟨c2, h⟩ | ⟨c2, h⟩
    · skip
      refine wpp (gy rfl c2) rfl ?_
      refine wpp (gy rfl c2) rfl ?_
      refine wpp (gy rfl c2) rfl ?_
      refine wpp rfl (p_pick1 c2 rfl rfl) ?_
      refine wpp rfl rfl ?_
      rcases bifS h with ⟨c3, h⟩ | ⟨c3, h⟩
      · skip
        refine wpp (gy rfl c3) rfl ?_
        refine wpp (gy rfl c3) rfl ?_
        refine wpp (gy rfl c3) rfl ?_
        refine wpp rfl (p_pick1 c3 rfl rfl) ?_
        refine wpp rfl rfl ?_
        rcases bifS h with ⟨c4, h⟩ | ⟨c4, h⟩
        · skip
          refine wpp (gy rfl c4) rfl ?_
          refine wpp (gy rfl c4) rfl ?_
          refine wpp (gy rfl c4) rfl ?_
          refine wpp rfl (p_pick1 c4 rfl rfl) ?_
          refine wpp rfl rfl ?_
          rcases bifS h with ⟨c5, h⟩ | ⟨c5, h⟩
          · skip
            refine wpp (gy rfl c5) rfl ?_
            refine wpp (gy rfl c5) rfl ?_
            refine wpp (gy rfl c5) rfl ?_
            refine wpp rfl (p_pick1 c5 rfl rfl) ?_
            refine wpp rfl rfl ?_
            rcases bifS h with ⟨c6, h⟩ | ⟨c6, h⟩
            · skip
              refine wpp (gy rfl c6) rfl ?_
              refine wpp (gy rfl c6) rfl ?_
              refine wpp (gy rfl c6) rfl ?_
              refine wpp rfl (p_pick1 c6 rfl rfl) ?_
              refine wpp rfl rfl ?_
              obtain rfl := someS h
              exact (canon0 ⟨rfl, trivial⟩ trivial rfl rfl)
            · skip
              refine wsk (gn rfl c6) ?_
              refine wsk (gn rfl c6) ?_
              refine wsk (gn rfl c6) ?_
              refine wpp rfl (p_pick0 c6 rfl rfl) ?_
              refine wpp rfl rfl ?_
              obtain rfl := someS h
              exact (canon0 ⟨rfl, trivial⟩ trivial rfl rfl)
          · skip
            refine wsk (gn rfl c5) ?_
            refine wsk (gn rfl c5) ?_
            refine wsk (gn rfl c5) ?_
            refine wpp rfl (p_pick0 c5 rfl rfl) ?_
            refine wpp rfl rfl ?_
            refine wsk rfl ?_
            refine wsk rfl ?_
            refine wsk rfl ?_
            refine wpp rfl rfl ?_
            refine wpp rfl rfl ?_
            obtain rfl := someS h
            exact (canon0 ⟨rfl, trivial⟩ trivial rfl rfl)
        · skip
          refine wsk (gn rfl c4) ?_
          refine wsk (gn rfl c4) ?_
          refine wsk (gn rfl c4) ?_
          refine wpp rfl (p_pick0 c4 rfl rfl) ?_
          refine wpp rfl rfl ?_
          refine wsk rfl ?_
          refine wsk rfl ?_
          refine wsk rfl ?_
          refine wpp rfl rfl ?_
          refine wpp rfl rfl ?_
          refine wsk rfl ?_
          refine wsk rfl ?_
          refine wsk rfl ?_
          refine wpp rfl rfl ?_
          refine wpp rfl rfl ?_
          obtain rfl := someS h
          exact (canon0 ⟨rfl, trivial⟩ trivial rfl rfl)
      · skip
        refine wsk (gn rfl c3) ?_
        refine wsk (gn rfl c3) ?_
        refine wsk (gn rfl c3) ?_
        refine wpp rfl (p_pick0 c3 rfl rfl) ?_
        refine wpp rfl rfl ?_
        refine wsk rfl ?_
        refine wsk rfl ?_
        refine wsk rfl ?_
        refine wpp rfl rfl ?_
        refine wpp rfl rfl ?_
        refine wsk rfl ?_
        refine wsk rfl ?_
        refine wsk rfl ?_
        refine wpp rfl rfl ?_
        refine wpp rfl rfl ?_
        refine wsk rfl ?_
        refine wsk rfl ?_
        refine wsk rfl ?_
        refine wpp rfl rfl ?_
        refine wpp rfl rfl ?_
        obtain rfl := someS h
        exact (canon0 ⟨rfl, trivial⟩ trivial rfl rfl)
    · skip
      refine wsk (gn rfl c2) ?_
      refine wsk (gn rfl c2) ?_
      refine wsk (gn rfl c2) ?_
      refine wpp rfl (p_pick0 c2 rfl rfl) ?_
      refine wpp rfl rfl ?_
      refine wsk rfl ?_
      refine wsk rfl ?_
      refine wsk rfl ?_
      refine wpp rfl rfl ?_
      refine wpp rfl rfl ?_
      refine wsk rfl ?_
      refine wsk rfl ?_
      refine wsk rfl ?_
      refine wpp rfl rfl ?_
      refine wpp rfl rfl ?_
      refine wsk rfl ?_
      refine wsk rfl ?_
      refine wsk rfl ?_
      refine wpp rfl rfl ?_
      refine wpp rfl rfl ?_
      refine wsk rfl ?_
      refine wsk rfl ?_
      refine wsk rfl ?_
      refine wpp rfl rfl ?_
      refine wpp rfl rfl ?_
      obtain rfl := someS h
      exact (canon0 ⟨rfl, trivial⟩ trivial rfl rfl)
  · clear hg1
    obtain rfl := someS h
    refine xret ?_
    exact ⟨nofun, rfl, rfl⟩
end Go.Gp
end
section
set_option linter.unusedVariables false
set_option linter.unusedSimpArgs false
set_option maxRecDepth 4000
namespace Go.Gp
open Go.Vd Go.RowKit Go.Proofs
def k26_l15 : IC := (.block 1 (.seq (.reg [⟨(some 12), (.mov (.t 3)), none⟩, ⟨(some 13), (.bin .rem (.t 12) (.c (.int .u64 10))), none⟩, ⟨(some 14), (.bin .add (.c (.int .u64 48)) (.t 13)), none⟩, ⟨(some 15), (.cvi .u8 (.t 14)), none⟩, ⟨(some 16), (.bsl 1 [(.t 15)]), none⟩, ⟨(some 17), (.cvb (.t 16)), none⟩, ⟨(some 18), (.mov (.t 5)), none⟩, ⟨(some 19), (.bin .add (.t 17) (.t 18)), none⟩, ⟨(some 5), (.mov (.t 19)), none⟩]) (.seq (.reg [⟨(some 20), (.mov (.t 3)), none⟩, ⟨(some 21), (.bin .quo (.t 20) (.c (.int .u64 10))), none⟩, ⟨(some 3), (.mov (.t 21)), none⟩]) (.seq (.reg [⟨(some 22), (.mov (.t 3)), none⟩, ⟨(some 23), (.bin .eql (.t 22) (.c (.int .u64 0))), none⟩]) (.cond (.t 23) (.seq (.reg [⟨(some 24), (.mov (.t 4)), none⟩, ⟨(some 25), (.mov (.t 5)), none⟩, ⟨(some 26), (.bin .add (.t 24) (.t 25)), none⟩, ⟨(some 2), (.mov (.t 26)), none⟩]) .ret) .skip)))))
def k26 : IC := (.seq (.reg [⟨(some 2), (.mov (.c (.str []))), none⟩]) (.seq (.reg [⟨(some 6), (.mov (.t 0)), none⟩, ⟨(some 7), (.cvi .u64 (.t 6)), none⟩, ⟨(some 3), (.mov (.t 7)), none⟩]) (.seq (.reg [⟨(some 4), (.mov (.c (.str []))), none⟩]) (.seq (.seq (.reg [⟨(some 8), (.mov (.t 0)), none⟩, ⟨(some 9), (.bin .lss (.t 8) (.c (.int .i64 0))), none⟩]) (.cond (.t 9) (.reg [⟨(some 10), (.mov (.t 3)), none⟩, ⟨(some 11), (.un .neg (.t 10)), none⟩, ⟨(some 3), (.mov (.t 11)), none⟩, ⟨(some 4), (.mov (.c (.str [45]))), none⟩]) .skip)) (.seq (.reg [⟨(some 5), (.mov (.c (.str []))), none⟩]) (.block 0 (.loop k26_l15)))))))
theorem k26_cf : cfunc Tryd.prog Tryd.f26 = some ⟨27, k26, [(.tmp 2)]⟩ := by kernel_rfl
theorem w_prefectref10_Num_l15 (N : Nat) (v4j6 : List UInt8) : ∀ (n : Nat) (x : Int × List UInt8) (y : List UInt8), prefectref10_Num_l15 N v4j6 n x = some y → WX Tryd.prog (fun _ => false) (.loop k26_l15) ((fun (x : Int × List UInt8) => ⟨ofL [(3, .int .u64 x.1), (4, .str v4j6), (5, .str x.2)], ofL []⟩) x) ((fun y e s => e = .ret ∧ s = ⟨ofL [(2, .str y)], ofL []⟩ : (List UInt8) → Xt → St → Prop) y) := by
  refine xloop (fun (x : Int × List UInt8) => ⟨ofL [(3, .int .u64 x.1), (4, .str v4j6), (5, .str x.2)], ofL []⟩) _ (prefectref10_Num_l15 N v4j6) (prefectref10_Num_l15_b N v4j6) (fun _ => rfl) (fun _ _ => rfl) ?_
  rintro rec ⟨v3l15, v5l15⟩ y h
  refine xblk ?_
  refine xseq ?_
  refine xreg ?_
  refine wpp rfl rfl ?_
  refine wpp rfl (p_rem (b := 10) (u := ()) rfl rfl rfl) ?_
  refine wpp (p := .int .u64 (IntKind.u64.wrap ((48 : Int) + (Int.tmod v3l15 (10 : Int))))) rfl rfl ?_
  refine wpp rfl (p_cvu8 rfl) ?_
  refine woo rfl (obsl 41616 rfl rfl rfl) ?_
  refine wpp rfl (p_cvbr (l := [(byte (IntKind.u64.wrap ((48 : Int) + (Int.tmod v3l15 (10 : Int)))))]) rfl rfl (full_row (f := eb) (l := [(byte (IntKind.u64.wrap ((48 : Int) + (Int.tmod v3l15 (10 : Int)))))]))) ?_
  refine wpp rfl rfl ?_
  obtain ⟨x19, hx19, h⟩ := bindS h
  refine wpp rfl (p_cat hx19 rfl rfl) ?_
  refine wpp rfl rfl ?_
  refine xseq ?_
  refine xreg ?_
  refine wpp rfl rfl ?_
  refine wpp rfl (p_quo (b := 10) (u := ()) rfl rfl rfl) ?_
  refine wpp rfl rfl ?_
  refine xseq ?_
  refine xreg ?_
  refine wpp rfl rfl ?_
  refine wpp rfl rfl ?_
  rcases bifS h with ⟨c1, h⟩ | ⟨c1, h⟩
  · refine xcT rfl c1 ?_
    refine xseq ?_
    refine xreg ?_
    refine wpp rfl rfl ?_
    refine wpp rfl rfl ?_
    obtain ⟨x26, hx26, h⟩ := bindS h
    refine wpp rfl (p_cat hx26 rfl rfl) ?_
    refine wpp rfl rfl ?_
    obtain rfl := someS h
    exact xretn (st1 := ⟨ofL [(2, .str x26)], ofL []⟩) (canon0 ⟨rfl, trivial⟩ trivial rfl rfl) ⟨rfl, rfl⟩
  · refine xcF rfl c1 ?_
    refine xskip ?_
    exact ⟨((IntKind.u64.wrap (Int.tdiv v3l15 (10 : Int))), x19), (canon0 ⟨rfl, rfl, rfl, trivial⟩ trivial rfl rfl), h⟩
theorem sat_prefectref10_Num (N : Nat) (a0 : Int) (r : List UInt8) (h : prefectref10_Num N a0 = some r) : Sat Tryd.prog 26 noRows [.int .i64 a0] (.str r) noRows := by
  refine xsat mixed Tryd.func26 k26_cf (rs := [.str r]) rfl rfl ?_
  refine xseq ?_
  refine xreg ?_
  refine wpp rfl rfl ?_
  refine xseq ?_
  refine xreg ?_
  refine wpp rfl rfl ?_
  refine wpp (p := .int .u64 (IntKind.u64.wrap a0)) rfl rfl ?_
  refine wpp rfl rfl ?_
  refine xseq ?_
  refine xreg ?_
  refine wpp rfl rfl ?_
  refine xjoin (fun (x : Int × List UInt8) => ⟨ofL [(3, .int .u64 x.1), (4, .str x.2)], ofL []⟩) (fun x => prefectref10_Num_j6 N x.1 x.2 = some r) ?_ ?_
  · rintro ⟨v3j6, v4j6⟩ h
    refine xseq ?_
    refine xreg ?_
    refine wpp rfl rfl ?_
    refine xblk ?_
    obtain ⟨y2, hy2, h⟩ := bindS h
    refine xloopU (st1 := ⟨ofL [(3, .int .u64 v3j6), (4, .str v4j6), (5, .str ([] : List UInt8))], ofL []⟩) (canon0 ⟨rfl, rfl, rfl, trivial⟩ trivial rfl rfl) (w_prefectref10_Num_l15 N v4j6 N _ _ hy2) ?_
    rintro e s ⟨rfl, rfl⟩
    obtain rfl := someS h
    exact ⟨nofun, rfl, rfl⟩
  · skip
    refine xseq ?_
    refine xreg ?_
    refine wpp rfl rfl ?_
    refine wpp rfl rfl ?_
    rcases bifS h with ⟨c3, h⟩ | ⟨c3, h⟩
    · refine xcT rfl c3 ?_
      refine xreg ?_
      refine wpp rfl rfl ?_
      refine wpp (p := .int .u64 (IntKind.u64.wrap (0 - (IntKind.u64.wrap a0)))) rfl rfl ?_
      refine wpp rfl rfl ?_
      refine wpp rfl rfl ?_
      exact ⟨((IntKind.u64.wrap (0 - (IntKind.u64.wrap a0))), ([45] : List UInt8)), (canon0 ⟨rfl, rfl, trivial⟩ trivial rfl rfl), h⟩
    · refine xcF rfl c3 ?_
      refine xskip ?_
      exact ⟨((IntKind.u64.wrap a0), ([] : List UInt8)), (canon0 ⟨rfl, rfl, trivial⟩ trivial rfl rfl), h⟩
end Go.Gp
end
section
set_option linter.unusedVariables false
set_option linter.unusedSimpArgs false
set_option maxRecDepth 4000
namespace Go.Gp
open Go.Vd Go.RowKit Go.Proofs
def k10 : IC := (.seq (.reg [⟨(some 1), (.box 23 (.t 0)), none⟩, ⟨(some 2), (.mov (.c (.str []))), none⟩]) (.seq (.regd 14 [⟨(some 3), (.fda 0 (.t 1)), none⟩, ⟨(some 4), (.load 1 false (.t 3)), none⟩, ⟨(some 5), (.call 26 [(.t 4)]), none⟩, ⟨(some 6), (.bin .add (.t 5) (.c (.str [46]))), none⟩, ⟨(some 7), (.fda 1 (.t 1)), none⟩, ⟨(some 8), (.load 1 false (.t 7)), none⟩, ⟨(some 9), (.call 26 [(.t 8)]), none⟩, ⟨(some 10), (.bin .add (.t 6) (.t 9)), none⟩, ⟨(some 11), (.bin .add (.t 10) (.c (.str [46]))), none⟩, ⟨(some 12), (.fda 2 (.t 1)), none⟩, ⟨(some 13), (.load 1 false (.t 12)), none⟩, ⟨(some 14), (.call 26 [(.t 13)]), none⟩, ⟨(some 15), (.bin .add (.t 11) (.t 14)), none⟩, ⟨(some 2), (.mov (.t 15)), none⟩]) .ret))
theorem k10_cf : cfunc Tryd.prog Tryd.f10 = some ⟨16, k10, [(.tmp 2)]⟩ := by kernel_rfl
theorem sat_prefectref10_Text (N : Nat) (a0 : api_CSN) (r : List UInt8) (h : prefectref10_Text N a0 = some r) : Sat Tryd.prog 10 noRows [e_api_CSN a0] (.str r) noRows := by
  refine xsat mixed Tryd.func10 k10_cf (rs := [.str r]) rfl rfl ?_
  refine xseq ?_
  refine xreg ?_
  refine woo rfl (obox 16001 rfl rfl rfl rfl rfl) ?_
  refine wpp rfl rfl ?_
  refine xseq ?_
  refine xregd ?_
  refine wdp rfl rfl ?_
  refine wdp rfl rfl ?_
  obtain ⟨x5, hx5, h⟩ := bindS h
  refine wdN rfl (pcal (sat_prefectref10_Num N _ _ hx5) rfl (.cons sub_rfl .nil) rfl rfl rfl) no_fresh ?_
  obtain ⟨x6, hx6, h⟩ := bindS h
  refine wdp rfl (p_cat hx6 rfl rfl) ?_
  refine wdp rfl rfl ?_
  refine wdp rfl rfl ?_
  obtain ⟨x9, hx9, h⟩ := bindS h
  refine wdN rfl (pcal (sat_prefectref10_Num N _ _ hx9) rfl (.cons sub_rfl .nil) rfl rfl rfl) no_fresh ?_
  obtain ⟨x10, hx10, h⟩ := bindS h
  refine wdp rfl (p_cat hx10 rfl rfl) ?_
  obtain ⟨x11, hx11, h⟩ := bindS h
  refine wdp rfl (p_cat hx11 rfl rfl) ?_
  refine wdp rfl rfl ?_
  refine wdp rfl rfl ?_
  obtain ⟨x14, hx14, h⟩ := bindS h
  refine wdN rfl (pcal (sat_prefectref10_Num N _ _ hx14) rfl (.cons sub_rfl .nil) rfl rfl rfl) no_fresh ?_
  obtain ⟨x15, hx15, h⟩ := bindS h
  refine wdp rfl (p_cat hx15 rfl rfl) ?_
  refine wdp rfl rfl ?_
  obtain rfl := someS h
  refine xret ?_
  exact ⟨nofun, rfl, rfl⟩
end Go.Gp
end
section
set_option linter.unusedVariables false
set_option linter.unusedSimpArgs false
set_option maxRecDepth 4000
namespace Go.Gp
open Go.Vd Go.RowKit Go.Proofs
def k13 : IC := (.seq (.reg [⟨(some 1), (.box 23 (.t 0)), none⟩, ⟨(some 2), (.mov (.c (.bool false))), none⟩]) (.seq (.reg [⟨(some 3), (.load 3 true (.t 1)), none⟩, ⟨(some 4), (.build [(.int .i64 0), (.int .i64 0), (.int .i64 0)] []), none⟩, ⟨(some 5), (.eqs false [(.i .i64), (.i .i64), (.i .i64)] (.t 3) (.t 4)), none⟩, ⟨(some 2), (.mov (.t 5)), none⟩]) .ret))
theorem k13_cf : cfunc Tryd.prog Tryd.f13 = some ⟨6, k13, [(.tmp 2)]⟩ := by kernel_rfl
theorem sat_prefectref10_Zero (N : Nat) (a0 : api_CSN) (r : Bool) (h : prefectref10_Zero N a0 = some r) : Sat Tryd.prog 13 noRows [e_api_CSN a0] (.bool r) noRows := by
  refine xsat mixed Tryd.func13 k13_cf (rs := [.bool r]) rfl rfl ?_
  refine xseq ?_
  refine xreg ?_
  refine woo rfl (obox 20801 rfl rfl rfl rfl rfl) ?_
  refine wpp rfl rfl ?_
  refine xseq ?_
  refine xreg ?_
  refine wpp (p := e_api_CSN a0) rfl rfl ?_
  refine wpp (p := .agg [.int .i64 0, .int .i64 0, .int .i64 0]) rfl rfl ?_
  refine wpp (p := .bool (a0.Time == (0 : Int) && (a0.Seq == (0 : Int) && (a0.Rep == (0 : Int) && true)))) rfl rfl ?_
  refine wpp rfl rfl ?_
  obtain rfl := someS h
  refine xret ?_
  exact ⟨nofun, rfl, rfl⟩
end Go.Gp
end
section
set_option linter.unusedVariables false
set_option linter.unusedSimpArgs false
set_option maxRecDepth 4000
namespace Go.Gp
open Go.Vd Go.RowKit Go.Proofs
def k15 : IC := (.seq (.reg [⟨(some 2), (.box 23 (.t 0)), none⟩, ⟨(some 3), (.box 23 (.t 1)), none⟩, ⟨(some 4), (.mov (.c (.int .i64 0))), none⟩]) (.seq (.block 0 (.seq (.reg [⟨(some 6), (.fda 0 (.t 2)), none⟩, ⟨(some 7), (.load 1 false (.t 6)), none⟩, ⟨(some 8), (.fda 0 (.t 3)), none⟩, ⟨(some 9), (.load 1 false (.t 8)), none⟩, ⟨(some 10), (.bin .lss (.t 7) (.t 9)), none⟩, ⟨(some 11), (.mov (.t 10)), none⟩, ⟨(some 12), (.fda 0 (.t 2)), (some (11, false))⟩, ⟨(some 13), (.load 1 false (.t 12)), (some (11, false))⟩, ⟨(some 14), (.fda 0 (.t 3)), (some (11, false))⟩, ⟨(some 15), (.load 1 false (.t 14)), (some (11, false))⟩, ⟨(some 16), (.bin .eql (.t 13) (.t 15)), (some (11, false))⟩, ⟨(some 17), (.mov (.t 16)), (some (11, false))⟩, ⟨(some 18), (.fda 1 (.t 2)), (some (17, true))⟩, ⟨(some 19), (.load 1 false (.t 18)), (some (17, true))⟩, ⟨(some 20), (.fda 1 (.t 3)), (some (17, true))⟩, ⟨(some 21), (.load 1 false (.t 20)), (some (17, true))⟩, ⟨(some 22), (.bin .lss (.t 19) (.t 21)), (some (17, true))⟩, ⟨(some 23), (.mov (.t 22)), (some (17, true))⟩, ⟨(some 24), (.fda 1 (.t 2)), (some (23, false))⟩, ⟨(some 25), (.load 1 false (.t 24)), (some (23, false))⟩, ⟨(some 26), (.fda 1 (.t 3)), (some (23, false))⟩, ⟨(some 27), (.load 1 false (.t 26)), (some (23, false))⟩, ⟨(some 28), (.bin .eql (.t 25) (.t 27)), (some (23, false))⟩, ⟨(some 29), (.mov (.t 28)), (some (23, false))⟩, ⟨(some 30), (.fda 2 (.t 2)), (some (29, true))⟩, ⟨(some 31), (.load 1 false (.t 30)), (some (29, true))⟩, ⟨(some 32), (.fda 2 (.t 3)), (some (29, true))⟩, ⟨(some 33), (.load 1 false (.t 32)), (some (29, true))⟩, ⟨(some 34), (.bin .lss (.t 31) (.t 33)), (some (29, true))⟩, ⟨(some 35), (.pick (.t 29) (.t 34) (.c (.bool false))), (some (23, false))⟩, ⟨(some 36), (.pick (.t 23) (.c (.bool true)) (.t 35)), (some (17, true))⟩, ⟨(some 37), (.pick (.t 17) (.t 36) (.c (.bool false))), (some (11, false))⟩, ⟨(some 38), (.pick (.t 11) (.c (.bool true)) (.t 37)), none⟩, ⟨(some 5), (.mov (.t 38)), none⟩]) (.cond (.t 5) (.seq (.reg [⟨(some 4), (.mov (.c (.int .i64 (-1)))), none⟩]) .ret) (.seq (.reg [⟨(some 40), (.load 3 true (.t 2)), none⟩, ⟨(some 41), (.load 3 true (.t 3)), none⟩, ⟨(some 42), (.eqs false [(.i .i64), (.i .i64), (.i .i64)] (.t 40) (.t 41)), none⟩, ⟨(some 39), (.mov (.t 42)), none⟩]) (.cond (.t 39) (.seq (.reg [⟨(some 4), (.mov (.c (.int .i64 0))), none⟩]) .ret) .skip))))) (.seq (.reg [⟨(some 4), (.mov (.c (.int .i64 1))), none⟩]) .ret)))
theorem k15_cf : cfunc Tryd.prog Tryd.f15 = some ⟨43, k15, [(.tmp 4)]⟩ := by kernel_rfl
theorem sat_prefectref10_Cmp (N : Nat) (a0 : api_CSN) (a1 : api_CSN) (r : Int) (h : prefectref10_Cmp N a0 a1 = some r) : Sat Tryd.prog 15 noRows [e_api_CSN a0, e_api_CSN a1] (.int .i64 r) noRows := by
  refine xsat mixed Tryd.func15 k15_cf (rs := [.int .i64 r]) rfl rfl ?_
  refine xseq ?_
  refine xreg ?_
  refine woo rfl (obox 24002 rfl rfl rfl rfl rfl) ?_
  refine woo rfl (obox 24003 rfl rfl rfl rfl rfl) ?_
  refine wpp rfl rfl ?_
  refine xseq ?_
  refine xblk ?_
  obtain ⟨g1, hg1, h⟩ := bindS h
  refine xseg ⟨ofL [(2, .ptr 24002 0 0), (3, .ptr 24003 0 0), (5, .bool g1)], ofL [(24002, ⟨3, false, [e_api_CSN a0]⟩), (24003, ⟨3, false, [e_api_CSN a1]⟩)]⟩ ?_ ?_
  · have h := hg1
    refine xreg ?_
    refine wpp rfl rfl ?_
    refine wpp rfl rfl ?_
    refine wpp rfl rfl ?_
    refine wpp rfl rfl ?_
    refine wpp rfl rfl ?_
    refine wpp rfl rfl ?_
    rcases bifS h with ⟨c2, h⟩ | ⟨c2, h⟩
    · skip
      refine wsk (gn rfl c2) ?_
      refine wsk (gn rfl c2) ?_
      refine wsk (gn rfl c2) ?_
      refine wsk (gn rfl c2) ?_
      refine wsk (gn rfl c2) ?_
      refine wsk (gn rfl c2) ?_
      refine wsk (gu rfl) ?_
      refine wsk (gu rfl) ?_
      refine wsk (gu rfl) ?_
      refine wsk (gu rfl) ?_
      refine wsk (gu rfl) ?_
      refine wsk (gu rfl) ?_
      refine wsk (gu rfl) ?_
      refine wsk (gu rfl) ?_
      refine wsk (gu rfl) ?_
      refine wsk (gu rfl) ?_
      refine wsk (gu rfl) ?_
      refine wsk (gu rfl) ?_
      refine wsk (gu rfl) ?_
      refine wsk (gu rfl) ?_
      refine wsk (gu rfl) ?_
      refine wsk (gu rfl) ?_
      refine wsk (gu rfl) ?_
      refine wsk (gu rfl) ?_
      refine wsk (gu rfl) ?_
      refine wsk (gn rfl c2) ?_
      refine wpp rfl (p_pick1 c2 rfl rfl) ?_
      refine wpp rfl rfl ?_
      obtain rfl := someS h
      exact (canon0 ⟨rfl, rfl, rfl, trivial⟩ ⟨rfl, rfl, trivial⟩ rfl rfl)
    · skip
      refine wpp (gy rfl c2) rfl ?_
      refine wpp (gy rfl c2) rfl ?_
      refine wpp (gy rfl c2) rfl ?_
      refine wpp (gy rfl c2) rfl ?_
      refine wpp (gy rfl c2) rfl ?_
      refine wpp (gy rfl c2) rfl ?_
      rcases bifS h with ⟨c3, h⟩ | ⟨c3, h⟩
      · skip
        refine wpp (gy rfl c3) rfl ?_
        refine wpp (gy rfl c3) rfl ?_
        refine wpp (gy rfl c3) rfl ?_
        refine wpp (gy rfl c3) rfl ?_
        refine wpp (gy rfl c3) rfl ?_
        refine wpp (gy rfl c3) rfl ?_
        rcases bifS h with ⟨c4, h⟩ | ⟨c4, h⟩
        · skip
          refine wsk (gn rfl c4) ?_
          refine wsk (gn rfl c4) ?_
          refine wsk (gn rfl c4) ?_
          refine wsk (gn rfl c4) ?_
          refine wsk (gn rfl c4) ?_
          refine wsk (gn rfl c4) ?_
          refine wsk (gu rfl) ?_
          refine wsk (gu rfl) ?_
          refine wsk (gu rfl) ?_
          refine wsk (gu rfl) ?_
          refine wsk (gu rfl) ?_
          refine wsk (gn rfl c4) ?_
          refine wpp (gy rfl c3) (p_pick1 c4 rfl rfl) ?_
          refine wpp (gy rfl c2) (p_pick1 c3 rfl rfl) ?_
          refine wpp rfl (p_pick0 c2 rfl rfl) ?_
          refine wpp rfl rfl ?_
          obtain rfl := someS h
          exact (canon0 ⟨rfl, rfl, rfl, trivial⟩ ⟨rfl, rfl, trivial⟩ rfl rfl)
        · skip
          refine wpp (gy rfl c4) rfl ?_
          refine wpp (gy rfl c4) rfl ?_
          refine wpp (gy rfl c4) rfl ?_
          refine wpp (gy rfl c4) rfl ?_
          refine wpp (gy rfl c4) rfl ?_
          refine wpp (gy rfl c4) rfl ?_
          rcases bifS h with ⟨c5, h⟩ | ⟨c5, h⟩
          · skip
            refine wpp (gy rfl c5) rfl ?_
            refine wpp (gy rfl c5) rfl ?_
            refine wpp (gy rfl c5) rfl ?_
            refine wpp (gy rfl c5) rfl ?_
            refine wpp (gy rfl c5) rfl ?_
            refine wpp (gy rfl c4) (p_pick1 c5 rfl rfl) ?_
            refine wpp (gy rfl c3) (p_pick0 c4 rfl rfl) ?_
            refine wpp (gy rfl c2) (p_pick1 c3 rfl rfl) ?_
            refine wpp rfl (p_pick0 c2 rfl rfl) ?_
            refine wpp rfl rfl ?_
            obtain rfl := someS h
            exact (canon0 ⟨rfl, rfl, rfl, trivial⟩ ⟨rfl, rfl, trivial⟩ rfl rfl)
          · skip
            refine wsk (gn rfl c5) ?_
            refine wsk (gn rfl c5) ?_
            refine wsk (gn rfl c5) ?_
            refine wsk (gn rfl c5) ?_
            refine wsk (gn rfl c5) ?_
            refine wpp (gy rfl c4) (p_pick0 c5 rfl rfl) ?_
            refine wpp (gy rfl c3) (p_pick0 c4 rfl rfl) ?_
            refine wpp (gy rfl c2) (p_pick1 c3 rfl rfl) ?_
            refine wpp rfl (p_pick0 c2 rfl rfl) ?_
            refine wpp rfl rfl ?_
            obtain rfl := someS h
            exact (canon0 ⟨rfl, rfl, rfl, trivial⟩ ⟨rfl, rfl, trivial⟩ rfl rfl)
      · skip
        refine wsk (gn rfl c3) ?_
        refine wsk (gn rfl c3) ?_
        refine wsk (gn rfl c3) ?_
        refine wsk (gn rfl c3) ?_
        refine wsk (gn rfl c3) ?_
        refine wsk (gn rfl c3) ?_
        refine wsk (gu rfl) ?_
        refine wsk (gu rfl) ?_
        refine wsk (gu rfl) ?_
        refine wsk (gu rfl) ?_
        refine wsk (gu rfl) ?_
        refine wsk (gu rfl) ?_
        refine wsk (gu rfl) ?_
        refine wsk (gu rfl) ?_
        refine wsk (gu rfl) ?_
        refine wsk (gu rfl) ?_
        refine wsk (gu rfl) ?_
        refine wsk (gu rfl) ?_
        refine wsk (gn rfl c3) ?_
        refine wpp (gy rfl c2) (p_pick0 c3 rfl rfl) ?_
        refine wpp rfl (p_pick0 c2 rfl rfl) ?_
        refine wpp rfl rfl ?_
        obtain rfl := someS h
        exact (canon0 ⟨rfl, rfl, rfl, trivial⟩ ⟨rfl, rfl, trivial⟩ rfl rfl)
  · clear hg1
    rcases bifS h with ⟨c6, h⟩ | ⟨c6, h⟩
    · refine xcT rfl c6 ?_
      refine xseq ?_
      refine xreg ?_
      refine wpp rfl rfl ?_
      obtain rfl := someS h
      refine xret ?_
      exact ⟨nofun, rfl, rfl⟩
    · refine xcF rfl c6 ?_
      refine xseq ?_
      refine xreg ?_
      refine wpp (p := e_api_CSN a0) rfl rfl ?_
      refine wpp (p := e_api_CSN a1) rfl rfl ?_
      refine wpp (p := .bool (a0.Time == a1.Time && (a0.Seq == a1.Seq && (a0.Rep == a1.Rep && true)))) rfl rfl ?_
      refine wpp rfl rfl ?_
      rcases bifS h with ⟨c7, h⟩ | ⟨c7, h⟩
      · refine xcT rfl c7 ?_
        refine xseq ?_
        refine xreg ?_
        refine wpp rfl rfl ?_
        obtain rfl := someS h
        refine xret ?_
        exact ⟨nofun, rfl, rfl⟩
      · refine xcF rfl c7 ?_
        refine xskip ?_
        refine xseq ?_
        refine xreg ?_
        refine wpp rfl rfl ?_
        obtain rfl := someS h
        refine xret ?_
        exact ⟨nofun, rfl, rfl⟩
end Go.Gp
end
