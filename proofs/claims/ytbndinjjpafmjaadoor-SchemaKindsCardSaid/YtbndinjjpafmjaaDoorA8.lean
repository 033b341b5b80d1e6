/- A part of the proof: functions of the program and what they compute. -/
import Derived.Test.YtbndinjjpafmjaaDoorA6
import Derived.Test.YtbndinjjpafmjaaDoorA7
section
set_option linter.unusedVariables false
set_option maxRecDepth 100000
namespace Go.Gp
open Go.Vd Go.RowKit Go.Proofs
theorem okTypes : okT Tryd.prog 6 [] = true := by kernel_rfl
theorem op9 {p : PV} (h : Shp Tryd.prog 6 9 p) : ∃ a : List UInt8, p = PV.str a ∧ a.length ≤ maxLen := h.str_inv Tryd.underlying9
theorem op5 {p : PV} (h : Shp Tryd.prog 6 5 p) : ∃ a : UInt8, p = eb a ∧ True := h.u8_inv Tryd.underlying5
theorem op32 {p : PV} (h : Shp Tryd.prog 6 32 p) : ∃ a : Int, p = (PV.int .u16) a ∧ (IntKind.u16.min ≤ a ∧ a ≤ IntKind.u16.max) := h.int_inv Tryd.underlying32
end Go.Gp
end
section
set_option linter.unusedVariables false
set_option linter.unusedSimpArgs false
set_option maxRecDepth 4000
namespace Go.Gp
open Go.Vd Go.RowKit Go.Proofs
def k28_l8 : IC := (.seq (.reg [⟨(some 11), (.bin .lss (.t 10) (.t 9)), none⟩]) (.seq (.cond (.t 11) .skip (.exit 0)) (.seq (.block 1 (.seq (.reg [⟨(some 12), (.mov (.t 10)), none⟩, ⟨(some 13), (.ixp 1 (.t 8) (.t 10)), none⟩, ⟨(some 14), (.load 1 false (.t 13)), none⟩, ⟨(some 4), (.mov (.t 12)), none⟩, ⟨(some 5), (.mov (.t 14)), none⟩]) (.seq (.reg [⟨(some 15), (.mov (.t 5)), none⟩, ⟨(some 16), (.bin .geq (.t 15) (.c (.int .u8 65))), none⟩, ⟨(some 17), (.mov (.t 16)), none⟩, ⟨(some 18), (.mov (.t 5)), (some (17, true))⟩, ⟨(some 19), (.bin .leq (.t 18) (.c (.int .u8 90))), (some (17, true))⟩, ⟨(some 20), (.pick (.t 17) (.t 19) (.c (.bool false))), none⟩]) (.cond (.t 20) (.reg [⟨(some 21), (.mov (.t 3)), none⟩, ⟨(some 22), (.mov (.t 4)), none⟩, ⟨(some 23), (.mov (.t 5)), none⟩, ⟨(some 24), (.bin .add (.t 23) (.c (.int .u8 32))), none⟩, ⟨(some 25), (.ixp 1 (.t 21) (.t 22)), none⟩, ⟨none, (.store 1 (.t 25) (.t 24)), none⟩]) .skip)))) (.reg [⟨(some 26), (.bin .add (.t 10) (.c (.int .i64 1))), none⟩, ⟨(some 10), (.mov (.t 26)), none⟩]))))
def k28 : IC := (.seq (.reg [⟨(some 2), (.mov (.c (.str []))), none⟩]) (.seq (.reg [⟨(some 6), (.mov (.t 0)), none⟩, ⟨(some 7), (.cvs (.t 6)), none⟩, ⟨(some 3), (.mov (.t 7)), none⟩]) (.seq (.seq (.reg [⟨(some 8), (.mov (.t 3)), none⟩, ⟨(some 9), (.len false (.t 8)), none⟩, ⟨(some 10), (.mov (.c (.int .i64 0))), none⟩]) (.block 0 (.loop k28_l8))) (.seq (.reg [⟨(some 27), (.mov (.t 3)), none⟩, ⟨(some 28), (.cvb (.t 27)), none⟩, ⟨(some 2), (.mov (.t 28)), none⟩]) .ret))))
theorem k28_cf : cfunc Tryd.prog Tryd.f28 = some ⟨29, k28, [(.tmp 2)]⟩ := by kernel_rfl
theorem w_dn_Lower_l8 (N : Nat) (a0 : List UInt8) : ∀ (n : Nat) (x : Int × List UInt8) (y : List UInt8), dn_Lower_l8 N a0 n x = some y → WX Tryd.prog (fun _ => false) (.loop k28_l8) ((fun (x : Int × List UInt8) => ⟨ofL [(3, .slr 7 0 x.2.length), (8, .slr 7 0 x.2.length), (9, .int .i64 (a0.length : Int)), (10, .int .i64 x.1)], ofL [(7, ⟨1, true, List.map eb x.2⟩)]⟩) x) ((fun y e s => e = .exit 0 ∧ s = ⟨ofL [(3, .slr 7 0 y.length)], ofL [(7, ⟨1, true, List.map eb y⟩)]⟩ : (List UInt8) → Xt → St → Prop) y) := by
  refine xloop (fun (x : Int × List UInt8) => ⟨ofL [(3, .slr 7 0 x.2.length), (8, .slr 7 0 x.2.length), (9, .int .i64 (a0.length : Int)), (10, .int .i64 x.1)], ofL [(7, ⟨1, true, List.map eb x.2⟩)]⟩) _ (dn_Lower_l8 N a0) (dn_Lower_l8_b N a0) (fun _ => rfl) (fun _ _ => rfl) ?_
  rintro rec ⟨v10l8, r7l8⟩ y h
  refine xseq ?_
  refine xreg ?_
  refine wpp rfl rfl ?_
  refine xseq ?_
  rcases bifS h with ⟨c1, h⟩ | ⟨c1, h⟩
  · refine xcT rfl c1 ?_
    refine xskip ?_
    refine xjoin (fun (x : List UInt8) => ⟨ofL [(3, .slr 7 0 x.length), (8, .slr 7 0 x.length), (9, .int .i64 (a0.length : Int)), (10, .int .i64 v10l8)], ofL [(7, ⟨1, true, List.map eb x⟩)]⟩) (fun x => dn_Lower_j15 v10l8 rec x = some y) ?_ ?_
    · rintro r7j15 h
      refine xreg ?_
      refine wpp (p := .int .i64 (w64 (v10l8 + (1 : Int)))) rfl rfl ?_
      refine wpp rfl rfl ?_
      exact ⟨((w64 (v10l8 + (1 : Int))), r7j15), (canon0 ⟨rfl, rfl, rfl, rfl, trivial⟩ ⟨rfl, trivial⟩ rfl rfl), h⟩
    · skip
      refine xblk ?_
      refine xseq ?_
      refine xreg ?_
      refine wpp rfl rfl ?_
      obtain ⟨x13, hx13, h⟩ := bindS h
      refine wpp rfl (p_ixr hx13 rfl rfl rfl rfl) ?_
      obtain ⟨x14, hx14, h⟩ := bindS h
      refine wpp rfl (p_ldr (f := eb) (v := eb x14) hx14 rfl rfl rfl) ?_
      refine wpp rfl rfl ?_
      refine wpp rfl rfl ?_
      obtain ⟨g2, hg2, h⟩ := bindS h
      refine xseg ⟨ofL [(3, .slr 7 0 r7l8.length), (4, .int .i64 v10l8), (5, eb x14), (8, .slr 7 0 r7l8.length), (9, .int .i64 (a0.length : Int)), (10, .int .i64 v10l8), (20, .bool g2)], ofL [(7, ⟨1, true, List.map eb r7l8⟩)]⟩ ?_ ?_
      · have h := hg2
        refine xreg ?_
        refine wpp rfl rfl ?_
        refine wpp (p := .bool (decide (((x14).toNat : Int) ≥ (65 : Int)))) rfl rfl ?_
        refine wpp rfl rfl ?_
        rcases bifS h with ⟨c3, h⟩ | ⟨c3, h⟩
        · skip
          refine wpp (gy rfl c3) rfl ?_
          refine wpp (p := .bool (decide (((x14).toNat : Int) ≤ (90 : Int)))) (gy rfl c3) rfl ?_
          refine wpp rfl (p_pick1 c3 rfl rfl) ?_
          obtain rfl := someS h
          exact (canon0 ⟨rfl, rfl, rfl, rfl, rfl, rfl, rfl, trivial⟩ ⟨rfl, trivial⟩ rfl rfl)
        · skip
          refine wsk (gn rfl c3) ?_
          refine wsk (gn rfl c3) ?_
          refine wpp rfl (p_pick0 c3 rfl rfl) ?_
          obtain rfl := someS h
          exact (canon0 ⟨rfl, rfl, rfl, rfl, rfl, rfl, rfl, trivial⟩ ⟨rfl, trivial⟩ rfl rfl)
      · clear hg2
        rcases bifS h with ⟨c4, h⟩ | ⟨c4, h⟩
        · refine xcT rfl c4 ?_
          refine xreg ?_
          refine wpp rfl rfl ?_
          refine wpp rfl rfl ?_
          refine wpp rfl rfl ?_
          refine wpp rfl (p_u8add (a := x14) (b := (32 : UInt8)) rfl rfl) ?_
          obtain ⟨x25, hx25, h⟩ := bindS h
          refine wpp rfl (p_ixr hx25 rfl rfl rfl rfl) ?_
          obtain ⟨x9004, hx9004, h⟩ := bindS h
          refine wsto (f := eb) (e' := (x14 + (32 : UInt8))) hx9004 rfl rfl rfl rfl rfl rfl rfl rfl (fun _ => rfl) rfl ?_
          exact ⟨(r7l8.set x25 (x14 + (32 : UInt8))), (Norm.trans (nsub 3 (sub_eq (congrArg (PV.slr 7 0) (by simp only [List.length_set, List.length_replicate] : r7l8.length = (r7l8.set x25 (x14 + (32 : UInt8))).length))) rfl) (Norm.trans (nsub 8 (sub_eq (congrArg (PV.slr 7 0) (by simp only [List.length_set, List.length_replicate] : r7l8.length = (r7l8.set x25 (x14 + (32 : UInt8))).length))) rfl) (canon0 ⟨rfl, rfl, rfl, rfl, trivial⟩ ⟨rfl, trivial⟩ rfl rfl))), h⟩
        · refine xcF rfl c4 ?_
          refine xskip ?_
          exact ⟨r7l8, (canon0 ⟨rfl, rfl, rfl, rfl, trivial⟩ ⟨rfl, trivial⟩ rfl rfl), h⟩
  · refine xcF rfl c1 ?_
    obtain rfl := someS h
    exact xexitn (st1 := ⟨ofL [(3, .slr 7 0 r7l8.length)], ofL [(7, ⟨1, true, List.map eb r7l8⟩)]⟩) (canon0 ⟨rfl, trivial⟩ ⟨rfl, trivial⟩ rfl rfl) ⟨rfl, rfl⟩
theorem sat_dn_Lower (N : Nat) (a0 : List UInt8) (r : List UInt8) (h : dn_Lower N a0 = some r) : Sat Tryd.prog 28 noRows [.str a0] (.str r) noRows := by
  refine xsat mixed Tryd.func28 k28_cf (rs := [.str r]) rfl rfl ?_
  refine xseq ?_
  refine xreg ?_
  refine wpp rfl rfl ?_
  refine xseq ?_
  refine xreg ?_
  refine wpp rfl rfl ?_
  refine woo rfl (ocvs 7 rfl rfl) ?_
  refine wpp rfl rfl ?_
  refine xseq ?_
  refine xseq ?_
  refine xreg ?_
  refine wpp rfl rfl ?_
  refine wpp rfl rfl ?_
  refine wpp rfl rfl ?_
  refine xblk ?_
  obtain ⟨y6, hy6, h⟩ := bindS h
  refine xloopU (st1 := ⟨ofL [(3, .slr 7 0 a0.length), (8, .slr 7 0 a0.length), (9, .int .i64 (a0.length : Int)), (10, .int .i64 0)], ofL [(7, ⟨1, true, List.map eb a0⟩)]⟩) (canon0 ⟨rfl, rfl, rfl, rfl, trivial⟩ ⟨rfl, trivial⟩ rfl rfl) (w_dn_Lower_l8 N a0 N _ _ hy6) ?_
  rintro e s ⟨rfl, rfl⟩
  refine xseq ?_
  refine xreg ?_
  refine wpp rfl rfl ?_
  refine wpp rfl (p_cvbr (l := y6) rfl rfl (full_row (f := eb) (l := y6))) ?_
  refine wpp rfl rfl ?_
  obtain rfl := someS h
  refine xret ?_
  exact ⟨nofun, rfl, rfl⟩
end Go.Gp
end
section
set_option linter.unusedVariables false
set_option linter.unusedSimpArgs false
set_option maxRecDepth 4000
namespace Go.Gp
open Go.Vd Go.RowKit Go.Proofs
def k16 : IC := (.seq (.reg [⟨(some 0), (.mov (.c .nl)), none⟩]) (.seq (.reg [⟨(some 1), (.build [(.str []), (.int .i64 0), (.bool false)] [(0, (1, (.c (.str [97, 99, 105])))), (1, (1, (.c (.int .i64 2))))]), none⟩, ⟨(some 2), (.build [(.str []), (.int .i64 0), (.bool false)] [(0, (1, (.c (.str [99])))), (1, (1, (.c (.int .i64 1)))), (2, (1, (.c (.bool true))))]), none⟩, ⟨(some 3), (.build [(.str []), (.int .i64 0), (.bool false)] [(0, (1, (.c (.str [99, 110])))), (1, (1, (.c (.int .i64 1))))]), none⟩, ⟨(some 4), (.build [(.str []), (.int .i64 0), (.bool false)] [(0, (1, (.c (.str [100, 99])))), (1, (1, (.c (.int .i64 1))))]), none⟩, ⟨(some 5), (.build [(.str []), (.int .i64 0), (.bool false)] [(0, (1, (.c (.str [100, 101, 115, 99, 114, 105, 112, 116, 105, 111, 110])))), (1, (1, (.c (.int .i64 1))))]), none⟩, ⟨(some 6), (.build [(.str []), (.int .i64 0), (.bool false)] [(0, (1, (.c (.str [101, 110, 116, 114, 121, 105, 100])))), (1, (1, (.c (.int .i64 2)))), (2, (1, (.c (.bool true))))]), none⟩, ⟨(some 7), (.build [(.str []), (.int .i64 0), (.bool false)] [(0, (1, (.c (.str [109, 97, 105, 108])))), (1, (1, (.c (.int .i64 2))))]), none⟩, ⟨(some 8), (.build [(.str []), (.int .i64 0), (.bool false)] [(0, (1, (.c (.str [109, 101, 109, 98, 101, 114])))), (1, (1, (.c (.int .i64 5))))]), none⟩, ⟨(some 9), (.build [(.str []), (.int .i64 0), (.bool false)] [(0, (1, (.c (.str [111])))), (1, (1, (.c (.int .i64 1))))]), none⟩, ⟨(some 10), (.build [(.str []), (.int .i64 0), (.bool false)] [(0, (1, (.c (.str [111, 117])))), (1, (1, (.c (.int .i64 1))))]), none⟩, ⟨(some 11), (.build [(.str []), (.int .i64 0), (.bool false)] [(0, (1, (.c (.str [115, 110])))), (1, (1, (.c (.int .i64 1))))]), none⟩, ⟨(some 12), (.build [(.str []), (.int .i64 0), (.bool false)] [(0, (1, (.c (.str [116, 105, 116, 108, 101])))), (1, (1, (.c (.int .i64 1)))), (2, (1, (.c (.bool true))))]), none⟩, ⟨(some 13), (.build [(.str []), (.int .i64 0), (.bool false)] [(0, (1, (.c (.str [117, 105, 100])))), (1, (1, (.c (.int .i64 1))))]), none⟩, ⟨(some 14), (.build [(.str []), (.int .i64 0), (.bool false)] [(0, (1, (.c (.str [117, 105, 100, 110, 117, 109, 98, 101, 114])))), (1, (1, (.c (.int .i64 3)))), (2, (1, (.c (.bool true))))]), none⟩, ⟨(some 15), (.build [(.str []), (.int .i64 0), (.bool false)] [(0, (1, (.c (.str [117, 115, 101, 114, 112, 97, 115, 115, 119, 111, 114, 100])))), (1, (1, (.c (.int .i64 4))))]), none⟩, ⟨(some 16), (.bsl 3 [(.t 1), (.t 2), (.t 3), (.t 4), (.t 5), (.t 6), (.t 7), (.t 8), (.t 9), (.t 10), (.t 11), (.t 12), (.t 13), (.t 14), (.t 15)]), none⟩, ⟨(some 0), (.mov (.t 16)), none⟩]) .ret))
theorem k16_cf : cfunc Tryd.prog Tryd.f16 = some ⟨17, k16, [(.tmp 0)]⟩ := by kernel_rfl
theorem sat_schema_All (N : Nat)  (r : List api_Type) (h : schema_All N  = some r) : Sat Tryd.prog 16 noRows [] (.sl 3 (List.map e_api_Type r)) noRows := by
  refine xsat mixed Tryd.func16 k16_cf (rs := [.sl 3 (List.map e_api_Type r)]) rfl rfl ?_
  refine xseq ?_
  refine xreg ?_
  refine wpp rfl rfl ?_
  refine xseq ?_
  refine xreg ?_
  refine wpp (p := .agg [.str ([97, 99, 105] : List UInt8), .int .i64 2, .bool false]) rfl rfl ?_
  refine wpp (p := .agg [.str ([99] : List UInt8), .int .i64 1, .bool true]) rfl rfl ?_
  refine wpp (p := .agg [.str ([99, 110] : List UInt8), .int .i64 1, .bool false]) rfl rfl ?_
  refine wpp (p := .agg [.str ([100, 99] : List UInt8), .int .i64 1, .bool false]) rfl rfl ?_
  refine wpp (p := .agg [.str ([100, 101, 115, 99, 114, 105, 112, 116, 105, 111, 110] : List UInt8), .int .i64 1, .bool false]) rfl rfl ?_
  refine wpp (p := .agg [.str ([101, 110, 116, 114, 121, 105, 100] : List UInt8), .int .i64 2, .bool true]) rfl rfl ?_
  refine wpp (p := .agg [.str ([109, 97, 105, 108] : List UInt8), .int .i64 2, .bool false]) rfl rfl ?_
  refine wpp (p := .agg [.str ([109, 101, 109, 98, 101, 114] : List UInt8), .int .i64 5, .bool false]) rfl rfl ?_
  refine wpp (p := .agg [.str ([111] : List UInt8), .int .i64 1, .bool false]) rfl rfl ?_
  refine wpp (p := .agg [.str ([111, 117] : List UInt8), .int .i64 1, .bool false]) rfl rfl ?_
  refine wpp (p := .agg [.str ([115, 110] : List UInt8), .int .i64 1, .bool false]) rfl rfl ?_
  refine wpp (p := .agg [.str ([116, 105, 116, 108, 101] : List UInt8), .int .i64 1, .bool true]) rfl rfl ?_
  refine wpp (p := .agg [.str ([117, 105, 100] : List UInt8), .int .i64 1, .bool false]) rfl rfl ?_
  refine wpp (p := .agg [.str ([117, 105, 100, 110, 117, 109, 98, 101, 114] : List UInt8), .int .i64 3, .bool true]) rfl rfl ?_
  refine wpp (p := .agg [.str ([117, 115, 101, 114, 112, 97, 115, 115, 119, 111, 114, 100] : List UInt8), .int .i64 4, .bool false]) rfl rfl ?_
  refine woo rfl (obsl 16 rfl rfl rfl) ?_
  refine wpp rfl rfl ?_
  obtain rfl := someS h
  refine xretn (st1 := ⟨ofL [(0, .sl 3 (List.map e_api_Type [(⟨([97, 99, 105] : List UInt8), 2, false⟩ : api_Type), (⟨([99] : List UInt8), 1, true⟩ : api_Type), (⟨([99, 110] : List UInt8), 1, false⟩ : api_Type), (⟨([100, 99] : List UInt8), 1, false⟩ : api_Type), (⟨([100, 101, 115, 99, 114, 105, 112, 116, 105, 111, 110] : List UInt8), 1, false⟩ : api_Type), (⟨([101, 110, 116, 114, 121, 105, 100] : List UInt8), 2, true⟩ : api_Type), (⟨([109, 97, 105, 108] : List UInt8), 2, false⟩ : api_Type), (⟨([109, 101, 109, 98, 101, 114] : List UInt8), 5, false⟩ : api_Type), (⟨([111] : List UInt8), 1, false⟩ : api_Type), (⟨([111, 117] : List UInt8), 1, false⟩ : api_Type), (⟨([115, 110] : List UInt8), 1, false⟩ : api_Type), (⟨([116, 105, 116, 108, 101] : List UInt8), 1, true⟩ : api_Type), (⟨([117, 105, 100] : List UInt8), 1, false⟩ : api_Type), (⟨([117, 105, 100, 110, 117, 109, 98, 101, 114] : List UInt8), 3, true⟩ : api_Type), (⟨([117, 115, 101, 114, 112, 97, 115, 115, 119, 111, 114, 100] : List UInt8), 4, false⟩ : api_Type)]))], ofL []⟩) (Norm.trans (Vd.freeze 16 _ rfl rfl rfl) (Norm.trans (nsub 0 (sub_eq (congrArg (PV.sl 3) (full_row (f := e_api_Type) (l := [(⟨([97, 99, 105] : List UInt8), 2, false⟩ : api_Type), (⟨([99] : List UInt8), 1, true⟩ : api_Type), (⟨([99, 110] : List UInt8), 1, false⟩ : api_Type), (⟨([100, 99] : List UInt8), 1, false⟩ : api_Type), (⟨([100, 101, 115, 99, 114, 105, 112, 116, 105, 111, 110] : List UInt8), 1, false⟩ : api_Type), (⟨([101, 110, 116, 114, 121, 105, 100] : List UInt8), 2, true⟩ : api_Type), (⟨([109, 97, 105, 108] : List UInt8), 2, false⟩ : api_Type), (⟨([109, 101, 109, 98, 101, 114] : List UInt8), 5, false⟩ : api_Type), (⟨([111] : List UInt8), 1, false⟩ : api_Type), (⟨([111, 117] : List UInt8), 1, false⟩ : api_Type), (⟨([115, 110] : List UInt8), 1, false⟩ : api_Type), (⟨([116, 105, 116, 108, 101] : List UInt8), 1, true⟩ : api_Type), (⟨([117, 105, 100] : List UInt8), 1, false⟩ : api_Type), (⟨([117, 105, 100, 110, 117, 109, 98, 101, 114] : List UInt8), 3, true⟩ : api_Type), (⟨([117, 115, 101, 114, 112, 97, 115, 115, 119, 111, 114, 100] : List UInt8), 4, false⟩ : api_Type)])))) rfl) (canon0 ⟨rfl, trivial⟩ trivial rfl rfl))) ?_
  exact ⟨nofun, rfl, rfl⟩
end Go.Gp
end
section
set_option linter.unusedVariables false
set_option linter.unusedSimpArgs false
set_option maxRecDepth 4000
namespace Go.Gp
open Go.Vd Go.RowKit Go.Proofs
def k10_l8 : IC := (.seq (.reg [⟨(some 11), (.bin .lss (.t 10) (.t 9)), none⟩]) (.seq (.cond (.t 11) .skip (.exit 0)) (.seq (.block 1 (.seq (.reg [⟨(some 12), (.ixp 3 (.t 8) (.t 10)), none⟩, ⟨(some 13), (.load 3 true (.t 12)), none⟩, ⟨(some 5), (.box 24 (.c (.agg [(.str []), (.int .i64 0), (.bool false)]))), none⟩, ⟨none, (.store 3 (.t 5) (.t 13)), none⟩]) (.seq (.reg [⟨(some 14), (.fda 0 (.t 5)), none⟩, ⟨(some 15), (.load 1 false (.t 14)), none⟩, ⟨(some 16), (.mov (.t 0)), none⟩, ⟨(some 17), (.bin .eql (.t 15) (.t 16)), none⟩]) (.cond (.t 17) (.seq (.reg [⟨(some 18), (.load 3 true (.t 5)), none⟩, ⟨none, (.store 3 (.t 2) (.t 18)), none⟩, ⟨(some 3), (.mov (.c (.bool true))), none⟩]) .ret) .skip)))) (.reg [⟨(some 19), (.bin .add (.t 10) (.c (.int .i64 1))), none⟩, ⟨(some 10), (.mov (.t 19)), none⟩]))))
def k10 : IC := (.seq (.reg [⟨(some 2), (.box 24 (.c (.agg [(.str []), (.int .i64 0), (.bool false)]))), none⟩, ⟨(some 3), (.mov (.c (.bool false))), none⟩]) (.seq (.reg [⟨(some 6), (.mov (.t 0)), none⟩, ⟨(some 7), (.call 28 [(.t 6)]), none⟩, ⟨(some 0), (.mov (.t 7)), none⟩]) (.seq (.seq (.reg [⟨(some 8), (.call 16 []), none⟩, ⟨(some 9), (.len false (.t 8)), none⟩, ⟨(some 10), (.mov (.c (.int .i64 0))), none⟩]) (.block 0 (.loop k10_l8))) (.seq (.reg [⟨(some 20), (.build [(.str []), (.int .i64 0), (.bool false)] []), none⟩, ⟨none, (.store 3 (.t 2) (.t 20)), none⟩, ⟨(some 3), (.mov (.c (.bool false))), none⟩]) .ret))))
theorem k10_cf : cfunc Tryd.prog Tryd.f10 = some ⟨21, k10, [(.cell 3 true 2), (.tmp 3)]⟩ := by kernel_rfl
theorem w_schema_Find_l8 (N : Nat) (x7 : List UInt8) (x8 : List api_Type) : ∀ (n : Nat) (x : Int) (y : Unit ⊕ (api_Type × Bool)), schema_Find_l8 N x7 x8 n x = some y → WX Tryd.prog (fun _ => false) (.loop k10_l8) ((fun (x : Int) => ⟨ofL [(0, .str x7), (2, .ptr 2 0 0), (8, .sl 3 (List.map e_api_Type x8)), (9, .int .i64 (x8.length : Int)), (10, .int .i64 x)], ofL [(2, ⟨3, false, [.agg [.str ([] : List UInt8), .int .i64 0, .bool false]]⟩)]⟩) x) ((Sum.elim (fun y e s => e = .exit 0 ∧ s = ⟨ofL [(2, .ptr 2 0 0)], ofL [(2, ⟨3, false, [.agg [.str ([] : List UInt8), .int .i64 0, .bool false]]⟩)]⟩) (fun y e s => e = .ret ∧ s = ⟨ofL [(2, .ptr 2 0 0), (3, .bool y.2)], ofL [(2, ⟨3, false, [e_api_Type y.1]⟩)]⟩) : (Unit ⊕ (api_Type × Bool)) → Xt → St → Prop) y) := by
  refine xloop (fun (x : Int) => ⟨ofL [(0, .str x7), (2, .ptr 2 0 0), (8, .sl 3 (List.map e_api_Type x8)), (9, .int .i64 (x8.length : Int)), (10, .int .i64 x)], ofL [(2, ⟨3, false, [.agg [.str ([] : List UInt8), .int .i64 0, .bool false]]⟩)]⟩) _ (schema_Find_l8 N x7 x8) (schema_Find_l8_b N x7 x8) (fun _ => rfl) (fun _ _ => rfl) ?_
  rintro rec v10l8 y h
  refine xseq ?_
  refine xreg ?_
  refine wpp rfl rfl ?_
  refine xseq ?_
  rcases bifS h with ⟨c1, h⟩ | ⟨c1, h⟩
  · refine xcT rfl c1 ?_
    refine xskip ?_
    refine xseq ?_
    refine xblk ?_
    refine xseq ?_
    refine xreg ?_
    obtain ⟨x12, hx12, h⟩ := bindS h
    refine wpp rfl (p_ixs (cs := [.str x12.Name, .int .i64 x12.Syntax, .bool x12.Single]) hx12 rfl rfl rfl) ?_
    refine wpp (p := e_api_Type x12) rfl rfl ?_
    refine woo rfl (obox 5 rfl rfl rfl rfl rfl) ?_
    refine wstb (e' := e_api_Type x12) rfl rfl rfl rfl rfl rfl rfl rfl nofun rfl ?_
    refine xseq ?_
    refine xreg ?_
    refine wpp rfl rfl ?_
    refine wpp rfl rfl ?_
    refine wpp rfl rfl ?_
    refine wpp rfl rfl ?_
    rcases bifS h with ⟨c2, h⟩ | ⟨c2, h⟩
    · refine xcT rfl c2 ?_
      refine xseq ?_
      refine xreg ?_
      refine wpp (p := e_api_Type x12) rfl rfl ?_
      refine wstb (e' := e_api_Type x12) rfl rfl rfl rfl rfl rfl rfl rfl nofun rfl ?_
      refine wpp rfl rfl ?_
      obtain rfl := someS h
      exact xretn (st1 := ⟨ofL [(2, .ptr 2 0 0), (3, .bool true)], ofL [(2, ⟨3, false, [e_api_Type x12]⟩)]⟩) (canon0 ⟨rfl, rfl, trivial⟩ ⟨rfl, trivial⟩ rfl rfl) ⟨rfl, rfl⟩
    · refine xcF rfl c2 ?_
      refine xskip ?_
      refine xreg ?_
      refine wpp (p := .int .i64 (w64 (v10l8 + (1 : Int)))) rfl rfl ?_
      refine wpp rfl rfl ?_
      exact ⟨(w64 (v10l8 + (1 : Int))), (canon0 ⟨rfl, rfl, rfl, rfl, rfl, trivial⟩ ⟨rfl, trivial⟩ rfl rfl), h⟩
  · refine xcF rfl c1 ?_
    obtain rfl := someS h
    exact xexitn (st1 := ⟨ofL [(2, .ptr 2 0 0)], ofL [(2, ⟨3, false, [.agg [.str ([] : List UInt8), .int .i64 0, .bool false]]⟩)]⟩) (canon0 ⟨rfl, trivial⟩ ⟨rfl, trivial⟩ rfl rfl) ⟨rfl, rfl⟩
theorem sat_schema_Find (N : Nat) (a0 : List UInt8) (r : api_Type × Bool) (h : schema_Find N a0 = some r) : Sat Tryd.prog 10 noRows [.str a0] (.tup [e_api_Type r.1, .bool r.2]) noRows := by
  refine xsat mixed Tryd.func10 k10_cf (rs := [e_api_Type r.1, .bool r.2]) rfl rfl ?_
  refine xseq ?_
  refine xreg ?_
  refine woo rfl (obox 2 rfl rfl rfl rfl rfl) ?_
  refine wpp rfl rfl ?_
  refine xseq ?_
  refine xreg ?_
  refine wpp rfl rfl ?_
  obtain ⟨x7, hx7, h⟩ := bindS h
  refine woo rfl (ocal (sat_dn_Lower N _ _ hx7) rfl (.cons sub_rfl .nil) rfl rfl rfl) ?_
  refine wpp rfl rfl ?_
  refine xseq ?_
  refine xseq ?_
  refine xreg ?_
  obtain ⟨x8, hx8, h⟩ := bindS h
  refine woo rfl (ocal (sat_schema_All N _ hx8) rfl .nil rfl rfl rfl) ?_
  refine wpp rfl (p_lens rfl) ?_
  refine wpp rfl rfl ?_
  refine xblk ?_
  obtain ⟨y3, hy3, h⟩ := bindS h
  refine xloopU (st1 := ⟨ofL [(0, .str x7), (2, .ptr 2 0 0), (8, .sl 3 (List.map e_api_Type x8)), (9, .int .i64 (x8.length : Int)), (10, .int .i64 0)], ofL [(2, ⟨3, false, [.agg [.str ([] : List UInt8), .int .i64 0, .bool false]]⟩)]⟩) (canon0 ⟨rfl, rfl, rfl, rfl, rfl, trivial⟩ ⟨rfl, trivial⟩ rfl rfl) (w_schema_Find_l8 N x7 x8 N _ _ hy3) ?_
  clear hy3
  rcases y3 with y3 | y3
  · rintro e s ⟨rfl, rfl⟩
    refine xseq ?_
    refine xreg ?_
    refine wpp (p := .agg [.str ([] : List UInt8), .int .i64 0, .bool false]) rfl rfl ?_
    refine wstb (e' := .agg [.str ([] : List UInt8), .int .i64 0, .bool false]) rfl rfl rfl rfl rfl rfl rfl rfl nofun rfl ?_
    refine wpp rfl rfl ?_
    obtain rfl := someS h
    refine xret ?_
    exact ⟨nofun, rfl, rfl⟩
  · rintro e s ⟨rfl, rfl⟩
    obtain rfl := someS h
    exact ⟨nofun, rfl, rfl⟩
end Go.Gp
end
section
set_option linter.unusedVariables false
set_option linter.unusedSimpArgs false
set_option maxRecDepth 4000
namespace Go.Gp
open Go.Vd Go.RowKit Go.Proofs
def k58_l4 : IC := (.seq (.seq (.reg [⟨(some 5), (.mov (.t 0)), none⟩, ⟨(some 6), (.len true (.t 5)), none⟩, ⟨(some 7), (.bin .gtr (.t 6) (.c (.int .i64 0))), none⟩, ⟨(some 8), (.mov (.t 7)), none⟩, ⟨(some 9), (.mov (.t 0)), (some (8, true))⟩, ⟨(some 10), (.mov (.t 0)), (some (8, true))⟩, ⟨(some 11), (.len true (.t 10)), (some (8, true))⟩, ⟨(some 12), (.bin .sub (.t 11) (.c (.int .i64 1))), (some (8, true))⟩, ⟨(some 13), (.idxs (.t 9) (.t 12)), (some (8, true))⟩, ⟨(some 14), (.mov (.t 1)), (some (8, true))⟩, ⟨(some 15), (.bin .eql (.t 13) (.t 14)), (some (8, true))⟩, ⟨(some 16), (.pick (.t 8) (.t 15) (.c (.bool false))), none⟩]) (.cond (.t 16) .skip (.exit 0))) (.block 1 (.reg [⟨(some 17), (.mov (.t 0)), none⟩, ⟨(some 18), (.mov (.t 0)), none⟩, ⟨(some 19), (.len true (.t 18)), none⟩, ⟨(some 20), (.bin .sub (.t 19) (.c (.int .i64 1))), none⟩, ⟨(some 21), (.slcs (.t 17) none (some (.t 20))), none⟩, ⟨(some 0), (.mov (.t 21)), none⟩])))
def k58 : IC := (.seq (.reg [⟨(some 4), (.mov (.c (.str []))), none⟩]) (.seq (.block 0 (.loop k58_l4)) (.seq (.reg [⟨(some 22), (.mov (.t 0)), none⟩, ⟨(some 4), (.mov (.t 22)), none⟩]) .ret)))
theorem k58_cf : cfunc Tryd.prog Tryd.f58 = some ⟨23, k58, [(.tmp 4)]⟩ := by kernel_rfl
theorem w_strings_trimRightByte_l4 (N : Nat) (a1 : UInt8) : ∀ (n : Nat) (x : List UInt8) (y : List UInt8), strings_trimRightByte_l4 N a1 n x = some y → WX Tryd.prog (fun _ => false) (.loop k58_l4) ((fun (x : List UInt8) => ⟨ofL [(0, .str x), (1, eb a1)], ofL []⟩) x) ((fun y e s => e = .exit 0 ∧ s = ⟨ofL [(0, .str y)], ofL []⟩ : (List UInt8) → Xt → St → Prop) y) := by
  refine xloop (fun (x : List UInt8) => ⟨ofL [(0, .str x), (1, eb a1)], ofL []⟩) _ (strings_trimRightByte_l4 N a1) (strings_trimRightByte_l4_b N a1) (fun _ => rfl) (fun _ _ => rfl) ?_
  rintro rec v0l4 y h
  refine xseq ?_
  obtain ⟨g1, hg1, h⟩ := bindS h
  refine xseg ⟨ofL [(0, .str v0l4), (1, eb a1), (16, .bool g1)], ofL []⟩ ?_ ?_
  · have h := hg1
    refine xreg ?_
    refine wpp rfl rfl ?_
    refine wpp rfl rfl ?_
    refine wpp rfl rfl ?_
    refine wpp rfl rfl ?_
    rcases bifS h with ⟨c2, h⟩ | ⟨c2, h⟩
    · skip
      refine wpp (gy rfl c2) rfl ?_
      refine wpp (gy rfl c2) rfl ?_
      refine wpp (gy rfl c2) rfl ?_
      refine wpp (p := .int .i64 (w64 ((v0l4.length : Int) - (1 : Int)))) (gy rfl c2) rfl ?_
      obtain ⟨x13, hx13, h⟩ := bindS h
      refine wpp (gy rfl c2) (p_idx hx13 rfl rfl) ?_
      refine wpp (gy rfl c2) rfl ?_
      refine wpp (p := .bool (((x13).toNat : Int) == ((a1).toNat : Int))) (gy rfl c2) rfl ?_
      refine wpp rfl (p_pick1 c2 rfl rfl) ?_
      obtain rfl := someS h
      exact (canon0 ⟨rfl, rfl, rfl, trivial⟩ trivial rfl rfl)
    · skip
      refine wsk (gn rfl c2) ?_
      refine wsk (gn rfl c2) ?_
      refine wsk (gn rfl c2) ?_
      refine wsk (gn rfl c2) ?_
      refine wsk (gn rfl c2) ?_
      refine wsk (gn rfl c2) ?_
      refine wsk (gn rfl c2) ?_
      refine wpp rfl (p_pick0 c2 rfl rfl) ?_
      obtain rfl := someS h
      exact (canon0 ⟨rfl, rfl, rfl, trivial⟩ trivial rfl rfl)
  · clear hg1
    rcases bifS h with ⟨c3, h⟩ | ⟨c3, h⟩
    · refine xcT rfl c3 ?_
      refine xskip ?_
      refine xblk ?_
      refine xreg ?_
      refine wpp rfl rfl ?_
      refine wpp rfl rfl ?_
      refine wpp rfl rfl ?_
      refine wpp (p := .int .i64 (w64 ((v0l4.length : Int) - (1 : Int)))) rfl rfl ?_
      obtain ⟨x21, hx21, h⟩ := bindS h
      refine wpp rfl (p_take hx21 rfl rfl) ?_
      refine wpp rfl rfl ?_
      exact ⟨x21, (canon0 ⟨rfl, rfl, trivial⟩ trivial rfl rfl), h⟩
    · refine xcF rfl c3 ?_
      obtain rfl := someS h
      exact xexitn (st1 := ⟨ofL [(0, .str v0l4)], ofL []⟩) (canon0 ⟨rfl, trivial⟩ trivial rfl rfl) ⟨rfl, rfl⟩
theorem sat_strings_trimRightByte (N : Nat) (a0 : List UInt8) (a1 : UInt8) (r : List UInt8) (h : strings_trimRightByte N a0 a1 = some r) : Sat Tryd.prog 58 noRows [.str a0, eb a1] (.str r) noRows := by
  refine xsat mixed Tryd.func58 k58_cf (rs := [.str r]) rfl rfl ?_
  refine xseq ?_
  refine xreg ?_
  refine wpp rfl rfl ?_
  refine xseq ?_
  refine xblk ?_
  obtain ⟨y4, hy4, h⟩ := bindS h
  refine xloopU (st1 := ⟨ofL [(0, .str a0), (1, eb a1)], ofL []⟩) (canon0 ⟨rfl, rfl, trivial⟩ trivial rfl rfl) (w_strings_trimRightByte_l4 N a1 N _ _ hy4) ?_
  rintro e s ⟨rfl, rfl⟩
  refine xseq ?_
  refine xreg ?_
  refine wpp rfl rfl ?_
  refine wpp rfl rfl ?_
  obtain rfl := someS h
  refine xret ?_
  exact ⟨nofun, rfl, rfl⟩
end Go.Gp
end
section
set_option linter.unusedVariables false
set_option linter.unusedSimpArgs false
set_option maxRecDepth 4000
namespace Go.Gp
open Go.Vd Go.RowKit Go.Proofs
def k57_l4 : IC := (.seq (.seq (.reg [⟨(some 5), (.mov (.t 0)), none⟩, ⟨(some 6), (.len true (.t 5)), none⟩, ⟨(some 7), (.bin .gtr (.t 6) (.c (.int .i64 0))), none⟩, ⟨(some 8), (.mov (.t 7)), none⟩, ⟨(some 9), (.mov (.t 0)), (some (8, true))⟩, ⟨(some 10), (.idxs (.t 9) (.c (.int .i64 0))), (some (8, true))⟩, ⟨(some 11), (.mov (.t 1)), (some (8, true))⟩, ⟨(some 12), (.bin .eql (.t 10) (.t 11)), (some (8, true))⟩, ⟨(some 13), (.pick (.t 8) (.t 12) (.c (.bool false))), none⟩]) (.cond (.t 13) .skip (.exit 0))) (.block 1 (.reg [⟨(some 14), (.mov (.t 0)), none⟩, ⟨(some 15), (.slcs (.t 14) (some (.c (.int .i64 1))) none), none⟩, ⟨(some 0), (.mov (.t 15)), none⟩])))
def k57 : IC := (.seq (.reg [⟨(some 4), (.mov (.c (.str []))), none⟩]) (.seq (.block 0 (.loop k57_l4)) (.seq (.reg [⟨(some 16), (.mov (.t 0)), none⟩, ⟨(some 4), (.mov (.t 16)), none⟩]) .ret)))
theorem k57_cf : cfunc Tryd.prog Tryd.f57 = some ⟨17, k57, [(.tmp 4)]⟩ := by kernel_rfl
theorem w_strings_trimLeftByte_l4 (N : Nat) (a1 : UInt8) : ∀ (n : Nat) (x : List UInt8) (y : List UInt8), strings_trimLeftByte_l4 N a1 n x = some y → WX Tryd.prog (fun _ => false) (.loop k57_l4) ((fun (x : List UInt8) => ⟨ofL [(0, .str x), (1, eb a1)], ofL []⟩) x) ((fun y e s => e = .exit 0 ∧ s = ⟨ofL [(0, .str y)], ofL []⟩ : (List UInt8) → Xt → St → Prop) y) := by
  refine xloop (fun (x : List UInt8) => ⟨ofL [(0, .str x), (1, eb a1)], ofL []⟩) _ (strings_trimLeftByte_l4 N a1) (strings_trimLeftByte_l4_b N a1) (fun _ => rfl) (fun _ _ => rfl) ?_
  rintro rec v0l4 y h
  refine xseq ?_
  obtain ⟨g1, hg1, h⟩ := bindS h
  refine xseg ⟨ofL [(0, .str v0l4), (1, eb a1), (13, .bool g1)], ofL []⟩ ?_ ?_
  · have h := hg1
    refine xreg ?_
    refine wpp rfl rfl ?_
    refine wpp rfl rfl ?_
    refine wpp rfl rfl ?_
    refine wpp rfl rfl ?_
    rcases bifS h with ⟨c2, h⟩ | ⟨c2, h⟩
    · skip
      refine wpp (gy rfl c2) rfl ?_
      obtain ⟨x10, hx10, h⟩ := bindS h
      refine wpp (gy rfl c2) (p_idx hx10 rfl rfl) ?_
      refine wpp (gy rfl c2) rfl ?_
      refine wpp (p := .bool (((x10).toNat : Int) == ((a1).toNat : Int))) (gy rfl c2) rfl ?_
      refine wpp rfl (p_pick1 c2 rfl rfl) ?_
      obtain rfl := someS h
      exact (canon0 ⟨rfl, rfl, rfl, trivial⟩ trivial rfl rfl)
    · skip
      refine wsk (gn rfl c2) ?_
      refine wsk (gn rfl c2) ?_
      refine wsk (gn rfl c2) ?_
      refine wsk (gn rfl c2) ?_
      refine wpp rfl (p_pick0 c2 rfl rfl) ?_
      obtain rfl := someS h
      exact (canon0 ⟨rfl, rfl, rfl, trivial⟩ trivial rfl rfl)
  · clear hg1
    rcases bifS h with ⟨c3, h⟩ | ⟨c3, h⟩
    · refine xcT rfl c3 ?_
      refine xskip ?_
      refine xblk ?_
      refine xreg ?_
      refine wpp rfl rfl ?_
      obtain ⟨x15, hx15, h⟩ := bindS h
      refine wpp rfl (p_drop hx15 rfl rfl) ?_
      refine wpp rfl rfl ?_
      exact ⟨x15, (canon0 ⟨rfl, rfl, trivial⟩ trivial rfl rfl), h⟩
    · refine xcF rfl c3 ?_
      obtain rfl := someS h
      exact xexitn (st1 := ⟨ofL [(0, .str v0l4)], ofL []⟩) (canon0 ⟨rfl, trivial⟩ trivial rfl rfl) ⟨rfl, rfl⟩
theorem sat_strings_trimLeftByte (N : Nat) (a0 : List UInt8) (a1 : UInt8) (r : List UInt8) (h : strings_trimLeftByte N a0 a1 = some r) : Sat Tryd.prog 57 noRows [.str a0, eb a1] (.str r) noRows := by
  refine xsat mixed Tryd.func57 k57_cf (rs := [.str r]) rfl rfl ?_
  refine xseq ?_
  refine xreg ?_
  refine wpp rfl rfl ?_
  refine xseq ?_
  refine xblk ?_
  obtain ⟨y4, hy4, h⟩ := bindS h
  refine xloopU (st1 := ⟨ofL [(0, .str a0), (1, eb a1)], ofL []⟩) (canon0 ⟨rfl, rfl, trivial⟩ trivial rfl rfl) (w_strings_trimLeftByte_l4 N a1 N _ _ hy4) ?_
  rintro e s ⟨rfl, rfl⟩
  refine xseq ?_
  refine xreg ?_
  refine wpp rfl rfl ?_
  refine wpp rfl rfl ?_
  obtain rfl := someS h
  refine xret ?_
  exact ⟨nofun, rfl, rfl⟩
end Go.Gp
end
section
set_option linter.unusedVariables false
set_option linter.unusedSimpArgs false
set_option maxRecDepth 4000
namespace Go.Gp
open Go.Vd Go.RowKit Go.Proofs
def k42 : IC := (.seq (.reg [⟨(some 4), (.mov (.c (.str []))), none⟩]) (.seq (.seq (.reg [⟨(some 7), (.mov (.t 0)), none⟩, ⟨(some 8), (.bin .eql (.t 7) (.c (.str []))), none⟩, ⟨(some 9), (.mov (.t 8)), none⟩, ⟨(some 10), (.mov (.t 1)), (some (9, false))⟩, ⟨(some 11), (.bin .eql (.t 10) (.c (.str []))), (some (9, false))⟩, ⟨(some 12), (.pick (.t 9) (.c (.bool true)) (.t 11)), none⟩]) (.cond (.t 12) (.seq (.reg [⟨(some 13), (.mov (.t 0)), none⟩, ⟨(some 4), (.mov (.t 13)), none⟩]) .ret) .skip)) (.seq (.seq (.reg [⟨(some 14), (.mov (.t 1)), none⟩, ⟨(some 15), (.len true (.t 14)), none⟩, ⟨(some 16), (.bin .eql (.t 15) (.c (.int .i64 1))), none⟩, ⟨(some 17), (.mov (.t 16)), none⟩, ⟨(some 18), (.mov (.t 1)), (some (17, true))⟩, ⟨(some 19), (.idxs (.t 18) (.c (.int .i64 0))), (some (17, true))⟩, ⟨(some 20), (.bin .lss (.t 19) (.c (.int .u8 128))), (some (17, true))⟩, ⟨(some 21), (.pick (.t 17) (.t 20) (.c (.bool false))), none⟩]) (.cond (.t 21) (.seq (.regd 8 [⟨(some 22), (.mov (.t 0)), none⟩, ⟨(some 23), (.mov (.t 1)), none⟩, ⟨(some 24), (.idxs (.t 23) (.c (.int .i64 0))), none⟩, ⟨(some 25), (.call 58 [(.t 22), (.t 24)]), none⟩, ⟨(some 26), (.mov (.t 1)), none⟩, ⟨(some 27), (.idxs (.t 26) (.c (.int .i64 0))), none⟩, ⟨(some 28), (.call 57 [(.t 25), (.t 27)]), none⟩, ⟨(some 4), (.mov (.t 28)), none⟩]) .ret) .skip)) (.seq (.seq (.reg [⟨(some 30), (.mov (.t 1)), none⟩, ⟨(some 31), (.call 59 [(.t 30)]), none⟩, ⟨(some 29), (.mov (.t 31)), none⟩, ⟨(some 32), (.ext 0 (.t 29)), none⟩, ⟨(some 33), (.ext 1 (.t 29)), none⟩, ⟨(some 5), (.box 92 (.c (.agg [(.bool false), (.bool false), (.bool false), (.bool false), (.bool false), (.bool false), (.bool false), (.bool false), (.bool false), (.bool false), (.bool false), (.bool false), (.bool false), (.bool false), (.bool false), (.bool false), (.bool false), (.bool false), (.bool false), (.bool false), (.bool false), (.bool false), (.bool false), (.bool false), (.bool false), (.bool false), (.bool false), (.bool false), (.bool false), (.bool false), (.bool false), (.bool false), (.bool false), (.bool false), (.bool false), (.bool false), (.bool false), (.bool false), (.bool false), (.bool false), (.bool false), (.bool false), (.bool false), (.bool false), (.bool false), (.bool false), (.bool false), (.bool false), (.bool false), (.bool false), (.bool false), (.bool false), (.bool false), (.bool false), (.bool false), (.bool false), (.bool false), (.bool false), (.bool false), (.bool false), (.bool false), (.bool false), (.bool false), (.bool false), (.bool false), (.bool false), (.bool false), (.bool false), (.bool false), (.bool false), (.bool false), (.bool false), (.bool false), (.bool false), (.bool false), (.bool false), (.bool false), (.bool false), (.bool false), (.bool false), (.bool false), (.bool false), (.bool false), (.bool false), (.bool false), (.bool false), (.bool false), (.bool false), (.bool false), (.bool false), (.bool false), (.bool false), (.bool false), (.bool false), (.bool false), (.bool false), (.bool false), (.bool false), (.bool false), (.bool false), (.bool false), (.bool false), (.bool false), (.bool false), (.bool false), (.bool false), (.bool false), (.bool false), (.bool false), (.bool false), (.bool false), (.bool false), (.bool false), (.bool false), (.bool false), (.bool false), (.bool false), (.bool false), (.bool false), (.bool false), (.bool false), (.bool false), (.bool false), (.bool false), (.bool false), (.bool false), (.bool false), (.bool false), (.bool false), (.bool false), (.bool false), (.bool false), (.bool false), (.bool false), (.bool false), (.bool false), (.bool false), (.bool false), (.bool false), (.bool false), (.bool false), (.bool false), (.bool false), (.bool false), (.bool false), (.bool false), (.bool false), (.bool false), (.bool false), (.bool false), (.bool false), (.bool false), (.bool false), (.bool false), (.bool false), (.bool false), (.bool false), (.bool false), (.bool false), (.bool false), (.bool false), (.bool false), (.bool false), (.bool false), (.bool false), (.bool false), (.bool false), (.bool false), (.bool false), (.bool false), (.bool false), (.bool false), (.bool false), (.bool false), (.bool false), (.bool false), (.bool false), (.bool false), (.bool false), (.bool false), (.bool false), (.bool false), (.bool false), (.bool false), (.bool false), (.bool false), (.bool false), (.bool false), (.bool false), (.bool false), (.bool false), (.bool false), (.bool false), (.bool false), (.bool false), (.bool false), (.bool false), (.bool false), (.bool false), (.bool false), (.bool false), (.bool false), (.bool false), (.bool false), (.bool false), (.bool false), (.bool false), (.bool false), (.bool false), (.bool false), (.bool false), (.bool false), (.bool false), (.bool false), (.bool false), (.bool false), (.bool false), (.bool false), (.bool false), (.bool false), (.bool false), (.bool false), (.bool false), (.bool false), (.bool false), (.bool false), (.bool false), (.bool false), (.bool false), (.bool false), (.bool false), (.bool false), (.bool false), (.bool false), (.bool false), (.bool false), (.bool false), (.bool false), (.bool false), (.bool false), (.bool false), (.bool false), (.bool false), (.bool false), (.bool false), (.bool false), (.bool false), (.bool false), (.bool false), (.bool false), (.bool false), (.bool false), (.bool false), (.bool false), (.bool false), (.bool false)]))), none⟩, ⟨none, (.store 256 (.t 5) (.t 32)), none⟩, ⟨(some 6), (.mov (.t 33)), none⟩]) (.seq (.reg [⟨(some 34), (.mov (.t 6)), none⟩]) (.cond (.t 34) (.seq (.reg [⟨(some 35), (.mov (.t 0)), none⟩, ⟨(some 36), (.call 61 [(.t 35), (.t 5)]), none⟩, ⟨(some 37), (.call 60 [(.t 36), (.t 5)]), none⟩, ⟨(some 4), (.mov (.t 37)), none⟩]) .ret) .skip))) (.seq (.reg [⟨(some 38), (.mov (.t 0)), none⟩, ⟨(some 39), (.mov (.t 1)), none⟩, ⟨(some 40), (.call 63 [(.t 38), (.t 39)]), none⟩, ⟨(some 41), (.mov (.t 1)), none⟩, ⟨(some 42), (.call 62 [(.t 40), (.t 41)]), none⟩, ⟨(some 4), (.mov (.t 42)), none⟩]) .ret)))))
theorem k42_cf : cfunc Tryd.prog Tryd.f42 = some ⟨43, k42, [(.tmp 4)]⟩ := by kernel_rfl
theorem sat_strings_Trim (N : Nat) (a0 : List UInt8) (a1 : List UInt8) (r : List UInt8) (h : strings_Trim N a0 a1 = some r) : Sat Tryd.prog 42 noRows [.str a0, .str a1] (.str r) noRows := by
  refine xsat mixed Tryd.func42 k42_cf (rs := [.str r]) rfl rfl ?_
  refine xseq ?_
  refine xreg ?_
  refine wpp rfl rfl ?_
  refine xseq ?_
  obtain ⟨g1, hg1, h⟩ := bindS h
  refine xseg ⟨ofL [(0, .str a0), (1, .str a1), (12, .bool g1)], ofL []⟩ ?_ ?_
  · have h := hg1
    refine xreg ?_
    refine wpp rfl rfl ?_
    refine wpp rfl rfl ?_
    refine wpp rfl rfl ?_
    rcases bifS h with ⟨c2, h⟩ | ⟨c2, h⟩
    · skip
      refine wsk (gn rfl c2) ?_
      refine wsk (gn rfl c2) ?_
      refine wpp rfl (p_pick1 c2 rfl rfl) ?_
      obtain rfl := someS h
      exact (canon0 ⟨rfl, rfl, rfl, trivial⟩ trivial rfl rfl)
    · skip
      refine wpp (gy rfl c2) rfl ?_
      refine wpp (gy rfl c2) rfl ?_
      refine wpp rfl (p_pick0 c2 rfl rfl) ?_
      obtain rfl := someS h
      exact (canon0 ⟨rfl, rfl, rfl, trivial⟩ trivial rfl rfl)
  · clear hg1
    rcases bifS h with ⟨c3, h⟩ | ⟨c3, h⟩
    · refine xcT rfl c3 ?_
      refine xseq ?_
      refine xreg ?_
      refine wpp rfl rfl ?_
      refine wpp rfl rfl ?_
      obtain rfl := someS h
      refine xret ?_
      exact ⟨nofun, rfl, rfl⟩
    · refine xcF rfl c3 ?_
      refine xskip ?_
      refine xseq ?_
      obtain ⟨g4, hg4, h⟩ := bindS h
      refine xseg ⟨ofL [(0, .str a0), (1, .str a1), (21, .bool g4)], ofL []⟩ ?_ ?_
      · have h := hg4
        refine xreg ?_
        refine wpp rfl rfl ?_
        refine wpp rfl rfl ?_
        refine wpp rfl rfl ?_
        refine wpp rfl rfl ?_
        rcases bifS h with ⟨c5, h⟩ | ⟨c5, h⟩
        · skip
          refine wpp (gy rfl c5) rfl ?_
          obtain ⟨x19, hx19, h⟩ := bindS h
          refine wpp (gy rfl c5) (p_idx hx19 rfl rfl) ?_
          refine wpp (p := .bool (decide (((x19).toNat : Int) < (128 : Int)))) (gy rfl c5) rfl ?_
          refine wpp rfl (p_pick1 c5 rfl rfl) ?_
          obtain rfl := someS h
          exact (canon0 ⟨rfl, rfl, rfl, trivial⟩ trivial rfl rfl)
        · skip
          refine wsk (gn rfl c5) ?_
          refine wsk (gn rfl c5) ?_
          refine wsk (gn rfl c5) ?_
          refine wpp rfl (p_pick0 c5 rfl rfl) ?_
          obtain rfl := someS h
          exact (canon0 ⟨rfl, rfl, rfl, trivial⟩ trivial rfl rfl)
      · clear hg4
        rcases bifS h with ⟨c6, h⟩ | ⟨c6, h⟩
        · refine xcT rfl c6 ?_
          refine xseq ?_
          refine xregd ?_
          refine wdp rfl rfl ?_
          refine wdp rfl rfl ?_
          obtain ⟨x24, hx24, h⟩ := bindS h
          refine wdp rfl (p_idx hx24 rfl rfl) ?_
          obtain ⟨x25, hx25, h⟩ := bindS h
          refine wdN rfl (pcal (sat_strings_trimRightByte N _ _ _ hx25) rfl (.cons sub_rfl (.cons sub_rfl .nil)) rfl rfl rfl) no_fresh ?_
          refine wdp rfl rfl ?_
          obtain ⟨x27, hx27, h⟩ := bindS h
          refine wdp rfl (p_idx hx27 rfl rfl) ?_
          obtain ⟨x28, hx28, h⟩ := bindS h
          refine wdN rfl (pcal (sat_strings_trimLeftByte N _ _ _ hx28) rfl (.cons sub_rfl (.cons sub_rfl .nil)) rfl rfl rfl) no_fresh ?_
          refine wdp rfl rfl ?_
          obtain rfl := someS h
          refine xret ?_
          exact ⟨nofun, rfl, rfl⟩
        · refine xcF rfl c6 ?_
          refine xskip ?_
          refine xseq ?_
          refine xseq ?_
          refine xreg ?_
          refine wpp rfl rfl ?_
          cases h
end Go.Gp
end
section
set_option linter.unusedVariables false
set_option linter.unusedSimpArgs false
set_option maxRecDepth 4000
namespace Go.Gp
open Go.Vd Go.RowKit Go.Proofs
def k43_l6 : IC := (.seq (.reg [⟨(some 9), (.bin .lss (.t 8) (.t 7)), none⟩]) (.seq (.cond (.t 9) .skip (.exit 0)) (.seq (.block 1 (.seq (.reg [⟨(some 10), (.ixp 1 (.t 6) (.t 8)), none⟩, ⟨(some 11), (.load 1 false (.t 10)), none⟩, ⟨(some 4), (.mov (.t 11)), none⟩]) (.seq (.reg [⟨(some 12), (.mov (.t 4)), none⟩, ⟨(some 13), (.bin .lss (.t 12) (.c (.int .u8 32))), none⟩, ⟨(some 14), (.mov (.t 13)), none⟩, ⟨(some 15), (.mov (.t 4)), (some (14, false))⟩, ⟨(some 16), (.bin .gtr (.t 15) (.c (.int .u8 126))), (some (14, false))⟩, ⟨(some 17), (.pick (.t 14) (.c (.bool true)) (.t 16)), none⟩]) (.cond (.t 17) (.seq (.reg [⟨(some 2), (.mov (.c (.bool false))), none⟩]) .ret) .skip)))) (.reg [⟨(some 18), (.bin .add (.t 8) (.c (.int .i64 1))), none⟩, ⟨(some 8), (.mov (.t 18)), none⟩]))))
def k43 : IC := (.seq (.reg [⟨(some 2), (.mov (.c (.bool false))), none⟩]) (.seq (.seq (.reg [⟨(some 5), (.mov (.t 0)), none⟩, ⟨(some 6), (.cvs (.t 5)), none⟩, ⟨(some 7), (.len false (.t 6)), none⟩, ⟨(some 8), (.mov (.c (.int .i64 0))), none⟩]) (.block 0 (.loop k43_l6))) (.seq (.reg [⟨(some 2), (.mov (.c (.bool true))), none⟩]) .ret)))
theorem k43_cf : cfunc Tryd.prog Tryd.f43 = some ⟨19, k43, [(.tmp 2)]⟩ := by kernel_rfl
theorem w_schema_plain_l6 (N : Nat) (a0 : List UInt8) : ∀ (n : Nat) (x : Int) (y : Unit ⊕ Bool), schema_plain_l6 N a0 n x = some y → WX Tryd.prog (fun _ => false) (.loop k43_l6) ((fun (x : Int) => ⟨ofL [(6, .slr 6 0 a0.length), (7, .int .i64 (a0.length : Int)), (8, .int .i64 x)], ofL [(6, ⟨1, true, List.map eb a0⟩)]⟩) x) ((Sum.elim (fun y e s => e = .exit 0 ∧ s = ⟨ofL [], ofL []⟩) (fun y e s => e = .ret ∧ s = ⟨ofL [(2, .bool y)], ofL []⟩) : (Unit ⊕ Bool) → Xt → St → Prop) y) := by
  refine xloop (fun (x : Int) => ⟨ofL [(6, .slr 6 0 a0.length), (7, .int .i64 (a0.length : Int)), (8, .int .i64 x)], ofL [(6, ⟨1, true, List.map eb a0⟩)]⟩) _ (schema_plain_l6 N a0) (schema_plain_l6_b N a0) (fun _ => rfl) (fun _ _ => rfl) ?_
  rintro rec v8l6 y h
  refine xseq ?_
  refine xreg ?_
  refine wpp rfl rfl ?_
  refine xseq ?_
  rcases bifS h with ⟨c1, h⟩ | ⟨c1, h⟩
  · refine xcT rfl c1 ?_
    refine xskip ?_
    refine xseq ?_
    refine xblk ?_
    refine xseq ?_
    refine xreg ?_
    obtain ⟨x10, hx10, h⟩ := bindS h
    refine wpp rfl (p_ixr hx10 rfl rfl rfl rfl) ?_
    obtain ⟨x11, hx11, h⟩ := bindS h
    refine wpp rfl (p_ldr (f := eb) (v := eb x11) hx11 rfl rfl rfl) ?_
    refine wpp rfl rfl ?_
    obtain ⟨g2, hg2, h⟩ := bindS h
    refine xseg ⟨ofL [(6, .slr 6 0 a0.length), (7, .int .i64 (a0.length : Int)), (8, .int .i64 v8l6), (17, .bool g2)], ofL [(6, ⟨1, true, List.map eb a0⟩)]⟩ ?_ ?_
    · have h := hg2
      refine xreg ?_
      refine wpp rfl rfl ?_
      refine wpp (p := .bool (decide (((x11).toNat : Int) < (32 : Int)))) rfl rfl ?_
      refine wpp rfl rfl ?_
      rcases bifS h with ⟨c3, h⟩ | ⟨c3, h⟩
      · skip
        refine wsk (gn rfl c3) ?_
        refine wsk (gn rfl c3) ?_
        refine wpp rfl (p_pick1 c3 rfl rfl) ?_
        obtain rfl := someS h
        exact (canon0 ⟨rfl, rfl, rfl, rfl, trivial⟩ ⟨rfl, trivial⟩ rfl rfl)
      · skip
        refine wpp (gy rfl c3) rfl ?_
        refine wpp (p := .bool (decide (((x11).toNat : Int) > (126 : Int)))) (gy rfl c3) rfl ?_
        refine wpp rfl (p_pick0 c3 rfl rfl) ?_
        obtain rfl := someS h
        exact (canon0 ⟨rfl, rfl, rfl, rfl, trivial⟩ ⟨rfl, trivial⟩ rfl rfl)
    · clear hg2
      rcases bifS h with ⟨c4, h⟩ | ⟨c4, h⟩
      · refine xcT rfl c4 ?_
        refine xseq ?_
        refine xreg ?_
        refine wpp rfl rfl ?_
        obtain rfl := someS h
        exact xretn (st1 := ⟨ofL [(2, .bool false)], ofL []⟩) (canon0 ⟨rfl, trivial⟩ trivial rfl rfl) ⟨rfl, rfl⟩
      · refine xcF rfl c4 ?_
        refine xskip ?_
        refine xreg ?_
        refine wpp (p := .int .i64 (w64 (v8l6 + (1 : Int)))) rfl rfl ?_
        refine wpp rfl rfl ?_
        exact ⟨(w64 (v8l6 + (1 : Int))), (canon0 ⟨rfl, rfl, rfl, trivial⟩ ⟨rfl, trivial⟩ rfl rfl), h⟩
  · refine xcF rfl c1 ?_
    obtain rfl := someS h
    exact xexitn (st1 := ⟨ofL [], ofL []⟩) (canon0 trivial trivial rfl rfl) ⟨rfl, rfl⟩
theorem sat_schema_plain (N : Nat) (a0 : List UInt8) (r : Bool) (h : schema_plain N a0 = some r) : Sat Tryd.prog 43 noRows [.str a0] (.bool r) noRows := by
  refine xsat mixed Tryd.func43 k43_cf (rs := [.bool r]) rfl rfl ?_
  refine xseq ?_
  refine xreg ?_
  refine wpp rfl rfl ?_
  refine xseq ?_
  refine xseq ?_
  refine xreg ?_
  refine wpp rfl rfl ?_
  refine woo rfl (ocvs 6 rfl rfl) ?_
  refine wpp rfl rfl ?_
  refine wpp rfl rfl ?_
  refine xblk ?_
  obtain ⟨y5, hy5, h⟩ := bindS h
  refine xloopU (st1 := ⟨ofL [(6, .slr 6 0 a0.length), (7, .int .i64 (a0.length : Int)), (8, .int .i64 0)], ofL [(6, ⟨1, true, List.map eb a0⟩)]⟩) (canon0 ⟨rfl, rfl, rfl, trivial⟩ ⟨rfl, trivial⟩ rfl rfl) (w_schema_plain_l6 N a0 N _ _ hy5) ?_
  clear hy5
  rcases y5 with y5 | y5
  · rintro e s ⟨rfl, rfl⟩
    refine xseq ?_
    refine xreg ?_
    refine wpp rfl rfl ?_
    obtain rfl := someS h
    refine xret ?_
    exact ⟨nofun, rfl, rfl⟩
  · rintro e s ⟨rfl, rfl⟩
    obtain rfl := someS h
    exact ⟨nofun, rfl, rfl⟩
end Go.Gp
end
section
set_option linter.unusedVariables false
set_option linter.unusedSimpArgs false
set_option maxRecDepth 4000
namespace Go.Gp
open Go.Vd Go.RowKit Go.Proofs
def k68 : IC := (.seq (.reg [⟨(some 4), (.mov (.c (.bool false))), none⟩]) (.seq (.reg [⟨(some 5), (.mov (.t 0)), none⟩, ⟨(some 6), (.len true (.t 5)), none⟩, ⟨(some 7), (.mov (.t 1)), none⟩, ⟨(some 8), (.len true (.t 7)), none⟩, ⟨(some 9), (.bin .geq (.t 6) (.t 8)), none⟩, ⟨(some 10), (.mov (.t 9)), none⟩, ⟨(some 11), (.mov (.t 0)), (some (10, true))⟩, ⟨(some 12), (.mov (.t 1)), (some (10, true))⟩, ⟨(some 13), (.len true (.t 12)), (some (10, true))⟩, ⟨(some 14), (.slcs (.t 11) none (some (.t 13))), (some (10, true))⟩, ⟨(some 15), (.mov (.t 1)), (some (10, true))⟩, ⟨(some 16), (.bin .eql (.t 14) (.t 15)), (some (10, true))⟩, ⟨(some 17), (.pick (.t 10) (.t 16) (.c (.bool false))), none⟩, ⟨(some 4), (.mov (.t 17)), none⟩]) .ret))
theorem k68_cf : cfunc Tryd.prog Tryd.f68 = some ⟨18, k68, [(.tmp 4)]⟩ := by kernel_rfl
theorem sat_internal_stringslite_HasPrefix (N : Nat) (a0 : List UInt8) (a1 : List UInt8) (r : Bool) (h : internal_stringslite_HasPrefix N a0 a1 = some r) : Sat Tryd.prog 68 noRows [.str a0, .str a1] (.bool r) noRows := by
  refine xsat mixed Tryd.func68 k68_cf (rs := [.bool r]) rfl rfl ?_
  refine xseq ?_
  refine xreg ?_
  refine wpp rfl rfl ?_
  obtain ⟨g1, hg1, h⟩ := bindS h
  refine xseg ⟨ofL [(4, .bool g1)], ofL []⟩ ?_ ?_
  · have h := hg1
    refine xreg ?_
    refine wpp rfl rfl ?_
    refine wpp rfl rfl ?_
    refine wpp rfl rfl ?_
    refine wpp rfl rfl ?_
    refine wpp rfl rfl ?_
    refine wpp rfl rfl ?_
    rcases bifS h with ⟨c2, h⟩ | ⟨c2, h⟩
    · skip
      refine wpp (gy rfl c2) rfl ?_
      refine wpp (gy rfl c2) rfl ?_
      refine wpp (gy rfl c2) rfl ?_
      obtain ⟨x14, hx14, h⟩ := bindS h
      refine wpp (gy rfl c2) (p_take hx14 rfl rfl) ?_
      refine wpp (gy rfl c2) rfl ?_
      refine wpp (gy rfl c2) rfl ?_
      refine wpp rfl (p_pick1 c2 rfl rfl) ?_
      refine wpp rfl rfl ?_
      obtain rfl := someS h
      exact (canon0 ⟨rfl, trivial⟩ trivial rfl rfl)
    · skip
      refine wsk (gn rfl c2) ?_
      refine wsk (gn rfl c2) ?_
      refine wsk (gn rfl c2) ?_
      refine wsk (gn rfl c2) ?_
      refine wsk (gn rfl c2) ?_
      refine wsk (gn rfl c2) ?_
      refine wpp rfl (p_pick0 c2 rfl rfl) ?_
      refine wpp rfl rfl ?_
      obtain rfl := someS h
      exact (canon0 ⟨rfl, trivial⟩ trivial rfl rfl)
  · clear hg1
    obtain rfl := someS h
    refine xret ?_
    exact ⟨nofun, rfl, rfl⟩
end Go.Gp
end
section
set_option linter.unusedVariables false
set_option linter.unusedSimpArgs false
set_option maxRecDepth 4000
namespace Go.Gp
open Go.Vd Go.RowKit Go.Proofs
def k48 : IC := (.seq (.reg [⟨(some 4), (.mov (.c (.str []))), none⟩]) (.seq (.seq (.reg [⟨(some 5), (.mov (.t 0)), none⟩, ⟨(some 6), (.mov (.t 1)), none⟩, ⟨(some 7), (.call 68 [(.t 5), (.t 6)]), none⟩]) (.cond (.t 7) (.seq (.reg [⟨(some 8), (.mov (.t 0)), none⟩, ⟨(some 9), (.mov (.t 1)), none⟩, ⟨(some 10), (.len true (.t 9)), none⟩, ⟨(some 11), (.slcs (.t 8) (some (.t 10)) none), none⟩, ⟨(some 4), (.mov (.t 11)), none⟩]) .ret) .skip)) (.seq (.reg [⟨(some 12), (.mov (.t 0)), none⟩, ⟨(some 4), (.mov (.t 12)), none⟩]) .ret)))
theorem k48_cf : cfunc Tryd.prog Tryd.f48 = some ⟨13, k48, [(.tmp 4)]⟩ := by kernel_rfl
theorem sat_internal_stringslite_TrimPrefix (N : Nat) (a0 : List UInt8) (a1 : List UInt8) (r : List UInt8) (h : internal_stringslite_TrimPrefix N a0 a1 = some r) : Sat Tryd.prog 48 noRows [.str a0, .str a1] (.str r) noRows := by
  refine xsat mixed Tryd.func48 k48_cf (rs := [.str r]) rfl rfl ?_
  refine xseq ?_
  refine xreg ?_
  refine wpp rfl rfl ?_
  refine xseq ?_
  refine xseq ?_
  refine xreg ?_
  refine wpp rfl rfl ?_
  refine wpp rfl rfl ?_
  obtain ⟨x7, hx7, h⟩ := bindS h
  refine woo rfl (ocal (sat_internal_stringslite_HasPrefix N _ _ _ hx7) rfl (.cons sub_rfl (.cons sub_rfl .nil)) rfl rfl rfl) ?_
  rcases bifS h with ⟨c1, h⟩ | ⟨c1, h⟩
  · refine xcT rfl c1 ?_
    refine xseq ?_
    refine xreg ?_
    refine wpp rfl rfl ?_
    refine wpp rfl rfl ?_
    refine wpp rfl rfl ?_
    obtain ⟨x11, hx11, h⟩ := bindS h
    refine wpp rfl (p_drop hx11 rfl rfl) ?_
    refine wpp rfl rfl ?_
    obtain rfl := someS h
    refine xret ?_
    exact ⟨nofun, rfl, rfl⟩
  · refine xcF rfl c1 ?_
    refine xskip ?_
    refine xseq ?_
    refine xreg ?_
    refine wpp rfl rfl ?_
    refine wpp rfl rfl ?_
    obtain rfl := someS h
    refine xret ?_
    exact ⟨nofun, rfl, rfl⟩
end Go.Gp
end
section
set_option linter.unusedVariables false
set_option linter.unusedSimpArgs false
set_option maxRecDepth 4000
namespace Go.Gp
open Go.Vd Go.RowKit Go.Proofs
def k32 : IC := (.seq (.reg [⟨(some 4), (.mov (.c (.str []))), none⟩]) (.seq (.reg [⟨(some 5), (.mov (.t 0)), none⟩, ⟨(some 6), (.mov (.t 1)), none⟩, ⟨(some 7), (.call 48 [(.t 5), (.t 6)]), none⟩, ⟨(some 4), (.mov (.t 7)), none⟩]) .ret))
theorem k32_cf : cfunc Tryd.prog Tryd.f32 = some ⟨8, k32, [(.tmp 4)]⟩ := by kernel_rfl
theorem sat_strings_TrimPrefix (N : Nat) (a0 : List UInt8) (a1 : List UInt8) (r : List UInt8) (h : strings_TrimPrefix N a0 a1 = some r) : Sat Tryd.prog 32 noRows [.str a0, .str a1] (.str r) noRows := by
  refine xsat mixed Tryd.func32 k32_cf (rs := [.str r]) rfl rfl ?_
  refine xseq ?_
  refine xreg ?_
  refine wpp rfl rfl ?_
  refine xseq ?_
  refine xreg ?_
  refine wpp rfl rfl ?_
  refine wpp rfl rfl ?_
  obtain ⟨x7, hx7, h⟩ := bindS h
  refine woo rfl (ocal (sat_internal_stringslite_TrimPrefix N _ _ _ hx7) rfl (.cons sub_rfl (.cons sub_rfl .nil)) rfl rfl rfl) ?_
  refine wpp rfl rfl ?_
  obtain rfl := someS h
  refine xret ?_
  exact ⟨nofun, rfl, rfl⟩
end Go.Gp
end
section
set_option linter.unusedVariables false
set_option linter.unusedSimpArgs false
set_option maxRecDepth 4000
namespace Go.Gp
open Go.Vd Go.RowKit Go.Proofs
def k14_l16 : IC := (.seq (.reg [⟨(some 28), (.bin .lss (.t 27) (.t 26)), none⟩]) (.seq (.cond (.t 28) .skip (.exit 0)) (.seq (.block 1 (.seq (.reg [⟨(some 29), (.ixp 1 (.t 25) (.t 27)), none⟩, ⟨(some 30), (.load 1 false (.t 29)), none⟩, ⟨(some 5), (.mov (.t 30)), none⟩]) (.seq (.reg [⟨(some 31), (.mov (.t 5)), none⟩, ⟨(some 32), (.bin .lss (.t 31) (.c (.int .u8 48))), none⟩, ⟨(some 33), (.mov (.t 32)), none⟩, ⟨(some 34), (.mov (.t 5)), (some (33, false))⟩, ⟨(some 35), (.bin .gtr (.t 34) (.c (.int .u8 57))), (some (33, false))⟩, ⟨(some 36), (.pick (.t 33) (.c (.bool true)) (.t 35)), none⟩]) (.cond (.t 36) (.seq (.reg [⟨(some 2), (.mov (.c (.bool false))), none⟩]) .ret) .skip)))) (.reg [⟨(some 37), (.bin .add (.t 27) (.c (.int .i64 1))), none⟩, ⟨(some 27), (.mov (.t 37)), none⟩]))))
def k14 : IC := (.seq (.reg [⟨(some 2), (.mov (.c (.bool false))), none⟩]) (.seq (.reg [⟨(some 6), (.mov (.t 0)), none⟩, ⟨(some 7), (.call 32 [(.t 6), (.c (.str [45]))]), none⟩, ⟨(some 3), (.mov (.t 7)), none⟩]) (.seq (.seq (.reg [⟨(some 8), (.mov (.t 3)), none⟩, ⟨(some 9), (.bin .eql (.t 8) (.c (.str []))), none⟩, ⟨(some 10), (.mov (.t 9)), none⟩, ⟨(some 11), (.mov (.t 3)), (some (10, false))⟩, ⟨(some 12), (.len true (.t 11)), (some (10, false))⟩, ⟨(some 13), (.bin .gtr (.t 12) (.c (.int .i64 15))), (some (10, false))⟩, ⟨(some 14), (.pick (.t 10) (.c (.bool true)) (.t 13)), none⟩, ⟨(some 15), (.mov (.t 14)), none⟩, ⟨(some 16), (.mov (.t 3)), (some (15, false))⟩, ⟨(some 17), (.idxs (.t 16) (.c (.int .i64 0))), (some (15, false))⟩, ⟨(some 18), (.bin .eql (.t 17) (.c (.int .u8 48))), (some (15, false))⟩, ⟨(some 19), (.mov (.t 18)), (some (15, false))⟩, ⟨(some 20), (.mov (.t 0)), (some (19, true))⟩, ⟨(some 21), (.bin .neq (.t 20) (.c (.str [48]))), (some (19, true))⟩, ⟨(some 22), (.pick (.t 19) (.t 21) (.c (.bool false))), (some (15, false))⟩, ⟨(some 23), (.pick (.t 15) (.c (.bool true)) (.t 22)), none⟩]) (.cond (.t 23) (.seq (.reg [⟨(some 2), (.mov (.c (.bool false))), none⟩]) .ret) .skip)) (.seq (.seq (.reg [⟨(some 24), (.mov (.t 3)), none⟩, ⟨(some 25), (.cvs (.t 24)), none⟩, ⟨(some 26), (.len false (.t 25)), none⟩, ⟨(some 27), (.mov (.c (.int .i64 0))), none⟩]) (.block 0 (.loop k14_l16))) (.seq (.reg [⟨(some 2), (.mov (.c (.bool true))), none⟩]) .ret)))))
theorem k14_cf : cfunc Tryd.prog Tryd.f14 = some ⟨38, k14, [(.tmp 2)]⟩ := by kernel_rfl
theorem w_schema_IsInt_l16 (N : Nat) (x7 : List UInt8) : ∀ (n : Nat) (x : Int) (y : Unit ⊕ Bool), schema_IsInt_l16 N x7 n x = some y → WX Tryd.prog (fun _ => false) (.loop k14_l16) ((fun (x : Int) => ⟨ofL [(25, .slr 25 0 x7.length), (26, .int .i64 (x7.length : Int)), (27, .int .i64 x)], ofL [(25, ⟨1, true, List.map eb x7⟩)]⟩) x) ((Sum.elim (fun y e s => e = .exit 0 ∧ s = ⟨ofL [], ofL []⟩) (fun y e s => e = .ret ∧ s = ⟨ofL [(2, .bool y)], ofL []⟩) : (Unit ⊕ Bool) → Xt → St → Prop) y) := by
  refine xloop (fun (x : Int) => ⟨ofL [(25, .slr 25 0 x7.length), (26, .int .i64 (x7.length : Int)), (27, .int .i64 x)], ofL [(25, ⟨1, true, List.map eb x7⟩)]⟩) _ (schema_IsInt_l16 N x7) (schema_IsInt_l16_b N x7) (fun _ => rfl) (fun _ _ => rfl) ?_
  rintro rec v27l16 y h
  refine xseq ?_
  refine xreg ?_
  refine wpp rfl rfl ?_
  refine xseq ?_
  rcases bifS h with ⟨c6, h⟩ | ⟨c6, h⟩
  · refine xcT rfl c6 ?_
    refine xskip ?_
    refine xseq ?_
    refine xblk ?_
    refine xseq ?_
    refine xreg ?_
    obtain ⟨x29, hx29, h⟩ := bindS h
    refine wpp rfl (p_ixr hx29 rfl rfl rfl rfl) ?_
    obtain ⟨x30, hx30, h⟩ := bindS h
    refine wpp rfl (p_ldr (f := eb) (v := eb x30) hx30 rfl rfl rfl) ?_
    refine wpp rfl rfl ?_
    obtain ⟨g7, hg7, h⟩ := bindS h
    refine xseg ⟨ofL [(25, .slr 25 0 x7.length), (26, .int .i64 (x7.length : Int)), (27, .int .i64 v27l16), (36, .bool g7)], ofL [(25, ⟨1, true, List.map eb x7⟩)]⟩ ?_ ?_
    · have h := hg7
      refine xreg ?_
      refine wpp rfl rfl ?_
      refine wpp (p := .bool (decide (((x30).toNat : Int) < (48 : Int)))) rfl rfl ?_
      refine wpp rfl rfl ?_
      rcases bifS h with ⟨c8, h⟩ | ⟨c8, h⟩
      · skip
        refine wsk (gn rfl c8) ?_
        refine wsk (gn rfl c8) ?_
        refine wpp rfl (p_pick1 c8 rfl rfl) ?_
        obtain rfl := someS h
        exact (canon0 ⟨rfl, rfl, rfl, rfl, trivial⟩ ⟨rfl, trivial⟩ rfl rfl)
      · skip
        refine wpp (gy rfl c8) rfl ?_
        refine wpp (p := .bool (decide (((x30).toNat : Int) > (57 : Int)))) (gy rfl c8) rfl ?_
        refine wpp rfl (p_pick0 c8 rfl rfl) ?_
        obtain rfl := someS h
        exact (canon0 ⟨rfl, rfl, rfl, rfl, trivial⟩ ⟨rfl, trivial⟩ rfl rfl)
    · clear hg7
      rcases bifS h with ⟨c9, h⟩ | ⟨c9, h⟩
      · refine xcT rfl c9 ?_
        refine xseq ?_
        refine xreg ?_
        refine wpp rfl rfl ?_
        obtain rfl := someS h
        exact xretn (st1 := ⟨ofL [(2, .bool false)], ofL []⟩) (canon0 ⟨rfl, trivial⟩ trivial rfl rfl) ⟨rfl, rfl⟩
      · refine xcF rfl c9 ?_
        refine xskip ?_
        refine xreg ?_
        refine wpp (p := .int .i64 (w64 (v27l16 + (1 : Int)))) rfl rfl ?_
        refine wpp rfl rfl ?_
        exact ⟨(w64 (v27l16 + (1 : Int))), (canon0 ⟨rfl, rfl, rfl, trivial⟩ ⟨rfl, trivial⟩ rfl rfl), h⟩
  · refine xcF rfl c6 ?_
    obtain rfl := someS h
    exact xexitn (st1 := ⟨ofL [], ofL []⟩) (canon0 trivial trivial rfl rfl) ⟨rfl, rfl⟩
theorem sat_schema_IsInt (N : Nat) (a0 : List UInt8) (r : Bool) (h : schema_IsInt N a0 = some r) : Sat Tryd.prog 14 noRows [.str a0] (.bool r) noRows := by
  refine xsat mixed Tryd.func14 k14_cf (rs := [.bool r]) rfl rfl ?_
  refine xseq ?_
  refine xreg ?_
  refine wpp rfl rfl ?_
  refine xseq ?_
  refine xreg ?_
  refine wpp rfl rfl ?_
  obtain ⟨x7, hx7, h⟩ := bindS h
  refine woo rfl (ocal (sat_strings_TrimPrefix N _ _ _ hx7) rfl (.cons sub_rfl (.cons sub_rfl .nil)) rfl rfl rfl) ?_
  refine wpp rfl rfl ?_
  refine xseq ?_
  obtain ⟨g1, hg1, h⟩ := bindS h
  refine xseg ⟨ofL [(3, .str x7), (23, .bool g1)], ofL []⟩ ?_ ?_
  · have h := hg1
    refine xreg ?_
    refine wpp rfl rfl ?_
    refine wpp rfl rfl ?_
    refine wpp rfl rfl ?_
    rcases bifS h with ⟨c2, h⟩ | ⟨c2, h⟩
    · skip
      refine wsk (gn rfl c2) ?_
      refine wsk (gn rfl c2) ?_
      refine wsk (gn rfl c2) ?_
      refine wpp rfl (p_pick1 c2 rfl rfl) ?_
      refine wpp rfl rfl ?_
      refine wsk rfl ?_
      refine wsk rfl ?_
      refine wsk rfl ?_
      refine wsk rfl ?_
      refine wsk (gu rfl) ?_
      refine wsk (gu rfl) ?_
      refine wsk rfl ?_
      refine wpp rfl rfl ?_
      obtain rfl := someS h
      exact (canon0 ⟨rfl, rfl, trivial⟩ trivial rfl rfl)
    · skip
      refine wpp (gy rfl c2) rfl ?_
      refine wpp (gy rfl c2) rfl ?_
      refine wpp (gy rfl c2) rfl ?_
      refine wpp rfl (p_pick0 c2 rfl rfl) ?_
      refine wpp rfl rfl ?_
      rcases bifS h with ⟨c3, h⟩ | ⟨c3, h⟩
      · skip
        refine wsk (gn rfl c3) ?_
        refine wsk (gn rfl c3) ?_
        refine wsk (gn rfl c3) ?_
        refine wsk (gn rfl c3) ?_
        refine wsk (gu rfl) ?_
        refine wsk (gu rfl) ?_
        refine wsk (gn rfl c3) ?_
        refine wpp rfl (p_pick1 c3 rfl rfl) ?_
        obtain rfl := someS h
        exact (canon0 ⟨rfl, rfl, trivial⟩ trivial rfl rfl)
      · skip
        refine wpp (gy rfl c3) rfl ?_
        obtain ⟨x17, hx17, h⟩ := bindS h
        refine wpp (gy rfl c3) (p_idx hx17 rfl rfl) ?_
        refine wpp (p := .bool (((x17).toNat : Int) == (48 : Int))) (gy rfl c3) rfl ?_
        refine wpp (gy rfl c3) rfl ?_
        rcases bifS h with ⟨c4, h⟩ | ⟨c4, h⟩
        · skip
          refine wpp (gy rfl c4) rfl ?_
          refine wpp (gy rfl c4) rfl ?_
          refine wpp (gy rfl c3) (p_pick1 c4 rfl rfl) ?_
          refine wpp rfl (p_pick0 c3 rfl rfl) ?_
          obtain rfl := someS h
          exact (canon0 ⟨rfl, rfl, trivial⟩ trivial rfl rfl)
        · skip
          refine wsk (gn rfl c4) ?_
          refine wsk (gn rfl c4) ?_
          refine wpp (gy rfl c3) (p_pick0 c4 rfl rfl) ?_
          refine wpp rfl (p_pick0 c3 rfl rfl) ?_
          obtain rfl := someS h
          exact (canon0 ⟨rfl, rfl, trivial⟩ trivial rfl rfl)
  · clear hg1
    rcases bifS h with ⟨c5, h⟩ | ⟨c5, h⟩
    · refine xcT rfl c5 ?_
      refine xseq ?_
      refine xreg ?_
      refine wpp rfl rfl ?_
      obtain rfl := someS h
      refine xret ?_
      exact ⟨nofun, rfl, rfl⟩
    · refine xcF rfl c5 ?_
      refine xskip ?_
      refine xseq ?_
      refine xseq ?_
      refine xreg ?_
      refine wpp rfl rfl ?_
      refine woo rfl (ocvs 25 rfl rfl) ?_
      refine wpp rfl rfl ?_
      refine wpp rfl rfl ?_
      refine xblk ?_
      obtain ⟨y10, hy10, h⟩ := bindS h
      refine xloopU (st1 := ⟨ofL [(25, .slr 25 0 x7.length), (26, .int .i64 (x7.length : Int)), (27, .int .i64 0)], ofL [(25, ⟨1, true, List.map eb x7⟩)]⟩) (canon0 ⟨rfl, rfl, rfl, trivial⟩ ⟨rfl, trivial⟩ rfl rfl) (w_schema_IsInt_l16 N x7 N _ _ hy10) ?_
      clear hy10
      rcases y10 with y10 | y10
      · rintro e s ⟨rfl, rfl⟩
        refine xseq ?_
        refine xreg ?_
        refine wpp rfl rfl ?_
        obtain rfl := someS h
        refine xret ?_
        exact ⟨nofun, rfl, rfl⟩
      · rintro e s ⟨rfl, rfl⟩
        obtain rfl := someS h
        exact ⟨nofun, rfl, rfl⟩
end Go.Gp
end
section
set_option linter.unusedVariables false
set_option linter.unusedSimpArgs false
set_option maxRecDepth 4000
namespace Go.Gp
open Go.Vd Go.RowKit Go.Proofs
def k64_l10 : IC := (.seq (.seq (.reg [⟨(some 8), (.mov (.t 7)), none⟩, ⟨(some 9), (.mov (.t 0)), none⟩, ⟨(some 10), (.len true (.t 9)), none⟩, ⟨(some 11), (.bin .lss (.t 8) (.t 10)), none⟩]) (.cond (.t 11) .skip (.exit 0))) (.seq (.block 1 (.seq (.reg [⟨(some 14), (.mov (.t 0)), none⟩, ⟨(some 15), (.mov (.t 7)), none⟩, ⟨(some 16), (.idxs (.t 14) (.t 15)), none⟩]) (.block 2 (.seq (.reg [⟨(some 18), (.bin .eql (.t 16) (.c (.int .u8 92))), none⟩, ⟨(some 17), (.mov (.t 18)), none⟩]) (.cond (.t 17) (.reg [⟨(some 19), (.mov (.t 7)), none⟩, ⟨(some 20), (.bin .add (.t 19) (.c (.int .i64 1))), none⟩, ⟨(some 7), (.mov (.t 20)), none⟩]) (.seq (.reg [⟨(some 22), (.mov (.t 1)), none⟩, ⟨(some 23), (.bin .eql (.t 16) (.t 22)), none⟩, ⟨(some 21), (.mov (.t 23)), none⟩]) (.cond (.t 21) (.seq (.reg [⟨(some 24), (.mov (.t 5)), none⟩, ⟨(some 25), (.mov (.t 0)), none⟩, ⟨(some 26), (.mov (.t 6)), none⟩, ⟨(some 27), (.mov (.t 7)), none⟩, ⟨(some 28), (.slcs (.t 25) (some (.t 26)) (some (.t 27))), none⟩, ⟨(some 29), (.bsl 1 [(.t 28)]), none⟩, ⟨(some 30), (.app 9 1 16 (.t 24) (.t 29)), none⟩, ⟨(some 5), (.mov (.t 30)), none⟩]) (.reg [⟨(some 31), (.mov (.t 7)), none⟩, ⟨(some 32), (.bin .add (.t 31) (.c (.int .i64 1))), none⟩, ⟨(some 6), (.mov (.t 32)), none⟩])) .skip))))))) (.reg [⟨(some 12), (.mov (.t 7)), none⟩, ⟨(some 13), (.bin .add (.t 12) (.c (.int .i64 1))), none⟩, ⟨(some 7), (.mov (.t 13)), none⟩])))
def k64 : IC := (.seq (.reg [⟨(some 4), (.mov (.c .nl)), none⟩]) (.seq (.reg [⟨(some 5), (.mov (.c .nl)), none⟩]) (.seq (.reg [⟨(some 6), (.mov (.c (.int .i64 0))), none⟩]) (.seq (.seq (.reg [⟨(some 7), (.mov (.c (.int .i64 0))), none⟩]) (.block 0 (.loop k64_l10))) (.seq (.reg [⟨(some 33), (.mov (.t 5)), none⟩, ⟨(some 34), (.mov (.t 0)), none⟩, ⟨(some 35), (.mov (.t 6)), none⟩, ⟨(some 36), (.slcs (.t 34) (some (.t 35)) none), none⟩, ⟨(some 37), (.bsl 1 [(.t 36)]), none⟩, ⟨(some 38), (.app 9 1 16 (.t 33) (.t 37)), none⟩, ⟨(some 4), (.mov (.t 38)), none⟩]) .ret)))))
theorem k64_cf : cfunc Tryd.prog Tryd.f64 = some ⟨39, k64, [(.tmp 4)]⟩ := by kernel_rfl
theorem w_dn_cut_l10 (N : Nat) (a0 : List UInt8) (a1 : UInt8) : ∀ (n : Nat) (x : Int × Int × List (List UInt8)) (y : Int × List (List UInt8)), dn_cut_l10 N a0 a1 n x = some y → WX Tryd.prog (fun _ => false) (.loop k64_l10) ((fun (x : Int × Int × List (List UInt8)) => ⟨ofL [(0, .str a0), (1, eb a1), (5, .slr 1005 0 x.2.2.length), (6, .int .i64 x.1), (7, .int .i64 x.2.1)], ofL [(1005, ⟨1, true, List.map PV.str x.2.2⟩)]⟩) x) ((fun y e s => e = .exit 0 ∧ s = ⟨ofL [(0, .str a0), (5, .slr 1005 0 y.2.length), (6, .int .i64 y.1)], ofL [(1005, ⟨1, true, List.map PV.str y.2⟩)]⟩ : (Int × List (List UInt8)) → Xt → St → Prop) y) := by
  refine xloop (fun (x : Int × Int × List (List UInt8)) => ⟨ofL [(0, .str a0), (1, eb a1), (5, .slr 1005 0 x.2.2.length), (6, .int .i64 x.1), (7, .int .i64 x.2.1)], ofL [(1005, ⟨1, true, List.map PV.str x.2.2⟩)]⟩) _ (dn_cut_l10 N a0 a1) (dn_cut_l10_b N a0 a1) (fun _ => rfl) (fun _ _ => rfl) ?_
  rintro rec ⟨v6l10, v7l10, r1005l10⟩ y h
  refine xseq ?_
  refine xseq ?_
  refine xreg ?_
  refine wpp rfl rfl ?_
  refine wpp rfl rfl ?_
  refine wpp rfl rfl ?_
  refine wpp rfl rfl ?_
  rcases bifS h with ⟨c1, h⟩ | ⟨c1, h⟩
  · refine xcT rfl c1 ?_
    refine xskip ?_
    refine xjoin (fun (x : Int × Int × List (List UInt8)) => ⟨ofL [(0, .str a0), (1, eb a1), (5, .slr 1005 0 x.2.2.length), (6, .int .i64 x.1), (7, .int .i64 x.2.1)], ofL [(1005, ⟨1, true, List.map PV.str x.2.2⟩)]⟩) (fun x => dn_cut_j17 rec x.1 x.2.1 x.2.2 = some y) ?_ ?_
    · rintro ⟨v6j17, v7j17, r1005j17⟩ h
      refine xreg ?_
      refine wpp rfl rfl ?_
      refine wpp (p := .int .i64 (w64 (v7j17 + (1 : Int)))) rfl rfl ?_
      refine wpp rfl rfl ?_
      exact ⟨(v6j17, (w64 (v7j17 + (1 : Int))), r1005j17), (canon0 ⟨rfl, rfl, rfl, rfl, rfl, trivial⟩ ⟨rfl, trivial⟩ rfl rfl), h⟩
    · skip
      refine xblk ?_
      refine xseq ?_
      refine xreg ?_
      refine wpp rfl rfl ?_
      refine wpp rfl rfl ?_
      obtain ⟨x16, hx16, h⟩ := bindS h
      refine wpp rfl (p_idx hx16 rfl rfl) ?_
      refine xblk ?_
      refine xseq ?_
      refine xreg ?_
      refine wpp (p := .bool (((x16).toNat : Int) == (92 : Int))) rfl rfl ?_
      refine wpp rfl rfl ?_
      rcases bifS h with ⟨c2, h⟩ | ⟨c2, h⟩
      · refine xcT rfl c2 ?_
        refine xreg ?_
        refine wpp rfl rfl ?_
        refine wpp (p := .int .i64 (w64 (v7l10 + (1 : Int)))) rfl rfl ?_
        refine wpp rfl rfl ?_
        exact ⟨(v6l10, (w64 (v7l10 + (1 : Int))), r1005l10), (canon0 ⟨rfl, rfl, rfl, rfl, rfl, trivial⟩ ⟨rfl, trivial⟩ rfl rfl), h⟩
      · refine xcF rfl c2 ?_
        refine xseq ?_
        refine xreg ?_
        refine wpp rfl rfl ?_
        refine wpp (p := .bool (((x16).toNat : Int) == ((a1).toNat : Int))) rfl rfl ?_
        refine wpp rfl rfl ?_
        rcases bifS h with ⟨c3, h⟩ | ⟨c3, h⟩
        · refine xcT rfl c3 ?_
          refine xseq ?_
          refine xreg ?_
          refine wpp rfl rfl ?_
          refine wpp rfl rfl ?_
          refine wpp rfl rfl ?_
          refine wpp rfl rfl ?_
          obtain ⟨x28, hx28, h⟩ := bindS h
          refine wpp rfl (p_cut hx28 rfl rfl rfl) ?_
          refine woo rfl (obsl 29 rfl rfl rfl) ?_
          obtain ⟨x30, hx30, h⟩ := bindS h
          refine wapp (f := PV.str) 30 hx30 rfl rfl rfl rfl rfl (el_row rfl (full_row (f := PV.str) (l := [x28]))) rfl rfl rfl rfl ?_
          refine wpp rfl rfl ?_
          refine xreg ?_
          refine wpp rfl rfl ?_
          refine wpp (p := .int .i64 (w64 (v7l10 + (1 : Int)))) rfl rfl ?_
          refine wpp rfl rfl ?_
          exact ⟨((w64 (v7l10 + (1 : Int))), v7l10, x30), (Norm.trans (rename 30 1005 rfl rfl) (canon0 ⟨rfl, rfl, rfl, rfl, rfl, trivial⟩ ⟨rfl, trivial⟩ rfl rfl)), h⟩
        · refine xcF rfl c3 ?_
          refine xskip ?_
          exact ⟨(v6l10, v7l10, r1005l10), (canon0 ⟨rfl, rfl, rfl, rfl, rfl, trivial⟩ ⟨rfl, trivial⟩ rfl rfl), h⟩
  · refine xcF rfl c1 ?_
    obtain rfl := someS h
    exact xexitn (st1 := ⟨ofL [(0, .str a0), (5, .slr 1005 0 r1005l10.length), (6, .int .i64 v6l10)], ofL [(1005, ⟨1, true, List.map PV.str r1005l10⟩)]⟩) (canon0 ⟨rfl, rfl, rfl, trivial⟩ ⟨rfl, trivial⟩ rfl rfl) ⟨rfl, rfl⟩
theorem sat_dn_cut (N : Nat) (a0 : List UInt8) (a1 : UInt8) (r : List (List UInt8)) (h : dn_cut N a0 a1 = some r) : Sat Tryd.prog 64 noRows [.str a0, eb a1] (.sl 1 (List.map PV.str r)) noRows := by
  refine xsat mixed Tryd.func64 k64_cf (rs := [.sl 1 (List.map PV.str r)]) rfl rfl ?_
  refine xseq ?_
  refine xreg ?_
  refine wpp rfl rfl ?_
  refine xseq ?_
  refine xreg ?_
  refine wpp rfl rfl ?_
  refine xseq ?_
  refine xreg ?_
  refine wpp rfl rfl ?_
  refine xseq ?_
  refine xseq ?_
  refine xreg ?_
  refine wpp rfl rfl ?_
  refine xblk ?_
  obtain ⟨y4, hy4, h⟩ := bindS h
  refine xloopU (st1 := ⟨ofL [(0, .str a0), (1, eb a1), (5, .slr 1005 0 ([].length)), (6, .int .i64 0), (7, .int .i64 0)], ofL [(1005, ⟨1, true, List.map PV.str []⟩)]⟩) (Norm.trans (nlrow 5 1005 1 true rfl rfl rfl) (canon0 ⟨rfl, rfl, rfl, rfl, rfl, trivial⟩ ⟨rfl, trivial⟩ rfl rfl)) (w_dn_cut_l10 N a0 a1 N _ _ hy4) ?_
  rintro e s ⟨rfl, rfl⟩
  refine xseq ?_
  refine xreg ?_
  refine wpp rfl rfl ?_
  refine wpp rfl rfl ?_
  refine wpp rfl rfl ?_
  obtain ⟨x36, hx36, h⟩ := bindS h
  refine wpp rfl (p_drop hx36 rfl rfl) ?_
  refine woo rfl (obsl 37 rfl rfl rfl) ?_
  obtain ⟨x38, hx38, h⟩ := bindS h
  refine wapp (f := PV.str) 38 hx38 rfl rfl rfl rfl rfl (el_row rfl (full_row (f := PV.str) (l := [x36]))) rfl rfl rfl rfl ?_
  refine wpp rfl rfl ?_
  obtain rfl := someS h
  refine xretn (st1 := ⟨ofL [(4, .sl 1 (List.map PV.str x38))], ofL []⟩) (Norm.trans (Vd.freeze 38 _ rfl rfl rfl) (Norm.trans (nsub 4 (sub_eq (congrArg (PV.sl 1) (full_row (f := PV.str) (l := x38)))) rfl) (canon0 ⟨rfl, trivial⟩ trivial rfl rfl))) ?_
  exact ⟨nofun, rfl, rfl⟩
end Go.Gp
end
