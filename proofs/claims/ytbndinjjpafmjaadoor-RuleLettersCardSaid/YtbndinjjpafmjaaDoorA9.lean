/- A part of the proof: functions of the program and what they compute. -/
import Derived.Test.YtbndinjjpafmjaaDoorA6
import Derived.Test.YtbndinjjpafmjaaDoorA8
section
set_option linter.unusedVariables false
set_option linter.unusedSimpArgs false
set_option maxRecDepth 4000
namespace Go.Gp
open Go.Vd Go.RowKit Go.Proofs
def k50_l34 : IC := (.seq (.seq (.reg [⟨(some 34), (.mov (.t 10)), none⟩, ⟨(some 35), (.mov (.t 3)), none⟩, ⟨(some 36), (.bin .lss (.t 34) (.t 35)), none⟩]) (.cond (.t 36) .skip (.exit 0))) (.block 1 (.seq (.reg [⟨(some 37), (.mov (.t 0)), none⟩, ⟨(some 38), (.mov (.t 1)), none⟩, ⟨(some 39), (.call 72 [(.t 37), (.t 38)]), none⟩, ⟨(some 11), (.mov (.t 39)), none⟩]) (.seq (.seq (.reg [⟨(some 40), (.mov (.t 11)), none⟩, ⟨(some 41), (.bin .lss (.t 40) (.c (.int .i64 0))), none⟩]) (.cond (.t 41) (.exit 0) .skip)) (.seq (.reg [⟨(some 42), (.mov (.t 9)), none⟩, ⟨(some 43), (.mov (.t 10)), none⟩, ⟨(some 44), (.mov (.t 0)), none⟩, ⟨(some 45), (.mov (.t 11)), none⟩, ⟨(some 46), (.mov (.t 2)), none⟩, ⟨(some 47), (.bin .add (.t 45) (.t 46)), none⟩, ⟨(some 48), (.slcs (.t 44) none (some (.t 47))), none⟩, ⟨(some 49), (.ixp 1 (.t 42) (.t 43)), none⟩, ⟨none, (.store 1 (.t 49) (.t 48)), none⟩]) (.seq (.reg [⟨(some 50), (.mov (.t 0)), none⟩, ⟨(some 51), (.mov (.t 11)), none⟩, ⟨(some 52), (.mov (.t 1)), none⟩, ⟨(some 53), (.len true (.t 52)), none⟩, ⟨(some 54), (.bin .add (.t 51) (.t 53)), none⟩, ⟨(some 55), (.slcs (.t 50) (some (.t 54)) none), none⟩, ⟨(some 0), (.mov (.t 55)), none⟩]) (.reg [⟨(some 56), (.mov (.t 10)), none⟩, ⟨(some 57), (.bin .add (.t 56) (.c (.int .i64 1))), none⟩, ⟨(some 10), (.mov (.t 57)), none⟩])))))))
def k50 : IC := (.seq (.reg [⟨(some 8), (.mov (.c .nl)), none⟩]) (.seq (.seq (.reg [⟨(some 12), (.mov (.t 3)), none⟩, ⟨(some 13), (.bin .eql (.t 12) (.c (.int .i64 0))), none⟩]) (.cond (.t 13) (.seq (.reg [⟨(some 8), (.mov (.c .nl)), none⟩]) .ret) .skip)) (.seq (.seq (.reg [⟨(some 14), (.mov (.t 1)), none⟩, ⟨(some 15), (.bin .eql (.t 14) (.c (.str []))), none⟩]) (.cond (.t 15) (.seq (.reg [⟨(some 16), (.mov (.t 0)), none⟩, ⟨(some 17), (.mov (.t 3)), none⟩, ⟨(some 18), (.call 70 [(.t 16), (.t 17)]), none⟩, ⟨(some 8), (.mov (.t 18)), none⟩]) .ret) .skip)) (.seq (.seq (.reg [⟨(some 19), (.mov (.t 3)), none⟩, ⟨(some 20), (.bin .lss (.t 19) (.c (.int .i64 0))), none⟩]) (.cond (.t 20) (.reg [⟨(some 21), (.mov (.t 0)), none⟩, ⟨(some 22), (.mov (.t 1)), none⟩, ⟨(some 23), (.call 71 [(.t 21), (.t 22)]), none⟩, ⟨(some 24), (.bin .add (.t 23) (.c (.int .i64 1))), none⟩, ⟨(some 3), (.mov (.t 24)), none⟩]) .skip)) (.seq (.reg [⟨(some 25), (.mov (.t 3)), none⟩, ⟨(some 26), (.mov (.t 0)), none⟩, ⟨(some 27), (.len true (.t 26)), none⟩, ⟨(some 28), (.bin .add (.t 27) (.c (.int .i64 1))), none⟩, ⟨(some 29), (.mm false (.t 25) [(.t 28)]), none⟩, ⟨(some 3), (.mov (.t 29)), none⟩]) (.seq (.reg [⟨(some 30), (.mov (.t 3)), none⟩, ⟨(some 31), (.mks 1 16 (.str []) (.t 30)), none⟩, ⟨(some 9), (.mov (.t 31)), none⟩]) (.seq (.reg [⟨(some 32), (.mov (.t 3)), none⟩, ⟨(some 33), (.bin .sub (.t 32) (.c (.int .i64 1))), none⟩, ⟨(some 3), (.mov (.t 33)), none⟩]) (.seq (.reg [⟨(some 10), (.mov (.c (.int .i64 0))), none⟩]) (.seq (.block 0 (.loop k50_l34)) (.seq (.reg [⟨(some 58), (.mov (.t 9)), none⟩, ⟨(some 59), (.mov (.t 10)), none⟩, ⟨(some 60), (.mov (.t 0)), none⟩, ⟨(some 61), (.ixp 1 (.t 58) (.t 59)), none⟩, ⟨none, (.store 1 (.t 61) (.t 60)), none⟩]) (.seq (.reg [⟨(some 62), (.mov (.t 9)), none⟩, ⟨(some 63), (.mov (.t 10)), none⟩, ⟨(some 64), (.bin .add (.t 63) (.c (.int .i64 1))), none⟩, ⟨(some 65), (.slcl 1 (.t 62) none (some (.t 64))), none⟩, ⟨(some 8), (.mov (.t 65)), none⟩]) .ret)))))))))))
theorem k50_cf : cfunc Tryd.prog Tryd.f50 = some ⟨66, k50, [(.tmp 8)]⟩ := by kernel_rfl
theorem w_strings_genSplit_l34 (N : Nat) (a0 : List UInt8) (a1 : List UInt8) (a2 : Int) (v3j18 : Int) : ∀ (n : Nat) (x : List UInt8 × Int × List (List UInt8)) (y : List UInt8 × Int × List (List UInt8)), strings_genSplit_l34 N a0 a1 a2 v3j18 n x = some y → WX Tryd.prog (fun _ => false) (.loop k50_l34) ((fun (x : List UInt8 × Int × List (List UInt8)) => ⟨ofL [(0, .str x.1), (1, .str a1), (2, .int .i64 a2), (3, .int .i64 (w64 ((mn v3j18 (w64 ((a0.length : Int) + (1 : Int)))) - (1 : Int)))), (9, .slr 31 0 x.2.2.length), (10, .int .i64 x.2.1)], ofL [(31, ⟨1, true, List.map PV.str x.2.2⟩)]⟩) x) ((fun y e s => e = .exit 0 ∧ s = ⟨ofL [(0, .str y.1), (9, .slr 31 0 y.2.2.length), (10, .int .i64 y.2.1)], ofL [(31, ⟨1, true, List.map PV.str y.2.2⟩)]⟩ : (List UInt8 × Int × List (List UInt8)) → Xt → St → Prop) y) := by
  refine xloop (fun (x : List UInt8 × Int × List (List UInt8)) => ⟨ofL [(0, .str x.1), (1, .str a1), (2, .int .i64 a2), (3, .int .i64 (w64 ((mn v3j18 (w64 ((a0.length : Int) + (1 : Int)))) - (1 : Int)))), (9, .slr 31 0 x.2.2.length), (10, .int .i64 x.2.1)], ofL [(31, ⟨1, true, List.map PV.str x.2.2⟩)]⟩) _ (strings_genSplit_l34 N a0 a1 a2 v3j18) (strings_genSplit_l34_b N a0 a1 a2 v3j18) (fun _ => rfl) (fun _ _ => rfl) ?_
  rintro rec ⟨v0l34, v10l34, r31l34⟩ y h
  refine xseq ?_
  refine xseq ?_
  refine xreg ?_
  refine wpp rfl rfl ?_
  refine wpp rfl rfl ?_
  refine wpp rfl rfl ?_
  rcases bifS h with ⟨c3, h⟩ | ⟨c3, h⟩
  · refine xcT rfl c3 ?_
    refine xskip ?_
    refine xblk ?_
    refine xseq ?_
    refine xreg ?_
    refine wpp rfl rfl ?_
    refine wpp rfl rfl ?_
    obtain ⟨x39, hx39, h⟩ := bindS h
    refine woo rfl (ocal (sat_strings_Index N _ _ _ hx39) rfl (.cons sub_rfl (.cons sub_rfl .nil)) rfl rfl rfl) ?_
    refine wpp rfl rfl ?_
    refine xseq ?_
    refine xseq ?_
    refine xreg ?_
    refine wpp rfl rfl ?_
    refine wpp rfl rfl ?_
    rcases bifS h with ⟨c4, h⟩ | ⟨c4, h⟩
    · refine xcT rfl c4 ?_
      obtain rfl := someS h
      exact xexitn (st1 := ⟨ofL [(0, .str v0l34), (9, .slr 31 0 r31l34.length), (10, .int .i64 v10l34)], ofL [(31, ⟨1, true, List.map PV.str r31l34⟩)]⟩) (canon0 ⟨rfl, rfl, rfl, trivial⟩ ⟨rfl, trivial⟩ rfl rfl) ⟨rfl, rfl⟩
    · refine xcF rfl c4 ?_
      refine xskip ?_
      refine xseq ?_
      refine xreg ?_
      refine wpp rfl rfl ?_
      refine wpp rfl rfl ?_
      refine wpp rfl rfl ?_
      refine wpp rfl rfl ?_
      refine wpp rfl rfl ?_
      refine wpp (p := .int .i64 (w64 (x39 + a2))) rfl rfl ?_
      obtain ⟨x48, hx48, h⟩ := bindS h
      refine wpp rfl (p_take hx48 rfl rfl) ?_
      obtain ⟨x49, hx49, h⟩ := bindS h
      refine wpp rfl (p_ixr hx49 rfl rfl rfl rfl) ?_
      obtain ⟨x9004, hx9004, h⟩ := bindS h
      refine wsto (f := PV.str) (e' := x48) hx9004 rfl rfl rfl rfl rfl rfl rfl rfl (fun _ => rfl) rfl ?_
      refine xseq ?_
      refine xreg ?_
      refine wpp rfl rfl ?_
      refine wpp rfl rfl ?_
      refine wpp rfl rfl ?_
      refine wpp rfl rfl ?_
      refine wpp (p := .int .i64 (w64 (x39 + (a1.length : Int)))) rfl rfl ?_
      obtain ⟨x55, hx55, h⟩ := bindS h
      refine wpp rfl (p_drop hx55 rfl rfl) ?_
      refine wpp rfl rfl ?_
      refine xreg ?_
      refine wpp rfl rfl ?_
      refine wpp (p := .int .i64 (w64 (v10l34 + (1 : Int)))) rfl rfl ?_
      refine wpp rfl rfl ?_
      exact ⟨(x55, (w64 (v10l34 + (1 : Int))), (r31l34.set x49 x48)), (Norm.trans (nsub 9 (sub_eq (congrArg (PV.slr 31 0) (by simp only [List.length_set, List.length_replicate] : r31l34.length = (r31l34.set x49 x48).length))) rfl) (canon0 ⟨rfl, rfl, rfl, rfl, rfl, rfl, trivial⟩ ⟨rfl, trivial⟩ rfl rfl)), h⟩
  · refine xcF rfl c3 ?_
    obtain rfl := someS h
    exact xexitn (st1 := ⟨ofL [(0, .str v0l34), (9, .slr 31 0 r31l34.length), (10, .int .i64 v10l34)], ofL [(31, ⟨1, true, List.map PV.str r31l34⟩)]⟩) (canon0 ⟨rfl, rfl, rfl, trivial⟩ ⟨rfl, trivial⟩ rfl rfl) ⟨rfl, rfl⟩
theorem sat_strings_genSplit (N : Nat) (a0 : List UInt8) (a1 : List UInt8) (a2 : Int) (a3 : Int) (r : List (List UInt8)) (h : strings_genSplit N a0 a1 a2 a3 = some r) : Sat Tryd.prog 50 noRows [.str a0, .str a1, .int .i64 a2, .int .i64 a3] (.sl 1 (List.map PV.str r)) noRows := by
  refine xsat mixed Tryd.func50 k50_cf (rs := [.sl 1 (List.map PV.str r)]) rfl rfl ?_
  refine xseq ?_
  refine xreg ?_
  refine wpp rfl rfl ?_
  refine xseq ?_
  refine xseq ?_
  refine xreg ?_
  refine wpp rfl rfl ?_
  refine wpp rfl rfl ?_
  rcases bifS h with ⟨c1, h⟩ | ⟨c1, h⟩
  · refine xcT rfl c1 ?_
    refine xseq ?_
    refine xreg ?_
    refine wpp rfl rfl ?_
    obtain rfl := someS h
    refine xretn (st1 := ⟨ofL [(8, .sl 1 (List.map PV.str []))], ofL []⟩) (Norm.trans (nsub 8 (sub_nl 1) rfl) (canon0 ⟨rfl, trivial⟩ trivial rfl rfl)) ?_
    exact ⟨nofun, rfl, rfl⟩
  · refine xcF rfl c1 ?_
    refine xskip ?_
    refine xseq ?_
    refine xseq ?_
    refine xreg ?_
    refine wpp rfl rfl ?_
    refine wpp rfl rfl ?_
    rcases bifS h with ⟨c2, h⟩ | ⟨c2, h⟩
    · refine xcT rfl c2 ?_
      refine xseq ?_
      refine xreg ?_
      refine wpp rfl rfl ?_
      refine wpp rfl rfl ?_
      obtain ⟨x18, hx18, h⟩ := bindS h
      refine woo rfl (ocal (sat_strings_explode N _ _ _ hx18) rfl (.cons sub_rfl (.cons sub_rfl .nil)) rfl rfl rfl) ?_
      refine wpp rfl rfl ?_
      obtain rfl := someS h
      refine xret ?_
      exact ⟨nofun, rfl, rfl⟩
    · refine xcF rfl c2 ?_
      refine xskip ?_
      refine xjoin (fun (x : Int) => ⟨ofL [(0, .str a0), (1, .str a1), (2, .int .i64 a2), (3, .int .i64 x)], ofL []⟩) (fun x => strings_genSplit_j18 a0 a1 a2 N x = some r) ?_ ?_
      · rintro v3j18 h
        refine xseq ?_
        refine xreg ?_
        refine wpp rfl rfl ?_
        refine wpp rfl rfl ?_
        refine wpp rfl rfl ?_
        refine wpp (p := .int .i64 (w64 ((a0.length : Int) + (1 : Int)))) rfl rfl ?_
        refine wpp (p := .int .i64 (mn v3j18 (w64 ((a0.length : Int) + (1 : Int))))) rfl rfl ?_
        refine wpp rfl rfl ?_
        refine xseq ?_
        refine xreg ?_
        refine wpp rfl rfl ?_
        obtain ⟨x31, hx31, h⟩ := bindS h
        refine wmks (f := PV.str) (e := ([] : List UInt8)) 31 hx31 rfl rfl rfl rfl rfl rfl ?_
        refine wpp rfl rfl ?_
        refine xseq ?_
        refine xreg ?_
        refine wpp rfl rfl ?_
        refine wpp (p := .int .i64 (w64 ((mn v3j18 (w64 ((a0.length : Int) + (1 : Int)))) - (1 : Int)))) rfl rfl ?_
        refine wpp rfl rfl ?_
        refine xseq ?_
        refine xreg ?_
        refine wpp rfl rfl ?_
        refine xseq ?_
        refine xblk ?_
        obtain ⟨y6, hy6, h⟩ := bindS h
        refine xloopU (st1 := ⟨ofL [(0, .str a0), (1, .str a1), (2, .int .i64 a2), (3, .int .i64 (w64 ((mn v3j18 (w64 ((a0.length : Int) + (1 : Int)))) - (1 : Int)))), (9, .slr 31 0 ((List.replicate x31 ([] : List UInt8)).length)), (10, .int .i64 0)], ofL [(31, ⟨1, true, List.map PV.str (List.replicate x31 ([] : List UInt8))⟩)]⟩) (Norm.trans (nsub 9 (sub_eq (congrArg (PV.slr 31 0) (by simp only [List.length_set, List.length_replicate] : x31 = (List.replicate x31 ([] : List UInt8)).length))) rfl) (canon0 ⟨rfl, rfl, rfl, rfl, rfl, rfl, trivial⟩ ⟨rfl, trivial⟩ rfl rfl)) (w_strings_genSplit_l34 N a0 a1 a2 v3j18 N _ _ hy6) ?_
        rintro e s ⟨rfl, rfl⟩
        refine xseq ?_
        refine xreg ?_
        refine wpp rfl rfl ?_
        refine wpp rfl rfl ?_
        refine wpp rfl rfl ?_
        obtain ⟨x61, hx61, h⟩ := bindS h
        refine wpp rfl (p_ixr hx61 rfl rfl rfl rfl) ?_
        obtain ⟨x9006, hx9006, h⟩ := bindS h
        refine wsto (f := PV.str) (e' := y6.1) hx9006 rfl rfl rfl rfl rfl rfl rfl rfl (fun _ => rfl) rfl ?_
        refine xseq ?_
        refine xreg ?_
        refine wpp rfl rfl ?_
        refine wpp rfl rfl ?_
        refine wpp (p := .int .i64 (w64 (y6.2.1 + (1 : Int)))) rfl rfl ?_
        obtain ⟨x65, hx65, h⟩ := bindS h
        refine wpp rfl (p_taker hx65 rfl (by simp only [List.length_set, List.length_replicate]) rfl rfl rfl) ?_
        refine wpp rfl rfl ?_
        obtain rfl := someS h
        refine xretn (st1 := ⟨ofL [(8, .sl 1 (List.map PV.str x65))], ofL []⟩) (Norm.trans (Vd.freeze 31 _ rfl rfl rfl) (Norm.trans (nsub 8 (sub_eq (congrArg (PV.sl 1) (take_row hx65))) rfl) (canon0 ⟨rfl, trivial⟩ trivial rfl rfl))) ?_
        exact ⟨nofun, rfl, rfl⟩
      · skip
        refine xseq ?_
        refine xreg ?_
        refine wpp rfl rfl ?_
        refine wpp rfl rfl ?_
        rcases bifS h with ⟨c8, h⟩ | ⟨c8, h⟩
        · refine xcT rfl c8 ?_
          refine xreg ?_
          refine wpp rfl rfl ?_
          refine wpp rfl rfl ?_
          obtain ⟨x23, hx23, h⟩ := bindS h
          refine woo rfl (ocal (sat_strings_Count N _ _ _ hx23) rfl (.cons sub_rfl (.cons sub_rfl .nil)) rfl rfl rfl) ?_
          refine wpp (p := .int .i64 (w64 (x23 + (1 : Int)))) rfl rfl ?_
          refine wpp rfl rfl ?_
          exact ⟨(w64 (x23 + (1 : Int))), (canon0 ⟨rfl, rfl, rfl, rfl, trivial⟩ trivial rfl rfl), h⟩
        · refine xcF rfl c8 ?_
          refine xskip ?_
          exact ⟨a3, (canon0 ⟨rfl, rfl, rfl, rfl, trivial⟩ trivial rfl rfl), h⟩
end Go.Gp
end
section
set_option linter.unusedVariables false
set_option linter.unusedSimpArgs false
set_option maxRecDepth 4000
namespace Go.Gp
open Go.Vd Go.RowKit Go.Proofs
def k34 : IC := (.seq (.reg [⟨(some 6), (.mov (.c .nl)), none⟩]) (.seq (.reg [⟨(some 7), (.mov (.t 0)), none⟩, ⟨(some 8), (.mov (.t 1)), none⟩, ⟨(some 9), (.mov (.t 2)), none⟩, ⟨(some 10), (.call 50 [(.t 7), (.t 8), (.c (.int .i64 0)), (.t 9)]), none⟩, ⟨(some 6), (.mov (.t 10)), none⟩]) .ret))
theorem k34_cf : cfunc Tryd.prog Tryd.f34 = some ⟨11, k34, [(.tmp 6)]⟩ := by kernel_rfl
theorem sat_strings_SplitN (N : Nat) (a0 : List UInt8) (a1 : List UInt8) (a2 : Int) (r : List (List UInt8)) (h : strings_SplitN N a0 a1 a2 = some r) : Sat Tryd.prog 34 noRows [.str a0, .str a1, .int .i64 a2] (.sl 1 (List.map PV.str r)) noRows := by
  refine xsat mixed Tryd.func34 k34_cf (rs := [.sl 1 (List.map PV.str r)]) rfl rfl ?_
  refine xseq ?_
  refine xreg ?_
  refine wpp rfl rfl ?_
  refine xseq ?_
  refine xreg ?_
  refine wpp rfl rfl ?_
  refine wpp rfl rfl ?_
  refine wpp rfl rfl ?_
  obtain ⟨x10, hx10, h⟩ := bindS h
  refine woo rfl (ocal (sat_strings_genSplit N _ _ _ _ _ hx10) rfl (.cons sub_rfl (.cons sub_rfl (.cons sub_rfl (.cons sub_rfl .nil)))) rfl rfl rfl) ?_
  refine wpp rfl rfl ?_
  obtain rfl := someS h
  refine xret ?_
  exact ⟨nofun, rfl, rfl⟩
end Go.Gp
end
section
set_option linter.unusedVariables false
set_option linter.unusedSimpArgs false
set_option maxRecDepth 4000
namespace Go.Gp
open Go.Vd Go.RowKit Go.Proofs
def k35 : IC := (.seq (.reg [⟨(some 4), (.mov (.c .nl)), none⟩]) (.seq (.reg [⟨(some 5), (.mov (.t 0)), none⟩, ⟨(some 6), (.mov (.t 1)), none⟩, ⟨(some 7), (.call 50 [(.t 5), (.t 6), (.c (.int .i64 0)), (.c (.int .i64 (-1)))]), none⟩, ⟨(some 4), (.mov (.t 7)), none⟩]) .ret))
theorem k35_cf : cfunc Tryd.prog Tryd.f35 = some ⟨8, k35, [(.tmp 4)]⟩ := by kernel_rfl
theorem sat_strings_Split (N : Nat) (a0 : List UInt8) (a1 : List UInt8) (r : List (List UInt8)) (h : strings_Split N a0 a1 = some r) : Sat Tryd.prog 35 noRows [.str a0, .str a1] (.sl 1 (List.map PV.str r)) noRows := by
  refine xsat mixed Tryd.func35 k35_cf (rs := [.sl 1 (List.map PV.str r)]) rfl rfl ?_
  refine xseq ?_
  refine xreg ?_
  refine wpp rfl rfl ?_
  refine xseq ?_
  refine xreg ?_
  refine wpp rfl rfl ?_
  refine wpp rfl rfl ?_
  obtain ⟨x7, hx7, h⟩ := bindS h
  refine woo rfl (ocal (sat_strings_genSplit N _ _ _ _ _ hx7) rfl (.cons sub_rfl (.cons sub_rfl (.cons sub_rfl (.cons sub_rfl .nil)))) rfl rfl rfl) ?_
  refine wpp rfl rfl ?_
  obtain rfl := someS h
  refine xret ?_
  exact ⟨nofun, rfl, rfl⟩
end Go.Gp
end
section
set_option linter.unusedVariables false
set_option linter.unusedSimpArgs false
set_option maxRecDepth 4000
namespace Go.Gp
open Go.Vd Go.RowKit Go.Proofs
def k28_l8 : IC := (.seq (.reg [⟨(some 11), (.bin .lss (.t 10) (.t 9)), none⟩]) (.seq (.cond (.t 11) .skip (.exit 0)) (.seq (.block 1 (.seq (.reg [⟨(some 12), (.mov (.t 10)), none⟩, ⟨(some 13), (.ixp 1 (.t 8) (.t 10)), none⟩, ⟨(some 14), (.load 1 false (.t 13)), none⟩, ⟨(some 4), (.mov (.t 12)), none⟩, ⟨(some 5), (.mov (.t 14)), none⟩]) (.seq (.reg [⟨(some 15), (.mov (.t 5)), none⟩, ⟨(some 16), (.bin .geq (.t 15) (.c (.int .u8 65))), none⟩, ⟨(some 17), (.mov (.t 16)), none⟩, ⟨(some 18), (.mov (.t 5)), (some (17, true))⟩, ⟨(some 19), (.bin .leq (.t 18) (.c (.int .u8 90))), (some (17, true))⟩, ⟨(some 20), (.pick (.t 17) (.t 19) (.c (.bool false))), none⟩]) (.cond (.t 20) (.reg [⟨(some 21), (.mov (.t 3)), none⟩, ⟨(some 22), (.mov (.t 4)), none⟩, ⟨(some 23), (.mov (.t 5)), none⟩, ⟨(some 24), (.bin .add (.t 23) (.c (.int .u8 32))), none⟩, ⟨(some 25), (.ixp 1 (.t 21) (.t 22)), none⟩, ⟨none, (.store 1 (.t 25) (.t 24)), none⟩]) .skip)))) (.reg [⟨(some 26), (.bin .add (.t 10) (.c (.int .i64 1))), none⟩, ⟨(some 10), (.mov (.t 26)), none⟩]))))
def k28 : IC := (.seq (.reg [⟨(some 2), (.mov (.c (.str []))), none⟩]) (.seq (.reg [⟨(some 6), (.mov (.t 0)), none⟩, ⟨(some 7), (.cvs (.t 6)), none⟩, ⟨(some 3), (.mov (.t 7)), none⟩]) (.seq (.seq (.reg [⟨(some 8), (.mov (.t 3)), none⟩, ⟨(some 9), (.len false (.t 8)), none⟩, ⟨(some 10), (.mov (.c (.int .i64 0))), none⟩]) (.block 0 (.loop k28_l8))) (.seq (.reg [⟨(some 27), (.mov (.t 3)), none⟩, ⟨(some 28), (.cvb (.t 27)), none⟩, ⟨(some 2), (.mov (.t 28)), none⟩]) .ret))))
theorem k28_cf : cfunc Tryd.prog Tryd.f28 = some ⟨29, k28, [(.tmp 2)]⟩ := by kernel_rfl
theorem w_dn_Lower_l8 (N : Nat) (a0 : List UInt8) : ∀ (n : Nat) (x : Int × List UInt8) (y : List UInt8), dn_Lower_l8 N a0 n x = some y → WX Tryd.prog (fun _ => false) (.loop k28_l8) ((fun (x : Int × List UInt8) => ⟨ofL [(3, .slr 7 0 x.2.length), (8, .slr 7 0 x.2.length), (9, .int .i64 (a0.length : Int)), (10, .int .i64 x.1)], ofL [(7, ⟨1, true, List.map eb x.2⟩)]⟩) x) ((fun y e s => e = .exit 0 ∧ s = ⟨ofL [(3, .slr 7 0 y.length)], ofL [(7, ⟨1, true, List.map eb y⟩)]⟩ : (List UInt8) → Xt → St → Prop) y) := by
  refine xloop (fun (x : Int × List UInt8) => ⟨ofL [(3, .slr 7 0 x.2.length), (8, .slr 7 0 x.2.length), (9, .int .i64 (a0.length : Int)), (10, .int .i64 x.1)], ofL [(7, ⟨1, true, List.map eb x.2⟩)]⟩) _ (dn_Lower_l8 N a0) (dn_Lower_l8_b N a0) (fun _ => rfl) (fun _ _ => rfl) ?_
  rintro rec ⟨v10l8, r7l8⟩ y h
  refine xseq ?_
  refine xreg ?_
  refine wpp rfl rfl ?_
  refine xseq ?_
  rcases bifS h with ⟨c1, h⟩ | ⟨c1, h⟩
  · refine xcT rfl c1 ?_
    refine xskip ?_
    refine xjoin (fun (x : List UInt8) => ⟨ofL [(3, .slr 7 0 x.length), (8, .slr 7 0 x.length), (9, .int .i64 (a0.length : Int)), (10, .int .i64 v10l8)], ofL [(7, ⟨1, true, List.map eb x⟩)]⟩) (fun x => dn_Lower_j15 v10l8 rec x = some y) ?_ ?_
    · rintro r7j15 h
      refine xreg ?_
      refine wpp (p := .int .i64 (w64 (v10l8 + (1 : Int)))) rfl rfl ?_
      refine wpp rfl rfl ?_
      exact ⟨((w64 (v10l8 + (1 : Int))), r7j15), (canon0 ⟨rfl, rfl, rfl, rfl, trivial⟩ ⟨rfl, trivial⟩ rfl rfl), h⟩
    · skip
      refine xblk ?_
      refine xseq ?_
      refine xreg ?_
      refine wpp rfl rfl ?_
      obtain ⟨x13, hx13, h⟩ := bindS h
      refine wpp rfl (p_ixr hx13 rfl rfl rfl rfl) ?_
      obtain ⟨x14, hx14, h⟩ := bindS h
      refine wpp rfl (p_ldr (f := eb) (v := eb x14) hx14 rfl rfl rfl) ?_
      refine wpp rfl rfl ?_
      refine wpp rfl rfl ?_
      obtain ⟨g2, hg2, h⟩ := bindS h
      refine xseg ⟨ofL [(3, .slr 7 0 r7l8.length), (4, .int .i64 v10l8), (5, eb x14), (8, .slr 7 0 r7l8.length), (9, .int .i64 (a0.length : Int)), (10, .int .i64 v10l8), (20, .bool g2)], ofL [(7, ⟨1, true, List.map eb r7l8⟩)]⟩ ?_ ?_
      · have h := hg2
        refine xreg ?_
        refine wpp rfl rfl ?_
        refine wpp (p := .bool (decide (((x14).toNat : Int) ≥ (65 : Int)))) rfl rfl ?_
        refine wpp rfl rfl ?_
        rcases bifS h with ⟨c3, h⟩ | ⟨c3, h⟩
        · skip
          refine wpp (gy rfl c3) rfl ?_
          refine wpp (p := .bool (decide (((x14).toNat : Int) ≤ (90 : Int)))) (gy rfl c3) rfl ?_
          refine wpp rfl (p_pick1 c3 rfl rfl) ?_
          obtain rfl := someS h
          exact (canon0 ⟨rfl, rfl, rfl, rfl, rfl, rfl, rfl, trivial⟩ ⟨rfl, trivial⟩ rfl rfl)
        · skip
          refine wsk (gn rfl c3) ?_
          refine wsk (gn rfl c3) ?_
          refine wpp rfl (p_pick0 c3 rfl rfl) ?_
          obtain rfl := someS h
          exact (canon0 ⟨rfl, rfl, rfl, rfl, rfl, rfl, rfl, trivial⟩ ⟨rfl, trivial⟩ rfl rfl)
      · clear hg2
        rcases bifS h with ⟨c4, h⟩ | ⟨c4, h⟩
        · refine xcT rfl c4 ?_
          refine xreg ?_
          refine wpp rfl rfl ?_
          refine wpp rfl rfl ?_
          refine wpp rfl rfl ?_
          refine wpp rfl (p_u8add (a := x14) (b := (32 : UInt8)) rfl rfl) ?_
          obtain ⟨x25, hx25, h⟩ := bindS h
          refine wpp rfl (p_ixr hx25 rfl rfl rfl rfl) ?_
          obtain ⟨x9004, hx9004, h⟩ := bindS h
          refine wsto (f := eb) (e' := (x14 + (32 : UInt8))) hx9004 rfl rfl rfl rfl rfl rfl rfl rfl (fun _ => rfl) rfl ?_
          exact ⟨(r7l8.set x25 (x14 + (32 : UInt8))), (Norm.trans (nsub 3 (sub_eq (congrArg (PV.slr 7 0) (by simp only [List.length_set, List.length_replicate] : r7l8.length = (r7l8.set x25 (x14 + (32 : UInt8))).length))) rfl) (Norm.trans (nsub 8 (sub_eq (congrArg (PV.slr 7 0) (by simp only [List.length_set, List.length_replicate] : r7l8.length = (r7l8.set x25 (x14 + (32 : UInt8))).length))) rfl) (canon0 ⟨rfl, rfl, rfl, rfl, trivial⟩ ⟨rfl, trivial⟩ rfl rfl))), h⟩
        · refine xcF rfl c4 ?_
          refine xskip ?_
          exact ⟨r7l8, (canon0 ⟨rfl, rfl, rfl, rfl, trivial⟩ ⟨rfl, trivial⟩ rfl rfl), h⟩
  · refine xcF rfl c1 ?_
    obtain rfl := someS h
    exact xexitn (st1 := ⟨ofL [(3, .slr 7 0 r7l8.length)], ofL [(7, ⟨1, true, List.map eb r7l8⟩)]⟩) (canon0 ⟨rfl, trivial⟩ ⟨rfl, trivial⟩ rfl rfl) ⟨rfl, rfl⟩
theorem sat_dn_Lower (N : Nat) (a0 : List UInt8) (r : List UInt8) (h : dn_Lower N a0 = some r) : Sat Tryd.prog 28 noRows [.str a0] (.str r) noRows := by
  refine xsat mixed Tryd.func28 k28_cf (rs := [.str r]) rfl rfl ?_
  refine xseq ?_
  refine xreg ?_
  refine wpp rfl rfl ?_
  refine xseq ?_
  refine xreg ?_
  refine wpp rfl rfl ?_
  refine woo rfl (ocvs 7 rfl rfl) ?_
  refine wpp rfl rfl ?_
  refine xseq ?_
  refine xseq ?_
  refine xreg ?_
  refine wpp rfl rfl ?_
  refine wpp rfl rfl ?_
  refine wpp rfl rfl ?_
  refine xblk ?_
  obtain ⟨y6, hy6, h⟩ := bindS h
  refine xloopU (st1 := ⟨ofL [(3, .slr 7 0 a0.length), (8, .slr 7 0 a0.length), (9, .int .i64 (a0.length : Int)), (10, .int .i64 0)], ofL [(7, ⟨1, true, List.map eb a0⟩)]⟩) (canon0 ⟨rfl, rfl, rfl, rfl, trivial⟩ ⟨rfl, trivial⟩ rfl rfl) (w_dn_Lower_l8 N a0 N _ _ hy6) ?_
  rintro e s ⟨rfl, rfl⟩
  refine xseq ?_
  refine xreg ?_
  refine wpp rfl rfl ?_
  refine wpp rfl (p_cvbr (l := y6) rfl rfl (full_row (f := eb) (l := y6))) ?_
  refine wpp rfl rfl ?_
  obtain rfl := someS h
  refine xret ?_
  exact ⟨nofun, rfl, rfl⟩
end Go.Gp
end
section
set_option linter.unusedVariables false
set_option linter.unusedSimpArgs false
set_option maxRecDepth 4000
namespace Go.Gp
open Go.Vd Go.RowKit Go.Proofs
def k16 : IC := (.seq (.reg [⟨(some 0), (.mov (.c .nl)), none⟩]) (.seq (.reg [⟨(some 1), (.build [(.str []), (.int .i64 0), (.bool false)] [(0, (1, (.c (.str [97, 99, 105])))), (1, (1, (.c (.int .i64 2))))]), none⟩, ⟨(some 2), (.build [(.str []), (.int .i64 0), (.bool false)] [(0, (1, (.c (.str [99])))), (1, (1, (.c (.int .i64 1)))), (2, (1, (.c (.bool true))))]), none⟩, ⟨(some 3), (.build [(.str []), (.int .i64 0), (.bool false)] [(0, (1, (.c (.str [99, 110])))), (1, (1, (.c (.int .i64 1))))]), none⟩, ⟨(some 4), (.build [(.str []), (.int .i64 0), (.bool false)] [(0, (1, (.c (.str [100, 99])))), (1, (1, (.c (.int .i64 1))))]), none⟩, ⟨(some 5), (.build [(.str []), (.int .i64 0), (.bool false)] [(0, (1, (.c (.str [100, 101, 115, 99, 114, 105, 112, 116, 105, 111, 110])))), (1, (1, (.c (.int .i64 1))))]), none⟩, ⟨(some 6), (.build [(.str []), (.int .i64 0), (.bool false)] [(0, (1, (.c (.str [101, 110, 116, 114, 121, 105, 100])))), (1, (1, (.c (.int .i64 2)))), (2, (1, (.c (.bool true))))]), none⟩, ⟨(some 7), (.build [(.str []), (.int .i64 0), (.bool false)] [(0, (1, (.c (.str [109, 97, 105, 108])))), (1, (1, (.c (.int .i64 2))))]), none⟩, ⟨(some 8), (.build [(.str []), (.int .i64 0), (.bool false)] [(0, (1, (.c (.str [109, 101, 109, 98, 101, 114])))), (1, (1, (.c (.int .i64 5))))]), none⟩, ⟨(some 9), (.build [(.str []), (.int .i64 0), (.bool false)] [(0, (1, (.c (.str [111])))), (1, (1, (.c (.int .i64 1))))]), none⟩, ⟨(some 10), (.build [(.str []), (.int .i64 0), (.bool false)] [(0, (1, (.c (.str [111, 117])))), (1, (1, (.c (.int .i64 1))))]), none⟩, ⟨(some 11), (.build [(.str []), (.int .i64 0), (.bool false)] [(0, (1, (.c (.str [115, 110])))), (1, (1, (.c (.int .i64 1))))]), none⟩, ⟨(some 12), (.build [(.str []), (.int .i64 0), (.bool false)] [(0, (1, (.c (.str [116, 105, 116, 108, 101])))), (1, (1, (.c (.int .i64 1)))), (2, (1, (.c (.bool true))))]), none⟩, ⟨(some 13), (.build [(.str []), (.int .i64 0), (.bool false)] [(0, (1, (.c (.str [117, 105, 100])))), (1, (1, (.c (.int .i64 1))))]), none⟩, ⟨(some 14), (.build [(.str []), (.int .i64 0), (.bool false)] [(0, (1, (.c (.str [117, 105, 100, 110, 117, 109, 98, 101, 114])))), (1, (1, (.c (.int .i64 3)))), (2, (1, (.c (.bool true))))]), none⟩, ⟨(some 15), (.build [(.str []), (.int .i64 0), (.bool false)] [(0, (1, (.c (.str [117, 115, 101, 114, 112, 97, 115, 115, 119, 111, 114, 100])))), (1, (1, (.c (.int .i64 4))))]), none⟩, ⟨(some 16), (.bsl 3 [(.t 1), (.t 2), (.t 3), (.t 4), (.t 5), (.t 6), (.t 7), (.t 8), (.t 9), (.t 10), (.t 11), (.t 12), (.t 13), (.t 14), (.t 15)]), none⟩, ⟨(some 0), (.mov (.t 16)), none⟩]) .ret))
theorem k16_cf : cfunc Tryd.prog Tryd.f16 = some ⟨17, k16, [(.tmp 0)]⟩ := by kernel_rfl
theorem sat_schema_All (N : Nat)  (r : List api_Type) (h : schema_All N  = some r) : Sat Tryd.prog 16 noRows [] (.sl 3 (List.map e_api_Type r)) noRows := by
  refine xsat mixed Tryd.func16 k16_cf (rs := [.sl 3 (List.map e_api_Type r)]) rfl rfl ?_
  refine xseq ?_
  refine xreg ?_
  refine wpp rfl rfl ?_
  refine xseq ?_
  refine xreg ?_
  refine wpp (p := .agg [.str ([97, 99, 105] : List UInt8), .int .i64 2, .bool false]) rfl rfl ?_
  refine wpp (p := .agg [.str ([99] : List UInt8), .int .i64 1, .bool true]) rfl rfl ?_
  refine wpp (p := .agg [.str ([99, 110] : List UInt8), .int .i64 1, .bool false]) rfl rfl ?_
  refine wpp (p := .agg [.str ([100, 99] : List UInt8), .int .i64 1, .bool false]) rfl rfl ?_
  refine wpp (p := .agg [.str ([100, 101, 115, 99, 114, 105, 112, 116, 105, 111, 110] : List UInt8), .int .i64 1, .bool false]) rfl rfl ?_
  refine wpp (p := .agg [.str ([101, 110, 116, 114, 121, 105, 100] : List UInt8), .int .i64 2, .bool true]) rfl rfl ?_
  refine wpp (p := .agg [.str ([109, 97, 105, 108] : List UInt8), .int .i64 2, .bool false]) rfl rfl ?_
  refine wpp (p := .agg [.str ([109, 101, 109, 98, 101, 114] : List UInt8), .int .i64 5, .bool false]) rfl rfl ?_
  refine wpp (p := .agg [.str ([111] : List UInt8), .int .i64 1, .bool false]) rfl rfl ?_
  refine wpp (p := .agg [.str ([111, 117] : List UInt8), .int .i64 1, .bool false]) rfl rfl ?_
  refine wpp (p := .agg [.str ([115, 110] : List UInt8), .int .i64 1, .bool false]) rfl rfl ?_
  refine wpp (p := .agg [.str ([116, 105, 116, 108, 101] : List UInt8), .int .i64 1, .bool true]) rfl rfl ?_
  refine wpp (p := .agg [.str ([117, 105, 100] : List UInt8), .int .i64 1, .bool false]) rfl rfl ?_
  refine wpp (p := .agg [.str ([117, 105, 100, 110, 117, 109, 98, 101, 114] : List UInt8), .int .i64 3, .bool true]) rfl rfl ?_
  refine wpp (p := .agg [.str ([117, 115, 101, 114, 112, 97, 115, 115, 119, 111, 114, 100] : List UInt8), .int .i64 4, .bool false]) rfl rfl ?_
  refine woo rfl (obsl 16 rfl rfl rfl) ?_
  refine wpp rfl rfl ?_
  obtain rfl := someS h
  refine xretn (st1 := ⟨ofL [(0, .sl 3 (List.map e_api_Type [(⟨([97, 99, 105] : List UInt8), 2, false⟩ : api_Type), (⟨([99] : List UInt8), 1, true⟩ : api_Type), (⟨([99, 110] : List UInt8), 1, false⟩ : api_Type), (⟨([100, 99] : List UInt8), 1, false⟩ : api_Type), (⟨([100, 101, 115, 99, 114, 105, 112, 116, 105, 111, 110] : List UInt8), 1, false⟩ : api_Type), (⟨([101, 110, 116, 114, 121, 105, 100] : List UInt8), 2, true⟩ : api_Type), (⟨([109, 97, 105, 108] : List UInt8), 2, false⟩ : api_Type), (⟨([109, 101, 109, 98, 101, 114] : List UInt8), 5, false⟩ : api_Type), (⟨([111] : List UInt8), 1, false⟩ : api_Type), (⟨([111, 117] : List UInt8), 1, false⟩ : api_Type), (⟨([115, 110] : List UInt8), 1, false⟩ : api_Type), (⟨([116, 105, 116, 108, 101] : List UInt8), 1, true⟩ : api_Type), (⟨([117, 105, 100] : List UInt8), 1, false⟩ : api_Type), (⟨([117, 105, 100, 110, 117, 109, 98, 101, 114] : List UInt8), 3, true⟩ : api_Type), (⟨([117, 115, 101, 114, 112, 97, 115, 115, 119, 111, 114, 100] : List UInt8), 4, false⟩ : api_Type)]))], ofL []⟩) (Norm.trans (Vd.freeze 16 _ rfl rfl rfl) (Norm.trans (nsub 0 (sub_eq (congrArg (PV.sl 3) (full_row (f := e_api_Type) (l := [(⟨([97, 99, 105] : List UInt8), 2, false⟩ : api_Type), (⟨([99] : List UInt8), 1, true⟩ : api_Type), (⟨([99, 110] : List UInt8), 1, false⟩ : api_Type), (⟨([100, 99] : List UInt8), 1, false⟩ : api_Type), (⟨([100, 101, 115, 99, 114, 105, 112, 116, 105, 111, 110] : List UInt8), 1, false⟩ : api_Type), (⟨([101, 110, 116, 114, 121, 105, 100] : List UInt8), 2, true⟩ : api_Type), (⟨([109, 97, 105, 108] : List UInt8), 2, false⟩ : api_Type), (⟨([109, 101, 109, 98, 101, 114] : List UInt8), 5, false⟩ : api_Type), (⟨([111] : List UInt8), 1, false⟩ : api_Type), (⟨([111, 117] : List UInt8), 1, false⟩ : api_Type), (⟨([115, 110] : List UInt8), 1, false⟩ : api_Type), (⟨([116, 105, 116, 108, 101] : List UInt8), 1, true⟩ : api_Type), (⟨([117, 105, 100] : List UInt8), 1, false⟩ : api_Type), (⟨([117, 105, 100, 110, 117, 109, 98, 101, 114] : List UInt8), 3, true⟩ : api_Type), (⟨([117, 115, 101, 114, 112, 97, 115, 115, 119, 111, 114, 100] : List UInt8), 4, false⟩ : api_Type)])))) rfl) (canon0 ⟨rfl, trivial⟩ trivial rfl rfl))) ?_
  exact ⟨nofun, rfl, rfl⟩
end Go.Gp
end
section
set_option linter.unusedVariables false
set_option linter.unusedSimpArgs false
set_option maxRecDepth 4000
namespace Go.Gp
open Go.Vd Go.RowKit Go.Proofs
def k10_l8 : IC := (.seq (.reg [⟨(some 11), (.bin .lss (.t 10) (.t 9)), none⟩]) (.seq (.cond (.t 11) .skip (.exit 0)) (.seq (.block 1 (.seq (.reg [⟨(some 12), (.ixp 3 (.t 8) (.t 10)), none⟩, ⟨(some 13), (.load 3 true (.t 12)), none⟩, ⟨(some 5), (.box 24 (.c (.agg [(.str []), (.int .i64 0), (.bool false)]))), none⟩, ⟨none, (.store 3 (.t 5) (.t 13)), none⟩]) (.seq (.reg [⟨(some 14), (.fda 0 (.t 5)), none⟩, ⟨(some 15), (.load 1 false (.t 14)), none⟩, ⟨(some 16), (.mov (.t 0)), none⟩, ⟨(some 17), (.bin .eql (.t 15) (.t 16)), none⟩]) (.cond (.t 17) (.seq (.reg [⟨(some 18), (.load 3 true (.t 5)), none⟩, ⟨none, (.store 3 (.t 2) (.t 18)), none⟩, ⟨(some 3), (.mov (.c (.bool true))), none⟩]) .ret) .skip)))) (.reg [⟨(some 19), (.bin .add (.t 10) (.c (.int .i64 1))), none⟩, ⟨(some 10), (.mov (.t 19)), none⟩]))))
def k10 : IC := (.seq (.reg [⟨(some 2), (.box 24 (.c (.agg [(.str []), (.int .i64 0), (.bool false)]))), none⟩, ⟨(some 3), (.mov (.c (.bool false))), none⟩]) (.seq (.reg [⟨(some 6), (.mov (.t 0)), none⟩, ⟨(some 7), (.call 28 [(.t 6)]), none⟩, ⟨(some 0), (.mov (.t 7)), none⟩]) (.seq (.seq (.reg [⟨(some 8), (.call 16 []), none⟩, ⟨(some 9), (.len false (.t 8)), none⟩, ⟨(some 10), (.mov (.c (.int .i64 0))), none⟩]) (.block 0 (.loop k10_l8))) (.seq (.reg [⟨(some 20), (.build [(.str []), (.int .i64 0), (.bool false)] []), none⟩, ⟨none, (.store 3 (.t 2) (.t 20)), none⟩, ⟨(some 3), (.mov (.c (.bool false))), none⟩]) .ret))))
theorem k10_cf : cfunc Tryd.prog Tryd.f10 = some ⟨21, k10, [(.cell 3 true 2), (.tmp 3)]⟩ := by kernel_rfl
theorem w_schema_Find_l8 (N : Nat) (x7 : List UInt8) (x8 : List api_Type) : ∀ (n : Nat) (x : Int) (y : Unit ⊕ (api_Type × Bool)), schema_Find_l8 N x7 x8 n x = some y → WX Tryd.prog (fun _ => false) (.loop k10_l8) ((fun (x : Int) => ⟨ofL [(0, .str x7), (2, .ptr 2 0 0), (8, .sl 3 (List.map e_api_Type x8)), (9, .int .i64 (x8.length : Int)), (10, .int .i64 x)], ofL [(2, ⟨3, false, [.agg [.str ([] : List UInt8), .int .i64 0, .bool false]]⟩)]⟩) x) ((Sum.elim (fun y e s => e = .exit 0 ∧ s = ⟨ofL [(2, .ptr 2 0 0)], ofL [(2, ⟨3, false, [.agg [.str ([] : List UInt8), .int .i64 0, .bool false]]⟩)]⟩) (fun y e s => e = .ret ∧ s = ⟨ofL [(2, .ptr 2 0 0), (3, .bool y.2)], ofL [(2, ⟨3, false, [e_api_Type y.1]⟩)]⟩) : (Unit ⊕ (api_Type × Bool)) → Xt → St → Prop) y) := by
  refine xloop (fun (x : Int) => ⟨ofL [(0, .str x7), (2, .ptr 2 0 0), (8, .sl 3 (List.map e_api_Type x8)), (9, .int .i64 (x8.length : Int)), (10, .int .i64 x)], ofL [(2, ⟨3, false, [.agg [.str ([] : List UInt8), .int .i64 0, .bool false]]⟩)]⟩) _ (schema_Find_l8 N x7 x8) (schema_Find_l8_b N x7 x8) (fun _ => rfl) (fun _ _ => rfl) ?_
  rintro rec v10l8 y h
  refine xseq ?_
  refine xreg ?_
  refine wpp rfl rfl ?_
  refine xseq ?_
  rcases bifS h with ⟨c1, h⟩ | ⟨c1, h⟩
  · refine xcT rfl c1 ?_
    refine xskip ?_
    refine xseq ?_
    refine xblk ?_
    refine xseq ?_
    refine xreg ?_
    obtain ⟨x12, hx12, h⟩ := bindS h
    refine wpp rfl (p_ixs (cs := [.str x12.Name, .int .i64 x12.Syntax, .bool x12.Single]) hx12 rfl rfl rfl) ?_
    refine wpp (p := e_api_Type x12) rfl rfl ?_
    refine woo rfl (obox 5 rfl rfl rfl rfl rfl) ?_
    refine wstb (e' := e_api_Type x12) rfl rfl rfl rfl rfl rfl rfl rfl nofun rfl ?_
    refine xseq ?_
    refine xreg ?_
    refine wpp rfl rfl ?_
    refine wpp rfl rfl ?_
    refine wpp rfl rfl ?_
    refine wpp rfl rfl ?_
    rcases bifS h with ⟨c2, h⟩ | ⟨c2, h⟩
    · refine xcT rfl c2 ?_
      refine xseq ?_
      refine xreg ?_
      refine wpp (p := e_api_Type x12) rfl rfl ?_
      refine wstb (e' := e_api_Type x12) rfl rfl rfl rfl rfl rfl rfl rfl nofun rfl ?_
      refine wpp rfl rfl ?_
      obtain rfl := someS h
      exact xretn (st1 := ⟨ofL [(2, .ptr 2 0 0), (3, .bool true)], ofL [(2, ⟨3, false, [e_api_Type x12]⟩)]⟩) (canon0 ⟨rfl, rfl, trivial⟩ ⟨rfl, trivial⟩ rfl rfl) ⟨rfl, rfl⟩
    · refine xcF rfl c2 ?_
      refine xskip ?_
      refine xreg ?_
      refine wpp (p := .int .i64 (w64 (v10l8 + (1 : Int)))) rfl rfl ?_
      refine wpp rfl rfl ?_
      exact ⟨(w64 (v10l8 + (1 : Int))), (canon0 ⟨rfl, rfl, rfl, rfl, rfl, trivial⟩ ⟨rfl, trivial⟩ rfl rfl), h⟩
  · refine xcF rfl c1 ?_
    obtain rfl := someS h
    exact xexitn (st1 := ⟨ofL [(2, .ptr 2 0 0)], ofL [(2, ⟨3, false, [.agg [.str ([] : List UInt8), .int .i64 0, .bool false]]⟩)]⟩) (canon0 ⟨rfl, trivial⟩ ⟨rfl, trivial⟩ rfl rfl) ⟨rfl, rfl⟩
theorem sat_schema_Find (N : Nat) (a0 : List UInt8) (r : api_Type × Bool) (h : schema_Find N a0 = some r) : Sat Tryd.prog 10 noRows [.str a0] (.tup [e_api_Type r.1, .bool r.2]) noRows := by
  refine xsat mixed Tryd.func10 k10_cf (rs := [e_api_Type r.1, .bool r.2]) rfl rfl ?_
  refine xseq ?_
  refine xreg ?_
  refine woo rfl (obox 2 rfl rfl rfl rfl rfl) ?_
  refine wpp rfl rfl ?_
  refine xseq ?_
  refine xreg ?_
  refine wpp rfl rfl ?_
  obtain ⟨x7, hx7, h⟩ := bindS h
  refine woo rfl (ocal (sat_dn_Lower N _ _ hx7) rfl (.cons sub_rfl .nil) rfl rfl rfl) ?_
  refine wpp rfl rfl ?_
  refine xseq ?_
  refine xseq ?_
  refine xreg ?_
  obtain ⟨x8, hx8, h⟩ := bindS h
  refine woo rfl (ocal (sat_schema_All N _ hx8) rfl .nil rfl rfl rfl) ?_
  refine wpp rfl (p_lens rfl) ?_
  refine wpp rfl rfl ?_
  refine xblk ?_
  obtain ⟨y3, hy3, h⟩ := bindS h
  refine xloopU (st1 := ⟨ofL [(0, .str x7), (2, .ptr 2 0 0), (8, .sl 3 (List.map e_api_Type x8)), (9, .int .i64 (x8.length : Int)), (10, .int .i64 0)], ofL [(2, ⟨3, false, [.agg [.str ([] : List UInt8), .int .i64 0, .bool false]]⟩)]⟩) (canon0 ⟨rfl, rfl, rfl, rfl, rfl, trivial⟩ ⟨rfl, trivial⟩ rfl rfl) (w_schema_Find_l8 N x7 x8 N _ _ hy3) ?_
  clear hy3
  rcases y3 with y3 | y3
  · rintro e s ⟨rfl, rfl⟩
    refine xseq ?_
    refine xreg ?_
    refine wpp (p := .agg [.str ([] : List UInt8), .int .i64 0, .bool false]) rfl rfl ?_
    refine wstb (e' := .agg [.str ([] : List UInt8), .int .i64 0, .bool false]) rfl rfl rfl rfl rfl rfl rfl rfl nofun rfl ?_
    refine wpp rfl rfl ?_
    obtain rfl := someS h
    refine xret ?_
    exact ⟨nofun, rfl, rfl⟩
  · rintro e s ⟨rfl, rfl⟩
    obtain rfl := someS h
    exact ⟨nofun, rfl, rfl⟩
end Go.Gp
end
section
set_option linter.unusedVariables false
set_option linter.unusedSimpArgs false
set_option maxRecDepth 4000
namespace Go.Gp
open Go.Vd Go.RowKit Go.Proofs
def k38_l8 : IC := (.seq (.reg [⟨(some 9), (.bin .lss (.t 8) (.t 7)), none⟩]) (.seq (.cond (.t 9) .skip (.exit 0)) (.seq (.block 1 (.seq (.reg [⟨(some 10), (.mov (.t 8)), none⟩, ⟨(some 4), (.mov (.t 10)), none⟩]) (.seq (.reg [⟨(some 11), (.mov (.t 0)), none⟩, ⟨(some 12), (.mov (.t 4)), none⟩, ⟨(some 13), (.idxs (.t 11) (.t 12)), none⟩, ⟨(some 14), (.call 51 [(.c (.str [114, 115, 99, 119, 97, 100])), (.t 13)]), none⟩, ⟨(some 5), (.mov (.t 14)), none⟩]) (.seq (.seq (.reg [⟨(some 15), (.mov (.t 5)), none⟩, ⟨(some 16), (.mov (.t 3)), none⟩, ⟨(some 17), (.bin .leq (.t 15) (.t 16)), none⟩]) (.cond (.t 17) (.seq (.reg [⟨(some 2), (.mov (.c (.bool false))), none⟩]) .ret) .skip)) (.reg [⟨(some 18), (.mov (.t 5)), none⟩, ⟨(some 3), (.mov (.t 18)), none⟩]))))) (.reg [⟨(some 19), (.bin .add (.t 8) (.c (.int .i64 1))), none⟩, ⟨(some 8), (.mov (.t 19)), none⟩]))))
def k38 : IC := (.seq (.reg [⟨(some 2), (.mov (.c (.bool false))), none⟩]) (.seq (.reg [⟨(some 3), (.mov (.c (.int .i64 (-1)))), none⟩]) (.seq (.seq (.reg [⟨(some 6), (.mov (.t 0)), none⟩, ⟨(some 7), (.len true (.t 6)), none⟩, ⟨(some 8), (.mov (.c (.int .i64 0))), none⟩]) (.block 0 (.loop k38_l8))) (.seq (.reg [⟨(some 20), (.mov (.t 3)), none⟩, ⟨(some 21), (.bin .geq (.t 20) (.c (.int .i64 0))), none⟩, ⟨(some 2), (.mov (.t 21)), none⟩]) .ret))))
theorem k38_cf : cfunc Tryd.prog Tryd.f38 = some ⟨22, k38, [(.tmp 2)]⟩ := by kernel_rfl
theorem w_aci_isRights_l8 (N : Nat) (a0 : List UInt8) : ∀ (n : Nat) (x : Int × Int) (y : Int ⊕ Bool), aci_isRights_l8 N a0 n x = some y → WX Tryd.prog (fun _ => false) (.loop k38_l8) ((fun (x : Int × Int) => ⟨ofL [(0, .str a0), (3, .int .i64 x.1), (7, .int .i64 (a0.length : Int)), (8, .int .i64 x.2)], ofL []⟩) x) ((Sum.elim (fun y e s => e = .exit 0 ∧ s = ⟨ofL [(3, .int .i64 y)], ofL []⟩) (fun y e s => e = .ret ∧ s = ⟨ofL [(2, .bool y)], ofL []⟩) : (Int ⊕ Bool) → Xt → St → Prop) y) := by
  refine xloop (fun (x : Int × Int) => ⟨ofL [(0, .str a0), (3, .int .i64 x.1), (7, .int .i64 (a0.length : Int)), (8, .int .i64 x.2)], ofL []⟩) _ (aci_isRights_l8 N a0) (aci_isRights_l8_b N a0) (fun _ => rfl) (fun _ _ => rfl) ?_
  rintro rec ⟨v3l8, v8l8⟩ y h
  refine xseq ?_
  refine xreg ?_
  refine wpp rfl rfl ?_
  refine xseq ?_
  rcases bifS h with ⟨c1, h⟩ | ⟨c1, h⟩
  · refine xcT rfl c1 ?_
    refine xskip ?_
    refine xseq ?_
    refine xblk ?_
    refine xseq ?_
    refine xreg ?_
    refine wpp rfl rfl ?_
    refine wpp rfl rfl ?_
    refine xseq ?_
    refine xreg ?_
    refine wpp rfl rfl ?_
    refine wpp rfl rfl ?_
    obtain ⟨x13, hx13, h⟩ := bindS h
    refine wpp rfl (p_idx hx13 rfl rfl) ?_
    obtain ⟨x14, hx14, h⟩ := bindS h
    refine woo rfl (ocal (sat_strings_IndexByte N _ _ _ hx14) rfl (.cons sub_rfl (.cons sub_rfl .nil)) rfl rfl rfl) ?_
    refine wpp rfl rfl ?_
    refine xseq ?_
    refine xseq ?_
    refine xreg ?_
    refine wpp rfl rfl ?_
    refine wpp rfl rfl ?_
    refine wpp rfl rfl ?_
    rcases bifS h with ⟨c2, h⟩ | ⟨c2, h⟩
    · refine xcT rfl c2 ?_
      refine xseq ?_
      refine xreg ?_
      refine wpp rfl rfl ?_
      obtain rfl := someS h
      exact xretn (st1 := ⟨ofL [(2, .bool false)], ofL []⟩) (canon0 ⟨rfl, trivial⟩ trivial rfl rfl) ⟨rfl, rfl⟩
    · refine xcF rfl c2 ?_
      refine xskip ?_
      refine xreg ?_
      refine wpp rfl rfl ?_
      refine wpp rfl rfl ?_
      refine xreg ?_
      refine wpp (p := .int .i64 (w64 (v8l8 + (1 : Int)))) rfl rfl ?_
      refine wpp rfl rfl ?_
      exact ⟨(x14, (w64 (v8l8 + (1 : Int)))), (canon0 ⟨rfl, rfl, rfl, rfl, trivial⟩ trivial rfl rfl), h⟩
  · refine xcF rfl c1 ?_
    obtain rfl := someS h
    exact xexitn (st1 := ⟨ofL [(3, .int .i64 v3l8)], ofL []⟩) (canon0 ⟨rfl, trivial⟩ trivial rfl rfl) ⟨rfl, rfl⟩
theorem sat_aci_isRights (N : Nat) (a0 : List UInt8) (r : Bool) (h : aci_isRights N a0 = some r) : Sat Tryd.prog 38 noRows [.str a0] (.bool r) noRows := by
  refine xsat mixed Tryd.func38 k38_cf (rs := [.bool r]) rfl rfl ?_
  refine xseq ?_
  refine xreg ?_
  refine wpp rfl rfl ?_
  refine xseq ?_
  refine xreg ?_
  refine wpp rfl rfl ?_
  refine xseq ?_
  refine xseq ?_
  refine xreg ?_
  refine wpp rfl rfl ?_
  refine wpp rfl rfl ?_
  refine wpp rfl rfl ?_
  refine xblk ?_
  obtain ⟨y3, hy3, h⟩ := bindS h
  refine xloopU (st1 := ⟨ofL [(0, .str a0), (3, .int .i64 (-1)), (7, .int .i64 (a0.length : Int)), (8, .int .i64 0)], ofL []⟩) (canon0 ⟨rfl, rfl, rfl, rfl, trivial⟩ trivial rfl rfl) (w_aci_isRights_l8 N a0 N _ _ hy3) ?_
  clear hy3
  rcases y3 with y3 | y3
  · rintro e s ⟨rfl, rfl⟩
    refine xseq ?_
    refine xreg ?_
    refine wpp rfl rfl ?_
    refine wpp rfl rfl ?_
    refine wpp rfl rfl ?_
    obtain rfl := someS h
    refine xret ?_
    exact ⟨nofun, rfl, rfl⟩
  · rintro e s ⟨rfl, rfl⟩
    obtain rfl := someS h
    exact ⟨nofun, rfl, rfl⟩
end Go.Gp
end
section
set_option linter.unusedVariables false
set_option linter.unusedSimpArgs false
set_option maxRecDepth 4000
namespace Go.Gp
open Go.Vd Go.RowKit Go.Proofs
def k68 : IC := (.seq (.reg [⟨(some 4), (.mov (.c (.bool false))), none⟩]) (.seq (.reg [⟨(some 5), (.mov (.t 0)), none⟩, ⟨(some 6), (.len true (.t 5)), none⟩, ⟨(some 7), (.mov (.t 1)), none⟩, ⟨(some 8), (.len true (.t 7)), none⟩, ⟨(some 9), (.bin .geq (.t 6) (.t 8)), none⟩, ⟨(some 10), (.mov (.t 9)), none⟩, ⟨(some 11), (.mov (.t 0)), (some (10, true))⟩, ⟨(some 12), (.mov (.t 1)), (some (10, true))⟩, ⟨(some 13), (.len true (.t 12)), (some (10, true))⟩, ⟨(some 14), (.slcs (.t 11) none (some (.t 13))), (some (10, true))⟩, ⟨(some 15), (.mov (.t 1)), (some (10, true))⟩, ⟨(some 16), (.bin .eql (.t 14) (.t 15)), (some (10, true))⟩, ⟨(some 17), (.pick (.t 10) (.t 16) (.c (.bool false))), none⟩, ⟨(some 4), (.mov (.t 17)), none⟩]) .ret))
theorem k68_cf : cfunc Tryd.prog Tryd.f68 = some ⟨18, k68, [(.tmp 4)]⟩ := by kernel_rfl
theorem sat_internal_stringslite_HasPrefix (N : Nat) (a0 : List UInt8) (a1 : List UInt8) (r : Bool) (h : internal_stringslite_HasPrefix N a0 a1 = some r) : Sat Tryd.prog 68 noRows [.str a0, .str a1] (.bool r) noRows := by
  refine xsat mixed Tryd.func68 k68_cf (rs := [.bool r]) rfl rfl ?_
  refine xseq ?_
  refine xreg ?_
  refine wpp rfl rfl ?_
  obtain ⟨g1, hg1, h⟩ := bindS h
  refine xseg ⟨ofL [(4, .bool g1)], ofL []⟩ ?_ ?_
  · have h := hg1
    refine xreg ?_
    refine wpp rfl rfl ?_
    refine wpp rfl rfl ?_
    refine wpp rfl rfl ?_
    refine wpp rfl rfl ?_
    refine wpp rfl rfl ?_
    refine wpp rfl rfl ?_
    rcases bifS h with ⟨c2, h⟩ | ⟨c2, h⟩
    · skip
      refine wpp (gy rfl c2) rfl ?_
      refine wpp (gy rfl c2) rfl ?_
      refine wpp (gy rfl c2) rfl ?_
      obtain ⟨x14, hx14, h⟩ := bindS h
      refine wpp (gy rfl c2) (p_take hx14 rfl rfl) ?_
      refine wpp (gy rfl c2) rfl ?_
      refine wpp (gy rfl c2) rfl ?_
      refine wpp rfl (p_pick1 c2 rfl rfl) ?_
      refine wpp rfl rfl ?_
      obtain rfl := someS h
      exact (canon0 ⟨rfl, trivial⟩ trivial rfl rfl)
    · skip
      refine wsk (gn rfl c2) ?_
      refine wsk (gn rfl c2) ?_
      refine wsk (gn rfl c2) ?_
      refine wsk (gn rfl c2) ?_
      refine wsk (gn rfl c2) ?_
      refine wsk (gn rfl c2) ?_
      refine wpp rfl (p_pick0 c2 rfl rfl) ?_
      refine wpp rfl rfl ?_
      obtain rfl := someS h
      exact (canon0 ⟨rfl, trivial⟩ trivial rfl rfl)
  · clear hg1
    obtain rfl := someS h
    refine xret ?_
    exact ⟨nofun, rfl, rfl⟩
end Go.Gp
end
section
set_option linter.unusedVariables false
set_option linter.unusedSimpArgs false
set_option maxRecDepth 4000
namespace Go.Gp
open Go.Vd Go.RowKit Go.Proofs
def k74 : IC := (.seq (.reg [⟨(some 4), (.mov (.c (.str []))), none⟩, ⟨(some 5), (.mov (.c (.bool false))), none⟩]) (.seq (.seq (.reg [⟨(some 6), (.mov (.t 0)), none⟩, ⟨(some 7), (.mov (.t 1)), none⟩, ⟨(some 8), (.call 68 [(.t 6), (.t 7)]), none⟩, ⟨(some 9), (.un .not (.t 8)), none⟩]) (.cond (.t 9) (.seq (.reg [⟨(some 10), (.mov (.t 0)), none⟩, ⟨(some 4), (.mov (.t 10)), none⟩, ⟨(some 5), (.mov (.c (.bool false))), none⟩]) .ret) .skip)) (.seq (.reg [⟨(some 11), (.mov (.t 0)), none⟩, ⟨(some 12), (.mov (.t 1)), none⟩, ⟨(some 13), (.len true (.t 12)), none⟩, ⟨(some 14), (.slcs (.t 11) (some (.t 13)) none), none⟩, ⟨(some 4), (.mov (.t 14)), none⟩, ⟨(some 5), (.mov (.c (.bool true))), none⟩]) .ret)))
theorem k74_cf : cfunc Tryd.prog Tryd.f74 = some ⟨15, k74, [(.tmp 4), (.tmp 5)]⟩ := by kernel_rfl
theorem sat_internal_stringslite_CutPrefix (N : Nat) (a0 : List UInt8) (a1 : List UInt8) (r : List UInt8 × Bool) (h : internal_stringslite_CutPrefix N a0 a1 = some r) : Sat Tryd.prog 74 noRows [.str a0, .str a1] (.tup [.str r.1, .bool r.2]) noRows := by
  refine xsat mixed Tryd.func74 k74_cf (rs := [.str r.1, .bool r.2]) rfl rfl ?_
  refine xseq ?_
  refine xreg ?_
  refine wpp rfl rfl ?_
  refine wpp rfl rfl ?_
  refine xseq ?_
  refine xseq ?_
  refine xreg ?_
  refine wpp rfl rfl ?_
  refine wpp rfl rfl ?_
  obtain ⟨x8, hx8, h⟩ := bindS h
  refine woo rfl (ocal (sat_internal_stringslite_HasPrefix N _ _ _ hx8) rfl (.cons sub_rfl (.cons sub_rfl .nil)) rfl rfl rfl) ?_
  refine wpp rfl rfl ?_
  rcases bifS h with ⟨c1, h⟩ | ⟨c1, h⟩
  · refine xcT rfl c1 ?_
    refine xseq ?_
    refine xreg ?_
    refine wpp rfl rfl ?_
    refine wpp rfl rfl ?_
    refine wpp rfl rfl ?_
    obtain rfl := someS h
    refine xret ?_
    exact ⟨nofun, rfl, rfl⟩
  · refine xcF rfl c1 ?_
    refine xskip ?_
    refine xseq ?_
    refine xreg ?_
    refine wpp rfl rfl ?_
    refine wpp rfl rfl ?_
    refine wpp rfl rfl ?_
    obtain ⟨x14, hx14, h⟩ := bindS h
    refine wpp rfl (p_drop hx14 rfl rfl) ?_
    refine wpp rfl rfl ?_
    refine wpp rfl rfl ?_
    obtain rfl := someS h
    refine xret ?_
    exact ⟨nofun, rfl, rfl⟩
end Go.Gp
end
section
set_option linter.unusedVariables false
set_option linter.unusedSimpArgs false
set_option maxRecDepth 4000
namespace Go.Gp
open Go.Vd Go.RowKit Go.Proofs
def k52 : IC := (.seq (.reg [⟨(some 4), (.mov (.c (.str []))), none⟩, ⟨(some 5), (.mov (.c (.bool false))), none⟩]) (.seq (.reg [⟨(some 6), (.mov (.t 0)), none⟩, ⟨(some 7), (.mov (.t 1)), none⟩, ⟨(some 8), (.call 74 [(.t 6), (.t 7)]), none⟩, ⟨(some 9), (.ext 0 (.t 8)), none⟩, ⟨(some 10), (.ext 1 (.t 8)), none⟩, ⟨(some 4), (.mov (.t 9)), none⟩, ⟨(some 5), (.mov (.t 10)), none⟩]) .ret))
theorem k52_cf : cfunc Tryd.prog Tryd.f52 = some ⟨11, k52, [(.tmp 4), (.tmp 5)]⟩ := by kernel_rfl
theorem sat_strings_CutPrefix (N : Nat) (a0 : List UInt8) (a1 : List UInt8) (r : List UInt8 × Bool) (h : strings_CutPrefix N a0 a1 = some r) : Sat Tryd.prog 52 noRows [.str a0, .str a1] (.tup [.str r.1, .bool r.2]) noRows := by
  refine xsat mixed Tryd.func52 k52_cf (rs := [.str r.1, .bool r.2]) rfl rfl ?_
  refine xseq ?_
  refine xreg ?_
  refine wpp rfl rfl ?_
  refine wpp rfl rfl ?_
  refine xseq ?_
  refine xreg ?_
  refine wpp rfl rfl ?_
  refine wpp rfl rfl ?_
  obtain ⟨x8, hx8, h⟩ := bindS h
  refine woo rfl (ocal (sat_internal_stringslite_CutPrefix N _ _ _ hx8) rfl (.cons sub_rfl (.cons sub_rfl .nil)) rfl rfl rfl) ?_
  refine wpp rfl rfl ?_
  refine wpp rfl rfl ?_
  refine wpp rfl rfl ?_
  refine wpp rfl rfl ?_
  obtain rfl := someS h
  refine xret ?_
  exact ⟨nofun, rfl, rfl⟩
end Go.Gp
end
section
set_option linter.unusedVariables false
set_option linter.unusedSimpArgs false
set_option maxRecDepth 4000
namespace Go.Gp
open Go.Vd Go.RowKit Go.Proofs
def k64_l10 : IC := (.seq (.seq (.reg [⟨(some 8), (.mov (.t 7)), none⟩, ⟨(some 9), (.mov (.t 0)), none⟩, ⟨(some 10), (.len true (.t 9)), none⟩, ⟨(some 11), (.bin .lss (.t 8) (.t 10)), none⟩]) (.cond (.t 11) .skip (.exit 0))) (.seq (.block 1 (.seq (.reg [⟨(some 14), (.mov (.t 0)), none⟩, ⟨(some 15), (.mov (.t 7)), none⟩, ⟨(some 16), (.idxs (.t 14) (.t 15)), none⟩]) (.block 2 (.seq (.reg [⟨(some 18), (.bin .eql (.t 16) (.c (.int .u8 92))), none⟩, ⟨(some 17), (.mov (.t 18)), none⟩]) (.cond (.t 17) (.reg [⟨(some 19), (.mov (.t 7)), none⟩, ⟨(some 20), (.bin .add (.t 19) (.c (.int .i64 1))), none⟩, ⟨(some 7), (.mov (.t 20)), none⟩]) (.seq (.reg [⟨(some 22), (.mov (.t 1)), none⟩, ⟨(some 23), (.bin .eql (.t 16) (.t 22)), none⟩, ⟨(some 21), (.mov (.t 23)), none⟩]) (.cond (.t 21) (.seq (.reg [⟨(some 24), (.mov (.t 5)), none⟩, ⟨(some 25), (.mov (.t 0)), none⟩, ⟨(some 26), (.mov (.t 6)), none⟩, ⟨(some 27), (.mov (.t 7)), none⟩, ⟨(some 28), (.slcs (.t 25) (some (.t 26)) (some (.t 27))), none⟩, ⟨(some 29), (.bsl 1 [(.t 28)]), none⟩, ⟨(some 30), (.app 9 1 16 (.t 24) (.t 29)), none⟩, ⟨(some 5), (.mov (.t 30)), none⟩]) (.reg [⟨(some 31), (.mov (.t 7)), none⟩, ⟨(some 32), (.bin .add (.t 31) (.c (.int .i64 1))), none⟩, ⟨(some 6), (.mov (.t 32)), none⟩])) .skip))))))) (.reg [⟨(some 12), (.mov (.t 7)), none⟩, ⟨(some 13), (.bin .add (.t 12) (.c (.int .i64 1))), none⟩, ⟨(some 7), (.mov (.t 13)), none⟩])))
def k64 : IC := (.seq (.reg [⟨(some 4), (.mov (.c .nl)), none⟩]) (.seq (.reg [⟨(some 5), (.mov (.c .nl)), none⟩]) (.seq (.reg [⟨(some 6), (.mov (.c (.int .i64 0))), none⟩]) (.seq (.seq (.reg [⟨(some 7), (.mov (.c (.int .i64 0))), none⟩]) (.block 0 (.loop k64_l10))) (.seq (.reg [⟨(some 33), (.mov (.t 5)), none⟩, ⟨(some 34), (.mov (.t 0)), none⟩, ⟨(some 35), (.mov (.t 6)), none⟩, ⟨(some 36), (.slcs (.t 34) (some (.t 35)) none), none⟩, ⟨(some 37), (.bsl 1 [(.t 36)]), none⟩, ⟨(some 38), (.app 9 1 16 (.t 33) (.t 37)), none⟩, ⟨(some 4), (.mov (.t 38)), none⟩]) .ret)))))
theorem k64_cf : cfunc Tryd.prog Tryd.f64 = some ⟨39, k64, [(.tmp 4)]⟩ := by kernel_rfl
theorem w_dn_cut_l10 (N : Nat) (a0 : List UInt8) (a1 : UInt8) : ∀ (n : Nat) (x : Int × Int × List (List UInt8)) (y : Int × List (List UInt8)), dn_cut_l10 N a0 a1 n x = some y → WX Tryd.prog (fun _ => false) (.loop k64_l10) ((fun (x : Int × Int × List (List UInt8)) => ⟨ofL [(0, .str a0), (1, eb a1), (5, .slr 1005 0 x.2.2.length), (6, .int .i64 x.1), (7, .int .i64 x.2.1)], ofL [(1005, ⟨1, true, List.map PV.str x.2.2⟩)]⟩) x) ((fun y e s => e = .exit 0 ∧ s = ⟨ofL [(0, .str a0), (5, .slr 1005 0 y.2.length), (6, .int .i64 y.1)], ofL [(1005, ⟨1, true, List.map PV.str y.2⟩)]⟩ : (Int × List (List UInt8)) → Xt → St → Prop) y) := by
  refine xloop (fun (x : Int × Int × List (List UInt8)) => ⟨ofL [(0, .str a0), (1, eb a1), (5, .slr 1005 0 x.2.2.length), (6, .int .i64 x.1), (7, .int .i64 x.2.1)], ofL [(1005, ⟨1, true, List.map PV.str x.2.2⟩)]⟩) _ (dn_cut_l10 N a0 a1) (dn_cut_l10_b N a0 a1) (fun _ => rfl) (fun _ _ => rfl) ?_
  rintro rec ⟨v6l10, v7l10, r1005l10⟩ y h
  refine xseq ?_
  refine xseq ?_
  refine xreg ?_
  refine wpp rfl rfl ?_
  refine wpp rfl rfl ?_
  refine wpp rfl rfl ?_
  refine wpp rfl rfl ?_
  rcases bifS h with ⟨c1, h⟩ | ⟨c1, h⟩
  · refine xcT rfl c1 ?_
    refine xskip ?_
    refine xjoin (fun (x : Int × Int × List (List UInt8)) => ⟨ofL [(0, .str a0), (1, eb a1), (5, .slr 1005 0 x.2.2.length), (6, .int .i64 x.1), (7, .int .i64 x.2.1)], ofL [(1005, ⟨1, true, List.map PV.str x.2.2⟩)]⟩) (fun x => dn_cut_j17 rec x.1 x.2.1 x.2.2 = some y) ?_ ?_
    · rintro ⟨v6j17, v7j17, r1005j17⟩ h
      refine xreg ?_
      refine wpp rfl rfl ?_
      refine wpp (p := .int .i64 (w64 (v7j17 + (1 : Int)))) rfl rfl ?_
      refine wpp rfl rfl ?_
      exact ⟨(v6j17, (w64 (v7j17 + (1 : Int))), r1005j17), (canon0 ⟨rfl, rfl, rfl, rfl, rfl, trivial⟩ ⟨rfl, trivial⟩ rfl rfl), h⟩
    · skip
      refine xblk ?_
      refine xseq ?_
      refine xreg ?_
      refine wpp rfl rfl ?_
      refine wpp rfl rfl ?_
      obtain ⟨x16, hx16, h⟩ := bindS h
      refine wpp rfl (p_idx hx16 rfl rfl) ?_
      refine xblk ?_
      refine xseq ?_
      refine xreg ?_
      refine wpp (p := .bool (((x16).toNat : Int) == (92 : Int))) rfl rfl ?_
      refine wpp rfl rfl ?_
      rcases bifS h with ⟨c2, h⟩ | ⟨c2, h⟩
      · refine xcT rfl c2 ?_
        refine xreg ?_
        refine wpp rfl rfl ?_
        refine wpp (p := .int .i64 (w64 (v7l10 + (1 : Int)))) rfl rfl ?_
        refine wpp rfl rfl ?_
        exact ⟨(v6l10, (w64 (v7l10 + (1 : Int))), r1005l10), (canon0 ⟨rfl, rfl, rfl, rfl, rfl, trivial⟩ ⟨rfl, trivial⟩ rfl rfl), h⟩
      · refine xcF rfl c2 ?_
        refine xseq ?_
        refine xreg ?_
        refine wpp rfl rfl ?_
        refine wpp (p := .bool (((x16).toNat : Int) == ((a1).toNat : Int))) rfl rfl ?_
        refine wpp rfl rfl ?_
        rcases bifS h with ⟨c3, h⟩ | ⟨c3, h⟩
        · refine xcT rfl c3 ?_
          refine xseq ?_
          refine xreg ?_
          refine wpp rfl rfl ?_
          refine wpp rfl rfl ?_
          refine wpp rfl rfl ?_
          refine wpp rfl rfl ?_
          obtain ⟨x28, hx28, h⟩ := bindS h
          refine wpp rfl (p_cut hx28 rfl rfl rfl) ?_
          refine woo rfl (obsl 29 rfl rfl rfl) ?_
          obtain ⟨x30, hx30, h⟩ := bindS h
          refine wapp (f := PV.str) 30 hx30 rfl rfl rfl rfl rfl (el_row rfl (full_row (f := PV.str) (l := [x28]))) rfl rfl rfl rfl ?_
          refine wpp rfl rfl ?_
          refine xreg ?_
          refine wpp rfl rfl ?_
          refine wpp (p := .int .i64 (w64 (v7l10 + (1 : Int)))) rfl rfl ?_
          refine wpp rfl rfl ?_
          exact ⟨((w64 (v7l10 + (1 : Int))), v7l10, x30), (Norm.trans (rename 30 1005 rfl rfl) (canon0 ⟨rfl, rfl, rfl, rfl, rfl, trivial⟩ ⟨rfl, trivial⟩ rfl rfl)), h⟩
        · refine xcF rfl c3 ?_
          refine xskip ?_
          exact ⟨(v6l10, v7l10, r1005l10), (canon0 ⟨rfl, rfl, rfl, rfl, rfl, trivial⟩ ⟨rfl, trivial⟩ rfl rfl), h⟩
  · refine xcF rfl c1 ?_
    obtain rfl := someS h
    exact xexitn (st1 := ⟨ofL [(0, .str a0), (5, .slr 1005 0 r1005l10.length), (6, .int .i64 v6l10)], ofL [(1005, ⟨1, true, List.map PV.str r1005l10⟩)]⟩) (canon0 ⟨rfl, rfl, rfl, trivial⟩ ⟨rfl, trivial⟩ rfl rfl) ⟨rfl, rfl⟩
theorem sat_dn_cut (N : Nat) (a0 : List UInt8) (a1 : UInt8) (r : List (List UInt8)) (h : dn_cut N a0 a1 = some r) : Sat Tryd.prog 64 noRows [.str a0, eb a1] (.sl 1 (List.map PV.str r)) noRows := by
  refine xsat mixed Tryd.func64 k64_cf (rs := [.sl 1 (List.map PV.str r)]) rfl rfl ?_
  refine xseq ?_
  refine xreg ?_
  refine wpp rfl rfl ?_
  refine xseq ?_
  refine xreg ?_
  refine wpp rfl rfl ?_
  refine xseq ?_
  refine xreg ?_
  refine wpp rfl rfl ?_
  refine xseq ?_
  refine xseq ?_
  refine xreg ?_
  refine wpp rfl rfl ?_
  refine xblk ?_
  obtain ⟨y4, hy4, h⟩ := bindS h
  refine xloopU (st1 := ⟨ofL [(0, .str a0), (1, eb a1), (5, .slr 1005 0 ([].length)), (6, .int .i64 0), (7, .int .i64 0)], ofL [(1005, ⟨1, true, List.map PV.str []⟩)]⟩) (Norm.trans (nlrow 5 1005 1 true rfl rfl rfl) (canon0 ⟨rfl, rfl, rfl, rfl, rfl, trivial⟩ ⟨rfl, trivial⟩ rfl rfl)) (w_dn_cut_l10 N a0 a1 N _ _ hy4) ?_
  rintro e s ⟨rfl, rfl⟩
  refine xseq ?_
  refine xreg ?_
  refine wpp rfl rfl ?_
  refine wpp rfl rfl ?_
  refine wpp rfl rfl ?_
  obtain ⟨x36, hx36, h⟩ := bindS h
  refine wpp rfl (p_drop hx36 rfl rfl) ?_
  refine woo rfl (obsl 37 rfl rfl rfl) ?_
  obtain ⟨x38, hx38, h⟩ := bindS h
  refine wapp (f := PV.str) 38 hx38 rfl rfl rfl rfl rfl (el_row rfl (full_row (f := PV.str) (l := [x36]))) rfl rfl rfl rfl ?_
  refine wpp rfl rfl ?_
  obtain rfl := someS h
  refine xretn (st1 := ⟨ofL [(4, .sl 1 (List.map PV.str x38))], ofL []⟩) (Norm.trans (Vd.freeze 38 _ rfl rfl rfl) (Norm.trans (nsub 4 (sub_eq (congrArg (PV.sl 1) (full_row (f := PV.str) (l := x38)))) rfl) (canon0 ⟨rfl, trivial⟩ trivial rfl rfl))) ?_
  exact ⟨nofun, rfl, rfl⟩
end Go.Gp
end
section
set_option linter.unusedVariables false
set_option linter.unusedSimpArgs false
set_option maxRecDepth 4000
namespace Go.Gp
open Go.Vd Go.RowKit Go.Proofs
def k102 : IC := (.seq (.reg [⟨(some 4), (.mov (.c (.str []))), none⟩, ⟨(some 5), (.mov (.c (.str []))), none⟩, ⟨(some 6), (.mov (.c (.bool false))), none⟩]) (.seq (.seq (.reg [⟨(some 8), (.mov (.t 0)), none⟩, ⟨(some 9), (.mov (.t 1)), none⟩, ⟨(some 10), (.call 92 [(.t 8), (.t 9)]), none⟩, ⟨(some 7), (.mov (.t 10)), none⟩]) (.seq (.reg [⟨(some 11), (.mov (.t 7)), none⟩, ⟨(some 12), (.bin .geq (.t 11) (.c (.int .i64 0))), none⟩]) (.cond (.t 12) (.seq (.regd 12 [⟨(some 13), (.mov (.t 0)), none⟩, ⟨(some 14), (.mov (.t 7)), none⟩, ⟨(some 15), (.slcs (.t 13) none (some (.t 14))), none⟩, ⟨(some 16), (.mov (.t 0)), none⟩, ⟨(some 17), (.mov (.t 7)), none⟩, ⟨(some 18), (.mov (.t 1)), none⟩, ⟨(some 19), (.len true (.t 18)), none⟩, ⟨(some 20), (.bin .add (.t 17) (.t 19)), none⟩, ⟨(some 21), (.slcs (.t 16) (some (.t 20)) none), none⟩, ⟨(some 4), (.mov (.t 15)), none⟩, ⟨(some 5), (.mov (.t 21)), none⟩, ⟨(some 6), (.mov (.c (.bool true))), none⟩]) .ret) .skip))) (.seq (.reg [⟨(some 22), (.mov (.t 0)), none⟩, ⟨(some 4), (.mov (.t 22)), none⟩, ⟨(some 5), (.mov (.c (.str []))), none⟩, ⟨(some 6), (.mov (.c (.bool false))), none⟩]) .ret)))
theorem k102_cf : cfunc Tryd.prog Tryd.f102 = some ⟨23, k102, [(.tmp 4), (.tmp 5), (.tmp 6)]⟩ := by kernel_rfl
theorem sat_internal_stringslite_Cut (N : Nat) (a0 : List UInt8) (a1 : List UInt8) (r : List UInt8 × List UInt8 × Bool) (h : internal_stringslite_Cut N a0 a1 = some r) : Sat Tryd.prog 102 noRows [.str a0, .str a1] (.tup [.str r.1, .str r.2.1, .bool r.2.2]) noRows := by
  refine xsat mixed Tryd.func102 k102_cf (rs := [.str r.1, .str r.2.1, .bool r.2.2]) rfl rfl ?_
  refine xseq ?_
  refine xreg ?_
  refine wpp rfl rfl ?_
  refine wpp rfl rfl ?_
  refine wpp rfl rfl ?_
  refine xseq ?_
  refine xseq ?_
  refine xreg ?_
  refine wpp rfl rfl ?_
  refine wpp rfl rfl ?_
  obtain ⟨x10, hx10, h⟩ := bindS h
  refine woo rfl (ocal (sat_stringslite_Index N _ _ _ hx10) rfl (.cons sub_rfl (.cons sub_rfl .nil)) rfl rfl rfl) ?_
  refine wpp rfl rfl ?_
  refine xseq ?_
  refine xreg ?_
  refine wpp rfl rfl ?_
  refine wpp rfl rfl ?_
  rcases bifS h with ⟨c1, h⟩ | ⟨c1, h⟩
  · refine xcT rfl c1 ?_
    refine xseq ?_
    refine xregd ?_
    refine wdp rfl rfl ?_
    refine wdp rfl rfl ?_
    obtain ⟨x15, hx15, h⟩ := bindS h
    refine wdp rfl (p_take hx15 rfl rfl) ?_
    refine wdp rfl rfl ?_
    refine wdp rfl rfl ?_
    refine wdp rfl rfl ?_
    refine wdp rfl rfl ?_
    refine wdp (p := .int .i64 (w64 (x10 + (a1.length : Int)))) rfl rfl ?_
    obtain ⟨x21, hx21, h⟩ := bindS h
    refine wdp rfl (p_drop hx21 rfl rfl) ?_
    refine wdp rfl rfl ?_
    refine wdp rfl rfl ?_
    refine wdp rfl rfl ?_
    obtain rfl := someS h
    refine xret ?_
    exact ⟨nofun, rfl, rfl⟩
  · refine xcF rfl c1 ?_
    refine xskip ?_
    refine xseq ?_
    refine xreg ?_
    refine wpp rfl rfl ?_
    refine wpp rfl rfl ?_
    refine wpp rfl rfl ?_
    refine wpp rfl rfl ?_
    obtain rfl := someS h
    refine xret ?_
    exact ⟨nofun, rfl, rfl⟩
end Go.Gp
end
section
set_option linter.unusedVariables false
set_option linter.unusedSimpArgs false
set_option maxRecDepth 4000
namespace Go.Gp
open Go.Vd Go.RowKit Go.Proofs
def k83 : IC := (.seq (.reg [⟨(some 4), (.mov (.c (.str []))), none⟩, ⟨(some 5), (.mov (.c (.str []))), none⟩, ⟨(some 6), (.mov (.c (.bool false))), none⟩]) (.seq (.reg [⟨(some 7), (.mov (.t 0)), none⟩, ⟨(some 8), (.mov (.t 1)), none⟩, ⟨(some 9), (.call 102 [(.t 7), (.t 8)]), none⟩, ⟨(some 10), (.ext 0 (.t 9)), none⟩, ⟨(some 11), (.ext 1 (.t 9)), none⟩, ⟨(some 12), (.ext 2 (.t 9)), none⟩, ⟨(some 4), (.mov (.t 10)), none⟩, ⟨(some 5), (.mov (.t 11)), none⟩, ⟨(some 6), (.mov (.t 12)), none⟩]) .ret))
theorem k83_cf : cfunc Tryd.prog Tryd.f83 = some ⟨13, k83, [(.tmp 4), (.tmp 5), (.tmp 6)]⟩ := by kernel_rfl
theorem sat_strings_Cut (N : Nat) (a0 : List UInt8) (a1 : List UInt8) (r : List UInt8 × List UInt8 × Bool) (h : strings_Cut N a0 a1 = some r) : Sat Tryd.prog 83 noRows [.str a0, .str a1] (.tup [.str r.1, .str r.2.1, .bool r.2.2]) noRows := by
  refine xsat mixed Tryd.func83 k83_cf (rs := [.str r.1, .str r.2.1, .bool r.2.2]) rfl rfl ?_
  refine xseq ?_
  refine xreg ?_
  refine wpp rfl rfl ?_
  refine wpp rfl rfl ?_
  refine wpp rfl rfl ?_
  refine xseq ?_
  refine xreg ?_
  refine wpp rfl rfl ?_
  refine wpp rfl rfl ?_
  obtain ⟨x9, hx9, h⟩ := bindS h
  refine woo rfl (ocal (sat_internal_stringslite_Cut N _ _ _ hx9) rfl (.cons sub_rfl (.cons sub_rfl .nil)) rfl rfl rfl) ?_
  refine wpp rfl rfl ?_
  refine wpp rfl rfl ?_
  refine wpp rfl rfl ?_
  refine wpp rfl rfl ?_
  refine wpp rfl rfl ?_
  refine wpp rfl rfl ?_
  obtain rfl := someS h
  refine xret ?_
  exact ⟨nofun, rfl, rfl⟩
end Go.Gp
end
section
set_option linter.unusedVariables false
set_option linter.unusedSimpArgs false
set_option maxRecDepth 4000
namespace Go.Gp
open Go.Vd Go.RowKit Go.Proofs
def k103 : IC := (.seq (.reg [⟨(some 4), (.mov (.c (.bool false))), none⟩]) (.seq (.reg [⟨(some 5), (.mov (.t 0)), none⟩, ⟨(some 6), (.mov (.t 1)), none⟩, ⟨(some 7), (.call 68 [(.t 5), (.t 6)]), none⟩, ⟨(some 4), (.mov (.t 7)), none⟩]) .ret))
theorem k103_cf : cfunc Tryd.prog Tryd.f103 = some ⟨8, k103, [(.tmp 4)]⟩ := by kernel_rfl
theorem sat_strings_HasPrefix (N : Nat) (a0 : List UInt8) (a1 : List UInt8) (r : Bool) (h : strings_HasPrefix N a0 a1 = some r) : Sat Tryd.prog 103 noRows [.str a0, .str a1] (.bool r) noRows := by
  refine xsat mixed Tryd.func103 k103_cf (rs := [.bool r]) rfl rfl ?_
  refine xseq ?_
  refine xreg ?_
  refine wpp rfl rfl ?_
  refine xseq ?_
  refine xreg ?_
  refine wpp rfl rfl ?_
  refine wpp rfl rfl ?_
  obtain ⟨x7, hx7, h⟩ := bindS h
  refine woo rfl (ocal (sat_internal_stringslite_HasPrefix N _ _ _ hx7) rfl (.cons sub_rfl (.cons sub_rfl .nil)) rfl rfl rfl) ?_
  refine wpp rfl rfl ?_
  obtain rfl := someS h
  refine xret ?_
  exact ⟨nofun, rfl, rfl⟩
end Go.Gp
end
section
set_option linter.unusedVariables false
set_option linter.unusedSimpArgs false
set_option maxRecDepth 4000
namespace Go.Gp
open Go.Vd Go.RowKit Go.Proofs
def k104 : IC := (.seq (.reg [⟨(some 4), (.mov (.c (.int .u8 0))), none⟩, ⟨(some 5), (.mov (.c (.bool false))), none⟩]) (.seq (.seq (.reg [⟨(some 7), (.mov (.t 1)), none⟩, ⟨(some 8), (.mov (.t 0)), none⟩, ⟨(some 9), (.len true (.t 8)), none⟩, ⟨(some 10), (.bin .geq (.t 7) (.t 9)), none⟩]) (.cond (.t 10) (.seq (.reg [⟨(some 4), (.mov (.c (.int .u8 0))), none⟩, ⟨(some 5), (.mov (.c (.bool false))), none⟩]) .ret) .skip)) (.seq (.reg [⟨(some 11), (.mov (.t 0)), none⟩, ⟨(some 12), (.mov (.t 1)), none⟩, ⟨(some 13), (.mov (.t 1)), none⟩, ⟨(some 14), (.bin .add (.t 13) (.c (.int .i64 1))), none⟩, ⟨(some 15), (.slcs (.t 11) (some (.t 12)) (some (.t 14))), none⟩, ⟨(some 16), (.call 28 [(.t 15)]), none⟩, ⟨(some 17), (.idxs (.t 16) (.c (.int .i64 0))), none⟩, ⟨(some 18), (.call 51 [(.c (.str [48, 49, 50, 51, 52, 53, 54, 55, 56, 57, 97, 98, 99, 100, 101, 102])), (.t 17)]), none⟩, ⟨(some 6), (.mov (.t 18)), none⟩]) (.seq (.reg [⟨(some 19), (.mov (.t 6)), none⟩, ⟨(some 20), (.mm true (.t 19) [(.c (.int .i64 0))]), none⟩, ⟨(some 21), (.cvi .u8 (.t 20)), none⟩, ⟨(some 22), (.mov (.t 6)), none⟩, ⟨(some 23), (.bin .geq (.t 22) (.c (.int .i64 0))), none⟩, ⟨(some 4), (.mov (.t 21)), none⟩, ⟨(some 5), (.mov (.t 23)), none⟩]) .ret))))
theorem k104_cf : cfunc Tryd.prog Tryd.f104 = some ⟨24, k104, [(.tmp 4), (.tmp 5)]⟩ := by kernel_rfl
theorem sat_dn_digit (N : Nat) (a0 : List UInt8) (a1 : Int) (r : UInt8 × Bool) (h : dn_digit N a0 a1 = some r) : Sat Tryd.prog 104 noRows [.str a0, .int .i64 a1] (.tup [eb r.1, .bool r.2]) noRows := by
  refine xsat mixed Tryd.func104 k104_cf (rs := [eb r.1, .bool r.2]) rfl rfl ?_
  refine xseq ?_
  refine xreg ?_
  refine wpp rfl rfl ?_
  refine wpp rfl rfl ?_
  refine xseq ?_
  refine xseq ?_
  refine xreg ?_
  refine wpp rfl rfl ?_
  refine wpp rfl rfl ?_
  refine wpp rfl rfl ?_
  refine wpp rfl rfl ?_
  rcases bifS h with ⟨c1, h⟩ | ⟨c1, h⟩
  · refine xcT rfl c1 ?_
    refine xseq ?_
    refine xreg ?_
    refine wpp rfl rfl ?_
    refine wpp rfl rfl ?_
    obtain rfl := someS h
    refine xret ?_
    exact ⟨nofun, rfl, rfl⟩
  · refine xcF rfl c1 ?_
    refine xskip ?_
    refine xseq ?_
    refine xreg ?_
    refine wpp rfl rfl ?_
    refine wpp rfl rfl ?_
    refine wpp rfl rfl ?_
    refine wpp (p := .int .i64 (w64 (a1 + (1 : Int)))) rfl rfl ?_
    obtain ⟨x15, hx15, h⟩ := bindS h
    refine wpp rfl (p_cut hx15 rfl rfl rfl) ?_
    obtain ⟨x16, hx16, h⟩ := bindS h
    refine woo rfl (ocal (sat_dn_Lower N _ _ hx16) rfl (.cons sub_rfl .nil) rfl rfl rfl) ?_
    obtain ⟨x17, hx17, h⟩ := bindS h
    refine wpp rfl (p_idx hx17 rfl rfl) ?_
    obtain ⟨x18, hx18, h⟩ := bindS h
    refine woo rfl (ocal (sat_strings_IndexByte N _ _ _ hx18) rfl (.cons sub_rfl (.cons sub_rfl .nil)) rfl rfl rfl) ?_
    refine wpp rfl rfl ?_
    refine xseq ?_
    refine xreg ?_
    refine wpp rfl rfl ?_
    refine wpp (p := .int .i64 (mx x18 (0 : Int))) rfl rfl ?_
    refine wpp rfl (p_cvu8 rfl) ?_
    refine wpp rfl rfl ?_
    refine wpp rfl rfl ?_
    refine wpp rfl rfl ?_
    refine wpp rfl rfl ?_
    obtain rfl := someS h
    refine xret ?_
    exact ⟨nofun, rfl, rfl⟩
end Go.Gp
end
section
set_option linter.unusedVariables false
set_option linter.unusedSimpArgs false
set_option maxRecDepth 4000
set_option maxHeartbeats 4000000
namespace Go.Gp
open Go.Vd Go.RowKit Go.Proofs
def k84_l18 : IC := (.seq (.seq (.reg [⟨(some 18), (.mov (.t 6)), none⟩, ⟨(some 19), (.mov (.t 0)), none⟩, ⟨(some 20), (.len true (.t 19)), none⟩, ⟨(some 21), (.bin .lss (.t 18) (.t 20)), none⟩]) (.cond (.t 21) .skip (.exit 0))) (.seq (.block 1 (.seq (.reg [⟨(some 24), (.mov (.t 0)), none⟩, ⟨(some 25), (.mov (.t 6)), none⟩, ⟨(some 26), (.idxs (.t 24) (.t 25)), none⟩, ⟨(some 7), (.mov (.t 26)), none⟩]) (.seq (.reg [⟨(some 27), (.mov (.t 7)), none⟩, ⟨(some 28), (.bin .eql (.t 27) (.c (.int .u8 32))), none⟩, ⟨(some 5), (.mov (.t 28)), none⟩]) (.block 2 (.seq (.reg [⟨(some 34), (.mov (.t 7)), none⟩, ⟨(some 35), (.bin .eql (.t 34) (.c (.int .u8 92))), none⟩, ⟨(some 33), (.mov (.t 35)), none⟩]) (.cond (.t 33) (.seq (.reg [⟨(some 36), (.mov (.t 6)), none⟩, ⟨(some 37), (.bin .add (.t 36) (.c (.int .i64 1))), none⟩, ⟨(some 6), (.mov (.t 37)), none⟩]) (.seq (.seq (.reg [⟨(some 38), (.mov (.t 6)), none⟩, ⟨(some 39), (.mov (.t 0)), none⟩, ⟨(some 40), (.len true (.t 39)), none⟩, ⟨(some 41), (.bin .lss (.t 38) (.t 40)), none⟩, ⟨(some 42), (.mov (.t 41)), none⟩, ⟨(some 43), (.mov (.t 0)), (some (42, true))⟩, ⟨(some 44), (.mov (.t 6)), (some (42, true))⟩, ⟨(some 45), (.idxs (.t 43) (.t 44)), (some (42, true))⟩, ⟨(some 46), (.call 51 [(.c (.str [44, 43, 34, 92, 60, 62, 59, 35, 61, 32])), (.t 45)]), (some (42, true))⟩, ⟨(some 47), (.bin .geq (.t 46) (.c (.int .i64 0))), (some (42, true))⟩, ⟨(some 48), (.pick (.t 42) (.t 47) (.c (.bool false))), none⟩]) (.cond (.t 48) (.seq (.reg [⟨(some 49), (.mov (.t 4)), none⟩, ⟨(some 50), (.mov (.t 0)), none⟩, ⟨(some 51), (.mov (.t 6)), none⟩, ⟨(some 52), (.idxs (.t 50) (.t 51)), none⟩, ⟨(some 53), (.bsl 1 [(.t 52)]), none⟩, ⟨(some 54), (.app 5 1 1 (.t 49) (.t 53)), none⟩, ⟨(some 4), (.mov (.t 54)), none⟩]) (.exit 1)) .skip)) (.seq (.reg [⟨(some 56), (.mov (.t 0)), none⟩, ⟨(some 57), (.mov (.t 6)), none⟩, ⟨(some 58), (.call 104 [(.t 56), (.t 57)]), none⟩, ⟨(some 55), (.mov (.t 58)), none⟩, ⟨(some 59), (.ext 0 (.t 55)), none⟩, ⟨(some 60), (.ext 1 (.t 55)), none⟩, ⟨(some 8), (.mov (.t 59)), none⟩, ⟨(some 9), (.mov (.t 60)), none⟩]) (.seq (.reg [⟨(some 62), (.mov (.t 0)), none⟩, ⟨(some 63), (.mov (.t 6)), none⟩, ⟨(some 64), (.bin .add (.t 63) (.c (.int .i64 1))), none⟩, ⟨(some 65), (.call 104 [(.t 62), (.t 64)]), none⟩, ⟨(some 61), (.mov (.t 65)), none⟩, ⟨(some 66), (.ext 0 (.t 61)), none⟩, ⟨(some 67), (.ext 1 (.t 61)), none⟩, ⟨(some 10), (.mov (.t 66)), none⟩, ⟨(some 11), (.mov (.t 67)), none⟩]) (.seq (.seq (.reg [⟨(some 68), (.mov (.t 9)), none⟩, ⟨(some 69), (.un .not (.t 68)), none⟩, ⟨(some 70), (.mov (.t 69)), none⟩, ⟨(some 71), (.mov (.t 11)), (some (70, false))⟩, ⟨(some 72), (.un .not (.t 71)), (some (70, false))⟩, ⟨(some 73), (.pick (.t 70) (.c (.bool true)) (.t 72)), none⟩]) (.cond (.t 73) (.seq (.reg [⟨(some 2), (.mov (.c (.str []))), none⟩, ⟨(some 3), (.mov (.c (.bool false))), none⟩]) .ret) .skip)) (.seq (.reg [⟨(some 74), (.mov (.t 4)), none⟩, ⟨(some 75), (.mov (.t 8)), none⟩, ⟨(some 76), (.bin .shl (.t 75) (.c (.int .u64 4))), none⟩, ⟨(some 77), (.mov (.t 10)), none⟩, ⟨(some 78), (.bin .or (.t 76) (.t 77)), none⟩, ⟨(some 79), (.bsl 1 [(.t 78)]), none⟩, ⟨(some 80), (.app 5 1 1 (.t 74) (.t 79)), none⟩, ⟨(some 4), (.mov (.t 80)), none⟩]) (.reg [⟨(some 81), (.mov (.t 6)), none⟩, ⟨(some 82), (.bin .add (.t 81) (.c (.int .i64 1))), none⟩, ⟨(some 6), (.mov (.t 82)), none⟩]))))))) (.seq (.reg [⟨(some 84), (.mov (.t 7)), none⟩, ⟨(some 85), (.call 51 [(.c (.str [44, 43, 34, 92, 60, 62, 59])), (.t 84)]), none⟩, ⟨(some 86), (.bin .geq (.t 85) (.c (.int .i64 0))), none⟩, ⟨(some 83), (.mov (.t 86)), none⟩]) (.cond (.t 83) (.seq (.reg [⟨(some 2), (.mov (.c (.str []))), none⟩, ⟨(some 3), (.mov (.c (.bool false))), none⟩]) .ret) (.reg [⟨(some 29), (.mov (.t 4)), none⟩, ⟨(some 30), (.mov (.t 7)), none⟩, ⟨(some 31), (.bsl 1 [(.t 30)]), none⟩, ⟨(some 32), (.app 5 1 1 (.t 29) (.t 31)), none⟩, ⟨(some 4), (.mov (.t 32)), none⟩]))))))))) (.reg [⟨(some 22), (.mov (.t 6)), none⟩, ⟨(some 23), (.bin .add (.t 22) (.c (.int .i64 1))), none⟩, ⟨(some 6), (.mov (.t 23)), none⟩])))
def k84 : IC := (.seq (.reg [⟨(some 2), (.mov (.c (.str []))), none⟩, ⟨(some 3), (.mov (.c (.bool false))), none⟩]) (.seq (.seq (.reg [⟨(some 12), (.mov (.t 0)), none⟩, ⟨(some 13), (.call 103 [(.t 12), (.c (.str [35]))]), none⟩, ⟨(some 14), (.mov (.t 13)), none⟩, ⟨(some 15), (.mov (.t 0)), (some (14, false))⟩, ⟨(some 16), (.call 103 [(.t 15), (.c (.str [32]))]), (some (14, false))⟩, ⟨(some 17), (.pick (.t 14) (.c (.bool true)) (.t 16)), none⟩]) (.cond (.t 17) (.seq (.reg [⟨(some 2), (.mov (.c (.str []))), none⟩, ⟨(some 3), (.mov (.c (.bool false))), none⟩]) .ret) .skip)) (.seq (.reg [⟨(some 4), (.mov (.c .nl)), none⟩]) (.seq (.reg [⟨(some 5), (.mov (.c (.bool false))), none⟩]) (.seq (.seq (.reg [⟨(some 6), (.mov (.c (.int .i64 0))), none⟩]) (.block 0 (.loop k84_l18))) (.seq (.reg [⟨(some 87), (.mov (.t 4)), none⟩, ⟨(some 88), (.cvb (.t 87)), none⟩, ⟨(some 89), (.mov (.t 5)), none⟩, ⟨(some 90), (.un .not (.t 89)), none⟩, ⟨(some 2), (.mov (.t 88)), none⟩, ⟨(some 3), (.mov (.t 90)), none⟩]) .ret))))))
theorem k84_cf : cfunc Tryd.prog Tryd.f84 = some ⟨91, k84, [(.tmp 2), (.tmp 3)]⟩ := by kernel_rfl
theorem w_dn_unescape_l18 (N : Nat) (a0 : List UInt8) : ∀ (n : Nat) (x : Bool × Int × List UInt8) (y : (Bool × List UInt8) ⊕ (List UInt8 × Bool)), dn_unescape_l18 N a0 n x = some y → WX Tryd.prog (fun _ => false) (.loop k84_l18) ((fun (x : Bool × Int × List UInt8) => ⟨ofL [(0, .str a0), (4, .slr 1004 0 x.2.2.length), (5, .bool x.1), (6, .int .i64 x.2.1)], ofL [(1004, ⟨1, true, List.map eb x.2.2⟩)]⟩) x) ((Sum.elim (fun y e s => e = .exit 0 ∧ s = ⟨ofL [(4, .slr 1004 0 y.2.length), (5, .bool y.1)], ofL [(1004, ⟨1, true, List.map eb y.2⟩)]⟩) (fun y e s => e = .ret ∧ s = ⟨ofL [(2, .str y.1), (3, .bool y.2)], ofL []⟩) : ((Bool × List UInt8) ⊕ (List UInt8 × Bool)) → Xt → St → Prop) y) := by
  refine xloop (fun (x : Bool × Int × List UInt8) => ⟨ofL [(0, .str a0), (4, .slr 1004 0 x.2.2.length), (5, .bool x.1), (6, .int .i64 x.2.1)], ofL [(1004, ⟨1, true, List.map eb x.2.2⟩)]⟩) _ (dn_unescape_l18 N a0) (dn_unescape_l18_b N a0) (fun _ => rfl) (fun _ _ => rfl) ?_
  rintro rec ⟨v5l18, v6l18, r1004l18⟩ y h
  refine xseq ?_
  refine xseq ?_
  refine xreg ?_
  refine wpp rfl rfl ?_
  refine wpp rfl rfl ?_
  refine wpp rfl rfl ?_
  refine wpp rfl rfl ?_
  rcases bifS h with ⟨c4, h⟩ | ⟨c4, h⟩
  · refine xcT rfl c4 ?_
    refine xskip ?_
    refine xjoin (fun (x : Bool × Int × List UInt8) => ⟨ofL [(0, .str a0), (4, .slr 1004 0 x.2.2.length), (5, .bool x.1), (6, .int .i64 x.2.1)], ofL [(1004, ⟨1, true, List.map eb x.2.2⟩)]⟩) (fun x => dn_unescape_j25 rec x.1 x.2.1 x.2.2 = some y) ?_ ?_
    · rintro ⟨v5j25, v6j25, r1004j25⟩ h
      refine xreg ?_
      refine wpp rfl rfl ?_
      refine wpp (p := .int .i64 (w64 (v6j25 + (1 : Int)))) rfl rfl ?_
      refine wpp rfl rfl ?_
      exact ⟨(v5j25, (w64 (v6j25 + (1 : Int))), r1004j25), (canon0 ⟨rfl, rfl, rfl, rfl, trivial⟩ ⟨rfl, trivial⟩ rfl rfl), h⟩
    · skip
      refine xblk ?_
      refine xseq ?_
      refine xreg ?_
      refine wpp rfl rfl ?_
      refine wpp rfl rfl ?_
      obtain ⟨x26, hx26, h⟩ := bindS h
      refine wpp rfl (p_idx hx26 rfl rfl) ?_
      refine wpp rfl rfl ?_
      refine xseq ?_
      refine xreg ?_
      refine wpp rfl rfl ?_
      refine wpp (p := .bool (((x26).toNat : Int) == (32 : Int))) rfl rfl ?_
      refine wpp rfl rfl ?_
      refine xblk ?_
      refine xseq ?_
      refine xreg ?_
      refine wpp rfl rfl ?_
      refine wpp (p := .bool (((x26).toNat : Int) == (92 : Int))) rfl rfl ?_
      refine wpp rfl rfl ?_
      rcases bifS h with ⟨c5, h⟩ | ⟨c5, h⟩
      · refine xcT rfl c5 ?_
        refine xseq ?_
        refine xreg ?_
        refine wpp rfl rfl ?_
        refine wpp (p := .int .i64 (w64 (v6l18 + (1 : Int)))) rfl rfl ?_
        refine wpp rfl rfl ?_
        refine xseq ?_
        obtain ⟨g6, hg6, h⟩ := bindS h
        refine xseg ⟨ofL [(0, .str a0), (4, .slr 1004 0 r1004l18.length), (5, .bool (((x26).toNat : Int) == (32 : Int))), (6, .int .i64 (w64 (v6l18 + (1 : Int)))), (48, .bool g6)], ofL [(1004, ⟨1, true, List.map eb r1004l18⟩)]⟩ ?_ ?_
        · have h := hg6
          refine xreg ?_
          refine wpp rfl rfl ?_
          refine wpp rfl rfl ?_
          refine wpp rfl rfl ?_
          refine wpp rfl rfl ?_
          refine wpp rfl rfl ?_
          rcases bifS h with ⟨c7, h⟩ | ⟨c7, h⟩
          · skip
            refine wpp (gy rfl c7) rfl ?_
            refine wpp (gy rfl c7) rfl ?_
            obtain ⟨x45, hx45, h⟩ := bindS h
            refine wpp (gy rfl c7) (p_idx hx45 rfl rfl) ?_
            obtain ⟨x46, hx46, h⟩ := bindS h
            refine woo (gy rfl c7) (ocal (sat_strings_IndexByte N _ _ _ hx46) rfl (.cons sub_rfl (.cons sub_rfl .nil)) rfl rfl rfl) ?_
            refine wpp (gy rfl c7) rfl ?_
            refine wpp rfl (p_pick1 c7 rfl rfl) ?_
            obtain rfl := someS h
            exact (canon0 ⟨rfl, rfl, rfl, rfl, rfl, trivial⟩ ⟨rfl, trivial⟩ rfl rfl)
          · skip
            refine wsk (gn rfl c7) ?_
            refine wsk (gn rfl c7) ?_
            refine wsk (gn rfl c7) ?_
            refine wsk (gn rfl c7) ?_
            refine wsk (gn rfl c7) ?_
            refine wpp rfl (p_pick0 c7 rfl rfl) ?_
            obtain rfl := someS h
            exact (canon0 ⟨rfl, rfl, rfl, rfl, rfl, trivial⟩ ⟨rfl, trivial⟩ rfl rfl)
        · clear hg6
          rcases bifS h with ⟨c8, h⟩ | ⟨c8, h⟩
          · refine xcT rfl c8 ?_
            refine xseq ?_
            refine xreg ?_
            refine wpp rfl rfl ?_
            refine wpp rfl rfl ?_
            refine wpp rfl rfl ?_
            obtain ⟨x52, hx52, h⟩ := bindS h
            refine wpp rfl (p_idx hx52 rfl rfl) ?_
            refine woo rfl (obsl 53 rfl rfl rfl) ?_
            obtain ⟨x54, hx54, h⟩ := bindS h
            refine wapp (f := eb) 54 hx54 rfl rfl rfl rfl rfl (el_row rfl (full_row (f := eb) (l := [x52]))) rfl rfl rfl rfl ?_
            refine wpp rfl rfl ?_
            refine xexit ?_
            exact ⟨((((x26).toNat : Int) == (32 : Int)), (w64 (v6l18 + (1 : Int))), x54), (Norm.trans (rename 54 1004 rfl rfl) (canon0 ⟨rfl, rfl, rfl, rfl, trivial⟩ ⟨rfl, trivial⟩ rfl rfl)), h⟩
          · refine xcF rfl c8 ?_
            refine xskip ?_
            refine xseq ?_
            refine xreg ?_
            refine wpp rfl rfl ?_
            refine wpp rfl rfl ?_
            obtain ⟨x58, hx58, h⟩ := bindS h
            refine woo rfl (ocal (sat_dn_digit N _ _ _ hx58) rfl (.cons sub_rfl (.cons sub_rfl .nil)) rfl rfl rfl) ?_
            refine wpp rfl rfl ?_
            refine wpp rfl rfl ?_
            refine wpp rfl rfl ?_
            refine wpp rfl rfl ?_
            refine wpp rfl rfl ?_
            refine xseq ?_
            refine xreg ?_
            refine wpp rfl rfl ?_
            refine wpp rfl rfl ?_
            refine wpp (p := .int .i64 (w64 ((w64 (v6l18 + (1 : Int))) + (1 : Int)))) rfl rfl ?_
            obtain ⟨x65, hx65, h⟩ := bindS h
            refine woo rfl (ocal (sat_dn_digit N _ _ _ hx65) rfl (.cons sub_rfl (.cons sub_rfl .nil)) rfl rfl rfl) ?_
            refine wpp rfl rfl ?_
            refine wpp rfl rfl ?_
            refine wpp rfl rfl ?_
            refine wpp rfl rfl ?_
            refine wpp rfl rfl ?_
            refine xseq ?_
            obtain ⟨g9, hg9, h⟩ := bindS h
            refine xseg ⟨ofL [(0, .str a0), (4, .slr 1004 0 r1004l18.length), (5, .bool (((x26).toNat : Int) == (32 : Int))), (6, .int .i64 (w64 (v6l18 + (1 : Int)))), (8, eb x58.1), (10, eb x65.1), (73, .bool g9)], ofL [(1004, ⟨1, true, List.map eb r1004l18⟩)]⟩ ?_ ?_
            · have h := hg9
              refine xreg ?_
              refine wpp rfl rfl ?_
              refine wpp rfl rfl ?_
              refine wpp rfl rfl ?_
              rcases bifS h with ⟨c10, h⟩ | ⟨c10, h⟩
              · skip
                refine wsk (gn rfl c10) ?_
                refine wsk (gn rfl c10) ?_
                refine wpp rfl (p_pick1 c10 rfl rfl) ?_
                obtain rfl := someS h
                exact (canon0 ⟨rfl, rfl, rfl, rfl, rfl, rfl, rfl, trivial⟩ ⟨rfl, trivial⟩ rfl rfl)
              · skip
                refine wpp (gy rfl c10) rfl ?_
                refine wpp (gy rfl c10) rfl ?_
                refine wpp rfl (p_pick0 c10 rfl rfl) ?_
                obtain rfl := someS h
                exact (canon0 ⟨rfl, rfl, rfl, rfl, rfl, rfl, rfl, trivial⟩ ⟨rfl, trivial⟩ rfl rfl)
            · clear hg9
              rcases bifS h with ⟨c11, h⟩ | ⟨c11, h⟩
              · refine xcT rfl c11 ?_
                refine xseq ?_
                refine xreg ?_
                refine wpp rfl rfl ?_
                refine wpp rfl rfl ?_
                obtain rfl := someS h
                exact xretn (st1 := ⟨ofL [(2, .str ([] : List UInt8)), (3, .bool false)], ofL []⟩) (canon0 ⟨rfl, rfl, trivial⟩ trivial rfl rfl) ⟨rfl, rfl⟩
              · refine xcF rfl c11 ?_
                refine xskip ?_
                refine xseq ?_
                refine xreg ?_
                refine wpp rfl rfl ?_
                refine wpp rfl rfl ?_
                refine wpp rfl (p_u8shl (a := x58.1) (by decide) rfl rfl) ?_
                refine wpp rfl rfl ?_
                refine wpp rfl (p_u8or (a := (shlB x58.1 4)) (b := x65.1) rfl rfl) ?_
                refine woo rfl (obsl 79 rfl rfl rfl) ?_
                obtain ⟨x80, hx80, h⟩ := bindS h
                refine wapp (f := eb) 80 hx80 rfl rfl rfl rfl rfl (el_row rfl (full_row (f := eb) (l := [((shlB x58.1 4) ||| x65.1)]))) rfl rfl rfl rfl ?_
                refine wpp rfl rfl ?_
                refine xreg ?_
                refine wpp rfl rfl ?_
                refine wpp (p := .int .i64 (w64 ((w64 (v6l18 + (1 : Int))) + (1 : Int)))) rfl rfl ?_
                refine wpp rfl rfl ?_
                exact ⟨((((x26).toNat : Int) == (32 : Int)), (w64 ((w64 (v6l18 + (1 : Int))) + (1 : Int))), x80), (Norm.trans (rename 80 1004 rfl rfl) (canon0 ⟨rfl, rfl, rfl, rfl, trivial⟩ ⟨rfl, trivial⟩ rfl rfl)), h⟩
      · refine xcF rfl c5 ?_
        refine xseq ?_
        refine xreg ?_
        refine wpp rfl rfl ?_
        obtain ⟨x85, hx85, h⟩ := bindS h
        refine woo rfl (ocal (sat_strings_IndexByte N _ _ _ hx85) rfl (.cons sub_rfl (.cons sub_rfl .nil)) rfl rfl rfl) ?_
        refine wpp rfl rfl ?_
        refine wpp rfl rfl ?_
        rcases bifS h with ⟨c12, h⟩ | ⟨c12, h⟩
        · refine xcT rfl c12 ?_
          refine xseq ?_
          refine xreg ?_
          refine wpp rfl rfl ?_
          refine wpp rfl rfl ?_
          obtain rfl := someS h
          exact xretn (st1 := ⟨ofL [(2, .str ([] : List UInt8)), (3, .bool false)], ofL []⟩) (canon0 ⟨rfl, rfl, trivial⟩ trivial rfl rfl) ⟨rfl, rfl⟩
        · refine xcF rfl c12 ?_
          refine xreg ?_
          refine wpp rfl rfl ?_
          refine wpp rfl rfl ?_
          refine woo rfl (obsl 31 rfl rfl rfl) ?_
          obtain ⟨x32, hx32, h⟩ := bindS h
          refine wapp (f := eb) 32 hx32 rfl rfl rfl rfl rfl (el_row rfl (full_row (f := eb) (l := [x26]))) rfl rfl rfl rfl ?_
          refine wpp rfl rfl ?_
          exact ⟨((((x26).toNat : Int) == (32 : Int)), v6l18, x32), (Norm.trans (rename 32 1004 rfl rfl) (canon0 ⟨rfl, rfl, rfl, rfl, trivial⟩ ⟨rfl, trivial⟩ rfl rfl)), h⟩
  · refine xcF rfl c4 ?_
    obtain rfl := someS h
    exact xexitn (st1 := ⟨ofL [(4, .slr 1004 0 r1004l18.length), (5, .bool v5l18)], ofL [(1004, ⟨1, true, List.map eb r1004l18⟩)]⟩) (canon0 ⟨rfl, rfl, trivial⟩ ⟨rfl, trivial⟩ rfl rfl) ⟨rfl, rfl⟩
theorem sat_dn_unescape (N : Nat) (a0 : List UInt8) (r : List UInt8 × Bool) (h : dn_unescape N a0 = some r) : Sat Tryd.prog 84 noRows [.str a0] (.tup [.str r.1, .bool r.2]) noRows := by
  refine xsat mixed Tryd.func84 k84_cf (rs := [.str r.1, .bool r.2]) rfl rfl ?_
  refine xseq ?_
  refine xreg ?_
  refine wpp rfl rfl ?_
  refine wpp rfl rfl ?_
  refine xseq ?_
  obtain ⟨g1, hg1, h⟩ := bindS h
  refine xseg ⟨ofL [(0, .str a0), (17, .bool g1)], ofL []⟩ ?_ ?_
  · have h := hg1
    refine xreg ?_
    refine wpp rfl rfl ?_
    obtain ⟨x13, hx13, h⟩ := bindS h
    refine woo rfl (ocal (sat_strings_HasPrefix N _ _ _ hx13) rfl (.cons sub_rfl (.cons sub_rfl .nil)) rfl rfl rfl) ?_
    refine wpp rfl rfl ?_
    rcases bifS h with ⟨c2, h⟩ | ⟨c2, h⟩
    · skip
      refine wsk (gn rfl c2) ?_
      refine wsk (gn rfl c2) ?_
      refine wpp rfl (p_pick1 c2 rfl rfl) ?_
      obtain rfl := someS h
      exact (canon0 ⟨rfl, rfl, trivial⟩ trivial rfl rfl)
    · skip
      refine wpp (gy rfl c2) rfl ?_
      obtain ⟨x16, hx16, h⟩ := bindS h
      refine woo (gy rfl c2) (ocal (sat_strings_HasPrefix N _ _ _ hx16) rfl (.cons sub_rfl (.cons sub_rfl .nil)) rfl rfl rfl) ?_
      refine wpp rfl (p_pick0 c2 rfl rfl) ?_
      obtain rfl := someS h
      exact (canon0 ⟨rfl, rfl, trivial⟩ trivial rfl rfl)
  · clear hg1
    rcases bifS h with ⟨c3, h⟩ | ⟨c3, h⟩
    · refine xcT rfl c3 ?_
      refine xseq ?_
      refine xreg ?_
      refine wpp rfl rfl ?_
      refine wpp rfl rfl ?_
      obtain rfl := someS h
      refine xret ?_
      exact ⟨nofun, rfl, rfl⟩
    · refine xcF rfl c3 ?_
      refine xskip ?_
      refine xseq ?_
      refine xreg ?_
      refine wpp rfl rfl ?_
      refine xseq ?_
      refine xreg ?_
      refine wpp rfl rfl ?_
      refine xseq ?_
      refine xseq ?_
      refine xreg ?_
      refine wpp rfl rfl ?_
      refine xblk ?_
      obtain ⟨y13, hy13, h⟩ := bindS h
      refine xloopU (st1 := ⟨ofL [(0, .str a0), (4, .slr 1004 0 ([].length)), (5, .bool false), (6, .int .i64 0)], ofL [(1004, ⟨1, true, List.map eb []⟩)]⟩) (Norm.trans (nlrow 4 1004 1 true rfl rfl rfl) (canon0 ⟨rfl, rfl, rfl, rfl, trivial⟩ ⟨rfl, trivial⟩ rfl rfl)) (w_dn_unescape_l18 N a0 N _ _ hy13) ?_
      clear hy13
      rcases y13 with y13 | y13
      · rintro e s ⟨rfl, rfl⟩
        refine xseq ?_
        refine xreg ?_
        refine wpp rfl rfl ?_
        refine wpp rfl (p_cvbr (l := y13.2) rfl rfl (full_row (f := eb) (l := y13.2))) ?_
        refine wpp rfl rfl ?_
        refine wpp rfl rfl ?_
        refine wpp rfl rfl ?_
        refine wpp rfl rfl ?_
        obtain rfl := someS h
        refine xret ?_
        exact ⟨nofun, rfl, rfl⟩
      · rintro e s ⟨rfl, rfl⟩
        obtain rfl := someS h
        exact ⟨nofun, rfl, rfl⟩
end Go.Gp
end
section
set_option linter.unusedVariables false
set_option linter.unusedSimpArgs false
set_option maxRecDepth 4000
namespace Go.Gp
open Go.Vd Go.RowKit Go.Proofs
def k105_l14 : IC := (.seq (.reg [⟨(some 26), (.bin .lss (.t 25) (.t 24)), none⟩]) (.seq (.cond (.t 26) .skip (.exit 0)) (.seq (.block 1 (.seq (.reg [⟨(some 27), (.ixp 1 (.t 23) (.t 25)), none⟩, ⟨(some 28), (.load 1 false (.t 27)), none⟩, ⟨(some 4), (.mov (.t 28)), none⟩]) (.block 2 (.seq (.block 5 (.seq (.block 4 (.block 3 (.seq (.seq (.seq (.reg [⟨(some 30), (.mov (.t 4)), none⟩, ⟨(some 31), (.bin .geq (.t 30) (.c (.int .u8 97))), none⟩, ⟨(some 32), (.mov (.t 31)), none⟩, ⟨(some 33), (.mov (.t 4)), (some (32, true))⟩, ⟨(some 34), (.bin .leq (.t 33) (.c (.int .u8 122))), (some (32, true))⟩, ⟨(some 35), (.pick (.t 32) (.t 34) (.c (.bool false))), none⟩, ⟨(some 29), (.mov (.t 35)), none⟩]) (.cond (.t 29) (.exit 3) .skip)) (.seq (.seq (.reg [⟨(some 37), (.mov (.t 4)), none⟩, ⟨(some 38), (.bin .geq (.t 37) (.c (.int .u8 48))), none⟩, ⟨(some 39), (.mov (.t 38)), none⟩, ⟨(some 40), (.mov (.t 4)), (some (39, true))⟩, ⟨(some 41), (.bin .leq (.t 40) (.c (.int .u8 57))), (some (39, true))⟩, ⟨(some 42), (.pick (.t 39) (.t 41) (.c (.bool false))), none⟩, ⟨(some 36), (.mov (.t 42)), none⟩]) (.cond (.t 36) .skip (.reg [⟨(some 43), (.mov (.t 4)), none⟩, ⟨(some 44), (.bin .eql (.t 43) (.c (.int .u8 45))), none⟩, ⟨(some 36), (.mov (.t 44)), none⟩]))) (.cond (.t 36) (.exit 4) .skip))) (.exit 5)))) (.exit 2))) (.seq (.seq (.reg [⟨(some 2), (.mov (.c (.bool false))), none⟩]) .ret) (.exit 2)))))) (.reg [⟨(some 45), (.bin .add (.t 25) (.c (.int .i64 1))), none⟩, ⟨(some 25), (.mov (.t 45)), none⟩]))))
def k105 : IC := (.seq (.reg [⟨(some 2), (.mov (.c (.bool false))), none⟩]) (.seq (.seq (.reg [⟨(some 5), (.mov (.t 0)), none⟩, ⟨(some 6), (.bin .eql (.t 5) (.c (.str []))), none⟩, ⟨(some 7), (.mov (.t 6)), none⟩, ⟨(some 8), (.mov (.t 0)), (some (7, false))⟩, ⟨(some 9), (.len true (.t 8)), (some (7, false))⟩, ⟨(some 10), (.bin .gtr (.t 9) (.c (.int .i64 16))), (some (7, false))⟩, ⟨(some 11), (.pick (.t 7) (.c (.bool true)) (.t 10)), none⟩, ⟨(some 12), (.mov (.t 11)), none⟩, ⟨(some 13), (.mov (.t 0)), (some (12, false))⟩, ⟨(some 14), (.idxs (.t 13) (.c (.int .i64 0))), (some (12, false))⟩, ⟨(some 15), (.bin .lss (.t 14) (.c (.int .u8 97))), (some (12, false))⟩, ⟨(some 16), (.pick (.t 12) (.c (.bool true)) (.t 15)), none⟩, ⟨(some 17), (.mov (.t 16)), none⟩, ⟨(some 18), (.mov (.t 0)), (some (17, false))⟩, ⟨(some 19), (.idxs (.t 18) (.c (.int .i64 0))), (some (17, false))⟩, ⟨(some 20), (.bin .gtr (.t 19) (.c (.int .u8 122))), (some (17, false))⟩, ⟨(some 21), (.pick (.t 17) (.c (.bool true)) (.t 20)), none⟩]) (.cond (.t 21) (.seq (.reg [⟨(some 2), (.mov (.c (.bool false))), none⟩]) .ret) .skip)) (.seq (.seq (.reg [⟨(some 22), (.mov (.t 0)), none⟩, ⟨(some 23), (.cvs (.t 22)), none⟩, ⟨(some 24), (.len false (.t 23)), none⟩, ⟨(some 25), (.mov (.c (.int .i64 0))), none⟩]) (.block 0 (.loop k105_l14))) (.seq (.reg [⟨(some 2), (.mov (.c (.bool true))), none⟩]) .ret))))
theorem k105_cf : cfunc Tryd.prog Tryd.f105 = some ⟨46, k105, [(.tmp 2)]⟩ := by kernel_rfl
theorem w_dn_IsType_l14 (N : Nat) (a0 : List UInt8) : ∀ (n : Nat) (x : Int) (y : Unit ⊕ Bool), dn_IsType_l14 N a0 n x = some y → WX Tryd.prog (fun _ => false) (.loop k105_l14) ((fun (x : Int) => ⟨ofL [(23, .slr 23 0 a0.length), (24, .int .i64 (a0.length : Int)), (25, .int .i64 x)], ofL [(23, ⟨1, true, List.map eb a0⟩)]⟩) x) ((Sum.elim (fun y e s => e = .exit 0 ∧ s = ⟨ofL [], ofL []⟩) (fun y e s => e = .ret ∧ s = ⟨ofL [(2, .bool y)], ofL []⟩) : (Unit ⊕ Bool) → Xt → St → Prop) y) := by
  refine xloop (fun (x : Int) => ⟨ofL [(23, .slr 23 0 a0.length), (24, .int .i64 (a0.length : Int)), (25, .int .i64 x)], ofL [(23, ⟨1, true, List.map eb a0⟩)]⟩) _ (dn_IsType_l14 N a0) (dn_IsType_l14_b N a0) (fun _ => rfl) (fun _ _ => rfl) ?_
  rintro rec v25l14 y h
  refine xseq ?_
  refine xreg ?_
  refine wpp rfl rfl ?_
  refine xseq ?_
  rcases bifS h with ⟨c6, h⟩ | ⟨c6, h⟩
  · refine xcT rfl c6 ?_
    refine xskip ?_
    refine xseq ?_
    refine xblk ?_
    refine xseq ?_
    refine xreg ?_
    obtain ⟨x27, hx27, h⟩ := bindS h
    refine wpp rfl (p_ixr hx27 rfl rfl rfl rfl) ?_
    obtain ⟨x28, hx28, h⟩ := bindS h
    refine wpp rfl (p_ldr (f := eb) (v := eb x28) hx28 rfl rfl rfl) ?_
    refine wpp rfl rfl ?_
    refine xblk ?_
    refine xseq ?_
    refine xblk ?_
    refine xjoin (fun (x : Unit) => ⟨ofL [(23, .slr 23 0 a0.length), (24, .int .i64 (a0.length : Int)), (25, .int .i64 v25l14)], ofL [(23, ⟨1, true, List.map eb a0⟩)]⟩) (fun x => dn_IsType_j28 v25l14 rec = some y) ?_ ?_
    · rintro ⟨⟩ h
      refine xexit ?_
      refine xreg ?_
      refine wpp (p := .int .i64 (w64 (v25l14 + (1 : Int)))) rfl rfl ?_
      refine wpp rfl rfl ?_
      exact ⟨(w64 (v25l14 + (1 : Int))), (canon0 ⟨rfl, rfl, rfl, trivial⟩ ⟨rfl, trivial⟩ rfl rfl), h⟩
    · skip
      refine xblk ?_
      refine xblk ?_
      refine xseq ?_
      refine xseq ?_
      obtain ⟨g7, hg7, h⟩ := bindS h
      refine xseg ⟨ofL [(4, eb x28), (23, .slr 23 0 a0.length), (24, .int .i64 (a0.length : Int)), (25, .int .i64 v25l14), (29, .bool g7)], ofL [(23, ⟨1, true, List.map eb a0⟩)]⟩ ?_ ?_
      · have h := hg7
        refine xreg ?_
        refine wpp rfl rfl ?_
        refine wpp (p := .bool (decide (((x28).toNat : Int) ≥ (97 : Int)))) rfl rfl ?_
        refine wpp rfl rfl ?_
        rcases bifS h with ⟨c8, h⟩ | ⟨c8, h⟩
        · skip
          refine wpp (gy rfl c8) rfl ?_
          refine wpp (p := .bool (decide (((x28).toNat : Int) ≤ (122 : Int)))) (gy rfl c8) rfl ?_
          refine wpp rfl (p_pick1 c8 rfl rfl) ?_
          refine wpp rfl rfl ?_
          obtain rfl := someS h
          exact (canon0 ⟨rfl, rfl, rfl, rfl, rfl, trivial⟩ ⟨rfl, trivial⟩ rfl rfl)
        · skip
          refine wsk (gn rfl c8) ?_
          refine wsk (gn rfl c8) ?_
          refine wpp rfl (p_pick0 c8 rfl rfl) ?_
          refine wpp rfl rfl ?_
          obtain rfl := someS h
          exact (canon0 ⟨rfl, rfl, rfl, rfl, rfl, trivial⟩ ⟨rfl, trivial⟩ rfl rfl)
      · clear hg7
        rcases bifS h with ⟨c9, h⟩ | ⟨c9, h⟩
        · refine xcT rfl c9 ?_
          refine xexit ?_
          exact ⟨(), (canon0 ⟨rfl, rfl, rfl, trivial⟩ ⟨rfl, trivial⟩ rfl rfl), h⟩
        · refine xcF rfl c9 ?_
          refine xskip ?_
          refine xjoin (fun (x : Bool) => ⟨ofL [(23, .slr 23 0 a0.length), (24, .int .i64 (a0.length : Int)), (25, .int .i64 v25l14), (36, .bool x)], ofL [(23, ⟨1, true, List.map eb a0⟩)]⟩) (fun x => dn_IsType_j38 v25l14 rec x = some y) ?_ ?_
          · rintro v36j38 h
            rcases bifS h with ⟨c10, h⟩ | ⟨c10, h⟩
            · refine xcT rfl c10 ?_
              refine xexit ?_
              exact ⟨(), (canon0 ⟨rfl, rfl, rfl, trivial⟩ ⟨rfl, trivial⟩ rfl rfl), h⟩
            · refine xcF rfl c10 ?_
              refine xskip ?_
              refine xexit ?_
              refine xseq ?_
              refine xseq ?_
              refine xreg ?_
              refine wpp rfl rfl ?_
              obtain rfl := someS h
              exact xretn (st1 := ⟨ofL [(2, .bool false)], ofL []⟩) (canon0 ⟨rfl, trivial⟩ trivial rfl rfl) ⟨rfl, rfl⟩
          · skip
            obtain ⟨g11, hg11, h⟩ := bindS h
            refine xseg ⟨ofL [(4, eb x28), (23, .slr 23 0 a0.length), (24, .int .i64 (a0.length : Int)), (25, .int .i64 v25l14), (36, .bool g11)], ofL [(23, ⟨1, true, List.map eb a0⟩)]⟩ ?_ ?_
            · have h := hg11
              refine xreg ?_
              refine wpp rfl rfl ?_
              refine wpp (p := .bool (decide (((x28).toNat : Int) ≥ (48 : Int)))) rfl rfl ?_
              refine wpp rfl rfl ?_
              rcases bifS h with ⟨c12, h⟩ | ⟨c12, h⟩
              · skip
                refine wpp (gy rfl c12) rfl ?_
                refine wpp (p := .bool (decide (((x28).toNat : Int) ≤ (57 : Int)))) (gy rfl c12) rfl ?_
                refine wpp rfl (p_pick1 c12 rfl rfl) ?_
                refine wpp rfl rfl ?_
                obtain rfl := someS h
                exact (canon0 ⟨rfl, rfl, rfl, rfl, rfl, trivial⟩ ⟨rfl, trivial⟩ rfl rfl)
              · skip
                refine wsk (gn rfl c12) ?_
                refine wsk (gn rfl c12) ?_
                refine wpp rfl (p_pick0 c12 rfl rfl) ?_
                refine wpp rfl rfl ?_
                obtain rfl := someS h
                exact (canon0 ⟨rfl, rfl, rfl, rfl, rfl, trivial⟩ ⟨rfl, trivial⟩ rfl rfl)
            · clear hg11
              rcases bifS h with ⟨c13, h⟩ | ⟨c13, h⟩
              · refine xcT rfl c13 ?_
                refine xskip ?_
                exact ⟨g11, (canon0 ⟨rfl, rfl, rfl, rfl, trivial⟩ ⟨rfl, trivial⟩ rfl rfl), h⟩
              · refine xcF rfl c13 ?_
                refine xreg ?_
                refine wpp rfl rfl ?_
                refine wpp (p := .bool (((x28).toNat : Int) == (45 : Int))) rfl rfl ?_
                refine wpp rfl rfl ?_
                exact ⟨(((x28).toNat : Int) == (45 : Int)), (canon0 ⟨rfl, rfl, rfl, rfl, trivial⟩ ⟨rfl, trivial⟩ rfl rfl), h⟩
  · refine xcF rfl c6 ?_
    obtain rfl := someS h
    exact xexitn (st1 := ⟨ofL [], ofL []⟩) (canon0 trivial trivial rfl rfl) ⟨rfl, rfl⟩
theorem sat_dn_IsType (N : Nat) (a0 : List UInt8) (r : Bool) (h : dn_IsType N a0 = some r) : Sat Tryd.prog 105 noRows [.str a0] (.bool r) noRows := by
  refine xsat mixed Tryd.func105 k105_cf (rs := [.bool r]) rfl rfl ?_
  refine xseq ?_
  refine xreg ?_
  refine wpp rfl rfl ?_
  refine xseq ?_
  obtain ⟨g1, hg1, h⟩ := bindS h
  refine xseg ⟨ofL [(0, .str a0), (21, .bool g1)], ofL []⟩ ?_ ?_
  · have h := hg1
    refine xreg ?_
    refine wpp rfl rfl ?_
    refine wpp rfl rfl ?_
    refine wpp rfl rfl ?_
    rcases bifS h with ⟨c2, h⟩ | ⟨c2, h⟩
    · skip
      refine wsk (gn rfl c2) ?_
      refine wsk (gn rfl c2) ?_
      refine wsk (gn rfl c2) ?_
      refine wpp rfl (p_pick1 c2 rfl rfl) ?_
      refine wpp rfl rfl ?_
      refine wsk rfl ?_
      refine wsk rfl ?_
      refine wsk rfl ?_
      refine wpp rfl rfl ?_
      refine wpp rfl rfl ?_
      refine wsk rfl ?_
      refine wsk rfl ?_
      refine wsk rfl ?_
      refine wpp rfl rfl ?_
      obtain rfl := someS h
      exact (canon0 ⟨rfl, rfl, trivial⟩ trivial rfl rfl)
    · skip
      refine wpp (gy rfl c2) rfl ?_
      refine wpp (gy rfl c2) rfl ?_
      refine wpp (gy rfl c2) rfl ?_
      refine wpp rfl (p_pick0 c2 rfl rfl) ?_
      refine wpp rfl rfl ?_
      rcases bifS h with ⟨c3, h⟩ | ⟨c3, h⟩
      · skip
        refine wsk (gn rfl c3) ?_
        refine wsk (gn rfl c3) ?_
        refine wsk (gn rfl c3) ?_
        refine wpp rfl (p_pick1 c3 rfl rfl) ?_
        refine wpp rfl rfl ?_
        refine wsk rfl ?_
        refine wsk rfl ?_
        refine wsk rfl ?_
        refine wpp rfl rfl ?_
        obtain rfl := someS h
        exact (canon0 ⟨rfl, rfl, trivial⟩ trivial rfl rfl)
      · skip
        refine wpp (gy rfl c3) rfl ?_
        obtain ⟨x14, hx14, h⟩ := bindS h
        refine wpp (gy rfl c3) (p_idx hx14 rfl rfl) ?_
        refine wpp (p := .bool (decide (((x14).toNat : Int) < (97 : Int)))) (gy rfl c3) rfl ?_
        refine wpp rfl (p_pick0 c3 rfl rfl) ?_
        refine wpp rfl rfl ?_
        rcases bifS h with ⟨c4, h⟩ | ⟨c4, h⟩
        · skip
          refine wsk (gn rfl c4) ?_
          refine wsk (gn rfl c4) ?_
          refine wsk (gn rfl c4) ?_
          refine wpp rfl (p_pick1 c4 rfl rfl) ?_
          obtain rfl := someS h
          exact (canon0 ⟨rfl, rfl, trivial⟩ trivial rfl rfl)
        · skip
          refine wpp (gy rfl c4) rfl ?_
          obtain ⟨x19, hx19, h⟩ := bindS h
          refine wpp (gy rfl c4) (p_idx hx19 rfl rfl) ?_
          refine wpp (p := .bool (decide (((x19).toNat : Int) > (122 : Int)))) (gy rfl c4) rfl ?_
          refine wpp rfl (p_pick0 c4 rfl rfl) ?_
          obtain rfl := someS h
          exact (canon0 ⟨rfl, rfl, trivial⟩ trivial rfl rfl)
  · clear hg1
    rcases bifS h with ⟨c5, h⟩ | ⟨c5, h⟩
    · refine xcT rfl c5 ?_
      refine xseq ?_
      refine xreg ?_
      refine wpp rfl rfl ?_
      obtain rfl := someS h
      refine xret ?_
      exact ⟨nofun, rfl, rfl⟩
    · refine xcF rfl c5 ?_
      refine xskip ?_
      refine xseq ?_
      refine xseq ?_
      refine xreg ?_
      refine wpp rfl rfl ?_
      refine woo rfl (ocvs 23 rfl rfl) ?_
      refine wpp rfl rfl ?_
      refine wpp rfl rfl ?_
      refine xblk ?_
      obtain ⟨y14, hy14, h⟩ := bindS h
      refine xloopU (st1 := ⟨ofL [(23, .slr 23 0 a0.length), (24, .int .i64 (a0.length : Int)), (25, .int .i64 0)], ofL [(23, ⟨1, true, List.map eb a0⟩)]⟩) (canon0 ⟨rfl, rfl, rfl, trivial⟩ ⟨rfl, trivial⟩ rfl rfl) (w_dn_IsType_l14 N a0 N _ _ hy14) ?_
      clear hy14
      rcases y14 with y14 | y14
      · rintro e s ⟨rfl, rfl⟩
        refine xseq ?_
        refine xreg ?_
        refine wpp rfl rfl ?_
        obtain rfl := someS h
        refine xret ?_
        exact ⟨nofun, rfl, rfl⟩
      · rintro e s ⟨rfl, rfl⟩
        obtain rfl := someS h
        exact ⟨nofun, rfl, rfl⟩
end Go.Gp
end
section
set_option linter.unusedVariables false
set_option linter.unusedSimpArgs false
set_option maxRecDepth 4000
namespace Go.Gp
open Go.Vd Go.RowKit Go.Proofs
def k107 : IC := (.seq (.reg [⟨(some 2), (.box 101 (.t 0)), none⟩, ⟨(some 3), (.mov (.c (.bool false))), none⟩]) (.seq (.reg [⟨(some 4), (.fda 0 (.t 2)), none⟩, ⟨(some 5), (.load 1 false (.t 4)), none⟩, ⟨(some 6), (.fda 0 (.t 1)), none⟩, ⟨(some 7), (.load 1 false (.t 6)), none⟩, ⟨(some 8), (.bin .eql (.t 5) (.t 7)), none⟩, ⟨(some 3), (.mov (.t 8)), none⟩]) .ret))
theorem k107_cf : cfunc Tryd.prog Tryd.f107 = some ⟨9, k107, [(.tmp 3)]⟩ := by kernel_rfl
theorem sat_dn_IsRDN_1 (N : Nat) (a0 : api_AVA) (c0 : api_AVA) (r : Bool) (h : dn_IsRDN_1 N a0 c0 = some r) : Sat Tryd.prog 107 noRows [e_api_AVA a0, .ep [.str c0.Attr, .str c0.Value]] (.bool r) noRows := by
  refine xsat mixed Tryd.func107 k107_cf (rs := [.bool r]) rfl rfl ?_
  refine xseq ?_
  refine xreg ?_
  refine woo rfl (obox 2 rfl rfl rfl rfl rfl) ?_
  refine wpp rfl rfl ?_
  refine xseq ?_
  refine xreg ?_
  refine wpp rfl rfl ?_
  refine wpp rfl rfl ?_
  refine wpp (p := .ep [.str c0.Attr, .str c0.Value]) rfl rfl ?_
  refine wpp rfl rfl ?_
  refine wpp rfl rfl ?_
  refine wpp rfl rfl ?_
  obtain rfl := someS h
  refine xret ?_
  exact ⟨nofun, rfl, rfl⟩
end Go.Gp
end
section
set_option linter.unusedVariables false
set_option linter.unusedSimpArgs false
set_option maxRecDepth 4000
namespace Go.Gp
open Go.Vd Go.RowKit Go.Proofs
def k114c107_l6 : IC := (.seq (.reg [⟨(some 9), (.bin .lss (.t 8) (.t 7)), none⟩]) (.seq (.cond (.t 9) .skip (.exit 0)) (.seq (.block 1 (.seq (.reg [⟨(some 10), (.mov (.t 8)), none⟩, ⟨(some 5), (.mov (.t 10)), none⟩]) (.seq (.reg [⟨(some 11), (.mov (.t 1)), none⟩, ⟨(some 12), (.mov (.t 0)), none⟩, ⟨(some 13), (.mov (.t 5)), none⟩, ⟨(some 14), (.ixp 2 (.t 12) (.t 13)), none⟩, ⟨(some 15), (.load 2 true (.t 14)), none⟩, ⟨(some 16), (.calv (.t 11) [(.t 15)]), none⟩]) (.cond (.t 16) (.seq (.reg [⟨(some 17), (.mov (.t 5)), none⟩, ⟨(some 4), (.mov (.t 17)), none⟩]) .ret) .skip)))) (.reg [⟨(some 18), (.bin .add (.t 8) (.c (.int .i64 1))), none⟩, ⟨(some 8), (.mov (.t 18)), none⟩]))))
def k114c107 : IC := (.seq (.reg [⟨(some 4), (.mov (.c (.int .i64 0))), none⟩]) (.seq (.seq (.reg [⟨(some 6), (.mov (.t 0)), none⟩, ⟨(some 7), (.len false (.t 6)), none⟩, ⟨(some 8), (.mov (.c (.int .i64 0))), none⟩]) (.block 0 (.loop k114c107_l6))) (.seq (.reg [⟨(some 4), (.mov (.c (.int .i64 (-1)))), none⟩]) .ret)))
theorem k114c107_cf : cfunc Tryd.prog Tryd.f114 = some ⟨19, k114c107, [(.tmp 4)]⟩ := by kernel_rfl
theorem w_slices_IndexFunc_api_RDN_api_AVA_c_dn_IsRDN_1_l6 (N : Nat) (a0 : List api_AVA) (a1_0 : api_AVA) : ∀ (n : Nat) (x : Int) (y : Unit ⊕ Int), slices_IndexFunc_api_RDN_api_AVA_c_dn_IsRDN_1_l6 N a0 a1_0 n x = some y → WX Tryd.prog (fun _ => false) (.loop k114c107_l6) ((fun (x : Int) => ⟨ofL [(0, .sl 2 (List.map e_api_AVA a0)), (1, .clo 107 [.ep [.str a1_0.Attr, .str a1_0.Value]]), (7, .int .i64 (a0.length : Int)), (8, .int .i64 x)], ofL []⟩) x) ((Sum.elim (fun y e s => e = .exit 0 ∧ s = ⟨ofL [], ofL []⟩) (fun y e s => e = .ret ∧ s = ⟨ofL [(4, .int .i64 y)], ofL []⟩) : (Unit ⊕ Int) → Xt → St → Prop) y) := by
  refine xloop (fun (x : Int) => ⟨ofL [(0, .sl 2 (List.map e_api_AVA a0)), (1, .clo 107 [.ep [.str a1_0.Attr, .str a1_0.Value]]), (7, .int .i64 (a0.length : Int)), (8, .int .i64 x)], ofL []⟩) _ (slices_IndexFunc_api_RDN_api_AVA_c_dn_IsRDN_1_l6 N a0 a1_0) (slices_IndexFunc_api_RDN_api_AVA_c_dn_IsRDN_1_l6_b N a0 a1_0) (fun _ => rfl) (fun _ _ => rfl) ?_
  rintro rec v8l6 y h
  refine xseq ?_
  refine xreg ?_
  refine wpp rfl rfl ?_
  refine xseq ?_
  rcases bifS h with ⟨c1, h⟩ | ⟨c1, h⟩
  · refine xcT rfl c1 ?_
    refine xskip ?_
    refine xseq ?_
    refine xblk ?_
    refine xseq ?_
    refine xreg ?_
    refine wpp rfl rfl ?_
    refine wpp rfl rfl ?_
    refine xseq ?_
    refine xreg ?_
    refine wpp rfl rfl ?_
    refine wpp rfl rfl ?_
    refine wpp rfl rfl ?_
    obtain ⟨x14, hx14, h⟩ := bindS h
    refine wpp rfl (p_ixs (cs := [.str x14.Attr, .str x14.Value]) hx14 rfl rfl rfl) ?_
    refine wpp (p := e_api_AVA x14) rfl rfl ?_
    obtain ⟨x16, hx16, h⟩ := bindS h
    refine woo rfl (ocalv (sat_dn_IsRDN_1 N _ _ _ hx16) rfl rfl rfl (.cons sub_rfl (.cons sub_rfl .nil)) rfl rfl rfl) ?_
    rcases bifS h with ⟨c2, h⟩ | ⟨c2, h⟩
    · refine xcT rfl c2 ?_
      refine xseq ?_
      refine xreg ?_
      refine wpp rfl rfl ?_
      refine wpp rfl rfl ?_
      obtain rfl := someS h
      exact xretn (st1 := ⟨ofL [(4, .int .i64 v8l6)], ofL []⟩) (canon0 ⟨rfl, trivial⟩ trivial rfl rfl) ⟨rfl, rfl⟩
    · refine xcF rfl c2 ?_
      refine xskip ?_
      refine xreg ?_
      refine wpp (p := .int .i64 (w64 (v8l6 + (1 : Int)))) rfl rfl ?_
      refine wpp rfl rfl ?_
      exact ⟨(w64 (v8l6 + (1 : Int))), (canon0 ⟨rfl, rfl, rfl, rfl, trivial⟩ trivial rfl rfl), h⟩
  · refine xcF rfl c1 ?_
    obtain rfl := someS h
    exact xexitn (st1 := ⟨ofL [], ofL []⟩) (canon0 trivial trivial rfl rfl) ⟨rfl, rfl⟩
theorem sat_slices_IndexFunc_api_RDN_api_AVA_c_dn_IsRDN_1 (N : Nat) (a0 : List api_AVA) (a1_0 : api_AVA) (r : Int) (h : slices_IndexFunc_api_RDN_api_AVA_c_dn_IsRDN_1 N a0 a1_0 = some r) : Sat Tryd.prog 114 noRows [.sl 2 (List.map e_api_AVA a0), .clo 107 [.ep [.str a1_0.Attr, .str a1_0.Value]]] (.int .i64 r) noRows := by
  refine xsat mixed Tryd.func114 k114c107_cf (rs := [.int .i64 r]) rfl rfl ?_
  refine xseq ?_
  refine xreg ?_
  refine wpp rfl rfl ?_
  refine xseq ?_
  refine xseq ?_
  refine xreg ?_
  refine wpp rfl rfl ?_
  refine wpp rfl (p_lens rfl) ?_
  refine wpp rfl rfl ?_
  refine xblk ?_
  obtain ⟨y3, hy3, h⟩ := bindS h
  refine xloopU (st1 := ⟨ofL [(0, .sl 2 (List.map e_api_AVA a0)), (1, .clo 107 [.ep [.str a1_0.Attr, .str a1_0.Value]]), (7, .int .i64 (a0.length : Int)), (8, .int .i64 0)], ofL []⟩) (canon0 ⟨rfl, rfl, rfl, rfl, trivial⟩ trivial rfl rfl) (w_slices_IndexFunc_api_RDN_api_AVA_c_dn_IsRDN_1_l6 N a0 a1_0 N _ _ hy3) ?_
  clear hy3
  rcases y3 with y3 | y3
  · rintro e s ⟨rfl, rfl⟩
    refine xseq ?_
    refine xreg ?_
    refine wpp rfl rfl ?_
    obtain rfl := someS h
    refine xret ?_
    exact ⟨nofun, rfl, rfl⟩
  · rintro e s ⟨rfl, rfl⟩
    obtain rfl := someS h
    exact ⟨nofun, rfl, rfl⟩
end Go.Gp
end
section
set_option linter.unusedVariables false
set_option linter.unusedSimpArgs false
set_option maxRecDepth 4000
namespace Go.Gp
open Go.Vd Go.RowKit Go.Proofs
def k106c107 : IC := (.seq (.reg [⟨(some 4), (.mov (.c (.bool false))), none⟩]) (.seq (.reg [⟨(some 5), (.mov (.t 0)), none⟩, ⟨(some 6), (.mov (.t 1)), none⟩, ⟨(some 7), (.call 114 [(.t 5), (.t 6)]), none⟩, ⟨(some 8), (.bin .geq (.t 7) (.c (.int .i64 0))), none⟩, ⟨(some 4), (.mov (.t 8)), none⟩]) .ret))
theorem k106c107_cf : cfunc Tryd.prog Tryd.f106 = some ⟨9, k106c107, [(.tmp 4)]⟩ := by kernel_rfl
theorem sat_slices_ContainsFunc_api_RDN_api_AVA_c_dn_IsRDN_1 (N : Nat) (a0 : List api_AVA) (a1_0 : api_AVA) (r : Bool) (h : slices_ContainsFunc_api_RDN_api_AVA_c_dn_IsRDN_1 N a0 a1_0 = some r) : Sat Tryd.prog 106 noRows [.sl 2 (List.map e_api_AVA a0), .clo 107 [.ep [.str a1_0.Attr, .str a1_0.Value]]] (.bool r) noRows := by
  refine xsat mixed Tryd.func106 k106c107_cf (rs := [.bool r]) rfl rfl ?_
  refine xseq ?_
  refine xreg ?_
  refine wpp rfl rfl ?_
  refine xseq ?_
  refine xreg ?_
  refine wpp rfl rfl ?_
  refine wpp rfl rfl ?_
  obtain ⟨x7, hx7, h⟩ := bindS h
  refine woo rfl (ocal (sat_slices_IndexFunc_api_RDN_api_AVA_c_dn_IsRDN_1 N _ _ _ hx7) rfl (.cons sub_rfl (.cons sub_rfl .nil)) rfl rfl rfl) ?_
  refine wpp rfl rfl ?_
  refine wpp rfl rfl ?_
  obtain rfl := someS h
  refine xret ?_
  exact ⟨nofun, rfl, rfl⟩
end Go.Gp
end
