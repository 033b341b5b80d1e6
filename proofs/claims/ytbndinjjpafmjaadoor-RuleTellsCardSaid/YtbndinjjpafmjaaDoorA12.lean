/- A part of the proof: functions of the program and what they compute. -/
import Derived.Test.YtbndinjjpafmjaaDoorA5
import Derived.Test.YtbndinjjpafmjaaDoorA11
section
set_option linter.unusedVariables false
set_option linter.unusedSimpArgs false
set_option maxRecDepth 4000
namespace Go.Gp
open Go.Vd Go.RowKit Go.Proofs
def k88_l14 : IC := (.seq (.seq (.reg [⟨(some 23), (.mov (.t 3)), none⟩, ⟨(some 24), (.mov (.t 0)), none⟩, ⟨(some 25), (.len true (.t 24)), none⟩, ⟨(some 26), (.bin .lss (.t 23) (.t 25)), none⟩]) (.cond (.t 26) .skip (.exit 0))) (.seq (.block 1 (.seq (.reg [⟨(some 29), (.mov (.t 0)), none⟩, ⟨(some 30), (.mov (.t 3)), none⟩, ⟨(some 31), (.idxs (.t 29) (.t 30)), none⟩, ⟨(some 4), (.mov (.t 31)), none⟩]) (.seq (.reg [⟨(some 32), (.mov (.t 4)), none⟩, ⟨(some 33), (.bin .lss (.t 32) (.c (.int .u8 97))), none⟩, ⟨(some 34), (.mov (.t 33)), none⟩, ⟨(some 35), (.mov (.t 4)), (some (34, false))⟩, ⟨(some 36), (.bin .gtr (.t 35) (.c (.int .u8 122))), (some (34, false))⟩, ⟨(some 37), (.pick (.t 34) (.c (.bool true)) (.t 36)), none⟩, ⟨(some 38), (.mov (.t 37)), none⟩, ⟨(some 39), (.mov (.t 4)), (some (38, true))⟩, ⟨(some 40), (.bin .lss (.t 39) (.c (.int .u8 48))), (some (38, true))⟩, ⟨(some 41), (.mov (.t 40)), (some (38, true))⟩, ⟨(some 42), (.mov (.t 4)), (some (41, false))⟩, ⟨(some 43), (.bin .gtr (.t 42) (.c (.int .u8 57))), (some (41, false))⟩, ⟨(some 44), (.pick (.t 41) (.c (.bool true)) (.t 43)), (some (38, true))⟩, ⟨(some 45), (.pick (.t 38) (.t 44) (.c (.bool false))), none⟩, ⟨(some 46), (.mov (.t 45)), none⟩, ⟨(some 47), (.mov (.t 4)), (some (46, true))⟩, ⟨(some 48), (.bin .neq (.t 47) (.c (.int .u8 45))), (some (46, true))⟩, ⟨(some 49), (.pick (.t 46) (.t 48) (.c (.bool false))), none⟩]) (.cond (.t 49) (.seq (.reg [⟨(some 2), (.mov (.c (.bool false))), none⟩]) .ret) .skip)))) (.reg [⟨(some 27), (.mov (.t 3)), none⟩, ⟨(some 28), (.bin .add (.t 27) (.c (.int .i64 1))), none⟩, ⟨(some 3), (.mov (.t 28)), none⟩])))
def k88 : IC := (.seq (.reg [⟨(some 2), (.mov (.c (.bool false))), none⟩]) (.seq (.seq (.reg [⟨(some 5), (.mov (.t 0)), none⟩, ⟨(some 6), (.len true (.t 5)), none⟩, ⟨(some 7), (.bin .lss (.t 6) (.c (.int .i64 1))), none⟩, ⟨(some 8), (.mov (.t 7)), none⟩, ⟨(some 9), (.mov (.t 0)), (some (8, false))⟩, ⟨(some 10), (.len true (.t 9)), (some (8, false))⟩, ⟨(some 11), (.bin .gtr (.t 10) (.c (.int .i64 16))), (some (8, false))⟩, ⟨(some 12), (.pick (.t 8) (.c (.bool true)) (.t 11)), none⟩, ⟨(some 13), (.mov (.t 12)), none⟩, ⟨(some 14), (.mov (.t 0)), (some (13, false))⟩, ⟨(some 15), (.idxs (.t 14) (.c (.int .i64 0))), (some (13, false))⟩, ⟨(some 16), (.bin .lss (.t 15) (.c (.int .u8 97))), (some (13, false))⟩, ⟨(some 17), (.pick (.t 13) (.c (.bool true)) (.t 16)), none⟩, ⟨(some 18), (.mov (.t 17)), none⟩, ⟨(some 19), (.mov (.t 0)), (some (18, false))⟩, ⟨(some 20), (.idxs (.t 19) (.c (.int .i64 0))), (some (18, false))⟩, ⟨(some 21), (.bin .gtr (.t 20) (.c (.int .u8 122))), (some (18, false))⟩, ⟨(some 22), (.pick (.t 18) (.c (.bool true)) (.t 21)), none⟩]) (.cond (.t 22) (.seq (.reg [⟨(some 2), (.mov (.c (.bool false))), none⟩]) .ret) .skip)) (.seq (.seq (.reg [⟨(some 3), (.mov (.c (.int .i64 0))), none⟩]) (.block 0 (.loop k88_l14))) (.seq (.reg [⟨(some 2), (.mov (.c (.bool true))), none⟩]) .ret))))
theorem k88_cf : cfunc Tryd.prog Tryd.f88 = some ⟨50, k88, [(.tmp 2)]⟩ := by kernel_rfl
theorem w_prefectref4_IsType_l14 (N : Nat) (a0 : List UInt8) : ∀ (n : Nat) (x : Int) (y : Unit ⊕ Bool), prefectref4_IsType_l14 N a0 n x = some y → WX Tryd.prog (fun _ => false) (.loop k88_l14) ((fun (x : Int) => ⟨ofL [(0, .str a0), (3, .int .i64 x)], ofL []⟩) x) ((Sum.elim (fun y e s => e = .exit 0 ∧ s = ⟨ofL [], ofL []⟩) (fun y e s => e = .ret ∧ s = ⟨ofL [(2, .bool y)], ofL []⟩) : (Unit ⊕ Bool) → Xt → St → Prop) y) := by
  refine xloop (fun (x : Int) => ⟨ofL [(0, .str a0), (3, .int .i64 x)], ofL []⟩) _ (prefectref4_IsType_l14 N a0) (prefectref4_IsType_l14_b N a0) (fun _ => rfl) (fun _ _ => rfl) ?_
  rintro rec v3l14 y h
  refine xseq ?_
  refine xseq ?_
  refine xreg ?_
  refine wpp rfl rfl ?_
  refine wpp rfl rfl ?_
  refine wpp rfl rfl ?_
  refine wpp rfl rfl ?_
  rcases bifS h with ⟨c6, h⟩ | ⟨c6, h⟩
  · refine xcT rfl c6 ?_
    refine xskip ?_
    refine xseq ?_
    refine xblk ?_
    refine xseq ?_
    refine xreg ?_
    refine wpp rfl rfl ?_
    refine wpp rfl rfl ?_
    obtain ⟨x31, hx31, h⟩ := bindS h
    refine wpp rfl (p_idx hx31 rfl rfl) ?_
    refine wpp rfl rfl ?_
    obtain ⟨g7, hg7, h⟩ := bindS h
    refine xseg ⟨ofL [(0, .str a0), (3, .int .i64 v3l14), (49, .bool g7)], ofL []⟩ ?_ ?_
    · have h := hg7
      refine xreg ?_
      refine wpp rfl rfl ?_
      refine wpp (p := .bool (decide (((x31).toNat : Int) < (97 : Int)))) rfl rfl ?_
      refine wpp rfl rfl ?_
      rcases bifS h with ⟨c8, h⟩ | ⟨c8, h⟩
      · skip
        refine wsk (gn rfl c8) ?_
        refine wsk (gn rfl c8) ?_
        refine wpp rfl (p_pick1 c8 rfl rfl) ?_
        refine wpp rfl rfl ?_
        refine wpp rfl rfl ?_
        refine wpp (p := .bool (decide (((x31).toNat : Int) < (48 : Int)))) rfl rfl ?_
        refine wpp rfl rfl ?_
        rcases bifS h with ⟨c9, h⟩ | ⟨c9, h⟩
        · skip
          refine wsk (gn rfl c9) ?_
          refine wsk (gn rfl c9) ?_
          refine wpp rfl (p_pick1 c9 rfl rfl) ?_
          refine wpp rfl rfl ?_
          refine wpp rfl rfl ?_
          refine wpp rfl rfl ?_
          refine wpp (p := .bool (((x31).toNat : Int) != (45 : Int))) rfl rfl ?_
          refine wpp rfl rfl ?_
          obtain rfl := someS h
          exact (canon0 ⟨rfl, rfl, rfl, trivial⟩ trivial rfl rfl)
        · skip
          refine wpp (gy rfl c9) rfl ?_
          refine wpp (p := .bool (decide (((x31).toNat : Int) > (57 : Int)))) (gy rfl c9) rfl ?_
          refine wpp rfl (p_pick0 c9 rfl rfl) ?_
          refine wpp rfl rfl ?_
          refine wpp rfl rfl ?_
          rcases bifS h with ⟨c10, h⟩ | ⟨c10, h⟩
          · skip
            refine wpp (gy rfl c10) rfl ?_
            refine wpp (p := .bool (((x31).toNat : Int) != (45 : Int))) (gy rfl c10) rfl ?_
            refine wpp rfl (p_pick1 c10 rfl rfl) ?_
            obtain rfl := someS h
            exact (canon0 ⟨rfl, rfl, rfl, trivial⟩ trivial rfl rfl)
          · skip
            refine wsk (gn rfl c10) ?_
            refine wsk (gn rfl c10) ?_
            refine wpp rfl (p_pick0 c10 rfl rfl) ?_
            obtain rfl := someS h
            exact (canon0 ⟨rfl, rfl, rfl, trivial⟩ trivial rfl rfl)
      · skip
        refine wpp (gy rfl c8) rfl ?_
        refine wpp (p := .bool (decide (((x31).toNat : Int) > (122 : Int)))) (gy rfl c8) rfl ?_
        refine wpp rfl (p_pick0 c8 rfl rfl) ?_
        refine wpp rfl rfl ?_
        rcases bifS h with ⟨c11, h⟩ | ⟨c11, h⟩
        · skip
          refine wpp (gy rfl c11) rfl ?_
          refine wpp (p := .bool (decide (((x31).toNat : Int) < (48 : Int)))) (gy rfl c11) rfl ?_
          refine wpp (gy rfl c11) rfl ?_
          rcases bifS h with ⟨c12, h⟩ | ⟨c12, h⟩
          · skip
            refine wsk (gn rfl c12) ?_
            refine wsk (gn rfl c12) ?_
            refine wpp (gy rfl c11) (p_pick1 c12 rfl rfl) ?_
            refine wpp rfl (p_pick1 c11 rfl rfl) ?_
            refine wpp rfl rfl ?_
            refine wpp rfl rfl ?_
            refine wpp (p := .bool (((x31).toNat : Int) != (45 : Int))) rfl rfl ?_
            refine wpp rfl rfl ?_
            obtain rfl := someS h
            exact (canon0 ⟨rfl, rfl, rfl, trivial⟩ trivial rfl rfl)
          · skip
            refine wpp (gy rfl c12) rfl ?_
            refine wpp (p := .bool (decide (((x31).toNat : Int) > (57 : Int)))) (gy rfl c12) rfl ?_
            refine wpp (gy rfl c11) (p_pick0 c12 rfl rfl) ?_
            refine wpp rfl (p_pick1 c11 rfl rfl) ?_
            refine wpp rfl rfl ?_
            rcases bifS h with ⟨c13, h⟩ | ⟨c13, h⟩
            · skip
              refine wpp (gy rfl c13) rfl ?_
              refine wpp (p := .bool (((x31).toNat : Int) != (45 : Int))) (gy rfl c13) rfl ?_
              refine wpp rfl (p_pick1 c13 rfl rfl) ?_
              obtain rfl := someS h
              exact (canon0 ⟨rfl, rfl, rfl, trivial⟩ trivial rfl rfl)
            · skip
              refine wsk (gn rfl c13) ?_
              refine wsk (gn rfl c13) ?_
              refine wpp rfl (p_pick0 c13 rfl rfl) ?_
              obtain rfl := someS h
              exact (canon0 ⟨rfl, rfl, rfl, trivial⟩ trivial rfl rfl)
        · skip
          refine wsk (gn rfl c11) ?_
          refine wsk (gn rfl c11) ?_
          refine wsk (gn rfl c11) ?_
          refine wsk (gu rfl) ?_
          refine wsk (gu rfl) ?_
          refine wsk (gn rfl c11) ?_
          refine wpp rfl (p_pick0 c11 rfl rfl) ?_
          refine wpp rfl rfl ?_
          refine wsk rfl ?_
          refine wsk rfl ?_
          refine wpp rfl rfl ?_
          obtain rfl := someS h
          exact (canon0 ⟨rfl, rfl, rfl, trivial⟩ trivial rfl rfl)
    · clear hg7
      rcases bifS h with ⟨c14, h⟩ | ⟨c14, h⟩
      · refine xcT rfl c14 ?_
        refine xseq ?_
        refine xreg ?_
        refine wpp rfl rfl ?_
        obtain rfl := someS h
        exact xretn (st1 := ⟨ofL [(2, .bool false)], ofL []⟩) (canon0 ⟨rfl, trivial⟩ trivial rfl rfl) ⟨rfl, rfl⟩
      · refine xcF rfl c14 ?_
        refine xskip ?_
        refine xreg ?_
        refine wpp rfl rfl ?_
        refine wpp (p := .int .i64 (w64 (v3l14 + (1 : Int)))) rfl rfl ?_
        refine wpp rfl rfl ?_
        exact ⟨(w64 (v3l14 + (1 : Int))), (canon0 ⟨rfl, rfl, trivial⟩ trivial rfl rfl), h⟩
  · refine xcF rfl c6 ?_
    obtain rfl := someS h
    exact xexitn (st1 := ⟨ofL [], ofL []⟩) (canon0 trivial trivial rfl rfl) ⟨rfl, rfl⟩
theorem sat_prefectref4_IsType (N : Nat) (a0 : List UInt8) (r : Bool) (h : prefectref4_IsType N a0 = some r) : Sat Tryd.prog 88 noRows [.str a0] (.bool r) noRows := by
  refine xsat mixed Tryd.func88 k88_cf (rs := [.bool r]) rfl rfl ?_
  refine xseq ?_
  refine xreg ?_
  refine wpp rfl rfl ?_
  refine xseq ?_
  obtain ⟨g1, hg1, h⟩ := bindS h
  refine xseg ⟨ofL [(0, .str a0), (22, .bool g1)], ofL []⟩ ?_ ?_
  · have h := hg1
    refine xreg ?_
    refine wpp rfl rfl ?_
    refine wpp rfl rfl ?_
    refine wpp rfl rfl ?_
    refine wpp rfl rfl ?_
    rcases bifS h with ⟨c2, h⟩ | ⟨c2, h⟩
    · skip
      refine wsk (gn rfl c2) ?_
      refine wsk (gn rfl c2) ?_
      refine wsk (gn rfl c2) ?_
      refine wpp rfl (p_pick1 c2 rfl rfl) ?_
      refine wpp rfl rfl ?_
      refine wsk rfl ?_
      refine wsk rfl ?_
      refine wsk rfl ?_
      refine wpp rfl rfl ?_
      refine wpp rfl rfl ?_
      refine wsk rfl ?_
      refine wsk rfl ?_
      refine wsk rfl ?_
      refine wpp rfl rfl ?_
      obtain rfl := someS h
      exact (canon0 ⟨rfl, rfl, trivial⟩ trivial rfl rfl)
    · skip
      refine wpp (gy rfl c2) rfl ?_
      refine wpp (gy rfl c2) rfl ?_
      refine wpp (gy rfl c2) rfl ?_
      refine wpp rfl (p_pick0 c2 rfl rfl) ?_
      refine wpp rfl rfl ?_
      rcases bifS h with ⟨c3, h⟩ | ⟨c3, h⟩
      · skip
        refine wsk (gn rfl c3) ?_
        refine wsk (gn rfl c3) ?_
        refine wsk (gn rfl c3) ?_
        refine wpp rfl (p_pick1 c3 rfl rfl) ?_
        refine wpp rfl rfl ?_
        refine wsk rfl ?_
        refine wsk rfl ?_
        refine wsk rfl ?_
        refine wpp rfl rfl ?_
        obtain rfl := someS h
        exact (canon0 ⟨rfl, rfl, trivial⟩ trivial rfl rfl)
      · skip
        refine wpp (gy rfl c3) rfl ?_
        obtain ⟨x15, hx15, h⟩ := bindS h
        refine wpp (gy rfl c3) (p_idx hx15 rfl rfl) ?_
        refine wpp (p := .bool (decide (((x15).toNat : Int) < (97 : Int)))) (gy rfl c3) rfl ?_
        refine wpp rfl (p_pick0 c3 rfl rfl) ?_
        refine wpp rfl rfl ?_
        rcases bifS h with ⟨c4, h⟩ | ⟨c4, h⟩
        · skip
          refine wsk (gn rfl c4) ?_
          refine wsk (gn rfl c4) ?_
          refine wsk (gn rfl c4) ?_
          refine wpp rfl (p_pick1 c4 rfl rfl) ?_
          obtain rfl := someS h
          exact (canon0 ⟨rfl, rfl, trivial⟩ trivial rfl rfl)
        · skip
          refine wpp (gy rfl c4) rfl ?_
          obtain ⟨x20, hx20, h⟩ := bindS h
          refine wpp (gy rfl c4) (p_idx hx20 rfl rfl) ?_
          refine wpp (p := .bool (decide (((x20).toNat : Int) > (122 : Int)))) (gy rfl c4) rfl ?_
          refine wpp rfl (p_pick0 c4 rfl rfl) ?_
          obtain rfl := someS h
          exact (canon0 ⟨rfl, rfl, trivial⟩ trivial rfl rfl)
  · clear hg1
    rcases bifS h with ⟨c5, h⟩ | ⟨c5, h⟩
    · refine xcT rfl c5 ?_
      refine xseq ?_
      refine xreg ?_
      refine wpp rfl rfl ?_
      obtain rfl := someS h
      refine xret ?_
      exact ⟨nofun, rfl, rfl⟩
    · refine xcF rfl c5 ?_
      refine xskip ?_
      refine xseq ?_
      refine xseq ?_
      refine xreg ?_
      refine wpp rfl rfl ?_
      refine xblk ?_
      obtain ⟨y15, hy15, h⟩ := bindS h
      refine xloopU (st1 := ⟨ofL [(0, .str a0), (3, .int .i64 0)], ofL []⟩) (canon0 ⟨rfl, rfl, trivial⟩ trivial rfl rfl) (w_prefectref4_IsType_l14 N a0 N _ _ hy15) ?_
      clear hy15
      rcases y15 with y15 | y15
      · rintro e s ⟨rfl, rfl⟩
        refine xseq ?_
        refine xreg ?_
        refine wpp rfl rfl ?_
        obtain rfl := someS h
        refine xret ?_
        exact ⟨nofun, rfl, rfl⟩
      · rintro e s ⟨rfl, rfl⟩
        obtain rfl := someS h
        exact ⟨nofun, rfl, rfl⟩
end Go.Gp
end
section
set_option linter.unusedVariables false
set_option linter.unusedSimpArgs false
set_option maxRecDepth 4000
namespace Go.Gp
open Go.Vd Go.RowKit Go.Proofs
def k67_l34 : IC := (.seq (.seq (.reg [⟨(some 44), (.mov (.t 4)), none⟩, ⟨(some 45), (.mov (.t 3)), none⟩, ⟨(some 46), (.bin .lss (.t 44) (.t 45)), none⟩]) (.cond (.t 46) .skip (.exit 2))) (.seq (.block 3 (.seq (.regd 11 [⟨(some 49), (.mov (.t 0)), none⟩, ⟨(some 50), (.mov (.t 4)), none⟩, ⟨(some 51), (.ixp 2 (.t 49) (.t 50)), none⟩, ⟨(some 52), (.fda 0 (.t 51)), none⟩, ⟨(some 53), (.load 1 false (.t 52)), none⟩, ⟨(some 54), (.mov (.t 0)), none⟩, ⟨(some 55), (.mov (.t 3)), none⟩, ⟨(some 56), (.ixp 2 (.t 54) (.t 55)), none⟩, ⟨(some 57), (.fda 0 (.t 56)), none⟩, ⟨(some 58), (.load 1 false (.t 57)), none⟩, ⟨(some 59), (.bin .eql (.t 53) (.t 58)), none⟩]) (.cond (.t 59) (.seq (.reg [⟨(some 2), (.mov (.c (.bool false))), none⟩]) .ret) .skip))) (.reg [⟨(some 47), (.mov (.t 4)), none⟩, ⟨(some 48), (.bin .add (.t 47) (.c (.int .i64 1))), none⟩, ⟨(some 4), (.mov (.t 48)), none⟩])))
def k67_l14 : IC := (.seq (.seq (.reg [⟨(some 13), (.mov (.t 3)), none⟩, ⟨(some 14), (.mov (.t 0)), none⟩, ⟨(some 15), (.len false (.t 14)), none⟩, ⟨(some 16), (.bin .lss (.t 13) (.t 15)), none⟩]) (.cond (.t 16) .skip (.exit 0))) (.seq (.block 1 (.seq (.seq (.reg [⟨(some 19), (.mov (.t 0)), none⟩, ⟨(some 20), (.mov (.t 3)), none⟩, ⟨(some 21), (.ixp 2 (.t 19) (.t 20)), none⟩, ⟨(some 22), (.fda 0 (.t 21)), none⟩, ⟨(some 23), (.load 1 false (.t 22)), none⟩, ⟨(some 24), (.call 88 [(.t 23)]), none⟩, ⟨(some 25), (.un .not (.t 24)), none⟩, ⟨(some 26), (.mov (.t 25)), none⟩, ⟨(some 27), (.mov (.t 0)), (some (26, false))⟩, ⟨(some 28), (.mov (.t 3)), (some (26, false))⟩, ⟨(some 29), (.ixp 2 (.t 27) (.t 28)), (some (26, false))⟩, ⟨(some 30), (.fda 1 (.t 29)), (some (26, false))⟩, ⟨(some 31), (.load 1 false (.t 30)), (some (26, false))⟩, ⟨(some 32), (.len true (.t 31)), (some (26, false))⟩, ⟨(some 33), (.bin .lss (.t 32) (.c (.int .i64 1))), (some (26, false))⟩, ⟨(some 34), (.pick (.t 26) (.c (.bool true)) (.t 33)), none⟩, ⟨(some 35), (.mov (.t 34)), none⟩, ⟨(some 36), (.mov (.t 0)), (some (35, false))⟩, ⟨(some 37), (.mov (.t 3)), (some (35, false))⟩, ⟨(some 38), (.ixp 2 (.t 36) (.t 37)), (some (35, false))⟩, ⟨(some 39), (.fda 1 (.t 38)), (some (35, false))⟩, ⟨(some 40), (.load 1 false (.t 39)), (some (35, false))⟩, ⟨(some 41), (.len true (.t 40)), (some (35, false))⟩, ⟨(some 42), (.bin .gtr (.t 41) (.c (.int .i64 60))), (some (35, false))⟩, ⟨(some 43), (.pick (.t 35) (.c (.bool true)) (.t 42)), none⟩]) (.cond (.t 43) (.seq (.reg [⟨(some 2), (.mov (.c (.bool false))), none⟩]) .ret) .skip)) (.seq (.reg [⟨(some 4), (.mov (.c (.int .i64 0))), none⟩]) (.block 2 (.loop k67_l34))))) (.reg [⟨(some 17), (.mov (.t 3)), none⟩, ⟨(some 18), (.bin .add (.t 17) (.c (.int .i64 1))), none⟩, ⟨(some 3), (.mov (.t 18)), none⟩])))
def k67 : IC := (.seq (.reg [⟨(some 2), (.mov (.c (.bool false))), none⟩]) (.seq (.seq (.reg [⟨(some 5), (.mov (.t 0)), none⟩, ⟨(some 6), (.len false (.t 5)), none⟩, ⟨(some 7), (.bin .lss (.t 6) (.c (.int .i64 1))), none⟩, ⟨(some 8), (.mov (.t 7)), none⟩, ⟨(some 9), (.mov (.t 0)), (some (8, false))⟩, ⟨(some 10), (.len false (.t 9)), (some (8, false))⟩, ⟨(some 11), (.bin .gtr (.t 10) (.c (.int .i64 4))), (some (8, false))⟩, ⟨(some 12), (.pick (.t 8) (.c (.bool true)) (.t 11)), none⟩]) (.cond (.t 12) (.seq (.reg [⟨(some 2), (.mov (.c (.bool false))), none⟩]) .ret) .skip)) (.seq (.seq (.reg [⟨(some 3), (.mov (.c (.int .i64 0))), none⟩]) (.block 0 (.loop k67_l14))) (.seq (.reg [⟨(some 2), (.mov (.c (.bool true))), none⟩]) .ret))))
theorem k67_cf : cfunc Tryd.prog Tryd.f67 = some ⟨60, k67, [(.tmp 2)]⟩ := by kernel_rfl
theorem w_prefectref4_IsRDN_l34 (N : Nat) (a0 : List api_AVA) (v3l14 : Int) : ∀ (n : Nat) (x : Int) (y : Unit ⊕ Bool), prefectref4_IsRDN_l34 N a0 v3l14 n x = some y → WX Tryd.prog (fun _ => false) (.loop k67_l34) ((fun (x : Int) => ⟨ofL [(0, .sl 2 (List.map e_api_AVA a0)), (3, .int .i64 v3l14), (4, .int .i64 x)], ofL []⟩) x) ((Sum.elim (fun y e s => e = .exit 2 ∧ s = ⟨ofL [(0, .sl 2 (List.map e_api_AVA a0)), (3, .int .i64 v3l14)], ofL []⟩) (fun y e s => e = .ret ∧ s = ⟨ofL [(2, .bool y)], ofL []⟩) : (Unit ⊕ Bool) → Xt → St → Prop) y) := by
  refine xloop (fun (x : Int) => ⟨ofL [(0, .sl 2 (List.map e_api_AVA a0)), (3, .int .i64 v3l14), (4, .int .i64 x)], ofL []⟩) _ (prefectref4_IsRDN_l34 N a0 v3l14) (prefectref4_IsRDN_l34_b N a0 v3l14) (fun _ => rfl) (fun _ _ => rfl) ?_
  rintro rec v4l34 y h
  refine xseq ?_
  refine xseq ?_
  refine xreg ?_
  refine wpp rfl rfl ?_
  refine wpp rfl rfl ?_
  refine wpp rfl rfl ?_
  rcases bifS h with ⟨c9, h⟩ | ⟨c9, h⟩
  · refine xcT rfl c9 ?_
    refine xskip ?_
    refine xseq ?_
    refine xblk ?_
    refine xseq ?_
    refine xregd ?_
    refine wdp rfl rfl ?_
    refine wdp rfl rfl ?_
    obtain ⟨x51, hx51, h⟩ := bindS h
    refine wdp rfl (p_ixs (cs := [.str x51.Attr, .str x51.Value]) hx51 rfl rfl rfl) ?_
    refine wdp (p := .ep [.str x51.Attr, .str x51.Value]) rfl rfl ?_
    refine wdp rfl rfl ?_
    refine wdp rfl rfl ?_
    refine wdp rfl rfl ?_
    obtain ⟨x56, hx56, h⟩ := bindS h
    refine wdp rfl (p_ixs (cs := [.str x56.Attr, .str x56.Value]) hx56 rfl rfl rfl) ?_
    refine wdp (p := .ep [.str x56.Attr, .str x56.Value]) rfl rfl ?_
    refine wdp rfl rfl ?_
    refine wdp rfl rfl ?_
    rcases bifS h with ⟨c10, h⟩ | ⟨c10, h⟩
    · refine xcT rfl c10 ?_
      refine xseq ?_
      refine xreg ?_
      refine wpp rfl rfl ?_
      obtain rfl := someS h
      exact xretn (st1 := ⟨ofL [(2, .bool false)], ofL []⟩) (canon0 ⟨rfl, trivial⟩ trivial rfl rfl) ⟨rfl, rfl⟩
    · refine xcF rfl c10 ?_
      refine xskip ?_
      refine xreg ?_
      refine wpp rfl rfl ?_
      refine wpp (p := .int .i64 (w64 (v4l34 + (1 : Int)))) rfl rfl ?_
      refine wpp rfl rfl ?_
      exact ⟨(w64 (v4l34 + (1 : Int))), (canon0 ⟨rfl, rfl, rfl, trivial⟩ trivial rfl rfl), h⟩
  · refine xcF rfl c9 ?_
    obtain rfl := someS h
    exact xexitn (st1 := ⟨ofL [(0, .sl 2 (List.map e_api_AVA a0)), (3, .int .i64 v3l14)], ofL []⟩) (canon0 ⟨rfl, rfl, trivial⟩ trivial rfl rfl) ⟨rfl, rfl⟩
theorem w_prefectref4_IsRDN_l14 (N : Nat) (a0 : List api_AVA) : ∀ (n : Nat) (x : Int) (y : Unit ⊕ Bool), prefectref4_IsRDN_l14 N a0 n x = some y → WX Tryd.prog (fun _ => false) (.loop k67_l14) ((fun (x : Int) => ⟨ofL [(0, .sl 2 (List.map e_api_AVA a0)), (3, .int .i64 x)], ofL []⟩) x) ((Sum.elim (fun y e s => e = .exit 0 ∧ s = ⟨ofL [], ofL []⟩) (fun y e s => e = .ret ∧ s = ⟨ofL [(2, .bool y)], ofL []⟩) : (Unit ⊕ Bool) → Xt → St → Prop) y) := by
  refine xloop (fun (x : Int) => ⟨ofL [(0, .sl 2 (List.map e_api_AVA a0)), (3, .int .i64 x)], ofL []⟩) _ (prefectref4_IsRDN_l14 N a0) (prefectref4_IsRDN_l14_b N a0) (fun _ => rfl) (fun _ _ => rfl) ?_
  rintro rec v3l14 y h
  refine xseq ?_
  refine xseq ?_
  refine xreg ?_
  refine wpp rfl rfl ?_
  refine wpp rfl rfl ?_
  refine wpp rfl (p_lens rfl) ?_
  refine wpp rfl rfl ?_
  rcases bifS h with ⟨c4, h⟩ | ⟨c4, h⟩
  · refine xcT rfl c4 ?_
    refine xskip ?_
    refine xseq ?_
    refine xblk ?_
    refine xseq ?_
    obtain ⟨g5, hg5, h⟩ := bindS h
    refine xseg ⟨ofL [(0, .sl 2 (List.map e_api_AVA a0)), (3, .int .i64 v3l14), (43, .bool g5)], ofL []⟩ ?_ ?_
    · have h := hg5
      refine xreg ?_
      refine wpp rfl rfl ?_
      refine wpp rfl rfl ?_
      obtain ⟨x21, hx21, h⟩ := bindS h
      refine wpp rfl (p_ixs (cs := [.str x21.Attr, .str x21.Value]) hx21 rfl rfl rfl) ?_
      refine wpp (p := .ep [.str x21.Attr, .str x21.Value]) rfl rfl ?_
      refine wpp rfl rfl ?_
      obtain ⟨x24, hx24, h⟩ := bindS h
      refine woo rfl (ocal (sat_prefectref4_IsType N _ _ hx24) rfl (.cons sub_rfl .nil) rfl rfl rfl) ?_
      refine wpp rfl rfl ?_
      refine wpp rfl rfl ?_
      rcases bifS h with ⟨c6, h⟩ | ⟨c6, h⟩
      · skip
        refine wsk (gn rfl c6) ?_
        refine wsk (gn rfl c6) ?_
        refine wsk (gn rfl c6) ?_
        refine wsk (gn rfl c6) ?_
        refine wsk (gn rfl c6) ?_
        refine wsk (gn rfl c6) ?_
        refine wsk (gn rfl c6) ?_
        refine wpp rfl (p_pick1 c6 rfl rfl) ?_
        refine wpp rfl rfl ?_
        refine wsk rfl ?_
        refine wsk rfl ?_
        refine wsk rfl ?_
        refine wsk rfl ?_
        refine wsk rfl ?_
        refine wsk rfl ?_
        refine wsk rfl ?_
        refine wpp rfl rfl ?_
        obtain rfl := someS h
        exact (canon0 ⟨rfl, rfl, rfl, trivial⟩ trivial rfl rfl)
      · skip
        refine wpp (gy rfl c6) rfl ?_
        refine wpp (gy rfl c6) rfl ?_
        obtain ⟨x29, hx29, h⟩ := bindS h
        refine wpp (gy rfl c6) (p_ixs (cs := [.str x29.Attr, .str x29.Value]) hx29 rfl rfl rfl) ?_
        refine wpp (p := .ep [.str x29.Value]) (gy rfl c6) rfl ?_
        refine wpp (gy rfl c6) rfl ?_
        refine wpp (gy rfl c6) rfl ?_
        refine wpp (gy rfl c6) rfl ?_
        refine wpp rfl (p_pick0 c6 rfl rfl) ?_
        refine wpp rfl rfl ?_
        rcases bifS h with ⟨c7, h⟩ | ⟨c7, h⟩
        · skip
          refine wsk (gn rfl c7) ?_
          refine wsk (gn rfl c7) ?_
          refine wsk (gn rfl c7) ?_
          refine wsk (gn rfl c7) ?_
          refine wsk (gn rfl c7) ?_
          refine wsk (gn rfl c7) ?_
          refine wsk (gn rfl c7) ?_
          refine wpp rfl (p_pick1 c7 rfl rfl) ?_
          obtain rfl := someS h
          exact (canon0 ⟨rfl, rfl, rfl, trivial⟩ trivial rfl rfl)
        · skip
          refine wpp (gy rfl c7) rfl ?_
          refine wpp (gy rfl c7) rfl ?_
          obtain ⟨x38, hx38, h⟩ := bindS h
          refine wpp (gy rfl c7) (p_ixs (cs := [.str x38.Attr, .str x38.Value]) hx38 rfl rfl rfl) ?_
          refine wpp (p := .ep [.str x38.Value]) (gy rfl c7) rfl ?_
          refine wpp (gy rfl c7) rfl ?_
          refine wpp (gy rfl c7) rfl ?_
          refine wpp (gy rfl c7) rfl ?_
          refine wpp rfl (p_pick0 c7 rfl rfl) ?_
          obtain rfl := someS h
          exact (canon0 ⟨rfl, rfl, rfl, trivial⟩ trivial rfl rfl)
    · clear hg5
      rcases bifS h with ⟨c8, h⟩ | ⟨c8, h⟩
      · refine xcT rfl c8 ?_
        refine xseq ?_
        refine xreg ?_
        refine wpp rfl rfl ?_
        obtain rfl := someS h
        exact xretn (st1 := ⟨ofL [(2, .bool false)], ofL []⟩) (canon0 ⟨rfl, trivial⟩ trivial rfl rfl) ⟨rfl, rfl⟩
      · refine xcF rfl c8 ?_
        refine xskip ?_
        refine xseq ?_
        refine xreg ?_
        refine wpp rfl rfl ?_
        refine xblk ?_
        obtain ⟨y11, hy11, h⟩ := bindS h
        refine xloopU (st1 := ⟨ofL [(0, .sl 2 (List.map e_api_AVA a0)), (3, .int .i64 v3l14), (4, .int .i64 0)], ofL []⟩) (canon0 ⟨rfl, rfl, rfl, trivial⟩ trivial rfl rfl) (w_prefectref4_IsRDN_l34 N a0 v3l14 N _ _ hy11) ?_
        clear hy11
        rcases y11 with y11 | y11
        · rintro e s ⟨rfl, rfl⟩
          refine xreg ?_
          refine wpp rfl rfl ?_
          refine wpp (p := .int .i64 (w64 (v3l14 + (1 : Int)))) rfl rfl ?_
          refine wpp rfl rfl ?_
          exact ⟨(w64 (v3l14 + (1 : Int))), (canon0 ⟨rfl, rfl, trivial⟩ trivial rfl rfl), h⟩
        · rintro e s ⟨rfl, rfl⟩
          obtain rfl := someS h
          exact ⟨rfl, rfl⟩
  · refine xcF rfl c4 ?_
    obtain rfl := someS h
    exact xexitn (st1 := ⟨ofL [], ofL []⟩) (canon0 trivial trivial rfl rfl) ⟨rfl, rfl⟩
theorem sat_prefectref4_IsRDN (N : Nat) (a0 : List api_AVA) (r : Bool) (h : prefectref4_IsRDN N a0 = some r) : Sat Tryd.prog 67 noRows [.sl 2 (List.map e_api_AVA a0)] (.bool r) noRows := by
  refine xsat mixed Tryd.func67 k67_cf (rs := [.bool r]) rfl rfl ?_
  refine xseq ?_
  refine xreg ?_
  refine wpp rfl rfl ?_
  refine xseq ?_
  obtain ⟨g1, hg1, h⟩ := bindS h
  refine xseg ⟨ofL [(0, .sl 2 (List.map e_api_AVA a0)), (12, .bool g1)], ofL []⟩ ?_ ?_
  · have h := hg1
    refine xreg ?_
    refine wpp rfl rfl ?_
    refine wpp rfl (p_lens rfl) ?_
    refine wpp rfl rfl ?_
    refine wpp rfl rfl ?_
    rcases bifS h with ⟨c2, h⟩ | ⟨c2, h⟩
    · skip
      refine wsk (gn rfl c2) ?_
      refine wsk (gn rfl c2) ?_
      refine wsk (gn rfl c2) ?_
      refine wpp rfl (p_pick1 c2 rfl rfl) ?_
      obtain rfl := someS h
      exact (canon0 ⟨rfl, rfl, trivial⟩ trivial rfl rfl)
    · skip
      refine wpp (gy rfl c2) rfl ?_
      refine wpp (gy rfl c2) (p_lens rfl) ?_
      refine wpp (gy rfl c2) rfl ?_
      refine wpp rfl (p_pick0 c2 rfl rfl) ?_
      obtain rfl := someS h
      exact (canon0 ⟨rfl, rfl, trivial⟩ trivial rfl rfl)
  · clear hg1
    rcases bifS h with ⟨c3, h⟩ | ⟨c3, h⟩
    · refine xcT rfl c3 ?_
      refine xseq ?_
      refine xreg ?_
      refine wpp rfl rfl ?_
      obtain rfl := someS h
      refine xret ?_
      exact ⟨nofun, rfl, rfl⟩
    · refine xcF rfl c3 ?_
      refine xskip ?_
      refine xseq ?_
      refine xseq ?_
      refine xreg ?_
      refine wpp rfl rfl ?_
      refine xblk ?_
      obtain ⟨y12, hy12, h⟩ := bindS h
      refine xloopU (st1 := ⟨ofL [(0, .sl 2 (List.map e_api_AVA a0)), (3, .int .i64 0)], ofL []⟩) (canon0 ⟨rfl, rfl, trivial⟩ trivial rfl rfl) (w_prefectref4_IsRDN_l14 N a0 N _ _ hy12) ?_
      clear hy12
      rcases y12 with y12 | y12
      · rintro e s ⟨rfl, rfl⟩
        refine xseq ?_
        refine xreg ?_
        refine wpp rfl rfl ?_
        obtain rfl := someS h
        refine xret ?_
        exact ⟨nofun, rfl, rfl⟩
      · rintro e s ⟨rfl, rfl⟩
        obtain rfl := someS h
        exact ⟨nofun, rfl, rfl⟩
end Go.Gp
end
section
set_option linter.unusedVariables false
set_option linter.unusedSimpArgs false
set_option maxRecDepth 4000
set_option maxHeartbeats 4000000
namespace Go.Gp
open Go.Vd Go.RowKit Go.Proofs
def k46_l23 : IC := (.seq (.seq (.reg [⟨(some 18), (.mov (.t 7)), none⟩, ⟨(some 19), (.mov (.t 5)), none⟩, ⟨(some 20), (.mov (.t 6)), none⟩, ⟨(some 21), (.ixp 1 (.t 19) (.t 20)), none⟩, ⟨(some 22), (.load 1 false (.t 21)), none⟩, ⟨(some 23), (.len true (.t 22)), none⟩, ⟨(some 24), (.bin .lss (.t 18) (.t 23)), none⟩, ⟨(some 25), (.mov (.t 24)), none⟩, ⟨(some 26), (.mov (.t 5)), (some (25, true))⟩, ⟨(some 27), (.mov (.t 6)), (some (25, true))⟩, ⟨(some 28), (.ixp 1 (.t 26) (.t 27)), (some (25, true))⟩, ⟨(some 29), (.load 1 false (.t 28)), (some (25, true))⟩, ⟨(some 30), (.mov (.t 7)), (some (25, true))⟩, ⟨(some 31), (.idxs (.t 29) (.t 30)), (some (25, true))⟩, ⟨(some 32), (.bin .neq (.t 31) (.c (.int .u8 61))), (some (25, true))⟩, ⟨(some 33), (.pick (.t 25) (.t 32) (.c (.bool false))), none⟩]) (.cond (.t 33) .skip (.exit 2))) (.block 3 (.reg [⟨(some 34), (.mov (.t 7)), none⟩, ⟨(some 35), (.bin .add (.t 34) (.c (.int .i64 1))), none⟩, ⟨(some 7), (.mov (.t 35)), none⟩])))
def k46_l10 : IC := (.seq (.seq (.reg [⟨(some 12), (.mov (.t 6)), none⟩, ⟨(some 13), (.mov (.t 5)), none⟩, ⟨(some 14), (.len false (.t 13)), none⟩, ⟨(some 15), (.bin .lss (.t 12) (.t 14)), none⟩]) (.cond (.t 15) .skip (.exit 0))) (.seq (.block 1 (.seq (.reg [⟨(some 7), (.mov (.c (.int .i64 0))), none⟩]) (.seq (.block 2 (.loop k46_l23)) (.seq (.seq (.reg [⟨(some 36), (.mov (.t 7)), none⟩, ⟨(some 37), (.mov (.t 5)), none⟩, ⟨(some 38), (.mov (.t 6)), none⟩, ⟨(some 39), (.ixp 1 (.t 37) (.t 38)), none⟩, ⟨(some 40), (.load 1 false (.t 39)), none⟩, ⟨(some 41), (.len true (.t 40)), none⟩, ⟨(some 42), (.bin .eql (.t 36) (.t 41)), none⟩, ⟨(some 43), (.mov (.t 42)), none⟩, ⟨(some 44), (.mov (.t 5)), (some (43, false))⟩, ⟨(some 45), (.mov (.t 6)), (some (43, false))⟩, ⟨(some 46), (.ixp 1 (.t 44) (.t 45)), (some (43, false))⟩, ⟨(some 47), (.load 1 false (.t 46)), (some (43, false))⟩, ⟨(some 48), (.call 45 [(.t 47), (.c (.int .u8 44))]), (some (43, false))⟩, ⟨(some 49), (.len false (.t 48)), (some (43, false))⟩, ⟨(some 50), (.bin .gtr (.t 49) (.c (.int .i64 1))), (some (43, false))⟩, ⟨(some 51), (.pick (.t 43) (.c (.bool true)) (.t 50)), none⟩]) (.cond (.t 51) (.seq (.reg [⟨(some 2), (.mov (.c .nl)), none⟩, ⟨(some 3), (.mov (.c (.bool false))), none⟩]) .ret) .skip)) (.seq (.reg [⟨(some 53), (.mov (.t 5)), none⟩, ⟨(some 54), (.mov (.t 6)), none⟩, ⟨(some 55), (.ixp 1 (.t 53) (.t 54)), none⟩, ⟨(some 56), (.load 1 false (.t 55)), none⟩, ⟨(some 57), (.mov (.t 7)), none⟩, ⟨(some 58), (.bin .add (.t 57) (.c (.int .i64 1))), none⟩, ⟨(some 59), (.slcs (.t 56) (some (.t 58)) none), none⟩, ⟨(some 60), (.call 66 [(.t 59)]), none⟩, ⟨(some 52), (.mov (.t 60)), none⟩, ⟨(some 61), (.ext 0 (.t 52)), none⟩, ⟨(some 62), (.ext 1 (.t 52)), none⟩, ⟨(some 8), (.mov (.t 61)), none⟩, ⟨(some 9), (.mov (.t 62)), none⟩]) (.seq (.seq (.reg [⟨(some 63), (.mov (.t 9)), none⟩, ⟨(some 64), (.un .not (.t 63)), none⟩]) (.cond (.t 64) (.seq (.reg [⟨(some 2), (.mov (.c .nl)), none⟩, ⟨(some 3), (.mov (.c (.bool false))), none⟩]) .ret) .skip)) (.reg [⟨(some 65), (.mov (.t 4)), none⟩, ⟨(some 66), (.mov (.t 5)), none⟩, ⟨(some 67), (.mov (.t 6)), none⟩, ⟨(some 68), (.ixp 1 (.t 66) (.t 67)), none⟩, ⟨(some 69), (.load 1 false (.t 68)), none⟩, ⟨(some 70), (.mov (.t 7)), none⟩, ⟨(some 71), (.slcs (.t 69) none (some (.t 70))), none⟩, ⟨(some 72), (.call 29 [(.t 71)]), none⟩, ⟨(some 73), (.mov (.t 8)), none⟩, ⟨(some 74), (.build [(.str []), (.str [])] [(0, (1, (.t 72))), (1, (1, (.t 73)))]), none⟩, ⟨(some 75), (.bsl 2 [(.t 74)]), none⟩, ⟨(some 76), (.app 101 2 32 (.t 65) (.t 75)), none⟩, ⟨(some 4), (.mov (.t 76)), none⟩]))))))) (.reg [⟨(some 16), (.mov (.t 6)), none⟩, ⟨(some 17), (.bin .add (.t 16) (.c (.int .i64 1))), none⟩, ⟨(some 6), (.mov (.t 17)), none⟩])))
def k46 : IC := (.seq (.reg [⟨(some 2), (.mov (.c .nl)), none⟩, ⟨(some 3), (.mov (.c (.bool false))), none⟩]) (.seq (.reg [⟨(some 4), (.mov (.c .nl)), none⟩]) (.seq (.reg [⟨(some 10), (.mov (.t 0)), none⟩, ⟨(some 11), (.call 45 [(.t 10), (.c (.int .u8 43))]), none⟩, ⟨(some 5), (.mov (.t 11)), none⟩]) (.seq (.seq (.reg [⟨(some 6), (.mov (.c (.int .i64 0))), none⟩]) (.block 0 (.loop k46_l10))) (.seq (.seq (.reg [⟨(some 77), (.mov (.t 4)), none⟩, ⟨(some 78), (.call 67 [(.t 77)]), none⟩, ⟨(some 79), (.un .not (.t 78)), none⟩]) (.cond (.t 79) (.seq (.reg [⟨(some 2), (.mov (.c .nl)), none⟩, ⟨(some 3), (.mov (.c (.bool false))), none⟩]) .ret) .skip)) (.seq (.reg [⟨(some 80), (.mov (.t 4)), none⟩, ⟨(some 2), (.mov (.t 80)), none⟩, ⟨(some 3), (.mov (.c (.bool true))), none⟩]) .ret))))))
theorem k46_cf : cfunc Tryd.prog Tryd.f46 = some ⟨81, k46, [(.tmp 2), (.tmp 3)]⟩ := by kernel_rfl
theorem w_prefectref4_ParseRDN_l23 (N : Nat) (x11 : List (List UInt8)) (v6l10 : Int) (r1004l10 : List api_AVA) : ∀ (n : Nat) (x : Int) (y : Int), prefectref4_ParseRDN_l23 N x11 v6l10 r1004l10 n x = some y → WX Tryd.prog (fun _ => false) (.loop k46_l23) ((fun (x : Int) => ⟨ofL [(4, .slr 1004 0 r1004l10.length), (5, .sl 1 (List.map PV.str x11)), (6, .int .i64 v6l10), (7, .int .i64 x)], ofL [(1004, ⟨2, true, List.map e_api_AVA r1004l10⟩)]⟩) x) ((fun y e s => e = .exit 2 ∧ s = ⟨ofL [(4, .slr 1004 0 r1004l10.length), (5, .sl 1 (List.map PV.str x11)), (6, .int .i64 v6l10), (7, .int .i64 y)], ofL [(1004, ⟨2, true, List.map e_api_AVA r1004l10⟩)]⟩ : Int → Xt → St → Prop) y) := by
  refine xloop (fun (x : Int) => ⟨ofL [(4, .slr 1004 0 r1004l10.length), (5, .sl 1 (List.map PV.str x11)), (6, .int .i64 v6l10), (7, .int .i64 x)], ofL [(1004, ⟨2, true, List.map e_api_AVA r1004l10⟩)]⟩) _ (prefectref4_ParseRDN_l23 N x11 v6l10 r1004l10) (prefectref4_ParseRDN_l23_b N x11 v6l10 r1004l10) (fun _ => rfl) (fun _ _ => rfl) ?_
  rintro rec v7l23 y h
  refine xseq ?_
  obtain ⟨g2, hg2, h⟩ := bindS h
  refine xseg ⟨ofL [(4, .slr 1004 0 r1004l10.length), (5, .sl 1 (List.map PV.str x11)), (6, .int .i64 v6l10), (7, .int .i64 v7l23), (33, .bool g2)], ofL [(1004, ⟨2, true, List.map e_api_AVA r1004l10⟩)]⟩ ?_ ?_
  · have h := hg2
    refine xreg ?_
    refine wpp rfl rfl ?_
    refine wpp rfl rfl ?_
    refine wpp rfl rfl ?_
    obtain ⟨x21, hx21, h⟩ := bindS h
    refine wpp rfl (p_ixs (cs := [.str x21]) hx21 rfl rfl rfl) ?_
    refine wpp rfl rfl ?_
    refine wpp rfl rfl ?_
    refine wpp rfl rfl ?_
    refine wpp rfl rfl ?_
    rcases bifS h with ⟨c3, h⟩ | ⟨c3, h⟩
    · skip
      refine wpp (gy rfl c3) rfl ?_
      refine wpp (gy rfl c3) rfl ?_
      obtain ⟨x28, hx28, h⟩ := bindS h
      refine wpp (gy rfl c3) (p_ixs (cs := [.str x28]) hx28 rfl rfl rfl) ?_
      refine wpp (gy rfl c3) rfl ?_
      refine wpp (gy rfl c3) rfl ?_
      obtain ⟨x31, hx31, h⟩ := bindS h
      refine wpp (gy rfl c3) (p_idx hx31 rfl rfl) ?_
      refine wpp (p := .bool (((x31).toNat : Int) != (61 : Int))) (gy rfl c3) rfl ?_
      refine wpp rfl (p_pick1 c3 rfl rfl) ?_
      obtain rfl := someS h
      exact (canon0 ⟨rfl, rfl, rfl, rfl, rfl, trivial⟩ ⟨rfl, trivial⟩ rfl rfl)
    · skip
      refine wsk (gn rfl c3) ?_
      refine wsk (gn rfl c3) ?_
      refine wsk (gn rfl c3) ?_
      refine wsk (gn rfl c3) ?_
      refine wsk (gn rfl c3) ?_
      refine wsk (gn rfl c3) ?_
      refine wsk (gn rfl c3) ?_
      refine wpp rfl (p_pick0 c3 rfl rfl) ?_
      obtain rfl := someS h
      exact (canon0 ⟨rfl, rfl, rfl, rfl, rfl, trivial⟩ ⟨rfl, trivial⟩ rfl rfl)
  · clear hg2
    rcases bifS h with ⟨c4, h⟩ | ⟨c4, h⟩
    · refine xcT rfl c4 ?_
      refine xskip ?_
      refine xblk ?_
      refine xreg ?_
      refine wpp rfl rfl ?_
      refine wpp (p := .int .i64 (w64 (v7l23 + (1 : Int)))) rfl rfl ?_
      refine wpp rfl rfl ?_
      exact ⟨(w64 (v7l23 + (1 : Int))), (canon0 ⟨rfl, rfl, rfl, rfl, trivial⟩ ⟨rfl, trivial⟩ rfl rfl), h⟩
    · refine xcF rfl c4 ?_
      obtain rfl := someS h
      exact xexitn (st1 := ⟨ofL [(4, .slr 1004 0 r1004l10.length), (5, .sl 1 (List.map PV.str x11)), (6, .int .i64 v6l10), (7, .int .i64 v7l23)], ofL [(1004, ⟨2, true, List.map e_api_AVA r1004l10⟩)]⟩) (canon0 ⟨rfl, rfl, rfl, rfl, trivial⟩ ⟨rfl, trivial⟩ rfl rfl) ⟨rfl, rfl⟩
theorem w_prefectref4_ParseRDN_l10 (N : Nat) (x11 : List (List UInt8)) : ∀ (n : Nat) (x : Int × List api_AVA) (y : (List api_AVA) ⊕ (List api_AVA × Bool)), prefectref4_ParseRDN_l10 N x11 n x = some y → WX Tryd.prog (fun _ => false) (.loop k46_l10) ((fun (x : Int × List api_AVA) => ⟨ofL [(4, .slr 1004 0 x.2.length), (5, .sl 1 (List.map PV.str x11)), (6, .int .i64 x.1)], ofL [(1004, ⟨2, true, List.map e_api_AVA x.2⟩)]⟩) x) ((Sum.elim (fun y e s => e = .exit 0 ∧ s = ⟨ofL [(4, .slr 1004 0 y.length)], ofL [(1004, ⟨2, true, List.map e_api_AVA y⟩)]⟩) (fun y e s => e = .ret ∧ s = ⟨ofL [(2, .sl 2 (List.map e_api_AVA y.1)), (3, .bool y.2)], ofL []⟩) : ((List api_AVA) ⊕ (List api_AVA × Bool)) → Xt → St → Prop) y) := by
  refine xloop (fun (x : Int × List api_AVA) => ⟨ofL [(4, .slr 1004 0 x.2.length), (5, .sl 1 (List.map PV.str x11)), (6, .int .i64 x.1)], ofL [(1004, ⟨2, true, List.map e_api_AVA x.2⟩)]⟩) _ (prefectref4_ParseRDN_l10 N x11) (prefectref4_ParseRDN_l10_b N x11) (fun _ => rfl) (fun _ _ => rfl) ?_
  rintro rec ⟨v6l10, r1004l10⟩ y h
  refine xseq ?_
  refine xseq ?_
  refine xreg ?_
  refine wpp rfl rfl ?_
  refine wpp rfl rfl ?_
  refine wpp rfl (p_lens rfl) ?_
  refine wpp rfl rfl ?_
  rcases bifS h with ⟨c1, h⟩ | ⟨c1, h⟩
  · refine xcT rfl c1 ?_
    refine xskip ?_
    refine xseq ?_
    refine xblk ?_
    refine xseq ?_
    refine xreg ?_
    refine wpp rfl rfl ?_
    refine xseq ?_
    refine xblk ?_
    obtain ⟨y5, hy5, h⟩ := bindS h
    refine xloopU (st1 := ⟨ofL [(4, .slr 1004 0 r1004l10.length), (5, .sl 1 (List.map PV.str x11)), (6, .int .i64 v6l10), (7, .int .i64 0)], ofL [(1004, ⟨2, true, List.map e_api_AVA r1004l10⟩)]⟩) (canon0 ⟨rfl, rfl, rfl, rfl, trivial⟩ ⟨rfl, trivial⟩ rfl rfl) (w_prefectref4_ParseRDN_l23 N x11 v6l10 r1004l10 N _ _ hy5) ?_
    rintro e s ⟨rfl, rfl⟩
    refine xseq ?_
    obtain ⟨g6, hg6, h⟩ := bindS h
    refine xseg ⟨ofL [(4, .slr 1004 0 r1004l10.length), (5, .sl 1 (List.map PV.str x11)), (6, .int .i64 v6l10), (7, .int .i64 y5), (51, .bool g6)], ofL [(1004, ⟨2, true, List.map e_api_AVA r1004l10⟩)]⟩ ?_ ?_
    · have h := hg6
      refine xreg ?_
      refine wpp rfl rfl ?_
      refine wpp rfl rfl ?_
      refine wpp rfl rfl ?_
      obtain ⟨x39, hx39, h⟩ := bindS h
      refine wpp rfl (p_ixs (cs := [.str x39]) hx39 rfl rfl rfl) ?_
      refine wpp rfl rfl ?_
      refine wpp rfl rfl ?_
      refine wpp rfl rfl ?_
      refine wpp rfl rfl ?_
      rcases bifS h with ⟨c7, h⟩ | ⟨c7, h⟩
      · skip
        refine wsk (gn rfl c7) ?_
        refine wsk (gn rfl c7) ?_
        refine wsk (gn rfl c7) ?_
        refine wsk (gn rfl c7) ?_
        refine wsk (gn rfl c7) ?_
        refine wsk (gn rfl c7) ?_
        refine wsk (gn rfl c7) ?_
        refine wpp rfl (p_pick1 c7 rfl rfl) ?_
        obtain rfl := someS h
        exact (canon0 ⟨rfl, rfl, rfl, rfl, rfl, trivial⟩ ⟨rfl, trivial⟩ rfl rfl)
      · skip
        refine wpp (gy rfl c7) rfl ?_
        refine wpp (gy rfl c7) rfl ?_
        obtain ⟨x46, hx46, h⟩ := bindS h
        refine wpp (gy rfl c7) (p_ixs (cs := [.str x46]) hx46 rfl rfl rfl) ?_
        refine wpp (gy rfl c7) rfl ?_
        obtain ⟨x48, hx48, h⟩ := bindS h
        refine woo (gy rfl c7) (ocal (sat_prefectref4_cut N _ _ _ hx48) rfl (.cons sub_rfl (.cons sub_rfl .nil)) rfl rfl rfl) ?_
        refine wpp (gy rfl c7) (p_lens rfl) ?_
        refine wpp (gy rfl c7) rfl ?_
        refine wpp rfl (p_pick0 c7 rfl rfl) ?_
        obtain rfl := someS h
        exact (canon0 ⟨rfl, rfl, rfl, rfl, rfl, trivial⟩ ⟨rfl, trivial⟩ rfl rfl)
    · clear hg6
      rcases bifS h with ⟨c8, h⟩ | ⟨c8, h⟩
      · refine xcT rfl c8 ?_
        refine xseq ?_
        refine xreg ?_
        refine wpp rfl rfl ?_
        refine wpp rfl rfl ?_
        obtain rfl := someS h
        exact xretn (st1 := ⟨ofL [(2, .sl 2 (List.map e_api_AVA [])), (3, .bool false)], ofL []⟩) (Norm.trans (nsub 2 (sub_nl 2) rfl) (canon0 ⟨rfl, rfl, trivial⟩ trivial rfl rfl)) ⟨rfl, rfl⟩
      · refine xcF rfl c8 ?_
        refine xskip ?_
        refine xseq ?_
        refine xreg ?_
        refine wpp rfl rfl ?_
        refine wpp rfl rfl ?_
        obtain ⟨x55, hx55, h⟩ := bindS h
        refine wpp rfl (p_ixs (cs := [.str x55]) hx55 rfl rfl rfl) ?_
        refine wpp rfl rfl ?_
        refine wpp rfl rfl ?_
        refine wpp (p := .int .i64 (w64 (y5 + (1 : Int)))) rfl rfl ?_
        obtain ⟨x59, hx59, h⟩ := bindS h
        refine wpp rfl (p_drop hx59 rfl rfl) ?_
        obtain ⟨x60, hx60, h⟩ := bindS h
        refine woo rfl (ocal (sat_prefectref4_plain N _ _ hx60) rfl (.cons sub_rfl .nil) rfl rfl rfl) ?_
        refine wpp rfl rfl ?_
        refine wpp rfl rfl ?_
        refine wpp rfl rfl ?_
        refine wpp rfl rfl ?_
        refine wpp rfl rfl ?_
        refine xseq ?_
        refine xseq ?_
        refine xreg ?_
        refine wpp rfl rfl ?_
        refine wpp rfl rfl ?_
        rcases bifS h with ⟨c9, h⟩ | ⟨c9, h⟩
        · refine xcT rfl c9 ?_
          refine xseq ?_
          refine xreg ?_
          refine wpp rfl rfl ?_
          refine wpp rfl rfl ?_
          obtain rfl := someS h
          exact xretn (st1 := ⟨ofL [(2, .sl 2 (List.map e_api_AVA [])), (3, .bool false)], ofL []⟩) (Norm.trans (nsub 2 (sub_nl 2) rfl) (canon0 ⟨rfl, rfl, trivial⟩ trivial rfl rfl)) ⟨rfl, rfl⟩
        · refine xcF rfl c9 ?_
          refine xskip ?_
          refine xreg ?_
          refine wpp rfl rfl ?_
          refine wpp rfl rfl ?_
          refine wpp rfl rfl ?_
          obtain ⟨x68, hx68, h⟩ := bindS h
          refine wpp rfl (p_ixs (cs := [.str x68]) hx68 rfl rfl rfl) ?_
          refine wpp rfl rfl ?_
          refine wpp rfl rfl ?_
          obtain ⟨x71, hx71, h⟩ := bindS h
          refine wpp rfl (p_take hx71 rfl rfl) ?_
          obtain ⟨x72, hx72, h⟩ := bindS h
          refine woo rfl (ocal (sat_prefectref4_Lower N _ _ hx72) rfl (.cons sub_rfl .nil) rfl rfl rfl) ?_
          refine wpp rfl rfl ?_
          refine wpp (p := .agg [.str x72, .str x60.1]) rfl rfl ?_
          refine woo rfl (obsl 75 rfl rfl rfl) ?_
          obtain ⟨x76, hx76, h⟩ := bindS h
          refine wapp (f := e_api_AVA) 76 hx76 rfl rfl rfl rfl rfl (el_row rfl (full_row (f := e_api_AVA) (l := [(⟨x72, x60.1⟩ : api_AVA)]))) rfl rfl rfl rfl ?_
          refine wpp rfl rfl ?_
          refine xreg ?_
          refine wpp rfl rfl ?_
          refine wpp (p := .int .i64 (w64 (v6l10 + (1 : Int)))) rfl rfl ?_
          refine wpp rfl rfl ?_
          exact ⟨((w64 (v6l10 + (1 : Int))), x76), (Norm.trans (rename 76 1004 rfl rfl) (canon0 ⟨rfl, rfl, rfl, trivial⟩ ⟨rfl, trivial⟩ rfl rfl)), h⟩
  · refine xcF rfl c1 ?_
    obtain rfl := someS h
    exact xexitn (st1 := ⟨ofL [(4, .slr 1004 0 r1004l10.length)], ofL [(1004, ⟨2, true, List.map e_api_AVA r1004l10⟩)]⟩) (canon0 ⟨rfl, trivial⟩ ⟨rfl, trivial⟩ rfl rfl) ⟨rfl, rfl⟩
theorem sat_prefectref4_ParseRDN (N : Nat) (a0 : List UInt8) (r : List api_AVA × Bool) (h : prefectref4_ParseRDN N a0 = some r) : Sat Tryd.prog 46 noRows [.str a0] (.tup [.sl 2 (List.map e_api_AVA r.1), .bool r.2]) noRows := by
  refine xsat mixed Tryd.func46 k46_cf (rs := [.sl 2 (List.map e_api_AVA r.1), .bool r.2]) rfl rfl ?_
  refine xseq ?_
  refine xreg ?_
  refine wpp rfl rfl ?_
  refine wpp rfl rfl ?_
  refine xseq ?_
  refine xreg ?_
  refine wpp rfl rfl ?_
  refine xseq ?_
  refine xreg ?_
  refine wpp rfl rfl ?_
  obtain ⟨x11, hx11, h⟩ := bindS h
  refine woo rfl (ocal (sat_prefectref4_cut N _ _ _ hx11) rfl (.cons sub_rfl (.cons sub_rfl .nil)) rfl rfl rfl) ?_
  refine wpp rfl rfl ?_
  refine xseq ?_
  refine xseq ?_
  refine xreg ?_
  refine wpp rfl rfl ?_
  refine xblk ?_
  obtain ⟨y10, hy10, h⟩ := bindS h
  refine xloopU (st1 := ⟨ofL [(4, .slr 1004 0 ([].length)), (5, .sl 1 (List.map PV.str x11)), (6, .int .i64 0)], ofL [(1004, ⟨2, true, List.map e_api_AVA []⟩)]⟩) (Norm.trans (nlrow 4 1004 2 true rfl rfl rfl) (canon0 ⟨rfl, rfl, rfl, trivial⟩ ⟨rfl, trivial⟩ rfl rfl)) (w_prefectref4_ParseRDN_l10 N x11 N _ _ hy10) ?_
  clear hy10
  rcases y10 with y10 | y10
  · rintro e s ⟨rfl, rfl⟩
    refine xseq ?_
    refine xseq ?_
    refine xreg ?_
    refine wpp rfl rfl ?_
    obtain ⟨x78, hx78, h⟩ := bindS h
    refine woo rfl (ocal (sat_prefectref4_IsRDN N _ _ hx78) rfl (.cons (bor_row rfl (full_row (f := e_api_AVA) (l := y10))) .nil) rfl rfl rfl) ?_
    refine wpp rfl rfl ?_
    rcases bifS h with ⟨c11, h⟩ | ⟨c11, h⟩
    · refine xcT rfl c11 ?_
      refine xseq ?_
      refine xreg ?_
      refine wpp rfl rfl ?_
      refine wpp rfl rfl ?_
      obtain rfl := someS h
      refine xretn (st1 := ⟨ofL [(2, .sl 2 (List.map e_api_AVA [])), (3, .bool false)], ofL []⟩) (Norm.trans (nsub 2 (sub_nl 2) rfl) (canon0 ⟨rfl, rfl, trivial⟩ trivial rfl rfl)) ?_
      exact ⟨nofun, rfl, rfl⟩
    · refine xcF rfl c11 ?_
      refine xskip ?_
      refine xseq ?_
      refine xreg ?_
      refine wpp rfl rfl ?_
      refine wpp rfl rfl ?_
      refine wpp rfl rfl ?_
      obtain rfl := someS h
      refine xretn (st1 := ⟨ofL [(2, .sl 2 (List.map e_api_AVA y10)), (3, .bool true)], ofL []⟩) (Norm.trans (Vd.freeze 1004 _ rfl rfl rfl) (Norm.trans (nsub 2 (sub_eq (congrArg (PV.sl 2) (full_row (f := e_api_AVA) (l := y10)))) rfl) (canon0 ⟨rfl, rfl, trivial⟩ trivial rfl rfl))) ?_
      exact ⟨nofun, rfl, rfl⟩
  · rintro e s ⟨rfl, rfl⟩
    obtain rfl := someS h
    exact ⟨nofun, rfl, rfl⟩
end Go.Gp
end
section
set_option linter.unusedVariables false
set_option linter.unusedSimpArgs false
set_option maxRecDepth 4000
namespace Go.Gp
open Go.Vd Go.RowKit Go.Proofs
def k47_l14 : IC := (.seq (.seq (.reg [⟨(some 7), (.mov (.t 3)), none⟩, ⟨(some 8), (.mov (.t 0)), none⟩, ⟨(some 9), (.len false (.t 8)), none⟩, ⟨(some 10), (.bin .lss (.t 7) (.t 9)), none⟩]) (.cond (.t 10) .skip (.exit 0))) (.seq (.block 1 (.seq (.reg [⟨(some 13), (.mov (.t 0)), none⟩, ⟨(some 14), (.mov (.t 3)), none⟩, ⟨(some 15), (.ixp 1 (.t 13) (.t 14)), none⟩, ⟨(some 16), (.load 1 false (.t 15)), none⟩, ⟨(some 17), (.call 67 [(.t 16)]), none⟩, ⟨(some 18), (.un .not (.t 17)), none⟩]) (.cond (.t 18) (.seq (.reg [⟨(some 2), (.mov (.c (.bool false))), none⟩]) .ret) .skip))) (.reg [⟨(some 11), (.mov (.t 3)), none⟩, ⟨(some 12), (.bin .add (.t 11) (.c (.int .i64 1))), none⟩, ⟨(some 3), (.mov (.t 12)), none⟩])))
def k47 : IC := (.seq (.reg [⟨(some 2), (.mov (.c (.bool false))), none⟩]) (.seq (.seq (.reg [⟨(some 4), (.mov (.t 0)), none⟩, ⟨(some 5), (.len false (.t 4)), none⟩, ⟨(some 6), (.bin .gtr (.t 5) (.c (.int .i64 8))), none⟩]) (.cond (.t 6) (.seq (.reg [⟨(some 2), (.mov (.c (.bool false))), none⟩]) .ret) .skip)) (.seq (.seq (.reg [⟨(some 3), (.mov (.c (.int .i64 0))), none⟩]) (.block 0 (.loop k47_l14))) (.seq (.reg [⟨(some 2), (.mov (.c (.bool true))), none⟩]) .ret))))
theorem k47_cf : cfunc Tryd.prog Tryd.f47 = some ⟨19, k47, [(.tmp 2)]⟩ := by kernel_rfl
theorem w_prefectref4_Is_l14 (N : Nat) (a0 : List (List api_AVA)) : ∀ (n : Nat) (x : Int) (y : Unit ⊕ Bool), prefectref4_Is_l14 N a0 n x = some y → WX Tryd.prog (fun _ => false) (.loop k47_l14) ((fun (x : Int) => ⟨ofL [(0, .sl 1 (List.map (es 2 e_api_AVA) a0)), (3, .int .i64 x)], ofL []⟩) x) ((Sum.elim (fun y e s => e = .exit 0 ∧ s = ⟨ofL [], ofL []⟩) (fun y e s => e = .ret ∧ s = ⟨ofL [(2, .bool y)], ofL []⟩) : (Unit ⊕ Bool) → Xt → St → Prop) y) := by
  refine xloop (fun (x : Int) => ⟨ofL [(0, .sl 1 (List.map (es 2 e_api_AVA) a0)), (3, .int .i64 x)], ofL []⟩) _ (prefectref4_Is_l14 N a0) (prefectref4_Is_l14_b N a0) (fun _ => rfl) (fun _ _ => rfl) ?_
  rintro rec v3l14 y h
  refine xseq ?_
  refine xseq ?_
  refine xreg ?_
  refine wpp rfl rfl ?_
  refine wpp rfl rfl ?_
  refine wpp rfl (p_lens rfl) ?_
  refine wpp rfl rfl ?_
  rcases bifS h with ⟨c2, h⟩ | ⟨c2, h⟩
  · refine xcT rfl c2 ?_
    refine xskip ?_
    refine xseq ?_
    refine xblk ?_
    refine xseq ?_
    refine xreg ?_
    refine wpp rfl rfl ?_
    refine wpp rfl rfl ?_
    obtain ⟨x15, hx15, h⟩ := bindS h
    refine wpp rfl (p_ixs (cs := [.sl 2 (List.map e_api_AVA x15)]) hx15 rfl rfl rfl) ?_
    refine wpp rfl rfl ?_
    obtain ⟨x17, hx17, h⟩ := bindS h
    refine woo rfl (ocal (sat_prefectref4_IsRDN N _ _ hx17) rfl (.cons sub_rfl .nil) rfl rfl rfl) ?_
    refine wpp rfl rfl ?_
    rcases bifS h with ⟨c3, h⟩ | ⟨c3, h⟩
    · refine xcT rfl c3 ?_
      refine xseq ?_
      refine xreg ?_
      refine wpp rfl rfl ?_
      obtain rfl := someS h
      exact xretn (st1 := ⟨ofL [(2, .bool false)], ofL []⟩) (canon0 ⟨rfl, trivial⟩ trivial rfl rfl) ⟨rfl, rfl⟩
    · refine xcF rfl c3 ?_
      refine xskip ?_
      refine xreg ?_
      refine wpp rfl rfl ?_
      refine wpp (p := .int .i64 (w64 (v3l14 + (1 : Int)))) rfl rfl ?_
      refine wpp rfl rfl ?_
      exact ⟨(w64 (v3l14 + (1 : Int))), (canon0 ⟨rfl, rfl, trivial⟩ trivial rfl rfl), h⟩
  · refine xcF rfl c2 ?_
    obtain rfl := someS h
    exact xexitn (st1 := ⟨ofL [], ofL []⟩) (canon0 trivial trivial rfl rfl) ⟨rfl, rfl⟩
theorem sat_prefectref4_Is (N : Nat) (a0 : List (List api_AVA)) (r : Bool) (h : prefectref4_Is N a0 = some r) : Sat Tryd.prog 47 noRows [.sl 1 (List.map (es 2 e_api_AVA) a0)] (.bool r) noRows := by
  refine xsat mixed Tryd.func47 k47_cf (rs := [.bool r]) rfl rfl ?_
  refine xseq ?_
  refine xreg ?_
  refine wpp rfl rfl ?_
  refine xseq ?_
  refine xseq ?_
  refine xreg ?_
  refine wpp rfl rfl ?_
  refine wpp rfl (p_lens rfl) ?_
  refine wpp rfl rfl ?_
  rcases bifS h with ⟨c1, h⟩ | ⟨c1, h⟩
  · refine xcT rfl c1 ?_
    refine xseq ?_
    refine xreg ?_
    refine wpp rfl rfl ?_
    obtain rfl := someS h
    refine xret ?_
    exact ⟨nofun, rfl, rfl⟩
  · refine xcF rfl c1 ?_
    refine xskip ?_
    refine xseq ?_
    refine xseq ?_
    refine xreg ?_
    refine wpp rfl rfl ?_
    refine xblk ?_
    obtain ⟨y4, hy4, h⟩ := bindS h
    refine xloopU (st1 := ⟨ofL [(0, .sl 1 (List.map (es 2 e_api_AVA) a0)), (3, .int .i64 0)], ofL []⟩) (canon0 ⟨rfl, rfl, trivial⟩ trivial rfl rfl) (w_prefectref4_Is_l14 N a0 N _ _ hy4) ?_
    clear hy4
    rcases y4 with y4 | y4
    · rintro e s ⟨rfl, rfl⟩
      refine xseq ?_
      refine xreg ?_
      refine wpp rfl rfl ?_
      obtain rfl := someS h
      refine xret ?_
      exact ⟨nofun, rfl, rfl⟩
    · rintro e s ⟨rfl, rfl⟩
      obtain rfl := someS h
      exact ⟨nofun, rfl, rfl⟩
end Go.Gp
end
section
set_option linter.unusedVariables false
set_option linter.unusedSimpArgs false
set_option maxRecDepth 4000
namespace Go.Gp
open Go.Vd Go.RowKit Go.Proofs
def k31_l18 : IC := (.seq (.seq (.reg [⟨(some 13), (.mov (.t 6)), none⟩, ⟨(some 14), (.mov (.t 5)), none⟩, ⟨(some 15), (.len false (.t 14)), none⟩, ⟨(some 16), (.bin .lss (.t 13) (.t 15)), none⟩]) (.cond (.t 16) .skip (.exit 0))) (.seq (.block 1 (.seq (.reg [⟨(some 20), (.mov (.t 5)), none⟩, ⟨(some 21), (.mov (.t 6)), none⟩, ⟨(some 22), (.ixp 1 (.t 20) (.t 21)), none⟩, ⟨(some 23), (.load 1 false (.t 22)), none⟩, ⟨(some 24), (.call 46 [(.t 23)]), none⟩, ⟨(some 19), (.mov (.t 24)), none⟩, ⟨(some 25), (.ext 0 (.t 19)), none⟩, ⟨(some 26), (.ext 1 (.t 19)), none⟩, ⟨(some 7), (.mov (.t 25)), none⟩, ⟨(some 8), (.mov (.t 26)), none⟩]) (.seq (.seq (.reg [⟨(some 27), (.mov (.t 8)), none⟩, ⟨(some 28), (.un .not (.t 27)), none⟩]) (.cond (.t 28) (.seq (.reg [⟨(some 2), (.mov (.c .nl)), none⟩, ⟨(some 3), (.mov (.c (.bool false))), none⟩]) .ret) .skip)) (.reg [⟨(some 29), (.mov (.t 4)), none⟩, ⟨(some 30), (.mov (.t 7)), none⟩, ⟨(some 31), (.bsl 1 [(.t 30)]), none⟩, ⟨(some 32), (.app 72 1 24 (.t 29) (.t 31)), none⟩, ⟨(some 4), (.mov (.t 32)), none⟩])))) (.reg [⟨(some 17), (.mov (.t 6)), none⟩, ⟨(some 18), (.bin .add (.t 17) (.c (.int .i64 1))), none⟩, ⟨(some 6), (.mov (.t 18)), none⟩])))
def k31 : IC := (.seq (.reg [⟨(some 2), (.mov (.c .nl)), none⟩, ⟨(some 3), (.mov (.c (.bool false))), none⟩]) (.seq (.seq (.reg [⟨(some 9), (.mov (.t 0)), none⟩, ⟨(some 10), (.bin .eql (.t 9) (.c (.str []))), none⟩]) (.cond (.t 10) (.seq (.reg [⟨(some 2), (.mov (.c .nl)), none⟩, ⟨(some 3), (.mov (.c (.bool true))), none⟩]) .ret) .skip)) (.seq (.reg [⟨(some 4), (.mov (.c .nl)), none⟩]) (.seq (.reg [⟨(some 11), (.mov (.t 0)), none⟩, ⟨(some 12), (.call 45 [(.t 11), (.c (.int .u8 44))]), none⟩, ⟨(some 5), (.mov (.t 12)), none⟩]) (.seq (.seq (.reg [⟨(some 6), (.mov (.c (.int .i64 0))), none⟩]) (.block 0 (.loop k31_l18))) (.seq (.seq (.reg [⟨(some 33), (.mov (.t 4)), none⟩, ⟨(some 34), (.call 47 [(.t 33)]), none⟩, ⟨(some 35), (.un .not (.t 34)), none⟩]) (.cond (.t 35) (.seq (.reg [⟨(some 2), (.mov (.c .nl)), none⟩, ⟨(some 3), (.mov (.c (.bool false))), none⟩]) .ret) .skip)) (.seq (.reg [⟨(some 36), (.mov (.t 4)), none⟩, ⟨(some 2), (.mov (.t 36)), none⟩, ⟨(some 3), (.mov (.c (.bool true))), none⟩]) .ret)))))))
theorem k31_cf : cfunc Tryd.prog Tryd.f31 = some ⟨37, k31, [(.tmp 2), (.tmp 3)]⟩ := by kernel_rfl
theorem w_prefectref4_Parse_l18 (N : Nat) (x12 : List (List UInt8)) : ∀ (n : Nat) (x : Int × List (List api_AVA)) (y : (List (List api_AVA)) ⊕ (List (List api_AVA) × Bool)), prefectref4_Parse_l18 N x12 n x = some y → WX Tryd.prog (fun _ => false) (.loop k31_l18) ((fun (x : Int × List (List api_AVA)) => ⟨ofL [(4, .slr 1004 0 x.2.length), (5, .sl 1 (List.map PV.str x12)), (6, .int .i64 x.1)], ofL [(1004, ⟨1, true, List.map (es 2 e_api_AVA) x.2⟩)]⟩) x) ((Sum.elim (fun y e s => e = .exit 0 ∧ s = ⟨ofL [(4, .slr 1004 0 y.length)], ofL [(1004, ⟨1, true, List.map (es 2 e_api_AVA) y⟩)]⟩) (fun y e s => e = .ret ∧ s = ⟨ofL [(2, .sl 1 (List.map (es 2 e_api_AVA) y.1)), (3, .bool y.2)], ofL []⟩) : ((List (List api_AVA)) ⊕ (List (List api_AVA) × Bool)) → Xt → St → Prop) y) := by
  refine xloop (fun (x : Int × List (List api_AVA)) => ⟨ofL [(4, .slr 1004 0 x.2.length), (5, .sl 1 (List.map PV.str x12)), (6, .int .i64 x.1)], ofL [(1004, ⟨1, true, List.map (es 2 e_api_AVA) x.2⟩)]⟩) _ (prefectref4_Parse_l18 N x12) (prefectref4_Parse_l18_b N x12) (fun _ => rfl) (fun _ _ => rfl) ?_
  rintro rec ⟨v6l18, r1004l18⟩ y h
  refine xseq ?_
  refine xseq ?_
  refine xreg ?_
  refine wpp rfl rfl ?_
  refine wpp rfl rfl ?_
  refine wpp rfl (p_lens rfl) ?_
  refine wpp rfl rfl ?_
  rcases bifS h with ⟨c2, h⟩ | ⟨c2, h⟩
  · refine xcT rfl c2 ?_
    refine xskip ?_
    refine xseq ?_
    refine xblk ?_
    refine xseq ?_
    refine xreg ?_
    refine wpp rfl rfl ?_
    refine wpp rfl rfl ?_
    obtain ⟨x22, hx22, h⟩ := bindS h
    refine wpp rfl (p_ixs (cs := [.str x22]) hx22 rfl rfl rfl) ?_
    refine wpp rfl rfl ?_
    obtain ⟨x24, hx24, h⟩ := bindS h
    refine woo rfl (ocal (sat_prefectref4_ParseRDN N _ _ hx24) rfl (.cons sub_rfl .nil) rfl rfl rfl) ?_
    refine wpp rfl rfl ?_
    refine wpp rfl rfl ?_
    refine wpp rfl rfl ?_
    refine wpp rfl rfl ?_
    refine wpp rfl rfl ?_
    refine xseq ?_
    refine xseq ?_
    refine xreg ?_
    refine wpp rfl rfl ?_
    refine wpp rfl rfl ?_
    rcases bifS h with ⟨c3, h⟩ | ⟨c3, h⟩
    · refine xcT rfl c3 ?_
      refine xseq ?_
      refine xreg ?_
      refine wpp rfl rfl ?_
      refine wpp rfl rfl ?_
      obtain rfl := someS h
      exact xretn (st1 := ⟨ofL [(2, .sl 1 (List.map (es 2 e_api_AVA) [])), (3, .bool false)], ofL []⟩) (Norm.trans (nsub 2 (sub_nl 1) rfl) (canon0 ⟨rfl, rfl, trivial⟩ trivial rfl rfl)) ⟨rfl, rfl⟩
    · refine xcF rfl c3 ?_
      refine xskip ?_
      refine xreg ?_
      refine wpp rfl rfl ?_
      refine wpp rfl rfl ?_
      refine woo rfl (obsl 31 rfl rfl rfl) ?_
      obtain ⟨x32, hx32, h⟩ := bindS h
      refine wapp (f := (es 2 e_api_AVA)) 32 hx32 rfl rfl rfl rfl rfl (el_row rfl (full_row (f := (es 2 e_api_AVA)) (l := [x24.1]))) rfl rfl rfl rfl ?_
      refine wpp rfl rfl ?_
      refine xreg ?_
      refine wpp rfl rfl ?_
      refine wpp (p := .int .i64 (w64 (v6l18 + (1 : Int)))) rfl rfl ?_
      refine wpp rfl rfl ?_
      exact ⟨((w64 (v6l18 + (1 : Int))), x32), (Norm.trans (rename 32 1004 rfl rfl) (canon0 ⟨rfl, rfl, rfl, trivial⟩ ⟨rfl, trivial⟩ rfl rfl)), h⟩
  · refine xcF rfl c2 ?_
    obtain rfl := someS h
    exact xexitn (st1 := ⟨ofL [(4, .slr 1004 0 r1004l18.length)], ofL [(1004, ⟨1, true, List.map (es 2 e_api_AVA) r1004l18⟩)]⟩) (canon0 ⟨rfl, trivial⟩ ⟨rfl, trivial⟩ rfl rfl) ⟨rfl, rfl⟩
theorem sat_prefectref4_Parse (N : Nat) (a0 : List UInt8) (r : List (List api_AVA) × Bool) (h : prefectref4_Parse N a0 = some r) : Sat Tryd.prog 31 noRows [.str a0] (.tup [.sl 1 (List.map (es 2 e_api_AVA) r.1), .bool r.2]) noRows := by
  refine xsat mixed Tryd.func31 k31_cf (rs := [.sl 1 (List.map (es 2 e_api_AVA) r.1), .bool r.2]) rfl rfl ?_
  refine xseq ?_
  refine xreg ?_
  refine wpp rfl rfl ?_
  refine wpp rfl rfl ?_
  refine xseq ?_
  refine xseq ?_
  refine xreg ?_
  refine wpp rfl rfl ?_
  refine wpp rfl rfl ?_
  rcases bifS h with ⟨c1, h⟩ | ⟨c1, h⟩
  · refine xcT rfl c1 ?_
    refine xseq ?_
    refine xreg ?_
    refine wpp rfl rfl ?_
    refine wpp rfl rfl ?_
    obtain rfl := someS h
    refine xretn (st1 := ⟨ofL [(2, .sl 1 (List.map (es 2 e_api_AVA) [])), (3, .bool true)], ofL []⟩) (Norm.trans (nsub 2 (sub_nl 1) rfl) (canon0 ⟨rfl, rfl, trivial⟩ trivial rfl rfl)) ?_
    exact ⟨nofun, rfl, rfl⟩
  · refine xcF rfl c1 ?_
    refine xskip ?_
    refine xseq ?_
    refine xreg ?_
    refine wpp rfl rfl ?_
    refine xseq ?_
    refine xreg ?_
    refine wpp rfl rfl ?_
    obtain ⟨x12, hx12, h⟩ := bindS h
    refine woo rfl (ocal (sat_prefectref4_cut N _ _ _ hx12) rfl (.cons sub_rfl (.cons sub_rfl .nil)) rfl rfl rfl) ?_
    refine wpp rfl rfl ?_
    refine xseq ?_
    refine xseq ?_
    refine xreg ?_
    refine wpp rfl rfl ?_
    refine xblk ?_
    obtain ⟨y4, hy4, h⟩ := bindS h
    refine xloopU (st1 := ⟨ofL [(4, .slr 1004 0 ([].length)), (5, .sl 1 (List.map PV.str x12)), (6, .int .i64 0)], ofL [(1004, ⟨1, true, List.map (es 2 e_api_AVA) []⟩)]⟩) (Norm.trans (nlrow 4 1004 1 true rfl rfl rfl) (canon0 ⟨rfl, rfl, rfl, trivial⟩ ⟨rfl, trivial⟩ rfl rfl)) (w_prefectref4_Parse_l18 N x12 N _ _ hy4) ?_
    clear hy4
    rcases y4 with y4 | y4
    · rintro e s ⟨rfl, rfl⟩
      refine xseq ?_
      refine xseq ?_
      refine xreg ?_
      refine wpp rfl rfl ?_
      obtain ⟨x34, hx34, h⟩ := bindS h
      refine woo rfl (ocal (sat_prefectref4_Is N _ _ hx34) rfl (.cons (bor_row rfl (full_row (f := (es 2 e_api_AVA)) (l := y4))) .nil) rfl rfl rfl) ?_
      refine wpp rfl rfl ?_
      rcases bifS h with ⟨c5, h⟩ | ⟨c5, h⟩
      · refine xcT rfl c5 ?_
        refine xseq ?_
        refine xreg ?_
        refine wpp rfl rfl ?_
        refine wpp rfl rfl ?_
        obtain rfl := someS h
        refine xretn (st1 := ⟨ofL [(2, .sl 1 (List.map (es 2 e_api_AVA) [])), (3, .bool false)], ofL []⟩) (Norm.trans (nsub 2 (sub_nl 1) rfl) (canon0 ⟨rfl, rfl, trivial⟩ trivial rfl rfl)) ?_
        exact ⟨nofun, rfl, rfl⟩
      · refine xcF rfl c5 ?_
        refine xskip ?_
        refine xseq ?_
        refine xreg ?_
        refine wpp rfl rfl ?_
        refine wpp rfl rfl ?_
        refine wpp rfl rfl ?_
        obtain rfl := someS h
        refine xretn (st1 := ⟨ofL [(2, .sl 1 (List.map (es 2 e_api_AVA) y4)), (3, .bool true)], ofL []⟩) (Norm.trans (Vd.freeze 1004 _ rfl rfl rfl) (Norm.trans (nsub 2 (sub_eq (congrArg (PV.sl 1) (full_row (f := (es 2 e_api_AVA)) (l := y4)))) rfl) (canon0 ⟨rfl, rfl, trivial⟩ trivial rfl rfl))) ?_
        exact ⟨nofun, rfl, rfl⟩
    · rintro e s ⟨rfl, rfl⟩
      obtain rfl := someS h
      exact ⟨nofun, rfl, rfl⟩
end Go.Gp
end
section
set_option linter.unusedVariables false
set_option linter.unusedSimpArgs false
set_option maxRecDepth 4000
namespace Go.Gp
open Go.Vd Go.RowKit Go.Proofs
def k89 : IC := (.seq (.reg [⟨(some 2), (.mov (.c (.str []))), none⟩]) (.seq (.regd 14 [⟨(some 3), (.mov (.t 0)), none⟩, ⟨(some 4), (.bin .shr (.t 3) (.c (.int .u64 4))), none⟩, ⟨(some 5), (.mov (.t 0)), none⟩, ⟨(some 6), (.bin .shr (.t 5) (.c (.int .u64 4))), none⟩, ⟨(some 7), (.bin .add (.t 6) (.c (.int .u8 1))), none⟩, ⟨(some 8), (.slcs (.c (.str [48, 49, 50, 51, 52, 53, 54, 55, 56, 57, 97, 98, 99, 100, 101, 102])) (some (.t 4)) (some (.t 7))), none⟩, ⟨(some 9), (.mov (.t 0)), none⟩, ⟨(some 10), (.bin .and (.t 9) (.c (.int .u8 15))), none⟩, ⟨(some 11), (.mov (.t 0)), none⟩, ⟨(some 12), (.bin .and (.t 11) (.c (.int .u8 15))), none⟩, ⟨(some 13), (.bin .add (.t 12) (.c (.int .u8 1))), none⟩, ⟨(some 14), (.slcs (.c (.str [48, 49, 50, 51, 52, 53, 54, 55, 56, 57, 97, 98, 99, 100, 101, 102])) (some (.t 10)) (some (.t 13))), none⟩, ⟨(some 15), (.bin .add (.t 8) (.t 14)), none⟩, ⟨(some 2), (.mov (.t 15)), none⟩]) .ret))
theorem k89_cf : cfunc Tryd.prog Tryd.f89 = some ⟨16, k89, [(.tmp 2)]⟩ := by kernel_rfl
theorem sat_prefectref4_hex (N : Nat) (a0 : UInt8) (r : List UInt8) (h : prefectref4_hex N a0 = some r) : Sat Tryd.prog 89 noRows [eb a0] (.str r) noRows := by
  refine xsat mixed Tryd.func89 k89_cf (rs := [.str r]) rfl rfl ?_
  refine xseq ?_
  refine xreg ?_
  refine wpp rfl rfl ?_
  refine xseq ?_
  refine xregd ?_
  refine wdp rfl rfl ?_
  refine wdp rfl (p_u8shr (a := a0) (by decide) rfl rfl) ?_
  refine wdp rfl rfl ?_
  refine wdp rfl (p_u8shr (a := a0) (by decide) rfl rfl) ?_
  refine wdp rfl (p_u8add (a := (shrB a0 4)) (b := (1 : UInt8)) rfl rfl) ?_
  obtain ⟨x8, hx8, h⟩ := bindS h
  refine wdp rfl (p_cut hx8 rfl rfl rfl) ?_
  refine wdp rfl rfl ?_
  refine wdp rfl (p_u8and (a := a0) (b := (15 : UInt8)) rfl rfl) ?_
  refine wdp rfl rfl ?_
  refine wdp rfl (p_u8and (a := a0) (b := (15 : UInt8)) rfl rfl) ?_
  refine wdp rfl (p_u8add (a := (a0 &&& (15 : UInt8))) (b := (1 : UInt8)) rfl rfl) ?_
  obtain ⟨x14, hx14, h⟩ := bindS h
  refine wdp rfl (p_cut hx14 rfl rfl rfl) ?_
  obtain ⟨x15, hx15, h⟩ := bindS h
  refine wdp rfl (p_cat hx15 rfl rfl) ?_
  refine wdp rfl rfl ?_
  obtain rfl := someS h
  refine xret ?_
  exact ⟨nofun, rfl, rfl⟩
end Go.Gp
end
section
set_option linter.unusedVariables false
set_option linter.unusedSimpArgs false
set_option maxRecDepth 4000
namespace Go.Gp
open Go.Vd Go.RowKit Go.Proofs
def k69_l8 : IC := (.seq (.seq (.reg [⟨(some 6), (.mov (.t 4)), none⟩, ⟨(some 7), (.mov (.t 0)), none⟩, ⟨(some 8), (.len true (.t 7)), none⟩, ⟨(some 9), (.bin .lss (.t 6) (.t 8)), none⟩]) (.cond (.t 9) .skip (.exit 0))) (.seq (.block 1 (.seq (.reg [⟨(some 12), (.mov (.t 0)), none⟩, ⟨(some 13), (.mov (.t 4)), none⟩, ⟨(some 14), (.idxs (.t 12) (.t 13)), none⟩, ⟨(some 5), (.mov (.t 14)), none⟩]) (.block 2 (.seq (.reg [⟨(some 23), (.mov (.t 5)), none⟩, ⟨(some 24), (.call 86 [(.t 23)]), none⟩, ⟨(some 25), (.mov (.t 24)), none⟩, ⟨(some 26), (.mov (.t 4)), (some (25, false))⟩, ⟨(some 27), (.bin .eql (.t 26) (.c (.int .i64 0))), (some (25, false))⟩, ⟨(some 28), (.mov (.t 27)), (some (25, false))⟩, ⟨(some 29), (.mov (.t 5)), (some (28, true))⟩, ⟨(some 30), (.bin .eql (.t 29) (.c (.int .u8 35))), (some (28, true))⟩, ⟨(some 31), (.mov (.t 30)), (some (28, true))⟩, ⟨(some 32), (.mov (.t 5)), (some (31, false))⟩, ⟨(some 33), (.bin .eql (.t 32) (.c (.int .u8 32))), (some (31, false))⟩, ⟨(some 34), (.pick (.t 31) (.c (.bool true)) (.t 33)), (some (28, true))⟩, ⟨(some 35), (.pick (.t 28) (.t 34) (.c (.bool false))), (some (25, false))⟩, ⟨(some 36), (.pick (.t 25) (.c (.bool true)) (.t 35)), none⟩, ⟨(some 37), (.mov (.t 36)), none⟩, ⟨(some 38), (.mov (.t 4)), (some (37, false))⟩, ⟨(some 39), (.mov (.t 0)), (some (37, false))⟩, ⟨(some 40), (.len true (.t 39)), (some (37, false))⟩, ⟨(some 41), (.bin .sub (.t 40) (.c (.int .i64 1))), (some (37, false))⟩, ⟨(some 42), (.bin .eql (.t 38) (.t 41)), (some (37, false))⟩, ⟨(some 43), (.mov (.t 42)), (some (37, false))⟩, ⟨(some 44), (.mov (.t 5)), (some (43, true))⟩, ⟨(some 45), (.bin .eql (.t 44) (.c (.int .u8 32))), (some (43, true))⟩, ⟨(some 46), (.pick (.t 43) (.t 45) (.c (.bool false))), (some (37, false))⟩, ⟨(some 47), (.pick (.t 37) (.c (.bool true)) (.t 46)), none⟩, ⟨(some 22), (.mov (.t 47)), none⟩]) (.cond (.t 22) (.reg [⟨(some 48), (.mov (.t 3)), none⟩, ⟨(some 49), (.bin .add (.t 48) (.c (.str [92]))), none⟩, ⟨(some 50), (.mov (.t 0)), none⟩, ⟨(some 51), (.mov (.t 4)), none⟩, ⟨(some 52), (.mov (.t 4)), none⟩, ⟨(some 53), (.bin .add (.t 52) (.c (.int .i64 1))), none⟩, ⟨(some 54), (.slcs (.t 50) (some (.t 51)) (some (.t 53))), none⟩, ⟨(some 55), (.bin .add (.t 49) (.t 54)), none⟩, ⟨(some 3), (.mov (.t 55)), none⟩]) (.seq (.reg [⟨(some 57), (.mov (.t 5)), none⟩, ⟨(some 58), (.bin .lss (.t 57) (.c (.int .u8 32))), none⟩, ⟨(some 59), (.mov (.t 58)), none⟩, ⟨(some 60), (.mov (.t 5)), (some (59, false))⟩, ⟨(some 61), (.bin .gtr (.t 60) (.c (.int .u8 126))), (some (59, false))⟩, ⟨(some 62), (.pick (.t 59) (.c (.bool true)) (.t 61)), none⟩, ⟨(some 56), (.mov (.t 62)), none⟩]) (.cond (.t 56) (.reg [⟨(some 63), (.mov (.t 3)), none⟩, ⟨(some 64), (.bin .add (.t 63) (.c (.str [92]))), none⟩, ⟨(some 65), (.mov (.t 5)), none⟩, ⟨(some 66), (.call 89 [(.t 65)]), none⟩, ⟨(some 67), (.bin .add (.t 64) (.t 66)), none⟩, ⟨(some 3), (.mov (.t 67)), none⟩]) (.reg [⟨(some 15), (.mov (.t 3)), none⟩, ⟨(some 16), (.mov (.t 0)), none⟩, ⟨(some 17), (.mov (.t 4)), none⟩, ⟨(some 18), (.mov (.t 4)), none⟩, ⟨(some 19), (.bin .add (.t 18) (.c (.int .i64 1))), none⟩, ⟨(some 20), (.slcs (.t 16) (some (.t 17)) (some (.t 19))), none⟩, ⟨(some 21), (.bin .add (.t 15) (.t 20)), none⟩, ⟨(some 3), (.mov (.t 21)), none⟩])))))))) (.reg [⟨(some 10), (.mov (.t 4)), none⟩, ⟨(some 11), (.bin .add (.t 10) (.c (.int .i64 1))), none⟩, ⟨(some 4), (.mov (.t 11)), none⟩])))
def k69 : IC := (.seq (.reg [⟨(some 2), (.mov (.c (.str []))), none⟩]) (.seq (.reg [⟨(some 3), (.mov (.c (.str []))), none⟩]) (.seq (.seq (.reg [⟨(some 4), (.mov (.c (.int .i64 0))), none⟩]) (.block 0 (.loop k69_l8))) (.seq (.reg [⟨(some 68), (.mov (.t 3)), none⟩, ⟨(some 2), (.mov (.t 68)), none⟩]) .ret))))
theorem k69_cf : cfunc Tryd.prog Tryd.f69 = some ⟨69, k69, [(.tmp 2)]⟩ := by kernel_rfl
theorem w_prefectref4_value_l8 (N : Nat) (a0 : List UInt8) : ∀ (n : Nat) (x : List UInt8 × Int) (y : List UInt8), prefectref4_value_l8 N a0 n x = some y → WX Tryd.prog (fun _ => false) (.loop k69_l8) ((fun (x : List UInt8 × Int) => ⟨ofL [(0, .str a0), (3, .str x.1), (4, .int .i64 x.2)], ofL []⟩) x) ((fun y e s => e = .exit 0 ∧ s = ⟨ofL [(3, .str y)], ofL []⟩ : (List UInt8) → Xt → St → Prop) y) := by
  refine xloop (fun (x : List UInt8 × Int) => ⟨ofL [(0, .str a0), (3, .str x.1), (4, .int .i64 x.2)], ofL []⟩) _ (prefectref4_value_l8 N a0) (prefectref4_value_l8_b N a0) (fun _ => rfl) (fun _ _ => rfl) ?_
  rintro rec ⟨v3l8, v4l8⟩ y h
  refine xseq ?_
  refine xseq ?_
  refine xreg ?_
  refine wpp rfl rfl ?_
  refine wpp rfl rfl ?_
  refine wpp rfl rfl ?_
  refine wpp rfl rfl ?_
  rcases bifS h with ⟨c1, h⟩ | ⟨c1, h⟩
  · refine xcT rfl c1 ?_
    refine xskip ?_
    refine xjoin (fun (x : List UInt8) => ⟨ofL [(0, .str a0), (3, .str x), (4, .int .i64 v4l8)], ofL []⟩) (fun x => prefectref4_value_j15 v4l8 rec x = some y) ?_ ?_
    · rintro v3j15 h
      refine xreg ?_
      refine wpp rfl rfl ?_
      refine wpp (p := .int .i64 (w64 (v4l8 + (1 : Int)))) rfl rfl ?_
      refine wpp rfl rfl ?_
      exact ⟨(v3j15, (w64 (v4l8 + (1 : Int)))), (canon0 ⟨rfl, rfl, rfl, trivial⟩ trivial rfl rfl), h⟩
    · skip
      refine xblk ?_
      refine xseq ?_
      refine xreg ?_
      refine wpp rfl rfl ?_
      refine wpp rfl rfl ?_
      obtain ⟨x14, hx14, h⟩ := bindS h
      refine wpp rfl (p_idx hx14 rfl rfl) ?_
      refine wpp rfl rfl ?_
      refine xblk ?_
      obtain ⟨g2, hg2, h⟩ := bindS h
      refine xseg ⟨ofL [(0, .str a0), (3, .str v3l8), (4, .int .i64 v4l8), (5, eb x14), (22, .bool g2)], ofL []⟩ ?_ ?_
      · have h := hg2
        refine xreg ?_
        refine wpp rfl rfl ?_
        obtain ⟨x24, hx24, h⟩ := bindS h
        refine woo rfl (ocal (sat_prefectref4_special N _ _ hx24) rfl (.cons sub_rfl .nil) rfl rfl rfl) ?_
        refine wpp rfl rfl ?_
        rcases bifS h with ⟨c3, h⟩ | ⟨c3, h⟩
        · skip
          refine wsk (gn rfl c3) ?_
          refine wsk (gn rfl c3) ?_
          refine wsk (gn rfl c3) ?_
          refine wsk (gu rfl) ?_
          refine wsk (gu rfl) ?_
          refine wsk (gu rfl) ?_
          refine wsk (gu rfl) ?_
          refine wsk (gu rfl) ?_
          refine wsk (gu rfl) ?_
          refine wsk (gn rfl c3) ?_
          refine wpp rfl (p_pick1 c3 rfl rfl) ?_
          refine wpp rfl rfl ?_
          refine wsk rfl ?_
          refine wsk rfl ?_
          refine wsk rfl ?_
          refine wsk rfl ?_
          refine wsk rfl ?_
          refine wsk rfl ?_
          refine wsk (gu rfl) ?_
          refine wsk (gu rfl) ?_
          refine wsk rfl ?_
          refine wpp rfl rfl ?_
          refine wpp rfl rfl ?_
          obtain rfl := someS h
          exact (canon0 ⟨rfl, rfl, rfl, rfl, rfl, trivial⟩ trivial rfl rfl)
        · skip
          refine wpp (gy rfl c3) rfl ?_
          refine wpp (gy rfl c3) rfl ?_
          refine wpp (gy rfl c3) rfl ?_
          rcases bifS h with ⟨c4, h⟩ | ⟨c4, h⟩
          · skip
            refine wpp (gy rfl c4) rfl ?_
            refine wpp (p := .bool (((x14).toNat : Int) == (35 : Int))) (gy rfl c4) rfl ?_
            refine wpp (gy rfl c4) rfl ?_
            rcases bifS h with ⟨c5, h⟩ | ⟨c5, h⟩
            · skip
              refine wsk (gn rfl c5) ?_
              refine wsk (gn rfl c5) ?_
              refine wpp (gy rfl c4) (p_pick1 c5 rfl rfl) ?_
              refine wpp (gy rfl c3) (p_pick1 c4 rfl rfl) ?_
              refine wpp rfl (p_pick0 c3 rfl rfl) ?_
              refine wpp rfl rfl ?_
              refine wsk rfl ?_
              refine wsk rfl ?_
              refine wsk rfl ?_
              refine wsk rfl ?_
              refine wsk rfl ?_
              refine wsk rfl ?_
              refine wsk (gu rfl) ?_
              refine wsk (gu rfl) ?_
              refine wsk rfl ?_
              refine wpp rfl rfl ?_
              refine wpp rfl rfl ?_
              obtain rfl := someS h
              exact (canon0 ⟨rfl, rfl, rfl, rfl, rfl, trivial⟩ trivial rfl rfl)
            · skip
              refine wpp (gy rfl c5) rfl ?_
              refine wpp (p := .bool (((x14).toNat : Int) == (32 : Int))) (gy rfl c5) rfl ?_
              refine wpp (gy rfl c4) (p_pick0 c5 rfl rfl) ?_
              refine wpp (gy rfl c3) (p_pick1 c4 rfl rfl) ?_
              refine wpp rfl (p_pick0 c3 rfl rfl) ?_
              refine wpp rfl rfl ?_
              rcases bifS h with ⟨c6, h⟩ | ⟨c6, h⟩
              · skip
                refine wsk (gn rfl c6) ?_
                refine wsk (gn rfl c6) ?_
                refine wsk (gn rfl c6) ?_
                refine wsk (gn rfl c6) ?_
                refine wsk (gn rfl c6) ?_
                refine wsk (gn rfl c6) ?_
                refine wsk (gu rfl) ?_
                refine wsk (gu rfl) ?_
                refine wsk (gn rfl c6) ?_
                refine wpp rfl (p_pick1 c6 rfl rfl) ?_
                refine wpp rfl rfl ?_
                obtain rfl := someS h
                exact (canon0 ⟨rfl, rfl, rfl, rfl, rfl, trivial⟩ trivial rfl rfl)
              · skip
                refine wpp (gy rfl c6) rfl ?_
                refine wpp (gy rfl c6) rfl ?_
                refine wpp (gy rfl c6) rfl ?_
                refine wpp (p := .int .i64 (w64 ((a0.length : Int) - (1 : Int)))) (gy rfl c6) rfl ?_
                refine wpp (gy rfl c6) rfl ?_
                refine wpp (gy rfl c6) rfl ?_
                rcases bifS h with ⟨c7, h⟩ | ⟨c7, h⟩
                · skip
                  refine wpp (gy rfl c7) rfl ?_
                  refine wpp (p := .bool (((x14).toNat : Int) == (32 : Int))) (gy rfl c7) rfl ?_
                  refine wpp (gy rfl c6) (p_pick1 c7 rfl rfl) ?_
                  refine wpp rfl (p_pick0 c6 rfl rfl) ?_
                  refine wpp rfl rfl ?_
                  obtain rfl := someS h
                  exact (canon0 ⟨rfl, rfl, rfl, rfl, rfl, trivial⟩ trivial rfl rfl)
                · skip
                  refine wsk (gn rfl c7) ?_
                  refine wsk (gn rfl c7) ?_
                  refine wpp (gy rfl c6) (p_pick0 c7 rfl rfl) ?_
                  refine wpp rfl (p_pick0 c6 rfl rfl) ?_
                  refine wpp rfl rfl ?_
                  obtain rfl := someS h
                  exact (canon0 ⟨rfl, rfl, rfl, rfl, rfl, trivial⟩ trivial rfl rfl)
          · skip
            refine wsk (gn rfl c4) ?_
            refine wsk (gn rfl c4) ?_
            refine wsk (gn rfl c4) ?_
            refine wsk (gu rfl) ?_
            refine wsk (gu rfl) ?_
            refine wsk (gn rfl c4) ?_
            refine wpp (gy rfl c3) (p_pick0 c4 rfl rfl) ?_
            refine wpp rfl (p_pick0 c3 rfl rfl) ?_
            refine wpp rfl rfl ?_
            refine wpp rfl rfl ?_
            refine wpp rfl rfl ?_
            refine wpp rfl rfl ?_
            refine wpp (p := .int .i64 (w64 ((a0.length : Int) - (1 : Int)))) rfl rfl ?_
            refine wpp rfl rfl ?_
            refine wpp rfl rfl ?_
            rcases bifS h with ⟨c8, h⟩ | ⟨c8, h⟩
            · skip
              refine wpp (gy rfl c8) rfl ?_
              refine wpp (p := .bool (((x14).toNat : Int) == (32 : Int))) (gy rfl c8) rfl ?_
              refine wpp rfl (p_pick1 c8 rfl rfl) ?_
              refine wpp rfl rfl ?_
              refine wpp rfl rfl ?_
              obtain rfl := someS h
              exact (canon0 ⟨rfl, rfl, rfl, rfl, rfl, trivial⟩ trivial rfl rfl)
            · skip
              refine wsk (gn rfl c8) ?_
              refine wsk (gn rfl c8) ?_
              refine wpp rfl (p_pick0 c8 rfl rfl) ?_
              refine wpp rfl rfl ?_
              refine wpp rfl rfl ?_
              obtain rfl := someS h
              exact (canon0 ⟨rfl, rfl, rfl, rfl, rfl, trivial⟩ trivial rfl rfl)
      · clear hg2
        rcases bifS h with ⟨c9, h⟩ | ⟨c9, h⟩
        · refine xcT rfl c9 ?_
          refine xreg ?_
          refine wpp rfl rfl ?_
          obtain ⟨x49, hx49, h⟩ := bindS h
          refine wpp rfl (p_cat hx49 rfl rfl) ?_
          refine wpp rfl rfl ?_
          refine wpp rfl rfl ?_
          refine wpp rfl rfl ?_
          refine wpp (p := .int .i64 (w64 (v4l8 + (1 : Int)))) rfl rfl ?_
          obtain ⟨x54, hx54, h⟩ := bindS h
          refine wpp rfl (p_cut hx54 rfl rfl rfl) ?_
          obtain ⟨x55, hx55, h⟩ := bindS h
          refine wpp rfl (p_cat hx55 rfl rfl) ?_
          refine wpp rfl rfl ?_
          exact ⟨x55, (canon0 ⟨rfl, rfl, rfl, trivial⟩ trivial rfl rfl), h⟩
        · refine xcF rfl c9 ?_
          obtain ⟨g10, hg10, h⟩ := bindS h
          refine xseg ⟨ofL [(0, .str a0), (3, .str v3l8), (4, .int .i64 v4l8), (5, eb x14), (56, .bool g10)], ofL []⟩ ?_ ?_
          · have h := hg10
            refine xreg ?_
            refine wpp rfl rfl ?_
            refine wpp (p := .bool (decide (((x14).toNat : Int) < (32 : Int)))) rfl rfl ?_
            refine wpp rfl rfl ?_
            rcases bifS h with ⟨c11, h⟩ | ⟨c11, h⟩
            · skip
              refine wsk (gn rfl c11) ?_
              refine wsk (gn rfl c11) ?_
              refine wpp rfl (p_pick1 c11 rfl rfl) ?_
              refine wpp rfl rfl ?_
              obtain rfl := someS h
              exact (canon0 ⟨rfl, rfl, rfl, rfl, rfl, trivial⟩ trivial rfl rfl)
            · skip
              refine wpp (gy rfl c11) rfl ?_
              refine wpp (p := .bool (decide (((x14).toNat : Int) > (126 : Int)))) (gy rfl c11) rfl ?_
              refine wpp rfl (p_pick0 c11 rfl rfl) ?_
              refine wpp rfl rfl ?_
              obtain rfl := someS h
              exact (canon0 ⟨rfl, rfl, rfl, rfl, rfl, trivial⟩ trivial rfl rfl)
          · clear hg10
            rcases bifS h with ⟨c12, h⟩ | ⟨c12, h⟩
            · refine xcT rfl c12 ?_
              refine xreg ?_
              refine wpp rfl rfl ?_
              obtain ⟨x64, hx64, h⟩ := bindS h
              refine wpp rfl (p_cat hx64 rfl rfl) ?_
              refine wpp rfl rfl ?_
              obtain ⟨x66, hx66, h⟩ := bindS h
              refine woo rfl (ocal (sat_prefectref4_hex N _ _ hx66) rfl (.cons sub_rfl .nil) rfl rfl rfl) ?_
              obtain ⟨x67, hx67, h⟩ := bindS h
              refine wpp rfl (p_cat hx67 rfl rfl) ?_
              refine wpp rfl rfl ?_
              exact ⟨x67, (canon0 ⟨rfl, rfl, rfl, trivial⟩ trivial rfl rfl), h⟩
            · refine xcF rfl c12 ?_
              refine xreg ?_
              refine wpp rfl rfl ?_
              refine wpp rfl rfl ?_
              refine wpp rfl rfl ?_
              refine wpp rfl rfl ?_
              refine wpp (p := .int .i64 (w64 (v4l8 + (1 : Int)))) rfl rfl ?_
              obtain ⟨x20, hx20, h⟩ := bindS h
              refine wpp rfl (p_cut hx20 rfl rfl rfl) ?_
              obtain ⟨x21, hx21, h⟩ := bindS h
              refine wpp rfl (p_cat hx21 rfl rfl) ?_
              refine wpp rfl rfl ?_
              exact ⟨x21, (canon0 ⟨rfl, rfl, rfl, trivial⟩ trivial rfl rfl), h⟩
  · refine xcF rfl c1 ?_
    obtain rfl := someS h
    exact xexitn (st1 := ⟨ofL [(3, .str v3l8)], ofL []⟩) (canon0 ⟨rfl, trivial⟩ trivial rfl rfl) ⟨rfl, rfl⟩
theorem sat_prefectref4_value (N : Nat) (a0 : List UInt8) (r : List UInt8) (h : prefectref4_value N a0 = some r) : Sat Tryd.prog 69 noRows [.str a0] (.str r) noRows := by
  refine xsat mixed Tryd.func69 k69_cf (rs := [.str r]) rfl rfl ?_
  refine xseq ?_
  refine xreg ?_
  refine wpp rfl rfl ?_
  refine xseq ?_
  refine xreg ?_
  refine wpp rfl rfl ?_
  refine xseq ?_
  refine xseq ?_
  refine xreg ?_
  refine wpp rfl rfl ?_
  refine xblk ?_
  obtain ⟨y13, hy13, h⟩ := bindS h
  refine xloopU (st1 := ⟨ofL [(0, .str a0), (3, .str ([] : List UInt8)), (4, .int .i64 0)], ofL []⟩) (canon0 ⟨rfl, rfl, rfl, trivial⟩ trivial rfl rfl) (w_prefectref4_value_l8 N a0 N _ _ hy13) ?_
  rintro e s ⟨rfl, rfl⟩
  refine xseq ?_
  refine xreg ?_
  refine wpp rfl rfl ?_
  refine wpp rfl rfl ?_
  obtain rfl := someS h
  refine xret ?_
  exact ⟨nofun, rfl, rfl⟩
end Go.Gp
end
section
set_option linter.unusedVariables false
set_option linter.unusedSimpArgs false
set_option maxRecDepth 4000
namespace Go.Gp
open Go.Vd Go.RowKit Go.Proofs
def k49_l8 : IC := (.seq (.seq (.reg [⟨(some 5), (.mov (.t 4)), none⟩, ⟨(some 6), (.mov (.t 0)), none⟩, ⟨(some 7), (.len false (.t 6)), none⟩, ⟨(some 8), (.bin .lss (.t 5) (.t 7)), none⟩]) (.cond (.t 8) .skip (.exit 0))) (.seq (.block 1 (.seq (.seq (.reg [⟨(some 11), (.mov (.t 4)), none⟩, ⟨(some 12), (.bin .gtr (.t 11) (.c (.int .i64 0))), none⟩]) (.cond (.t 12) (.reg [⟨(some 13), (.mov (.t 3)), none⟩, ⟨(some 14), (.bin .add (.t 13) (.c (.str [43]))), none⟩, ⟨(some 3), (.mov (.t 14)), none⟩]) .skip)) (.regd 15 [⟨(some 15), (.mov (.t 3)), none⟩, ⟨(some 16), (.mov (.t 0)), none⟩, ⟨(some 17), (.mov (.t 4)), none⟩, ⟨(some 18), (.ixp 2 (.t 16) (.t 17)), none⟩, ⟨(some 19), (.fda 0 (.t 18)), none⟩, ⟨(some 20), (.load 1 false (.t 19)), none⟩, ⟨(some 21), (.bin .add (.t 15) (.t 20)), none⟩, ⟨(some 22), (.bin .add (.t 21) (.c (.str [61]))), none⟩, ⟨(some 23), (.mov (.t 0)), none⟩, ⟨(some 24), (.mov (.t 4)), none⟩, ⟨(some 25), (.ixp 2 (.t 23) (.t 24)), none⟩, ⟨(some 26), (.fda 1 (.t 25)), none⟩, ⟨(some 27), (.load 1 false (.t 26)), none⟩, ⟨(some 28), (.call 69 [(.t 27)]), none⟩, ⟨(some 29), (.bin .add (.t 22) (.t 28)), none⟩, ⟨(some 3), (.mov (.t 29)), none⟩]))) (.reg [⟨(some 9), (.mov (.t 4)), none⟩, ⟨(some 10), (.bin .add (.t 9) (.c (.int .i64 1))), none⟩, ⟨(some 4), (.mov (.t 10)), none⟩])))
def k49 : IC := (.seq (.reg [⟨(some 2), (.mov (.c (.str []))), none⟩]) (.seq (.reg [⟨(some 3), (.mov (.c (.str []))), none⟩]) (.seq (.seq (.reg [⟨(some 4), (.mov (.c (.int .i64 0))), none⟩]) (.block 0 (.loop k49_l8))) (.seq (.reg [⟨(some 30), (.mov (.t 3)), none⟩, ⟨(some 2), (.mov (.t 30)), none⟩]) .ret))))
theorem k49_cf : cfunc Tryd.prog Tryd.f49 = some ⟨31, k49, [(.tmp 2)]⟩ := by kernel_rfl
theorem w_prefectref4_PrintRDN_l8 (N : Nat) (a0 : List api_AVA) : ∀ (n : Nat) (x : List UInt8 × Int) (y : List UInt8), prefectref4_PrintRDN_l8 N a0 n x = some y → WX Tryd.prog (fun _ => false) (.loop k49_l8) ((fun (x : List UInt8 × Int) => ⟨ofL [(0, .sl 2 (List.map e_api_AVA a0)), (3, .str x.1), (4, .int .i64 x.2)], ofL []⟩) x) ((fun y e s => e = .exit 0 ∧ s = ⟨ofL [(3, .str y)], ofL []⟩ : (List UInt8) → Xt → St → Prop) y) := by
  refine xloop (fun (x : List UInt8 × Int) => ⟨ofL [(0, .sl 2 (List.map e_api_AVA a0)), (3, .str x.1), (4, .int .i64 x.2)], ofL []⟩) _ (prefectref4_PrintRDN_l8 N a0) (prefectref4_PrintRDN_l8_b N a0) (fun _ => rfl) (fun _ _ => rfl) ?_
  rintro rec ⟨v3l8, v4l8⟩ y h
  refine xseq ?_
  refine xseq ?_
  refine xreg ?_
  refine wpp rfl rfl ?_
  refine wpp rfl rfl ?_
  refine wpp rfl (p_lens rfl) ?_
  refine wpp rfl rfl ?_
  rcases bifS h with ⟨c1, h⟩ | ⟨c1, h⟩
  · refine xcT rfl c1 ?_
    refine xskip ?_
    refine xseq ?_
    refine xblk ?_
    refine xjoin (fun (x : List UInt8) => ⟨ofL [(0, .sl 2 (List.map e_api_AVA a0)), (3, .str x), (4, .int .i64 v4l8)], ofL []⟩) (fun x => prefectref4_PrintRDN_j17 a0 N v4l8 rec x = some y) ?_ ?_
    · rintro v3j17 h
      refine xregd ?_
      refine wdp rfl rfl ?_
      refine wdp rfl rfl ?_
      refine wdp rfl rfl ?_
      obtain ⟨x18, hx18, h⟩ := bindS h
      refine wdp rfl (p_ixs (cs := [.str x18.Attr, .str x18.Value]) hx18 rfl rfl rfl) ?_
      refine wdp (p := .ep [.str x18.Attr, .str x18.Value]) rfl rfl ?_
      refine wdp rfl rfl ?_
      obtain ⟨x21, hx21, h⟩ := bindS h
      refine wdp rfl (p_cat hx21 rfl rfl) ?_
      obtain ⟨x22, hx22, h⟩ := bindS h
      refine wdp rfl (p_cat hx22 rfl rfl) ?_
      refine wdp rfl rfl ?_
      refine wdp rfl rfl ?_
      obtain ⟨x25, hx25, h⟩ := bindS h
      refine wdp rfl (p_ixs (cs := [.str x25.Attr, .str x25.Value]) hx25 rfl rfl rfl) ?_
      refine wdp (p := .ep [.str x25.Value]) rfl rfl ?_
      refine wdp rfl rfl ?_
      obtain ⟨x28, hx28, h⟩ := bindS h
      refine wdN rfl (pcal (sat_prefectref4_value N _ _ hx28) rfl (.cons sub_rfl .nil) rfl rfl rfl) no_fresh ?_
      obtain ⟨x29, hx29, h⟩ := bindS h
      refine wdp rfl (p_cat hx29 rfl rfl) ?_
      refine wpp rfl rfl ?_
      refine xreg ?_
      refine wpp rfl rfl ?_
      refine wpp (p := .int .i64 (w64 (v4l8 + (1 : Int)))) rfl rfl ?_
      refine wpp rfl rfl ?_
      exact ⟨(x29, (w64 (v4l8 + (1 : Int)))), (canon0 ⟨rfl, rfl, rfl, trivial⟩ trivial rfl rfl), h⟩
    · skip
      refine xseq ?_
      refine xreg ?_
      refine wpp rfl rfl ?_
      refine wpp rfl rfl ?_
      rcases bifS h with ⟨c2, h⟩ | ⟨c2, h⟩
      · refine xcT rfl c2 ?_
        refine xreg ?_
        refine wpp rfl rfl ?_
        obtain ⟨x14, hx14, h⟩ := bindS h
        refine wpp rfl (p_cat hx14 rfl rfl) ?_
        refine wpp rfl rfl ?_
        exact ⟨x14, (canon0 ⟨rfl, rfl, rfl, trivial⟩ trivial rfl rfl), h⟩
      · refine xcF rfl c2 ?_
        refine xskip ?_
        exact ⟨v3l8, (canon0 ⟨rfl, rfl, rfl, trivial⟩ trivial rfl rfl), h⟩
  · refine xcF rfl c1 ?_
    obtain rfl := someS h
    exact xexitn (st1 := ⟨ofL [(3, .str v3l8)], ofL []⟩) (canon0 ⟨rfl, trivial⟩ trivial rfl rfl) ⟨rfl, rfl⟩
theorem sat_prefectref4_PrintRDN (N : Nat) (a0 : List api_AVA) (r : List UInt8) (h : prefectref4_PrintRDN N a0 = some r) : Sat Tryd.prog 49 noRows [.sl 2 (List.map e_api_AVA a0)] (.str r) noRows := by
  refine xsat mixed Tryd.func49 k49_cf (rs := [.str r]) rfl rfl ?_
  refine xseq ?_
  refine xreg ?_
  refine wpp rfl rfl ?_
  refine xseq ?_
  refine xreg ?_
  refine wpp rfl rfl ?_
  refine xseq ?_
  refine xseq ?_
  refine xreg ?_
  refine wpp rfl rfl ?_
  refine xblk ?_
  obtain ⟨y3, hy3, h⟩ := bindS h
  refine xloopU (st1 := ⟨ofL [(0, .sl 2 (List.map e_api_AVA a0)), (3, .str ([] : List UInt8)), (4, .int .i64 0)], ofL []⟩) (canon0 ⟨rfl, rfl, rfl, trivial⟩ trivial rfl rfl) (w_prefectref4_PrintRDN_l8 N a0 N _ _ hy3) ?_
  rintro e s ⟨rfl, rfl⟩
  refine xseq ?_
  refine xreg ?_
  refine wpp rfl rfl ?_
  refine wpp rfl rfl ?_
  obtain rfl := someS h
  refine xret ?_
  exact ⟨nofun, rfl, rfl⟩
end Go.Gp
end
section
set_option linter.unusedVariables false
set_option linter.unusedSimpArgs false
set_option maxRecDepth 4000
namespace Go.Gp
open Go.Vd Go.RowKit Go.Proofs
def k33_l8 : IC := (.seq (.seq (.reg [⟨(some 5), (.mov (.t 4)), none⟩, ⟨(some 6), (.mov (.t 0)), none⟩, ⟨(some 7), (.len false (.t 6)), none⟩, ⟨(some 8), (.bin .lss (.t 5) (.t 7)), none⟩]) (.cond (.t 8) .skip (.exit 0))) (.seq (.block 1 (.seq (.seq (.reg [⟨(some 11), (.mov (.t 4)), none⟩, ⟨(some 12), (.bin .gtr (.t 11) (.c (.int .i64 0))), none⟩]) (.cond (.t 12) (.reg [⟨(some 13), (.mov (.t 3)), none⟩, ⟨(some 14), (.bin .add (.t 13) (.c (.str [44]))), none⟩, ⟨(some 3), (.mov (.t 14)), none⟩]) .skip)) (.reg [⟨(some 15), (.mov (.t 3)), none⟩, ⟨(some 16), (.mov (.t 0)), none⟩, ⟨(some 17), (.mov (.t 4)), none⟩, ⟨(some 18), (.ixp 1 (.t 16) (.t 17)), none⟩, ⟨(some 19), (.load 1 false (.t 18)), none⟩, ⟨(some 20), (.call 49 [(.t 19)]), none⟩, ⟨(some 21), (.bin .add (.t 15) (.t 20)), none⟩, ⟨(some 3), (.mov (.t 21)), none⟩]))) (.reg [⟨(some 9), (.mov (.t 4)), none⟩, ⟨(some 10), (.bin .add (.t 9) (.c (.int .i64 1))), none⟩, ⟨(some 4), (.mov (.t 10)), none⟩])))
def k33 : IC := (.seq (.reg [⟨(some 2), (.mov (.c (.str []))), none⟩]) (.seq (.reg [⟨(some 3), (.mov (.c (.str []))), none⟩]) (.seq (.seq (.reg [⟨(some 4), (.mov (.c (.int .i64 0))), none⟩]) (.block 0 (.loop k33_l8))) (.seq (.reg [⟨(some 22), (.mov (.t 3)), none⟩, ⟨(some 2), (.mov (.t 22)), none⟩]) .ret))))
theorem k33_cf : cfunc Tryd.prog Tryd.f33 = some ⟨23, k33, [(.tmp 2)]⟩ := by kernel_rfl
theorem w_prefectref4_Print_l8 (N : Nat) (a0 : List (List api_AVA)) : ∀ (n : Nat) (x : List UInt8 × Int) (y : List UInt8), prefectref4_Print_l8 N a0 n x = some y → WX Tryd.prog (fun _ => false) (.loop k33_l8) ((fun (x : List UInt8 × Int) => ⟨ofL [(0, .sl 1 (List.map (es 2 e_api_AVA) a0)), (3, .str x.1), (4, .int .i64 x.2)], ofL []⟩) x) ((fun y e s => e = .exit 0 ∧ s = ⟨ofL [(3, .str y)], ofL []⟩ : (List UInt8) → Xt → St → Prop) y) := by
  refine xloop (fun (x : List UInt8 × Int) => ⟨ofL [(0, .sl 1 (List.map (es 2 e_api_AVA) a0)), (3, .str x.1), (4, .int .i64 x.2)], ofL []⟩) _ (prefectref4_Print_l8 N a0) (prefectref4_Print_l8_b N a0) (fun _ => rfl) (fun _ _ => rfl) ?_
  rintro rec ⟨v3l8, v4l8⟩ y h
  refine xseq ?_
  refine xseq ?_
  refine xreg ?_
  refine wpp rfl rfl ?_
  refine wpp rfl rfl ?_
  refine wpp rfl (p_lens rfl) ?_
  refine wpp rfl rfl ?_
  rcases bifS h with ⟨c1, h⟩ | ⟨c1, h⟩
  · refine xcT rfl c1 ?_
    refine xskip ?_
    refine xseq ?_
    refine xblk ?_
    refine xjoin (fun (x : List UInt8) => ⟨ofL [(0, .sl 1 (List.map (es 2 e_api_AVA) a0)), (3, .str x), (4, .int .i64 v4l8)], ofL []⟩) (fun x => prefectref4_Print_j17 a0 N v4l8 rec x = some y) ?_ ?_
    · rintro v3j17 h
      refine xreg ?_
      refine wpp rfl rfl ?_
      refine wpp rfl rfl ?_
      refine wpp rfl rfl ?_
      obtain ⟨x18, hx18, h⟩ := bindS h
      refine wpp rfl (p_ixs (cs := [.sl 2 (List.map e_api_AVA x18)]) hx18 rfl rfl rfl) ?_
      refine wpp rfl rfl ?_
      obtain ⟨x20, hx20, h⟩ := bindS h
      refine woo rfl (ocal (sat_prefectref4_PrintRDN N _ _ hx20) rfl (.cons sub_rfl .nil) rfl rfl rfl) ?_
      obtain ⟨x21, hx21, h⟩ := bindS h
      refine wpp rfl (p_cat hx21 rfl rfl) ?_
      refine wpp rfl rfl ?_
      refine xreg ?_
      refine wpp rfl rfl ?_
      refine wpp (p := .int .i64 (w64 (v4l8 + (1 : Int)))) rfl rfl ?_
      refine wpp rfl rfl ?_
      exact ⟨(x21, (w64 (v4l8 + (1 : Int)))), (canon0 ⟨rfl, rfl, rfl, trivial⟩ trivial rfl rfl), h⟩
    · skip
      refine xseq ?_
      refine xreg ?_
      refine wpp rfl rfl ?_
      refine wpp rfl rfl ?_
      rcases bifS h with ⟨c2, h⟩ | ⟨c2, h⟩
      · refine xcT rfl c2 ?_
        refine xreg ?_
        refine wpp rfl rfl ?_
        obtain ⟨x14, hx14, h⟩ := bindS h
        refine wpp rfl (p_cat hx14 rfl rfl) ?_
        refine wpp rfl rfl ?_
        exact ⟨x14, (canon0 ⟨rfl, rfl, rfl, trivial⟩ trivial rfl rfl), h⟩
      · refine xcF rfl c2 ?_
        refine xskip ?_
        exact ⟨v3l8, (canon0 ⟨rfl, rfl, rfl, trivial⟩ trivial rfl rfl), h⟩
  · refine xcF rfl c1 ?_
    obtain rfl := someS h
    exact xexitn (st1 := ⟨ofL [(3, .str v3l8)], ofL []⟩) (canon0 ⟨rfl, trivial⟩ trivial rfl rfl) ⟨rfl, rfl⟩
theorem sat_prefectref4_Print (N : Nat) (a0 : List (List api_AVA)) (r : List UInt8) (h : prefectref4_Print N a0 = some r) : Sat Tryd.prog 33 noRows [.sl 1 (List.map (es 2 e_api_AVA) a0)] (.str r) noRows := by
  refine xsat mixed Tryd.func33 k33_cf (rs := [.str r]) rfl rfl ?_
  refine xseq ?_
  refine xreg ?_
  refine wpp rfl rfl ?_
  refine xseq ?_
  refine xreg ?_
  refine wpp rfl rfl ?_
  refine xseq ?_
  refine xseq ?_
  refine xreg ?_
  refine wpp rfl rfl ?_
  refine xblk ?_
  obtain ⟨y3, hy3, h⟩ := bindS h
  refine xloopU (st1 := ⟨ofL [(0, .sl 1 (List.map (es 2 e_api_AVA) a0)), (3, .str ([] : List UInt8)), (4, .int .i64 0)], ofL []⟩) (canon0 ⟨rfl, rfl, rfl, trivial⟩ trivial rfl rfl) (w_prefectref4_Print_l8 N a0 N _ _ hy3) ?_
  rintro e s ⟨rfl, rfl⟩
  refine xseq ?_
  refine xreg ?_
  refine wpp rfl rfl ?_
  refine wpp rfl rfl ?_
  obtain rfl := someS h
  refine xret ?_
  exact ⟨nofun, rfl, rfl⟩
end Go.Gp
end
