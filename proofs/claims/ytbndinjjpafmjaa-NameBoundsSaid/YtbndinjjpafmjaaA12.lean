/- A part of the proof: functions of the program and what they compute. -/
import Derived.Test.YtbndinjjpafmjaaA6
import Derived.Test.YtbndinjjpafmjaaA11
import Derived.Test.YtbndinjjpafmjaaA9
section
set_option linter.unusedVariables false
set_option linter.unusedSimpArgs false
set_option maxRecDepth 4000
namespace Go.Gp
open Go.Vd Go.RowKit Go.Proofs
def k7_l18 : IC := (.seq (.seq (.reg [⟨(some 39), (.mov (.t 11)), none⟩, ⟨(some 40), (.mov (.t 9)), none⟩, ⟨(some 41), (.bin .lss (.t 39) (.t 40)), none⟩]) (.cond (.t 41) .skip (.exit 0))) (.seq (.block 1 (.reg [⟨(some 44), (.mov (.t 10)), none⟩, ⟨(some 45), (.bin .add (.t 44) (.c (.str [120]))), none⟩, ⟨(some 10), (.mov (.t 45)), none⟩])) (.reg [⟨(some 42), (.mov (.t 11)), none⟩, ⟨(some 43), (.bin .add (.t 42) (.c (.int .i64 1))), none⟩, ⟨(some 11), (.mov (.t 43)), none⟩])))
def k7_l35 : IC := (.seq (.seq (.reg [⟨(some 47), (.mov (.t 13)), none⟩, ⟨(some 48), (.mov (.t 7)), none⟩, ⟨(some 49), (.bin .lss (.t 47) (.t 48)), none⟩]) (.cond (.t 49) .skip (.exit 2))) (.seq (.block 3 (.reg [⟨(some 52), (.mov (.t 12)), none⟩, ⟨(some 53), (.bin .add (.t 52) (.c (.str [44, 111, 117, 61, 121]))), none⟩, ⟨(some 12), (.mov (.t 53)), none⟩])) (.reg [⟨(some 50), (.mov (.t 13)), none⟩, ⟨(some 51), (.bin .add (.t 50) (.c (.int .i64 1))), none⟩, ⟨(some 13), (.mov (.t 51)), none⟩])))
def k7_l52 : IC := (.seq (.seq (.reg [⟨(some 54), (.mov (.t 15)), none⟩, ⟨(some 55), (.mov (.t 8)), none⟩, ⟨(some 56), (.bin .lss (.t 54) (.t 55)), none⟩]) (.cond (.t 56) .skip (.exit 4))) (.seq (.block 5 (.seq (.seq (.reg [⟨(some 59), (.mov (.t 15)), none⟩, ⟨(some 60), (.bin .gtr (.t 59) (.c (.int .i64 0))), none⟩]) (.cond (.t 60) (.reg [⟨(some 61), (.mov (.t 14)), none⟩, ⟨(some 62), (.bin .add (.t 61) (.c (.str [43]))), none⟩, ⟨(some 14), (.mov (.t 62)), none⟩]) .skip)) (.reg [⟨(some 63), (.mov (.t 14)), none⟩, ⟨(some 64), (.mov (.t 15)), none⟩, ⟨(some 65), (.cvi .u8 (.t 64)), none⟩, ⟨(some 66), (.bin .add (.c (.int .u8 97)) (.t 65)), none⟩, ⟨(some 67), (.bsl 1 [(.t 66)]), none⟩, ⟨(some 68), (.cvb (.t 67)), none⟩, ⟨(some 69), (.bin .add (.t 63) (.t 68)), none⟩, ⟨(some 70), (.bin .add (.t 69) (.c (.str [61, 118]))), none⟩, ⟨(some 14), (.mov (.t 70)), none⟩]))) (.reg [⟨(some 57), (.mov (.t 15)), none⟩, ⟨(some 58), (.bin .add (.t 57) (.c (.int .i64 1))), none⟩, ⟨(some 15), (.mov (.t 58)), none⟩])))
def k7 : IC := (.seq (.reg [⟨(some 6), (.mov (.c (.bool false))), none⟩]) (.seq (.seq (.reg [⟨(some 22), (.call 8 []), none⟩, ⟨(some 23), (.un .not (.t 22)), none⟩]) (.cond (.t 23) (.seq (.reg [⟨(some 6), (.mov (.c (.bool false))), none⟩]) .ret) .skip)) (.seq (.reg [⟨(some 24), (.mov (.t 0)), none⟩, ⟨(some 25), (.bin .rem (.t 24) (.c (.int .u8 2))), none⟩, ⟨(some 26), (.cvi .i64 (.t 25)), none⟩, ⟨(some 27), (.bin .add (.c (.int .i64 8)) (.t 26)), none⟩, ⟨(some 28), (.mov (.t 1)), none⟩, ⟨(some 29), (.bin .rem (.t 28) (.c (.int .u8 2))), none⟩, ⟨(some 30), (.cvi .i64 (.t 29)), none⟩, ⟨(some 31), (.bin .add (.c (.int .i64 4)) (.t 30)), none⟩, ⟨(some 32), (.mov (.t 2)), none⟩, ⟨(some 33), (.bin .rem (.t 32) (.c (.int .u8 2))), none⟩, ⟨(some 34), (.cvi .i64 (.t 33)), none⟩, ⟨(some 35), (.bin .add (.c (.int .i64 60)) (.t 34)), none⟩, ⟨(some 7), (.mov (.t 27)), none⟩, ⟨(some 8), (.mov (.t 31)), none⟩, ⟨(some 9), (.mov (.t 35)), none⟩]) (.seq (.reg [⟨(some 36), (.mks 1 1 (.int .u8 0) (.c (.int .i64 0))), none⟩, ⟨(some 37), (.cvb (.t 36)), none⟩, ⟨(some 38), (.bin .add (.c (.str [99, 110, 61])) (.t 37)), none⟩, ⟨(some 10), (.mov (.t 38)), none⟩]) (.seq (.seq (.reg [⟨(some 11), (.mov (.c (.int .i64 0))), none⟩]) (.block 0 (.loop k7_l18))) (.seq (.reg [⟨(some 46), (.mov (.t 10)), none⟩, ⟨(some 12), (.mov (.t 46)), none⟩]) (.seq (.seq (.reg [⟨(some 13), (.mov (.c (.int .i64 1))), none⟩]) (.block 2 (.loop k7_l35))) (.seq (.reg [⟨(some 14), (.mov (.c (.str []))), none⟩]) (.seq (.seq (.reg [⟨(some 15), (.mov (.c (.int .i64 0))), none⟩]) (.block 4 (.loop k7_l52))) (.seq (.reg [⟨(some 72), (.mov (.t 12)), none⟩, ⟨(some 73), (.call 15 [(.t 72)]), none⟩, ⟨(some 71), (.mov (.t 73)), none⟩, ⟨(some 74), (.ext 0 (.t 71)), none⟩, ⟨(some 75), (.ext 1 (.t 71)), none⟩, ⟨(some 16), (.mov (.t 74)), none⟩, ⟨(some 17), (.mov (.t 75)), none⟩]) (.seq (.reg [⟨(some 77), (.mov (.t 14)), none⟩, ⟨(some 78), (.call 17 [(.t 77)]), none⟩, ⟨(some 76), (.mov (.t 78)), none⟩, ⟨(some 79), (.ext 0 (.t 76)), none⟩, ⟨(some 80), (.ext 1 (.t 76)), none⟩, ⟨(some 18), (.mov (.t 79)), none⟩, ⟨(some 19), (.mov (.t 80)), none⟩]) (.seq (.reg [⟨(some 82), (.mov (.t 10)), none⟩, ⟨(some 83), (.call 17 [(.t 82)]), none⟩, ⟨(some 81), (.mov (.t 83)), none⟩, ⟨(some 84), (.ext 0 (.t 81)), none⟩, ⟨(some 85), (.ext 1 (.t 81)), none⟩, ⟨(some 20), (.mov (.t 84)), none⟩, ⟨(some 21), (.mov (.t 85)), none⟩]) (.seq (.reg [⟨(some 86), (.mov (.t 17)), none⟩, ⟨(some 87), (.bin .eql (.t 86) (.c (.int .i64 0))), none⟩, ⟨(some 88), (.mov (.t 7)), none⟩, ⟨(some 89), (.bin .leq (.t 88) (.c (.int .i64 8))), none⟩, ⟨(some 90), (.mov (.t 89)), none⟩, ⟨(some 91), (.mov (.t 9)), (some (90, true))⟩, ⟨(some 92), (.bin .leq (.t 91) (.c (.int .i64 60))), (some (90, true))⟩, ⟨(some 93), (.pick (.t 90) (.t 92) (.c (.bool false))), none⟩, ⟨(some 94), (.beq false (.t 87) (.t 93)), none⟩, ⟨(some 95), (.mov (.t 94)), none⟩, ⟨(some 96), (.mov (.t 19)), (some (95, true))⟩, ⟨(some 97), (.bin .eql (.t 96) (.c (.int .i64 0))), (some (95, true))⟩, ⟨(some 98), (.mov (.t 8)), (some (95, true))⟩, ⟨(some 99), (.bin .leq (.t 98) (.c (.int .i64 4))), (some (95, true))⟩, ⟨(some 100), (.beq false (.t 97) (.t 99)), (some (95, true))⟩, ⟨(some 101), (.pick (.t 95) (.t 100) (.c (.bool false))), none⟩, ⟨(some 102), (.mov (.t 101)), none⟩, ⟨(some 103), (.mov (.t 21)), (some (102, true))⟩, ⟨(some 104), (.bin .eql (.t 103) (.c (.int .i64 0))), (some (102, true))⟩, ⟨(some 105), (.mov (.t 9)), (some (102, true))⟩, ⟨(some 106), (.bin .leq (.t 105) (.c (.int .i64 60))), (some (102, true))⟩, ⟨(some 107), (.beq false (.t 104) (.t 106)), (some (102, true))⟩, ⟨(some 108), (.pick (.t 102) (.t 107) (.c (.bool false))), none⟩, ⟨(some 6), (.mov (.t 108)), none⟩]) .ret)))))))))))))
theorem k7_cf : cfunc Try.prog Try.f7 = some ⟨109, k7, [(.tmp 6)]⟩ := by kernel_rfl
theorem w_prefectlaw4_NameBounds_l18 (N : Nat) (a0 : UInt8) (a1 : UInt8) (a2 : UInt8) : ∀ (n : Nat) (x : List UInt8 × Int) (y : List UInt8), prefectlaw4_NameBounds_l18 N a0 a1 a2 n x = some y → WX Try.prog (fun _ => false) (.loop k7_l18) ((fun (x : List UInt8 × Int) => ⟨ofL [(7, .int .i64 (w64 ((8 : Int) + (((a0 % (2 : UInt8))).toNat : Int)))), (8, .int .i64 (w64 ((4 : Int) + (((a1 % (2 : UInt8))).toNat : Int)))), (9, .int .i64 (w64 ((60 : Int) + (((a2 % (2 : UInt8))).toNat : Int)))), (10, .str x.1), (11, .int .i64 x.2)], ofL []⟩) x) ((fun y e s => e = .exit 0 ∧ s = ⟨ofL [(7, .int .i64 (w64 ((8 : Int) + (((a0 % (2 : UInt8))).toNat : Int)))), (8, .int .i64 (w64 ((4 : Int) + (((a1 % (2 : UInt8))).toNat : Int)))), (9, .int .i64 (w64 ((60 : Int) + (((a2 % (2 : UInt8))).toNat : Int)))), (10, .str y)], ofL []⟩ : (List UInt8) → Xt → St → Prop) y) := by
  refine xloop (fun (x : List UInt8 × Int) => ⟨ofL [(7, .int .i64 (w64 ((8 : Int) + (((a0 % (2 : UInt8))).toNat : Int)))), (8, .int .i64 (w64 ((4 : Int) + (((a1 % (2 : UInt8))).toNat : Int)))), (9, .int .i64 (w64 ((60 : Int) + (((a2 % (2 : UInt8))).toNat : Int)))), (10, .str x.1), (11, .int .i64 x.2)], ofL []⟩) _ (prefectlaw4_NameBounds_l18 N a0 a1 a2) (prefectlaw4_NameBounds_l18_b N a0 a1 a2) (fun _ => rfl) (fun _ _ => rfl) ?_
  rintro rec ⟨v10l18, v11l18⟩ y h
  refine xseq ?_
  refine xseq ?_
  refine xreg ?_
  refine wpp rfl rfl ?_
  refine wpp rfl rfl ?_
  refine wpp rfl rfl ?_
  rcases bifS h with ⟨c2, h⟩ | ⟨c2, h⟩
  · refine xcT rfl c2 ?_
    refine xskip ?_
    refine xseq ?_
    refine xblk ?_
    refine xreg ?_
    refine wpp rfl rfl ?_
    obtain ⟨x45, hx45, h⟩ := bindS h
    refine wpp rfl (p_cat hx45 rfl rfl) ?_
    refine wpp rfl rfl ?_
    refine xreg ?_
    refine wpp rfl rfl ?_
    refine wpp (p := .int .i64 (w64 (v11l18 + (1 : Int)))) rfl rfl ?_
    refine wpp rfl rfl ?_
    exact ⟨(x45, (w64 (v11l18 + (1 : Int)))), (canon0 ⟨rfl, rfl, rfl, rfl, rfl, trivial⟩ trivial rfl rfl), h⟩
  · refine xcF rfl c2 ?_
    obtain rfl := someS h
    exact xexitn (st1 := ⟨ofL [(7, .int .i64 (w64 ((8 : Int) + (((a0 % (2 : UInt8))).toNat : Int)))), (8, .int .i64 (w64 ((4 : Int) + (((a1 % (2 : UInt8))).toNat : Int)))), (9, .int .i64 (w64 ((60 : Int) + (((a2 % (2 : UInt8))).toNat : Int)))), (10, .str v10l18)], ofL []⟩) (canon0 ⟨rfl, rfl, rfl, rfl, trivial⟩ trivial rfl rfl) ⟨rfl, rfl⟩
theorem w_prefectlaw4_NameBounds_l35 (N : Nat) (a0 : UInt8) (a1 : UInt8) (a2 : UInt8) (y3 : List UInt8) : ∀ (n : Nat) (x : List UInt8 × Int) (y : List UInt8), prefectlaw4_NameBounds_l35 N a0 a1 a2 y3 n x = some y → WX Try.prog (fun _ => false) (.loop k7_l35) ((fun (x : List UInt8 × Int) => ⟨ofL [(7, .int .i64 (w64 ((8 : Int) + (((a0 % (2 : UInt8))).toNat : Int)))), (8, .int .i64 (w64 ((4 : Int) + (((a1 % (2 : UInt8))).toNat : Int)))), (9, .int .i64 (w64 ((60 : Int) + (((a2 % (2 : UInt8))).toNat : Int)))), (10, .str y3), (12, .str x.1), (13, .int .i64 x.2)], ofL []⟩) x) ((fun y e s => e = .exit 2 ∧ s = ⟨ofL [(7, .int .i64 (w64 ((8 : Int) + (((a0 % (2 : UInt8))).toNat : Int)))), (8, .int .i64 (w64 ((4 : Int) + (((a1 % (2 : UInt8))).toNat : Int)))), (9, .int .i64 (w64 ((60 : Int) + (((a2 % (2 : UInt8))).toNat : Int)))), (10, .str y3), (12, .str y)], ofL []⟩ : (List UInt8) → Xt → St → Prop) y) := by
  refine xloop (fun (x : List UInt8 × Int) => ⟨ofL [(7, .int .i64 (w64 ((8 : Int) + (((a0 % (2 : UInt8))).toNat : Int)))), (8, .int .i64 (w64 ((4 : Int) + (((a1 % (2 : UInt8))).toNat : Int)))), (9, .int .i64 (w64 ((60 : Int) + (((a2 % (2 : UInt8))).toNat : Int)))), (10, .str y3), (12, .str x.1), (13, .int .i64 x.2)], ofL []⟩) _ (prefectlaw4_NameBounds_l35 N a0 a1 a2 y3) (prefectlaw4_NameBounds_l35_b N a0 a1 a2 y3) (fun _ => rfl) (fun _ _ => rfl) ?_
  rintro rec ⟨v12l35, v13l35⟩ y h
  refine xseq ?_
  refine xseq ?_
  refine xreg ?_
  refine wpp rfl rfl ?_
  refine wpp rfl rfl ?_
  refine wpp rfl rfl ?_
  rcases bifS h with ⟨c4, h⟩ | ⟨c4, h⟩
  · refine xcT rfl c4 ?_
    refine xskip ?_
    refine xseq ?_
    refine xblk ?_
    refine xreg ?_
    refine wpp rfl rfl ?_
    obtain ⟨x53, hx53, h⟩ := bindS h
    refine wpp rfl (p_cat hx53 rfl rfl) ?_
    refine wpp rfl rfl ?_
    refine xreg ?_
    refine wpp rfl rfl ?_
    refine wpp (p := .int .i64 (w64 (v13l35 + (1 : Int)))) rfl rfl ?_
    refine wpp rfl rfl ?_
    exact ⟨(x53, (w64 (v13l35 + (1 : Int)))), (canon0 ⟨rfl, rfl, rfl, rfl, rfl, rfl, trivial⟩ trivial rfl rfl), h⟩
  · refine xcF rfl c4 ?_
    obtain rfl := someS h
    exact xexitn (st1 := ⟨ofL [(7, .int .i64 (w64 ((8 : Int) + (((a0 % (2 : UInt8))).toNat : Int)))), (8, .int .i64 (w64 ((4 : Int) + (((a1 % (2 : UInt8))).toNat : Int)))), (9, .int .i64 (w64 ((60 : Int) + (((a2 % (2 : UInt8))).toNat : Int)))), (10, .str y3), (12, .str v12l35)], ofL []⟩) (canon0 ⟨rfl, rfl, rfl, rfl, rfl, trivial⟩ trivial rfl rfl) ⟨rfl, rfl⟩
theorem w_prefectlaw4_NameBounds_l52 (N : Nat) (a0 : UInt8) (a1 : UInt8) (a2 : UInt8) (y3 : List UInt8) (y5 : List UInt8) : ∀ (n : Nat) (x : List UInt8 × Int) (y : List UInt8), prefectlaw4_NameBounds_l52 N a0 a1 a2 y3 y5 n x = some y → WX Try.prog (fun _ => false) (.loop k7_l52) ((fun (x : List UInt8 × Int) => ⟨ofL [(7, .int .i64 (w64 ((8 : Int) + (((a0 % (2 : UInt8))).toNat : Int)))), (8, .int .i64 (w64 ((4 : Int) + (((a1 % (2 : UInt8))).toNat : Int)))), (9, .int .i64 (w64 ((60 : Int) + (((a2 % (2 : UInt8))).toNat : Int)))), (10, .str y3), (12, .str y5), (14, .str x.1), (15, .int .i64 x.2)], ofL []⟩) x) ((fun y e s => e = .exit 4 ∧ s = ⟨ofL [(7, .int .i64 (w64 ((8 : Int) + (((a0 % (2 : UInt8))).toNat : Int)))), (8, .int .i64 (w64 ((4 : Int) + (((a1 % (2 : UInt8))).toNat : Int)))), (9, .int .i64 (w64 ((60 : Int) + (((a2 % (2 : UInt8))).toNat : Int)))), (10, .str y3), (12, .str y5), (14, .str y)], ofL []⟩ : (List UInt8) → Xt → St → Prop) y) := by
  refine xloop (fun (x : List UInt8 × Int) => ⟨ofL [(7, .int .i64 (w64 ((8 : Int) + (((a0 % (2 : UInt8))).toNat : Int)))), (8, .int .i64 (w64 ((4 : Int) + (((a1 % (2 : UInt8))).toNat : Int)))), (9, .int .i64 (w64 ((60 : Int) + (((a2 % (2 : UInt8))).toNat : Int)))), (10, .str y3), (12, .str y5), (14, .str x.1), (15, .int .i64 x.2)], ofL []⟩) _ (prefectlaw4_NameBounds_l52 N a0 a1 a2 y3 y5) (prefectlaw4_NameBounds_l52_b N a0 a1 a2 y3 y5) (fun _ => rfl) (fun _ _ => rfl) ?_
  rintro rec ⟨v14l52, v15l52⟩ y h
  refine xseq ?_
  refine xseq ?_
  refine xreg ?_
  refine wpp rfl rfl ?_
  refine wpp rfl rfl ?_
  refine wpp rfl rfl ?_
  rcases bifS h with ⟨c6, h⟩ | ⟨c6, h⟩
  · refine xcT rfl c6 ?_
    refine xskip ?_
    refine xseq ?_
    refine xblk ?_
    refine xjoin (fun (x : List UInt8) => ⟨ofL [(7, .int .i64 (w64 ((8 : Int) + (((a0 % (2 : UInt8))).toNat : Int)))), (8, .int .i64 (w64 ((4 : Int) + (((a1 % (2 : UInt8))).toNat : Int)))), (9, .int .i64 (w64 ((60 : Int) + (((a2 % (2 : UInt8))).toNat : Int)))), (10, .str y3), (12, .str y5), (14, .str x), (15, .int .i64 v15l52)], ofL []⟩) (fun x => prefectlaw4_NameBounds_j61 v15l52 rec x = some y) ?_ ?_
    · rintro v14j61 h
      refine xreg ?_
      refine wpp rfl rfl ?_
      refine wpp rfl rfl ?_
      refine wpp rfl (p_cvu8 rfl) ?_
      refine wpp rfl (p_u8add (a := (97 : UInt8)) (b := (byte v15l52)) rfl rfl) ?_
      refine woo rfl (obsl 67 rfl rfl rfl) ?_
      refine wpp rfl (p_cvbr (l := [((97 : UInt8) + (byte v15l52))]) rfl rfl (full_row (f := eb) (l := [((97 : UInt8) + (byte v15l52))]))) ?_
      obtain ⟨x69, hx69, h⟩ := bindS h
      refine wpp rfl (p_cat hx69 rfl rfl) ?_
      obtain ⟨x70, hx70, h⟩ := bindS h
      refine wpp rfl (p_cat hx70 rfl rfl) ?_
      refine wpp rfl rfl ?_
      refine xreg ?_
      refine wpp rfl rfl ?_
      refine wpp (p := .int .i64 (w64 (v15l52 + (1 : Int)))) rfl rfl ?_
      refine wpp rfl rfl ?_
      exact ⟨(x70, (w64 (v15l52 + (1 : Int)))), (canon0 ⟨rfl, rfl, rfl, rfl, rfl, rfl, rfl, trivial⟩ trivial rfl rfl), h⟩
    · skip
      refine xseq ?_
      refine xreg ?_
      refine wpp rfl rfl ?_
      refine wpp rfl rfl ?_
      rcases bifS h with ⟨c7, h⟩ | ⟨c7, h⟩
      · refine xcT rfl c7 ?_
        refine xreg ?_
        refine wpp rfl rfl ?_
        obtain ⟨x62, hx62, h⟩ := bindS h
        refine wpp rfl (p_cat hx62 rfl rfl) ?_
        refine wpp rfl rfl ?_
        exact ⟨x62, (canon0 ⟨rfl, rfl, rfl, rfl, rfl, rfl, rfl, trivial⟩ trivial rfl rfl), h⟩
      · refine xcF rfl c7 ?_
        refine xskip ?_
        exact ⟨v14l52, (canon0 ⟨rfl, rfl, rfl, rfl, rfl, rfl, rfl, trivial⟩ trivial rfl rfl), h⟩
  · refine xcF rfl c6 ?_
    obtain rfl := someS h
    exact xexitn (st1 := ⟨ofL [(7, .int .i64 (w64 ((8 : Int) + (((a0 % (2 : UInt8))).toNat : Int)))), (8, .int .i64 (w64 ((4 : Int) + (((a1 % (2 : UInt8))).toNat : Int)))), (9, .int .i64 (w64 ((60 : Int) + (((a2 % (2 : UInt8))).toNat : Int)))), (10, .str y3), (12, .str y5), (14, .str v14l52)], ofL []⟩) (canon0 ⟨rfl, rfl, rfl, rfl, rfl, rfl, trivial⟩ trivial rfl rfl) ⟨rfl, rfl⟩
theorem sat_prefectlaw4_NameBounds (N : Nat) (a0 : UInt8) (a1 : UInt8) (a2 : UInt8) (r : Bool) (h : prefectlaw4_NameBounds N a0 a1 a2 = some r) : Sat Try.prog 7 noRows [eb a0, eb a1, eb a2] (.bool r) noRows := by
  refine xsat mixed Try.func7 k7_cf (rs := [.bool r]) rfl rfl ?_
  refine xseq ?_
  refine xreg ?_
  refine wpp rfl rfl ?_
  refine xseq ?_
  refine xseq ?_
  refine xreg ?_
  obtain ⟨x22, hx22, h⟩ := bindS h
  refine woo rfl (ocal (sat_prefectlaw4_known N _ hx22) rfl .nil rfl rfl rfl) ?_
  refine wpp rfl rfl ?_
  rcases bifS h with ⟨c1, h⟩ | ⟨c1, h⟩
  · refine xcT rfl c1 ?_
    refine xseq ?_
    refine xreg ?_
    refine wpp rfl rfl ?_
    obtain rfl := someS h
    refine xret ?_
    exact ⟨nofun, rfl, rfl⟩
  · refine xcF rfl c1 ?_
    refine xskip ?_
    refine xseq ?_
    refine xreg ?_
    refine wpp rfl rfl ?_
    refine wpp rfl (p_u8rem (a := a0) (b := (2 : UInt8)) (u := ()) rfl rfl rfl) ?_
    refine wpp rfl (p_u8cv (a := (a0 % (2 : UInt8))) rfl) ?_
    refine wpp (p := .int .i64 (w64 ((8 : Int) + (((a0 % (2 : UInt8))).toNat : Int)))) rfl rfl ?_
    refine wpp rfl rfl ?_
    refine wpp rfl (p_u8rem (a := a1) (b := (2 : UInt8)) (u := ()) rfl rfl rfl) ?_
    refine wpp rfl (p_u8cv (a := (a1 % (2 : UInt8))) rfl) ?_
    refine wpp (p := .int .i64 (w64 ((4 : Int) + (((a1 % (2 : UInt8))).toNat : Int)))) rfl rfl ?_
    refine wpp rfl rfl ?_
    refine wpp rfl (p_u8rem (a := a2) (b := (2 : UInt8)) (u := ()) rfl rfl rfl) ?_
    refine wpp rfl (p_u8cv (a := (a2 % (2 : UInt8))) rfl) ?_
    refine wpp (p := .int .i64 (w64 ((60 : Int) + (((a2 % (2 : UInt8))).toNat : Int)))) rfl rfl ?_
    refine wpp rfl rfl ?_
    refine wpp rfl rfl ?_
    refine wpp rfl rfl ?_
    refine xseq ?_
    refine xreg ?_
    obtain ⟨x36, hx36, h⟩ := bindS h
    refine wmks (f := eb) (e := (0 : UInt8)) 36 hx36 rfl rfl rfl rfl rfl rfl ?_
    refine wpp rfl (p_cvbr (l := (List.replicate x36 (0 : UInt8))) rfl rfl (full_rowN (f := eb) (l := (List.replicate x36 (0 : UInt8))) (by simp only [List.length_set, List.length_replicate]))) ?_
    obtain ⟨x38, hx38, h⟩ := bindS h
    refine wpp rfl (p_cat hx38 rfl rfl) ?_
    refine wpp rfl rfl ?_
    refine xseq ?_
    refine xseq ?_
    refine xreg ?_
    refine wpp rfl rfl ?_
    refine xblk ?_
    obtain ⟨y3, hy3, h⟩ := bindS h
    refine xloopU (st1 := ⟨ofL [(7, .int .i64 (w64 ((8 : Int) + (((a0 % (2 : UInt8))).toNat : Int)))), (8, .int .i64 (w64 ((4 : Int) + (((a1 % (2 : UInt8))).toNat : Int)))), (9, .int .i64 (w64 ((60 : Int) + (((a2 % (2 : UInt8))).toNat : Int)))), (10, .str x38), (11, .int .i64 0)], ofL []⟩) (canon0 ⟨rfl, rfl, rfl, rfl, rfl, trivial⟩ trivial rfl rfl) (w_prefectlaw4_NameBounds_l18 N a0 a1 a2 N _ _ hy3) ?_
    rintro e s ⟨rfl, rfl⟩
    refine xseq ?_
    refine xreg ?_
    refine wpp rfl rfl ?_
    refine wpp rfl rfl ?_
    refine xseq ?_
    refine xseq ?_
    refine xreg ?_
    refine wpp rfl rfl ?_
    refine xblk ?_
    obtain ⟨y5, hy5, h⟩ := bindS h
    refine xloopU (st1 := ⟨ofL [(7, .int .i64 (w64 ((8 : Int) + (((a0 % (2 : UInt8))).toNat : Int)))), (8, .int .i64 (w64 ((4 : Int) + (((a1 % (2 : UInt8))).toNat : Int)))), (9, .int .i64 (w64 ((60 : Int) + (((a2 % (2 : UInt8))).toNat : Int)))), (10, .str y3), (12, .str y3), (13, .int .i64 1)], ofL []⟩) (canon0 ⟨rfl, rfl, rfl, rfl, rfl, rfl, trivial⟩ trivial rfl rfl) (w_prefectlaw4_NameBounds_l35 N a0 a1 a2 y3 N _ _ hy5) ?_
    rintro e s ⟨rfl, rfl⟩
    refine xseq ?_
    refine xreg ?_
    refine wpp rfl rfl ?_
    refine xseq ?_
    refine xseq ?_
    refine xreg ?_
    refine wpp rfl rfl ?_
    refine xblk ?_
    obtain ⟨y8, hy8, h⟩ := bindS h
    refine xloopU (st1 := ⟨ofL [(7, .int .i64 (w64 ((8 : Int) + (((a0 % (2 : UInt8))).toNat : Int)))), (8, .int .i64 (w64 ((4 : Int) + (((a1 % (2 : UInt8))).toNat : Int)))), (9, .int .i64 (w64 ((60 : Int) + (((a2 % (2 : UInt8))).toNat : Int)))), (10, .str y3), (12, .str y5), (14, .str ([] : List UInt8)), (15, .int .i64 0)], ofL []⟩) (canon0 ⟨rfl, rfl, rfl, rfl, rfl, rfl, rfl, trivial⟩ trivial rfl rfl) (w_prefectlaw4_NameBounds_l52 N a0 a1 a2 y3 y5 N _ _ hy8) ?_
    rintro e s ⟨rfl, rfl⟩
    refine xseq ?_
    refine xreg ?_
    refine wpp rfl rfl ?_
    obtain ⟨x73, hx73, h⟩ := bindS h
    refine woo rfl (ocal (sat_dn_Parse N _ _ hx73) rfl (.cons sub_rfl .nil) rfl rfl rfl) ?_
    refine wpp rfl rfl ?_
    refine wpp rfl rfl ?_
    refine wpp rfl rfl ?_
    refine wpp rfl rfl ?_
    refine wpp rfl rfl ?_
    refine xseq ?_
    refine xreg ?_
    refine wpp rfl rfl ?_
    obtain ⟨x78, hx78, h⟩ := bindS h
    refine woo rfl (ocal (sat_dn_ParseRDN N _ _ hx78) rfl (.cons sub_rfl .nil) rfl rfl rfl) ?_
    refine wpp rfl rfl ?_
    refine wpp rfl rfl ?_
    refine wpp rfl rfl ?_
    refine wpp rfl rfl ?_
    refine wpp rfl rfl ?_
    refine xseq ?_
    refine xreg ?_
    refine wpp rfl rfl ?_
    obtain ⟨x83, hx83, h⟩ := bindS h
    refine woo rfl (ocal (sat_dn_ParseRDN N _ _ hx83) rfl (.cons sub_rfl .nil) rfl rfl rfl) ?_
    refine wpp rfl rfl ?_
    refine wpp rfl rfl ?_
    refine wpp rfl rfl ?_
    refine wpp rfl rfl ?_
    refine wpp rfl rfl ?_
    obtain ⟨g9, hg9, h⟩ := bindS h
    refine xseg ⟨ofL [(6, .bool g9)], ofL []⟩ ?_ ?_
    · have h := hg9
      refine xreg ?_
      refine wpp rfl rfl ?_
      refine wpp rfl rfl ?_
      refine wpp rfl rfl ?_
      refine wpp rfl rfl ?_
      refine wpp rfl rfl ?_
      rcases bifS h with ⟨c10, h⟩ | ⟨c10, h⟩
      · skip
        refine wpp (gy rfl c10) rfl ?_
        refine wpp (gy rfl c10) rfl ?_
        refine wpp rfl (p_pick1 c10 rfl rfl) ?_
        refine wpp rfl rfl ?_
        refine wpp rfl rfl ?_
        rcases bifS h with ⟨c11, h⟩ | ⟨c11, h⟩
        · skip
          refine wpp (gy rfl c11) rfl ?_
          refine wpp (gy rfl c11) rfl ?_
          refine wpp (gy rfl c11) rfl ?_
          refine wpp (gy rfl c11) rfl ?_
          refine wpp (gy rfl c11) rfl ?_
          refine wpp rfl (p_pick1 c11 rfl rfl) ?_
          refine wpp rfl rfl ?_
          rcases bifS h with ⟨c12, h⟩ | ⟨c12, h⟩
          · skip
            refine wpp (gy rfl c12) rfl ?_
            refine wpp (gy rfl c12) rfl ?_
            refine wpp (gy rfl c12) rfl ?_
            refine wpp (gy rfl c12) rfl ?_
            refine wpp (gy rfl c12) rfl ?_
            refine wpp rfl (p_pick1 c12 rfl rfl) ?_
            refine wpp rfl rfl ?_
            obtain rfl := someS h
            exact (canon0 ⟨rfl, trivial⟩ trivial rfl rfl)
          · skip
            refine wsk (gn rfl c12) ?_
            refine wsk (gn rfl c12) ?_
            refine wsk (gn rfl c12) ?_
            refine wsk (gn rfl c12) ?_
            refine wsk (gn rfl c12) ?_
            refine wpp rfl (p_pick0 c12 rfl rfl) ?_
            refine wpp rfl rfl ?_
            obtain rfl := someS h
            exact (canon0 ⟨rfl, trivial⟩ trivial rfl rfl)
        · skip
          refine wsk (gn rfl c11) ?_
          refine wsk (gn rfl c11) ?_
          refine wsk (gn rfl c11) ?_
          refine wsk (gn rfl c11) ?_
          refine wsk (gn rfl c11) ?_
          refine wpp rfl (p_pick0 c11 rfl rfl) ?_
          refine wpp rfl rfl ?_
          refine wsk rfl ?_
          refine wsk rfl ?_
          refine wsk rfl ?_
          refine wsk rfl ?_
          refine wsk rfl ?_
          refine wpp rfl rfl ?_
          refine wpp rfl rfl ?_
          obtain rfl := someS h
          exact (canon0 ⟨rfl, trivial⟩ trivial rfl rfl)
      · skip
        refine wsk (gn rfl c10) ?_
        refine wsk (gn rfl c10) ?_
        refine wpp rfl (p_pick0 c10 rfl rfl) ?_
        refine wpp rfl rfl ?_
        refine wpp rfl rfl ?_
        rcases bifS h with ⟨c13, h⟩ | ⟨c13, h⟩
        · skip
          refine wpp (gy rfl c13) rfl ?_
          refine wpp (gy rfl c13) rfl ?_
          refine wpp (gy rfl c13) rfl ?_
          refine wpp (gy rfl c13) rfl ?_
          refine wpp (gy rfl c13) rfl ?_
          refine wpp rfl (p_pick1 c13 rfl rfl) ?_
          refine wpp rfl rfl ?_
          rcases bifS h with ⟨c14, h⟩ | ⟨c14, h⟩
          · skip
            refine wpp (gy rfl c14) rfl ?_
            refine wpp (gy rfl c14) rfl ?_
            refine wpp (gy rfl c14) rfl ?_
            refine wpp (gy rfl c14) rfl ?_
            refine wpp (gy rfl c14) rfl ?_
            refine wpp rfl (p_pick1 c14 rfl rfl) ?_
            refine wpp rfl rfl ?_
            obtain rfl := someS h
            exact (canon0 ⟨rfl, trivial⟩ trivial rfl rfl)
          · skip
            refine wsk (gn rfl c14) ?_
            refine wsk (gn rfl c14) ?_
            refine wsk (gn rfl c14) ?_
            refine wsk (gn rfl c14) ?_
            refine wsk (gn rfl c14) ?_
            refine wpp rfl (p_pick0 c14 rfl rfl) ?_
            refine wpp rfl rfl ?_
            obtain rfl := someS h
            exact (canon0 ⟨rfl, trivial⟩ trivial rfl rfl)
        · skip
          refine wsk (gn rfl c13) ?_
          refine wsk (gn rfl c13) ?_
          refine wsk (gn rfl c13) ?_
          refine wsk (gn rfl c13) ?_
          refine wsk (gn rfl c13) ?_
          refine wpp rfl (p_pick0 c13 rfl rfl) ?_
          refine wpp rfl rfl ?_
          refine wsk rfl ?_
          refine wsk rfl ?_
          refine wsk rfl ?_
          refine wsk rfl ?_
          refine wsk rfl ?_
          refine wpp rfl rfl ?_
          refine wpp rfl rfl ?_
          obtain rfl := someS h
          exact (canon0 ⟨rfl, trivial⟩ trivial rfl rfl)
    · clear hg9
      obtain rfl := someS h
      refine xret ?_
      exact ⟨nofun, rfl, rfl⟩
end Go.Gp
end
section
set_option linter.unusedVariables false
namespace Go.Gp
open Go.Vd
theorem mod2 (x : UInt8) : x % 2 % 2 = x % 2 := by
  apply UInt8.toNat_inj.mp; simp
theorem mod2c (x : UInt8) : x % 2 = 0 ∨ x % 2 = 1 := by
  have h : (x % 2).toNat = x.toNat % 2 := by simp
  have : x.toNat % 2 = 0 ∨ x.toNat % 2 = 1 := by omega
  rcases this with h' | h'
  · left; apply UInt8.toNat_inj.mp; rw [h, h']; rfl
  · right; apply UInt8.toNat_inj.mp; rw [h, h']; rfl
theorem nb18 (N a0 a1 a2 n x) : prefectlaw4_NameBounds_l18 N a0 a1 a2 n x = prefectlaw4_NameBounds_l18 N (a0%2) (a1%2) (a2%2) n x := by
  induction n generalizing x with
  | zero => rfl
  | succ n ih => simp only [prefectlaw4_NameBounds_l18, prefectlaw4_NameBounds_l18_b, mod2, ih]
theorem nb35 (N a0 a1 a2 y n x) : prefectlaw4_NameBounds_l35 N a0 a1 a2 y n x = prefectlaw4_NameBounds_l35 N (a0%2) (a1%2) (a2%2) y n x := by
  induction n generalizing x with
  | zero => rfl
  | succ n ih => simp only [prefectlaw4_NameBounds_l35, prefectlaw4_NameBounds_l35_b, mod2, ih]
theorem nb52 (N a0 a1 a2 y z n x) : prefectlaw4_NameBounds_l52 N a0 a1 a2 y z n x = prefectlaw4_NameBounds_l52 N (a0%2) (a1%2) (a2%2) y z n x := by
  induction n generalizing x with
  | zero => rfl
  | succ n ih => simp only [prefectlaw4_NameBounds_l52, prefectlaw4_NameBounds_l52_b, prefectlaw4_NameBounds_j61, mod2, ih]
theorem nbm (N a0 a1 a2) : prefectlaw4_NameBounds N a0 a1 a2 = prefectlaw4_NameBounds N (a0%2) (a1%2) (a2%2) := by
  unfold prefectlaw4_NameBounds
  simp only [mod2, nb18 N a0 a1 a2, nb35 N a0 a1 a2, nb52 N a0 a1 a2]
theorem nb000 : prefectlaw4_NameBounds 200 0 0 0 = some true := by decide +kernel
theorem nb001 : prefectlaw4_NameBounds 200 0 0 1 = some true := by decide +kernel
theorem nb010 : prefectlaw4_NameBounds 200 0 1 0 = some true := by decide +kernel
theorem nb011 : prefectlaw4_NameBounds 200 0 1 1 = some true := by decide +kernel
theorem nb100 : prefectlaw4_NameBounds 200 1 0 0 = some true := by decide +kernel
theorem nb101 : prefectlaw4_NameBounds 200 1 0 1 = some true := by decide +kernel
theorem nb110 : prefectlaw4_NameBounds 200 1 1 0 = some true := by decide +kernel
theorem nb111 : prefectlaw4_NameBounds 200 1 1 1 = some true := by decide +kernel
theorem law_prefectlaw4_NameBounds (a0 a1 a2 : UInt8) (_ : True) (_ : True) (_ : True) : ∃ N, prefectlaw4_NameBounds N a0 a1 a2 = some true := by
  refine ⟨200, ?_⟩
  rw [nbm]
  rcases mod2c a0 with h | h <;> rcases mod2c a1 with h' | h' <;> rcases mod2c a2 with h'' | h'' <;> rw [h, h', h'']
  · exact nb000
  · exact nb001
  · exact nb010
  · exact nb011
  · exact nb100
  · exact nb101
  · exact nb110
  · exact nb111
end Go.Gp
end
