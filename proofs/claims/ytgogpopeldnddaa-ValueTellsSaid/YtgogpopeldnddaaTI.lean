import Derived.Test.YtgogpopeldnddaaTG
set_option linter.unusedVariables false
set_option linter.unusedSimpArgs false
namespace Go.Proofs.TR1
open Go.Vd Go.RowKit
def l12_0 : IC := (.seq (.seq (.reg [⟨(some 10), (.mov (.t 4)), none⟩, ⟨(some 11), (.bin .eql (.t 10) (.c (.int .i64 0))), none⟩, ⟨(some 12), (.mov (.t 11)), none⟩, ⟨(some 13), (.mov (.t 3)), (some (12, true))⟩, ⟨(some 14), (.ixp 1 (.t 13) (.c (.int .i64 0))), (some (12, true))⟩, ⟨(some 15), (.load 1 false (.t 14)), (some (12, true))⟩, ⟨(some 16), (.bin .lss (.t 15) (.c (.int .u8 128))), (some (12, true))⟩, ⟨(some 17), (.pick (.t 12) (.t 16) (.c (.bool false))), none⟩, ⟨(some 18), (.mov (.t 17)), none⟩, ⟨(some 19), (.mov (.t 4)), (some (18, false))⟩, ⟨(some 20), (.bin .eql (.t 19) (.c (.int .i64 (-1)))), (some (18, false))⟩, ⟨(some 21), (.mov (.t 20)), (some (18, false))⟩, ⟨(some 22), (.mov (.t 3)), (some (21, true))⟩, ⟨(some 23), (.ixp 1 (.t 22) (.c (.int .i64 0))), (some (21, true))⟩, ⟨(some 24), (.load 1 false (.t 23)), (some (21, true))⟩, ⟨(some 25), (.bin .geq (.t 24) (.c (.int .u8 128))), (some (21, true))⟩, ⟨(some 26), (.pick (.t 21) (.t 25) (.c (.bool false))), (some (18, false))⟩, ⟨(some 27), (.pick (.t 18) (.c (.bool true)) (.t 26)), none⟩, ⟨(some 28), (.un .not (.t 27)), none⟩]) (.cond (.t 28) .skip (.exit 0))) (.block 1 (.seq (.reg [⟨(some 29), (.mov (.t 4)), none⟩, ⟨(some 30), (.cvi .u8 (.t 29)), none⟩, ⟨(some 31), (.bsl 1 [(.t 30)]), none⟩, ⟨(some 32), (.mov (.t 3)), none⟩, ⟨(some 33), (.app 1 1 (.t 31) (.t 32)), none⟩, ⟨(some 3), (.mov (.t 33)), none⟩]) (.reg [⟨(some 34), (.mov (.t 4)), none⟩, ⟨(some 35), (.bin .shr (.t 34) (.c (.int .u64 8))), none⟩, ⟨(some 4), (.mov (.t 35)), none⟩]))))
def k12 : IC := (.seq (.reg [⟨(some 2), (.mov (.c (.str []))), none⟩]) (.seq (.reg [⟨(some 5), (.mov (.t 0)), none⟩, ⟨(some 6), (.cvi .u8 (.t 5)), none⟩, ⟨(some 7), (.bsl 1 [(.t 6)]), none⟩, ⟨(some 3), (.mov (.t 7)), none⟩]) (.seq (.reg [⟨(some 8), (.mov (.t 0)), none⟩, ⟨(some 9), (.bin .shr (.t 8) (.c (.int .u64 8))), none⟩, ⟨(some 4), (.mov (.t 9)), none⟩]) (.seq (.block 0 (.loop l12_0)) (.seq (.reg [⟨(some 36), (.mov (.t 3)), none⟩, ⟨(some 37), (.cvb (.t 36)), none⟩, ⟨(some 2), (.mov (.t 37)), none⟩]) .ret)))))
theorem c12 : cfunc Try.prog Try.f12 = some ⟨38, k12.un, [(.tmp 2)]⟩ := by kernel_rfl
def l9_0 : IC := (.seq (.seq (.reg [⟨(some 18), (.mov (.t 5)), none⟩, ⟨(some 19), (.mov (.t 0)), none⟩, ⟨(some 20), (.len true (.t 19)), none⟩, ⟨(some 21), (.bin .lss (.t 18) (.t 20)), none⟩]) (.cond (.t 21) .skip (.exit 0))) (.seq (.block 1 (.reg [⟨(some 24), (.mov (.t 4)), none⟩, ⟨(some 25), (.bin .shl (.t 24) (.c (.int .u64 8))), none⟩, ⟨(some 26), (.mov (.t 0)), none⟩, ⟨(some 27), (.mov (.t 5)), none⟩, ⟨(some 28), (.idxs (.t 26) (.t 27)), none⟩, ⟨(some 29), (.cvi .i64 (.t 28)), none⟩, ⟨(some 30), (.bin .or (.t 25) (.t 29)), none⟩, ⟨(some 4), (.mov (.t 30)), none⟩])) (.reg [⟨(some 22), (.mov (.t 5)), none⟩, ⟨(some 23), (.bin .add (.t 22) (.c (.int .i64 1))), none⟩, ⟨(some 5), (.mov (.t 23)), none⟩])))
def k9 : IC := (.seq (.reg [⟨(some 2), (.mov (.c (.int .i64 0))), none⟩, ⟨(some 3), (.mov (.c (.bool false))), none⟩]) (.seq (.seq (.reg [⟨(some 6), (.mov (.t 0)), none⟩, ⟨(some 7), (.len true (.t 6)), none⟩, ⟨(some 8), (.bin .lss (.t 7) (.c (.int .i64 1))), none⟩, ⟨(some 9), (.mov (.t 8)), none⟩, ⟨(some 10), (.mov (.t 0)), (some (9, false))⟩, ⟨(some 11), (.len true (.t 10)), (some (9, false))⟩, ⟨(some 12), (.bin .gtr (.t 11) (.c (.int .i64 8))), (some (9, false))⟩, ⟨(some 13), (.pick (.t 9) (.c (.bool true)) (.t 12)), none⟩]) (.cond (.t 13) (.seq (.reg [⟨(some 2), (.mov (.c (.int .i64 0))), none⟩, ⟨(some 3), (.mov (.c (.bool false))), none⟩]) .ret) .skip)) (.seq (.reg [⟨(some 14), (.mov (.t 0)), none⟩, ⟨(some 15), (.idxs (.t 14) (.c (.int .i64 0))), none⟩, ⟨(some 16), (.cvi .i8 (.t 15)), none⟩, ⟨(some 17), (.cvi .i64 (.t 16)), none⟩, ⟨(some 4), (.mov (.t 17)), none⟩]) (.seq (.seq (.reg [⟨(some 5), (.mov (.c (.int .i64 1))), none⟩]) (.block 0 (.loop l9_0))) (.seq (.seq (.reg [⟨(some 31), (.mov (.t 4)), none⟩, ⟨(some 32), (.call 12 [(.t 31)]), none⟩, ⟨(some 33), (.mov (.t 0)), none⟩, ⟨(some 34), (.bin .neq (.t 32) (.t 33)), none⟩]) (.cond (.t 34) (.seq (.reg [⟨(some 2), (.mov (.c (.int .i64 0))), none⟩, ⟨(some 3), (.mov (.c (.bool false))), none⟩]) .ret) .skip)) (.seq (.reg [⟨(some 35), (.mov (.t 4)), none⟩, ⟨(some 2), (.mov (.t 35)), none⟩, ⟨(some 3), (.mov (.c (.bool true))), none⟩]) .ret))))))
theorem c9 : cfunc Try.prog Try.f9 = some ⟨36, k9.un, [(.tmp 2), (.tmp 3)]⟩ := by kernel_rfl
def k11 : IC := (.seq (.reg [⟨(some 4), (.box (.c (.agg [(.int .u8 0), (.str []), .nl]))), none⟩]) (.seq (.reg [⟨(some 5), (.mov (.t 0)), none⟩, ⟨(some 6), (.mov (.t 1)), none⟩, ⟨(some 7), (.build [(.int .u8 0), (.str []), .nl] [(0, (1, (.t 5))), (1, (1, (.t 6)))]), none⟩, ⟨none, (.store 3 (.t 4) (.t 7)), none⟩]) .ret))
theorem c11 : cfunc Try.prog Try.f11 = some ⟨8, k11.un, [(.cell 3 true 4)]⟩ := by kernel_rfl
def k14 : IC := (.seq (.reg [⟨(some 2), (.mov (.c (.str []))), none⟩]) (.seq (.seq (.reg [⟨(some 3), (.mov (.t 0)), none⟩]) (.cond (.t 3) (.seq (.reg [⟨(some 2), (.mov (.c (.str [255]))), none⟩]) .ret) .skip)) (.seq (.reg [⟨(some 2), (.mov (.c (.str [0]))), none⟩]) .ret)))
theorem c14 : cfunc Try.prog Try.f14 = some ⟨4, k14.un, [(.tmp 2)]⟩ := by kernel_rfl
def k18 : IC := (.seq (.reg [⟨(some 4), (.box (.c (.agg [(.int .u8 0), (.str []), .nl]))), none⟩]) (.seq (.reg [⟨(some 5), (.mov (.t 0)), none⟩, ⟨(some 6), (.mov (.t 1)), none⟩, ⟨(some 7), (.call 12 [(.t 6)]), none⟩, ⟨(some 8), (.build [(.int .u8 0), (.str []), .nl] [(0, (1, (.t 5))), (1, (1, (.t 7)))]), none⟩, ⟨none, (.store 3 (.t 4) (.t 8)), none⟩]) .ret))
theorem c18 : cfunc Try.prog Try.f18 = some ⟨9, k18.un, [(.cell 3 true 4)]⟩ := by kernel_rfl
def k19 : IC := (.seq (.reg [⟨(some 4), (.box (.c (.agg [(.int .u8 0), (.str []), .nl]))), none⟩]) (.seq (.reg [⟨(some 5), (.mov (.t 0)), none⟩, ⟨(some 6), (.mov (.t 1)), none⟩, ⟨(some 7), (.build [(.int .u8 0), (.str []), .nl] [(0, (1, (.t 5))), (2, (1, (.t 6)))]), none⟩, ⟨none, (.store 3 (.t 4) (.t 7)), none⟩]) .ret))
theorem c19 : cfunc Try.prog Try.f19 = some ⟨8, k19.un, [(.cell 3 true 4)]⟩ := by kernel_rfl
def k20 : IC := (.seq (.reg [⟨(some 4), (.box (.c (.agg [(.int .u8 0), (.str []), .nl]))), none⟩]) (.seq (.reg [⟨(some 5), (.mov (.t 0)), none⟩, ⟨(some 6), (.mov (.t 1)), none⟩, ⟨(some 7), (.build [(.int .u8 0), (.str []), .nl] [(0, (1, (.t 5))), (2, (1, (.t 6)))]), none⟩, ⟨none, (.store 3 (.t 4) (.t 7)), none⟩]) .ret))
theorem c20 : cfunc Try.prog Try.f20 = some ⟨8, k20.un, [(.cell 3 true 4)]⟩ := by kernel_rfl
def l5_0 : IC := (.seq (.seq (.reg [⟨(some 44), (.mov (.t 18)), none⟩, ⟨(some 45), (.mov (.t 4)), none⟩, ⟨(some 46), (.len false (.t 45)), none⟩, ⟨(some 47), (.bin .lss (.t 44) (.t 46)), none⟩]) (.cond (.t 47) .skip (.exit 0))) (.seq (.block 1 (.reg [⟨(some 50), (.mov (.t 17)), none⟩, ⟨(some 51), (.mov (.t 4)), none⟩, ⟨(some 52), (.mov (.t 18)), none⟩, ⟨(some 53), (.ixp 1 (.t 51) (.t 52)), none⟩, ⟨(some 54), (.load 1 false (.t 53)), none⟩, ⟨(some 55), (.call 11 [(.c (.int .u8 4)), (.t 54)]), none⟩, ⟨(some 56), (.bsl 3 [(.t 55)]), none⟩, ⟨(some 57), (.app 3 48 (.t 50) (.t 56)), none⟩, ⟨(some 17), (.mov (.t 57)), none⟩])) (.reg [⟨(some 48), (.mov (.t 18)), none⟩, ⟨(some 49), (.bin .add (.t 48) (.c (.int .i64 1))), none⟩, ⟨(some 18), (.mov (.t 49)), none⟩])))
def k5 : IC := (.seq (.reg [⟨(some 10), (.mov (.c (.bool false))), none⟩]) (.seq (.seq (.reg [⟨(some 19), (.call 6 []), none⟩, ⟨(some 20), (.un .not (.t 19)), none⟩]) (.cond (.t 20) (.seq (.reg [⟨(some 10), (.mov (.c (.bool false))), none⟩]) .ret) .skip)) (.seq (.seq (.reg [⟨(some 21), (.mov (.t 1)), none⟩, ⟨(some 22), (.len true (.t 21)), none⟩, ⟨(some 23), (.bin .gtr (.t 22) (.c (.int .i64 100))), none⟩, ⟨(some 24), (.mov (.t 23)), none⟩, ⟨(some 25), (.mov (.t 4)), (some (24, false))⟩, ⟨(some 26), (.len false (.t 25)), (some (24, false))⟩, ⟨(some 27), (.bin .gtr (.t 26) (.c (.int .i64 20))), (some (24, false))⟩, ⟨(some 28), (.pick (.t 24) (.c (.bool true)) (.t 27)), none⟩]) (.cond (.t 28) (.seq (.reg [⟨(some 10), (.mov (.c (.bool true))), none⟩]) .ret) .skip)) (.seq (.reg [⟨(some 30), (.mov (.t 1)), none⟩, ⟨(some 31), (.call 8 [(.t 30)]), none⟩, ⟨(some 29), (.mov (.t 31)), none⟩, ⟨(some 32), (.ext 0 (.t 29)), none⟩, ⟨(some 33), (.ext 1 (.t 29)), none⟩, ⟨(some 11), (.mov (.t 32)), none⟩, ⟨(some 12), (.mov (.t 33)), none⟩]) (.seq (.reg [⟨(some 35), (.mov (.t 1)), none⟩, ⟨(some 36), (.call 9 [(.t 35)]), none⟩, ⟨(some 34), (.mov (.t 36)), none⟩, ⟨(some 37), (.ext 0 (.t 34)), none⟩, ⟨(some 38), (.ext 1 (.t 34)), none⟩, ⟨(some 13), (.mov (.t 37)), none⟩, ⟨(some 14), (.mov (.t 38)), none⟩]) (.seq (.reg [⟨(some 40), (.mov (.t 1)), none⟩, ⟨(some 41), (.call 10 [(.t 40)]), none⟩, ⟨(some 39), (.mov (.t 41)), none⟩, ⟨(some 42), (.ext 0 (.t 39)), none⟩, ⟨(some 43), (.ext 1 (.t 39)), none⟩, ⟨(some 15), (.mov (.t 42)), none⟩, ⟨(some 16), (.mov (.t 43)), none⟩]) (.seq (.reg [⟨(some 17), (.mov (.c .nl)), none⟩]) (.seq (.seq (.reg [⟨(some 18), (.mov (.c (.int .i64 0))), none⟩]) (.block 0 (.loop l5_0))) (.seq (.reg [⟨(some 58), (.mov (.t 0)), none⟩, ⟨(some 59), (.call 7 [(.t 58)]), none⟩, ⟨(some 60), (.mov (.t 0)), none⟩, ⟨(some 61), (.call 12 [(.t 60)]), none⟩, ⟨(some 62), (.bin .eql (.t 59) (.t 61)), none⟩, ⟨(some 63), (.mov (.t 62)), none⟩, ⟨(some 64), (.mov (.t 11)), (some (63, true))⟩, ⟨(some 65), (.mov (.t 13)), (some (63, true))⟩, ⟨(some 66), (.bin .eql (.t 64) (.t 65)), (some (63, true))⟩, ⟨(some 67), (.pick (.t 63) (.t 66) (.c (.bool false))), none⟩, ⟨(some 68), (.mov (.t 67)), none⟩, ⟨(some 69), (.mov (.t 12)), (some (68, true))⟩, ⟨(some 70), (.mov (.t 14)), (some (68, true))⟩, ⟨(some 71), (.beq false (.t 69) (.t 70)), (some (68, true))⟩, ⟨(some 72), (.pick (.t 68) (.t 71) (.c (.bool false))), none⟩, ⟨(some 73), (.mov (.t 72)), none⟩, ⟨(some 74), (.mov (.t 2)), (some (73, true))⟩, ⟨(some 75), (.call 13 [(.t 74)]), (some (73, true))⟩, ⟨(some 76), (.mov (.t 2)), (some (73, true))⟩, ⟨(some 77), (.call 14 [(.t 76)]), (some (73, true))⟩, ⟨(some 78), (.bin .eql (.t 75) (.t 77)), (some (73, true))⟩, ⟨(some 79), (.pick (.t 73) (.t 78) (.c (.bool false))), none⟩, ⟨(some 80), (.mov (.t 79)), none⟩, ⟨(some 81), (.mov (.t 16)), (some (80, true))⟩, ⟨(some 82), (.mov (.t 1)), (some (80, true))⟩, ⟨(some 83), (.len true (.t 82)), (some (80, true))⟩, ⟨(some 84), (.bin .eql (.t 83) (.c (.int .i64 1))), (some (80, true))⟩, ⟨(some 85), (.beq false (.t 81) (.t 84)), (some (80, true))⟩, ⟨(some 86), (.pick (.t 80) (.t 85) (.c (.bool false))), none⟩, ⟨(some 87), (.mov (.t 86)), none⟩, ⟨(some 88), (.mov (.t 15)), (some (87, true))⟩, ⟨(some 89), (.mov (.t 1)), (some (87, true))⟩, ⟨(some 90), (.len true (.t 89)), (some (87, true))⟩, ⟨(some 91), (.bin .eql (.t 90) (.c (.int .i64 1))), (some (87, true))⟩, ⟨(some 92), (.mov (.t 91)), (some (87, true))⟩, ⟨(some 93), (.mov (.t 1)), (some (92, true))⟩, ⟨(some 94), (.idxs (.t 93) (.c (.int .i64 0))), (some (92, true))⟩, ⟨(some 95), (.bin .neq (.t 94) (.c (.int .u8 0))), (some (92, true))⟩, ⟨(some 96), (.pick (.t 92) (.t 95) (.c (.bool false))), (some (87, true))⟩, ⟨(some 97), (.beq false (.t 88) (.t 96)), (some (87, true))⟩, ⟨(some 98), (.pick (.t 87) (.t 97) (.c (.bool false))), none⟩, ⟨(some 99), (.mov (.t 98)), none⟩, ⟨(some 100), (.mov (.t 3)), (some (99, true))⟩, ⟨(some 101), (.mov (.t 1)), (some (99, true))⟩, ⟨(some 102), (.call 16 [(.t 100), (.t 101)]), (some (99, true))⟩, ⟨(some 103), (.mov (.t 3)), (some (99, true))⟩, ⟨(some 104), (.mov (.t 1)), (some (99, true))⟩, ⟨(some 105), (.call 11 [(.t 103), (.t 104)]), (some (99, true))⟩, ⟨(some 106), (.call 15 [(.t 102), (.t 105)]), (some (99, true))⟩, ⟨(some 107), (.pick (.t 99) (.t 106) (.c (.bool false))), none⟩, ⟨(some 108), (.mov (.t 107)), none⟩, ⟨(some 109), (.mov (.t 3)), (some (108, true))⟩, ⟨(some 110), (.mov (.t 0)), (some (108, true))⟩, ⟨(some 111), (.call 17 [(.t 109), (.t 110)]), (some (108, true))⟩, ⟨(some 112), (.mov (.t 3)), (some (108, true))⟩, ⟨(some 113), (.mov (.t 0)), (some (108, true))⟩, ⟨(some 114), (.call 18 [(.t 112), (.t 113)]), (some (108, true))⟩, ⟨(some 115), (.call 15 [(.t 111), (.t 114)]), (some (108, true))⟩, ⟨(some 116), (.pick (.t 108) (.t 115) (.c (.bool false))), none⟩, ⟨(some 117), (.mov (.t 116)), none⟩, ⟨(some 118), (.mov (.t 3)), (some (117, true))⟩, ⟨(some 119), (.mov (.t 17)), (some (117, true))⟩, ⟨(some 120), (.call 19 [(.t 118), (.t 119)]), (some (117, true))⟩, ⟨(some 121), (.mov (.t 3)), (some (117, true))⟩, ⟨(some 122), (.mov (.t 17)), (some (117, true))⟩, ⟨(some 123), (.call 20 [(.t 121), (.t 122)]), (some (117, true))⟩, ⟨(some 124), (.call 15 [(.t 120), (.t 123)]), (some (117, true))⟩, ⟨(some 125), (.pick (.t 117) (.t 124) (.c (.bool false))), none⟩, ⟨(some 10), (.mov (.t 125)), none⟩]) .ret)))))))))
theorem c5 : cfunc Try.prog Try.f5 = some ⟨126, k5.un, [(.tmp 10)]⟩ := by kernel_rfl

theorem binv_lt {k : IntKind} {a b : Int} {c : Bool} (h : decide (a < b) = c) : binv .lss (.int k a) (.int k b) = some (.bool c) := by
  simp [binv, isShift, ibin, h]
theorem binv_ge {k : IntKind} {a b : Int} {c : Bool} (h : decide (a ≥ b) = c) : binv .geq (.int k a) (.int k b) = some (.bool c) := by
  have h' : decide (b ≤ a) = c := h
  simp [binv, isShift, ibin, h']

theorem binv_gt {k : IntKind} {a b : Int} {c : Bool} (h : decide (a > b) = c) : binv .gtr (.int k a) (.int k b) = some (.bool c) := by
  have h' : decide (b < a) = c := h
  simp [binv, isShift, ibin, h']

theorem binv_nself (k : IntKind) (a : Int) : binv .neq (.int k a) (.int k a) = some (.bool false) := by
  simp [binv, isShift, ibin]
theorem binv_snself (a : List UInt8) : binv .neq (.str a) (.str a) = some (.bool false) := by
  simp [binv, isShift, sbin]
theorem binv_sself (a : List UInt8) : binv .eql (.str a) (.str a) = some (.bool true) := by
  simp [binv, isShift, sbin]
theorem beqv_self (b : Bool) : beqv false (.bool b) (.bool b) = some (.bool true) := by
  cases b <;> rfl

theorem loop12 (Q : Xt → St → Prop) : ∀ (k : Nat) (r : Int) (x : UInt8) (b : List UInt8), (∀ st, Norm (fun _ => false) st ⟨ofL [(3, .slr 0 0 (encL (k + 1) r x b).length)], ofL [(0, ⟨1, true, bytesP (encL (k + 1) r x b)⟩)]⟩ → Q (.exit 0) st) → b.length + k ≤ 50 →
    -(2 : Int) ^ (8 * k + 7) ≤ r * 256 + x.toNat → r * 256 + x.toNat < (2 : Int) ^ (8 * k + 7) →
    ∃ e st', Ex Try.prog (fun _ => false) (.loop l12_0.un) (S7 r (x :: b)) e st' ∧ Q e st' := by
  intro k
  induction k with
  | zero =>
    intro r x b hQ hl h1 h2
    have hx := x.toNat_lt
    have hsg := sgn_eq x
    have hr := sgn_end h1 h2
    refine loop_round ?_
    refine wcut 18 ⟨ofL [(3, .slr 0 0 (x :: b).length), (4, .int .i64 r), (27, .bool (decide (r = sgn x)))], ofL [(0, ⟨1, true, bytesP (x :: b)⟩)]⟩ ?_ rfl ?_
    · by_cases r0 : r = 0
      · by_cases xl : x.toNat < 128
        · rw [if_neg (by omega)] at hsg
          subst r0
          refine wo (opop rfl) <| wo (opop rfl) <| wo (opop rfl) <| wog rfl (opop rfl) <| wog rfl (oixr (i := 0) rfl rfl rfl rfl rfl (Nat.zero_lt_succ _)) <| wog rfl (opop rfl) <| wog rfl (obin rfl rfl (binv_lt (c := true) (decide_eq_true (by omega)))) <| wo (opop rfl) <| wo (opop rfl) <| wps rfl ?_
          refine wps rfl <| wps rfl <| wps (gu rfl) <| wps (gu rfl) <| wps (gu rfl) <| wps (gu rfl) <| wps rfl <| wo (opop rfl) ?_
          exact canon0 ⟨rfl, rfl, vb (by rw [hsg]; rfl), trivial⟩ ⟨rfl, trivial⟩ rfl rfl
        · rw [if_pos (by omega)] at hsg
          subst r0
          refine wo (opop rfl) <| wo (opop rfl) <| wo (opop rfl) <| wog rfl (opop rfl) <| wog rfl (oixr (i := 0) rfl rfl rfl rfl rfl (Nat.zero_lt_succ _)) <| wog rfl (opop rfl) <| wog rfl (obin rfl rfl (binv_lt (c := false) (decide_eq_false (by omega)))) <| wo (opop rfl) <| wo (opop rfl) <| wog rfl (opop rfl) ?_
          refine wog rfl (opop rfl) <| wog rfl (opop rfl) <| wps rfl <| wps rfl <| wps rfl <| wps rfl <| wog rfl (opop rfl) <| wo (opop rfl) ?_
          exact canon0 ⟨rfl, rfl, vb (by rw [hsg]; rfl), trivial⟩ ⟨rfl, trivial⟩ rfl rfl
      · have e0 : (r == 0) = false := by simpa using r0
        by_cases r1 : r = -1
        · subst r1
          by_cases xl : x.toNat < 128
          · rw [if_neg (by omega)] at hsg
            refine wo (opop rfl) <| wo (opop rfl) <| wo (opop rfl) <| wps rfl <| wps rfl <| wps rfl <| wps rfl <| wo (opop rfl) <| wo (opop rfl) <| wog rfl (opop rfl) <| wog rfl (opop rfl) <| wog rfl (opop rfl) <| wog rfl (opop rfl) <| wog rfl (oixr (i := 0) rfl rfl rfl rfl rfl (Nat.zero_lt_succ _)) ?_
            refine wog rfl (opop rfl) <| wog rfl (obin rfl rfl (binv_ge (c := false) (decide_eq_false (by omega)))) <| wog rfl (opop rfl) <| wo (opop rfl) ?_
            exact canon0 ⟨rfl, rfl, vb (by rw [hsg]; rfl), trivial⟩ ⟨rfl, trivial⟩ rfl rfl
          · rw [if_pos (by omega)] at hsg
            refine wo (opop rfl) <| wo (opop rfl) <| wo (opop rfl) <| wps rfl <| wps rfl <| wps rfl <| wps rfl <| wo (opop rfl) <| wo (opop rfl) <| wog rfl (opop rfl) <| wog rfl (opop rfl) <| wog rfl (opop rfl) <| wog rfl (opop rfl) <| wog rfl (oixr (i := 0) rfl rfl rfl rfl rfl (Nat.zero_lt_succ _)) ?_
            refine wog rfl (opop rfl) <| wog rfl (obin rfl rfl (binv_ge (c := true) (decide_eq_true (by omega)))) <| wog rfl (opop rfl) <| wo (opop rfl) ?_
            exact canon0 ⟨rfl, rfl, vb (by rw [hsg]; rfl), trivial⟩ ⟨rfl, trivial⟩ rfl rfl
        · have e1 : (r == -1) = false := by simpa using r1
          have hne : ¬ r = sgn x := by rw [hsg]; split <;> omega
          refine wo (opop rfl) <| wo (obin rfl rfl (binv_eqv e0)) <| wo (opop rfl) <| wps rfl <| wps rfl <| wps rfl <| wps rfl <| wo (opop rfl) <| wo (opop rfl) <| wog rfl (opop rfl) <| wog rfl (obin rfl rfl (binv_eqv e1)) <| wog rfl (opop rfl) <| wps rfl <| wps rfl <| wps rfl <| wps rfl <| wog rfl (opop rfl) ?_
          refine wo (opop rfl) ?_
          exact canon0 ⟨rfl, rfl, vb (by rw [decide_eq_false hne]), trivial⟩ ⟨rfl, trivial⟩ rfl rfl
    refine wo (opop rfl) ?_
    refine wcond rfl (fun c => absurd c (by simp [← hr])) (fun c => ?_)
    exact hQ _ (canon0 ⟨by rw [encL_eq hr]; rfl, trivial⟩ ⟨by rw [encL_eq hr]; rfl, trivial⟩ rfl rfl)
  | succ k ih =>
    intro r x b hQ hl h1 h2
    have hx := x.toNat_lt
    have hsg := sgn_eq x
    refine loop_round ?_
    refine wcut 18 ⟨ofL [(3, .slr 0 0 (x :: b).length), (4, .int .i64 r), (27, .bool (decide (r = sgn x)))], ofL [(0, ⟨1, true, bytesP (x :: b)⟩)]⟩ ?_ rfl ?_
    · by_cases r0 : r = 0
      · by_cases xl : x.toNat < 128
        · rw [if_neg (by omega)] at hsg
          subst r0
          refine wo (opop rfl) <| wo (opop rfl) <| wo (opop rfl) <| wog rfl (opop rfl) <| wog rfl (oixr (i := 0) rfl rfl rfl rfl rfl (Nat.zero_lt_succ _)) <| wog rfl (opop rfl) <| wog rfl (obin rfl rfl (binv_lt (c := true) (decide_eq_true (by omega)))) <| wo (opop rfl) <| wo (opop rfl) <| wps rfl ?_
          refine wps rfl <| wps rfl <| wps (gu rfl) <| wps (gu rfl) <| wps (gu rfl) <| wps (gu rfl) <| wps rfl <| wo (opop rfl) ?_
          exact canon0 ⟨rfl, rfl, vb (by rw [hsg]; rfl), trivial⟩ ⟨rfl, trivial⟩ rfl rfl
        · rw [if_pos (by omega)] at hsg
          subst r0
          refine wo (opop rfl) <| wo (opop rfl) <| wo (opop rfl) <| wog rfl (opop rfl) <| wog rfl (oixr (i := 0) rfl rfl rfl rfl rfl (Nat.zero_lt_succ _)) <| wog rfl (opop rfl) <| wog rfl (obin rfl rfl (binv_lt (c := false) (decide_eq_false (by omega)))) <| wo (opop rfl) <| wo (opop rfl) <| wog rfl (opop rfl) ?_
          refine wog rfl (opop rfl) <| wog rfl (opop rfl) <| wps rfl <| wps rfl <| wps rfl <| wps rfl <| wog rfl (opop rfl) <| wo (opop rfl) ?_
          exact canon0 ⟨rfl, rfl, vb (by rw [hsg]; rfl), trivial⟩ ⟨rfl, trivial⟩ rfl rfl
      · have e0 : (r == 0) = false := by simpa using r0
        by_cases r1 : r = -1
        · subst r1
          by_cases xl : x.toNat < 128
          · rw [if_neg (by omega)] at hsg
            refine wo (opop rfl) <| wo (opop rfl) <| wo (opop rfl) <| wps rfl <| wps rfl <| wps rfl <| wps rfl <| wo (opop rfl) <| wo (opop rfl) <| wog rfl (opop rfl) <| wog rfl (opop rfl) <| wog rfl (opop rfl) <| wog rfl (opop rfl) <| wog rfl (oixr (i := 0) rfl rfl rfl rfl rfl (Nat.zero_lt_succ _)) ?_
            refine wog rfl (opop rfl) <| wog rfl (obin rfl rfl (binv_ge (c := false) (decide_eq_false (by omega)))) <| wog rfl (opop rfl) <| wo (opop rfl) ?_
            exact canon0 ⟨rfl, rfl, vb (by rw [hsg]; rfl), trivial⟩ ⟨rfl, trivial⟩ rfl rfl
          · rw [if_pos (by omega)] at hsg
            refine wo (opop rfl) <| wo (opop rfl) <| wo (opop rfl) <| wps rfl <| wps rfl <| wps rfl <| wps rfl <| wo (opop rfl) <| wo (opop rfl) <| wog rfl (opop rfl) <| wog rfl (opop rfl) <| wog rfl (opop rfl) <| wog rfl (opop rfl) <| wog rfl (oixr (i := 0) rfl rfl rfl rfl rfl (Nat.zero_lt_succ _)) ?_
            refine wog rfl (opop rfl) <| wog rfl (obin rfl rfl (binv_ge (c := true) (decide_eq_true (by omega)))) <| wog rfl (opop rfl) <| wo (opop rfl) ?_
            exact canon0 ⟨rfl, rfl, vb (by rw [hsg]; rfl), trivial⟩ ⟨rfl, trivial⟩ rfl rfl
        · have e1 : (r == -1) = false := by simpa using r1
          have hne : ¬ r = sgn x := by rw [hsg]; split <;> omega
          refine wo (opop rfl) <| wo (obin rfl rfl (binv_eqv e0)) <| wo (opop rfl) <| wps rfl <| wps rfl <| wps rfl <| wps rfl <| wo (opop rfl) <| wo (opop rfl) <| wog rfl (opop rfl) <| wog rfl (obin rfl rfl (binv_eqv e1)) <| wog rfl (opop rfl) <| wps rfl <| wps rfl <| wps rfl <| wps rfl <| wog rfl (opop rfl) ?_
          refine wo (opop rfl) ?_
          exact canon0 ⟨rfl, rfl, vb (by rw [decide_eq_false hne]), trivial⟩ ⟨rfl, trivial⟩ rfl rfl
    refine wo (opop rfl) ?_
    refine wcond rfl (fun c => ?_) (fun c => ?_)
    · have hne : ¬ r = sgn x := by simpa using c
      refine wo (opop rfl) <| wo (ocvi rfl (u8_wrap r)) <| wo (obsl 1 rfl rfl rfl) <| wo (opop rfl) <| wo (oapp 2 rfl rfl rfl (ys := bytesP (x :: b)) (elems_row rfl rfl rfl (take_all (bytesP_length _)) (by simp [bytesP_length])) (fun _ _ => rfl) rfl (by simp [bytesP_length]; omega) rfl) ?_
      refine wn (canonR0 2 0 [(4, .int .i64 r), (33, .slr 2 0 (byte r :: x :: b).length)] [(2, ⟨1, true, bytesP (byte r :: x :: b)⟩)] (l' := [(4, .int .i64 r), (33, .slr 0 0 (byte r :: x :: b).length)]) (m' := [(0, ⟨1, true, bytesP (byte r :: x :: b)⟩)])
        ⟨rfl, vt (by simp [bytesP_length]; omega), trivial⟩ ⟨rfl, trivial⟩ rfl rfl rfl ⟨rfl, rfl, trivial⟩ ⟨rfl, trivial⟩ rfl rfl) ?_
      refine wo (opop rfl) <| wo (opop rfl) <| wo (obin rfl rfl (binv_shr _ _ 8 (by decide))) <| wo (opop rfl) ?_
      refine loop_norm (st1 := S7 (r.fdiv 256) (byte r :: x :: b)) (canon0 ⟨rfl, rfl, trivial⟩ ⟨rfl, trivial⟩ rfl rfl) ?_
      have hb := step_bounds h1 h2
      refine ih (r.fdiv 256) (byte r) (x :: b) (fun st hst => hQ st ?_) (by simp; omega) hb.1 hb.2
      rw [encL_ne hne]
      exact hst
    · have hr : r = sgn x := by simpa using c
      exact hQ _ (canon0 ⟨by rw [encL_eq hr]; rfl, trivial⟩ ⟨by rw [encL_eq hr]; rfl, trivial⟩ rfl rfl)

theorem sat12 (n : Int) (h1 : -9223372036854775808 ≤ n) (h2 : n < 9223372036854775808) : Sat Try.prog 12 noRows [.int .i64 n] (.str (enc n)) noRows := by
  refine sat_plain mixed Try.func12 c12 (rs := [_]) rfl rfl ?_
  have h3 : n.fdiv 256 * 256 + (byte n).toNat = n := by
    rw [byte_toNat, fdiv256]
    omega
  refine wo (opop rfl) <| wo (opop rfl) <| wo (ocvi rfl (u8_wrap n)) <| wo (obsl 0 rfl rfl rfl) <| wo (opop rfl) <| wo (opop rfl) <| wo (obin rfl rfl (binv_shr _ _ 8 (by decide))) <| wo (opop rfl) ?_
  refine loop_norm (st1 := S7 (n.fdiv 256) [byte n]) (canon0 ⟨rfl, rfl, trivial⟩ ⟨rfl, trivial⟩ rfl rfl) ?_
  refine loop12 _ 7 (n.fdiv 256) (byte n) [] (fun st hn => ?_) (by decide) (by rw [h3]; exact h1) (by rw [h3]; exact h2)
  refine wn hn <| wo (opop rfl) <| wo (ocvb rfl rfl rfl rfl (take_all (bytesP_length _))) <| wo (opop rfl) ?_
  exact ⟨nofun, rfl, rfl⟩

end Go.Proofs.TR1
