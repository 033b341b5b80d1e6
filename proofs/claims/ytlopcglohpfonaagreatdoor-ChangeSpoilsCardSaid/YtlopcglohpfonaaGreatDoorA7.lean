/- A part of the proof: functions of the program and what they compute. -/
import Derived.Test.YtlopcglohpfonaaGreatDoorA5
import Derived.Test.YtlopcglohpfonaaGreatDoorA6
section
set_option linter.unusedVariables false
set_option maxRecDepth 100000
namespace Go.Gp
open Go.Vd Go.RowKit Go.Proofs
theorem pW : okT Tryz.prog 6 [41, 44, 9] = true := by kernel_rfl
theorem op2 {p : PV} (h : UM Tryz.prog 6 2 p) : ∃ a : Int, p = ei a ∧ (IntKind.i64.min ≤ a ∧ a ≤ IntKind.i64.max) := h.int_inv Tryz.underlying2
theorem Em {p : PV} (h : UM Tryz.prog 6 3 p) : ∃ a : Int, p = ei a ∧ (IntKind.i64.min ≤ a ∧ a ≤ IntKind.i64.max) := h.int_inv Tryz.underlying3
theorem op9 {p : PV} (h : UM Tryz.prog 6 9 p) : ∃ a : List UInt8, p = PV.str a ∧ a.length ≤ maxLen := h.str_inv Tryz.underlying9
theorem op41 (cs : List PV) (hc : cs.length = 2) (hs : ∀ (j : Nat) (u : TypeId) (q : PV), ([9, 9] : List TypeId)[j]? = some u → cs[j]? = some q → UM Tryz.prog 6 u q) : ∃ a : AU, uI true cs = AV a ∧ VZ a := by
 obtain ⟨c0, cs0, rfl, hc0⟩ := H7 hc
 obtain ⟨c1, cs1, rfl, hc1⟩ := H7 hc0
 obtain rfl := iQ hc1
 obtain ⟨x0, rfl, h0⟩ := op9 (hs 0 _ _ rfl rfl)
 obtain ⟨x1, rfl, h1⟩ := op9 (hs 1 _ _ rfl rfl)
 exact ⟨⟨x0, x1⟩, rfl, ⟨h0, h1⟩⟩
theorem op25 {p : PV} (h : UM Tryz.prog 6 25 p) : ∃ a : List AU, p = (es 2 AV) a ∧ (a.length ≤ maxLen ∧ ∀ y0 ∈ a, VZ y0) := by
 obtain ⟨xs, rfl, hl, hx⟩ := h.sl_inv (ts := [9, 9]) Tryz.underlying25 (by kernel_rfl)
 obtain ⟨l, rfl, hb⟩ := iT (e := AV) (B := fun y => VZ y) xs fun x hx0 => by
  obtain ⟨cs, rfl, hc, hs⟩ := hx x hx0
  have ha : Vd.isAgg Tryz.prog 41 = true := by kernel_rfl
  rw [ha]
  exact op41 cs hc hs
 exact ⟨l, rfl, by simpa using hl, hb⟩
theorem op4 {p : PV} (h : UM Tryz.prog 6 4 p) : ∃ a : Bool, p = PV.bool a ∧ True := h.bool_inv Tryz.underlying4
theorem op42 {p : PV} (h : UM Tryz.prog 6 42 p) : ∃ a : List (List UInt8), p = (es 1 PV.str) a ∧ (a.length ≤ maxLen ∧ ∀ y0 ∈ a, y0.length ≤ maxLen) := by
 obtain ⟨xs, rfl, hl, hx⟩ := h.sl_inv (ts := [9]) Tryz.underlying42 (by kernel_rfl)
 obtain ⟨l, rfl, hb⟩ := iT (e := PV.str) (B := fun y => y.length ≤ maxLen) xs fun x hx0 => by
  obtain ⟨cs, rfl, hc, hs⟩ := hx x hx0
  have ha : Vd.isAgg Tryz.prog 9 = false := by kernel_rfl
  rw [ha]
  obtain ⟨c, cs', rfl, hc'⟩ := H7 hc
  obtain rfl := iQ hc'
  exact op9 (hs 0 _ _ rfl rfl)
 exact ⟨l, rfl, by simpa using hl, hb⟩
theorem op44 (cs : List PV) (hc : cs.length = 3) (hs : ∀ (j : Nat) (u : TypeId) (q : PV), ([3, 9, 42] : List TypeId)[j]? = some u → cs[j]? = some q → UM Tryz.prog 6 u q) : ∃ a : BA, uI true cs = AJ a ∧ VY a := by
 obtain ⟨c0, cs0, rfl, hc0⟩ := H7 hc
 obtain ⟨c1, cs1, rfl, hc1⟩ := H7 hc0
 obtain ⟨c2, cs2, rfl, hc2⟩ := H7 hc1
 obtain rfl := iQ hc2
 obtain ⟨x0, rfl, h0⟩ := Em (hs 0 _ _ rfl rfl)
 obtain ⟨x1, rfl, h1⟩ := op9 (hs 1 _ _ rfl rfl)
 obtain ⟨x2, rfl, h2⟩ := op42 (hs 2 _ _ rfl rfl)
 exact ⟨⟨x0, x1, x2⟩, rfl, ⟨h0, h1, h2⟩⟩
theorem op26 {p : PV} (h : UM Tryz.prog 6 26 p) : ∃ a : List BA, p = (es 3 AJ) a ∧ (a.length ≤ maxLen ∧ ∀ y0 ∈ a, VY y0) := by
 obtain ⟨xs, rfl, hl, hx⟩ := h.sl_inv (ts := [3, 9, 42]) Tryz.underlying26 (by kernel_rfl)
 obtain ⟨l, rfl, hb⟩ := iT (e := AJ) (B := fun y => VY y) xs fun x hx0 => by
  obtain ⟨cs, rfl, hc, hs⟩ := hx x hx0
  have ha : Vd.isAgg Tryz.prog 44 = true := by kernel_rfl
  rw [ha]
  exact op44 cs hc hs
 exact ⟨l, rfl, by simpa using hl, hb⟩
theorem op28 (cs : List PV) (hc : cs.length = 13) (hs : ∀ (j : Nat) (u : TypeId) (q : PV), ([2, 3, 3, 3, 2, 3, 3, 2, 3, 3, 25, 4, 26] : List TypeId)[j]? = some u → cs[j]? = some q → UM Tryz.prog 6 u q) : ∃ a : AR, uI true cs = AL a ∧ UA a := by
 obtain ⟨c0, cs0, rfl, hc0⟩ := H7 hc
 obtain ⟨c1, cs1, rfl, hc1⟩ := H7 hc0
 obtain ⟨c2, cs2, rfl, hc2⟩ := H7 hc1
 obtain ⟨c3, cs3, rfl, hc3⟩ := H7 hc2
 obtain ⟨c4, cs4, rfl, hc4⟩ := H7 hc3
 obtain ⟨c5, cs5, rfl, hc5⟩ := H7 hc4
 obtain ⟨c6, cs6, rfl, hc6⟩ := H7 hc5
 obtain ⟨c7, cs7, rfl, hc7⟩ := H7 hc6
 obtain ⟨c8, cs8, rfl, hc8⟩ := H7 hc7
 obtain ⟨c9, cs9, rfl, hc9⟩ := H7 hc8
 obtain ⟨c10, cs10, rfl, hc10⟩ := H7 hc9
 obtain ⟨c11, cs11, rfl, hc11⟩ := H7 hc10
 obtain ⟨c12, cs12, rfl, hc12⟩ := H7 hc11
 obtain rfl := iQ hc12
 obtain ⟨x0, rfl, h0⟩ := op2 (hs 0 _ _ rfl rfl)
 obtain ⟨x1, rfl, h1⟩ := Em (hs 1 _ _ rfl rfl)
 obtain ⟨x2, rfl, h2⟩ := Em (hs 2 _ _ rfl rfl)
 obtain ⟨x3, rfl, h3⟩ := Em (hs 3 _ _ rfl rfl)
 obtain ⟨x4, rfl, h4⟩ := op2 (hs 4 _ _ rfl rfl)
 obtain ⟨x5, rfl, h5⟩ := Em (hs 5 _ _ rfl rfl)
 obtain ⟨x6, rfl, h6⟩ := Em (hs 6 _ _ rfl rfl)
 obtain ⟨x7, rfl, h7⟩ := op2 (hs 7 _ _ rfl rfl)
 obtain ⟨x8, rfl, h8⟩ := Em (hs 8 _ _ rfl rfl)
 obtain ⟨x9, rfl, h9⟩ := Em (hs 9 _ _ rfl rfl)
 obtain ⟨PI, rfl, h10⟩ := op25 (hs 10 _ _ rfl rfl)
 obtain ⟨PG, rfl, h11⟩ := op4 (hs 11 _ _ rfl rfl)
 obtain ⟨LF, rfl, h12⟩ := op26 (hs 12 _ _ rfl rfl)
 exact ⟨⟨⟨x0, x1, x2⟩, x3, ⟨x4, x5, x6⟩, ⟨x7, x8, x9⟩, PI, PG, LF⟩, rfl, ⟨⟨h0, h1, h2⟩, h3, ⟨h4, h5, h6⟩, ⟨h7, h8, h9⟩, h10, h11, h12⟩⟩
theorem op5 {p : PV} (h : UM Tryz.prog 6 5 p) : ∃ a : UInt8, p = eb a ∧ True := h.u8_inv Tryz.underlying5
end Go.Gp
end
