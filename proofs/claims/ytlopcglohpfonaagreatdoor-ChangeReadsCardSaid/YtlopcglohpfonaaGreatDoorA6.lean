/- A part of the proof: functions of the program and what they compute. -/
import Derived.Test.YtlopcglohpfonaaGreatDoorA4
import Derived.Test.YtlopcglohpfonaaGreatDoorProg
import Derived.Test.YtlopcglohpfonaaGreatDoorRows
import Derived.Stop.LaidErr
import Derived.LaidSub
import Derived.Lib.LaidTab
import Derived.Lib.ItoaNum
import Derived.MakeChecks
section
namespace Go.Gp
open Go.Vd Go.Proofs
theorem mixed : Tryz.prog.follows .mixedOrders = true := by kernel_rfl
theorem var_stays {P : Program} {w w' : World} {n : String} {g : Nat} {x : Array Value} (hg : P.globalNamed n = some g) (hb : w'.heap[g]? = w.heap[g]?) (h : w.var? P n = some x) : w'.var? P n = some x := by
 unfold World.var? at h ⊢
 rw [hg, Option.bind_some] at h ⊢
 rw [hb]; exact h
theorem oZ {P : Program} {w : World} {n : String} {g : Nat} {x : Array Value} (hg : P.globalNamed n = some g) (h : w.var? P n = some x) : g < w.heap.size := by
 unfold World.var? at h
 rw [hg, Option.bind_some] at h
 cases hh : w.heap[g]? with
 | none => simp [hh] at h
 | some b => exact (Array.getElem?_eq_some_iff.1 hh).1
theorem gS : Tryz.prog.globalNamed "strconv.ErrSyntax" = some 0 := by kernel_rfl
theorem gR : Tryz.prog.globalNamed "strconv.ErrRange" = some 1 := by kernel_rfl
theorem gP : Tryz.prog.globalNamed "internal/strconv.uint64pow10" = some 2 := by kernel_rfl
structure Laid (w : World) : Prop where
 tab : Lib.TabIs Tryz.prog w "internal/strconv.uint64pow10" .u64 Lib.pow10Tab
 syn : ∃ tp p, w.var? Tryz.prog "strconv.ErrSyntax" = some #[.iface tp p]
 ran : ∃ tp p, w.var? Tryz.prog "strconv.ErrRange" = some #[.iface tp p]
instance : BC where
 B b := b = 0 ∨ b = 1 ∨ b = 2
 ok := Laid
 stable w w' h k := ⟨var_stays gP (h 2 (by simp)) k.tab, by obtain ⟨tp, p, k⟩ := k.syn; exact ⟨tp, p, var_stays gS (h 0 (by simp)) k⟩, by obtain ⟨tp, p, k⟩ := k.ran; exact ⟨tp, p, var_stays gR (h 1 (by simp)) k⟩⟩
 low w b k hb := by
  obtain ⟨k1, ⟨_, _, k2⟩, ⟨_, _, k3⟩⟩ := k
  rcases hb with rfl | rfl | rfl
  ·exact oZ gS k2
  ·exact oZ gR k3
  ·exact oZ gP k1
end Go.Gp
end
section
namespace Go.Gp
open Go.Vd Go.Proofs Go.Proofs.YtlopcglohpfonaaGreatDoor
set_option maxRecDepth 100000
theorem star : "*" ++ "errors.errorString" = "*errors.errorString" := by decide
theorem Er (u : TypeId) (h : Tryz.prog.typeName? 3 u = some "*errors.errorString") : u = 178 :=
 typeName_ptr_named (nm := "errors.errorString") (by rw [star]; kernel_rfl) (by kernel_rfl) (by decide) u (by rw [star]; exact h)
theorem gSt : (Tryz.prog.globals[0]?).map (·.type) = some 104 := by kernel_rfl
theorem gRt : (Tryz.prog.globals[1]?).map (·.type) = some 104 := by kernel_rfl
theorem gPt : (Tryz.prog.globals[2]?).map (·.type) = some 168 := by kernel_rfl
theorem c180 : Tryz.prog.cellsOf 180 = 1 := by kernel_rfl
theorem c9 : Tryz.prog.cellsOf 9 = 1 := by kernel_rfl
theorem c137 : Tryz.prog.cellsOf 137 = 1 := by kernel_rfl
theorem c168 : Tryz.prog.cellsOf 168 = 20 := by kernel_rfl
theorem rowsP : (Rows.changeTellsRow.laid.all fun x => x.2.handleName?.isNone) = true := by kernel_rfl
theorem Ow (W : World) (hL : laidMetH Tryz.prog Rows.changeTellsRow.laid W) : BC.ok W := by
 rw [MakeChecks.laidMetH_plain _ _ _ rowsP] at hL
 refine (show Laid W from ⟨?_, ?_, ?_⟩)
 ·exact Lib.tabIs_of_head gP gPt Tryz.underlying168 Tryz.underlying137 c137 c168 hL.tail.tail
 ·obtain ⟨a0, s0, hv0, -, -, -⟩ := laid_sentinel hL.tail.tail.tail.tail.tail gS gSt Tryz.underlying104 Er Tryz.underlying178 Tryz.underlying180 rfl rfl Tryz.underlying9 c180 c9
  exact ⟨_, _, hv0⟩
 ·obtain ⟨a0, s0, hv0, -, -, -⟩ := laid_sentinel hL.tail.tail.tail.tail gR gRt Tryz.underlying104 Er Tryz.underlying178 Tryz.underlying180 rfl rfl Tryz.underlying9 c180 c9
  exact ⟨_, _, hv0⟩
end Go.Gp
end
