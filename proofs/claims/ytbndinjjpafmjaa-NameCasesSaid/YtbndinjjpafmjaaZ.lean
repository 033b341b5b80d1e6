/- The statement is proved for every input: the row's theorem; no conditions. -/
import Derived.Test.YtbndinjjpafmjaaA8
import Derived.Test.YtbndinjjpafmjaaA12
import Derived.Test.YtbndinjjpafmjaaA15
import Derived.Test.YtbndinjjpafmjaaRows
import Derived.WalkKit
import Derived.ProofKit
import Derived.OpenShut
import Derived.ShutString
import Derived.ChangeOld
import Derived.Below
import Derived.SizedLaws
section
namespace Go.Proofs.Ytbndinjjpafmjaa.nameCases
open Go.ChangeShapes Go.WideShapes Go.ChangeAt Go.RowKit
set_option linter.unusedVariables false
theorem own : ownKnob Try.prog.godebug = none := by kernel_rfl
theorem laidOut : laidOutB Try.prog = true := by kernel_rfl
set_option maxRecDepth 100000 in
theorem lifted (os : Os) (started : os.Started) (H : Type) (enc : TypeId × Value → H) :
    ReturnsInHanded {} Try.checked os 6 .any (Rows.nameCasesSpec.pre6 enc Try.prog Try.f6 Rows.nameCasesRow.domain false) (Rows.nameCasesSpec.post enc Try.prog Try.f6 false true false false) := by
  refine returnsInHanded_of_change_sized (C := Try.checked) own started (by kernel_rfl) Try.func6
    (ChangeSpec.witness6 (enc := enc) (C := Try.checked) false ⟨#[], #[.int .u8 0, .int .u8 0, .int .u8 0], []⟩ 8 (by kernel_rfl) (by kernel_rfl) (by kernel_rfl) (by kernel_rfl)) ?_
  intro W base args ds gs before hval0 hW hcnd hsz0 _
  have hval : ∀ (j : Nat) t v, Try.f6.params[j]? = some t → args[j]? = some v → Value.okWide Try.prog W .any base t v := hval0
  have hW' := hW
  obtain ⟨p, q, hA0, hV, rfl, hfz, hnd⟩ := hW
  have hA : DataW.TrodAll enc Try.prog W 0 (fun _ => true) true Try.f6.params.toList args.toList ds p := hA0
  rw [Try.params6] at hA hval
  obtain ⟨v0, vs0, d0, ds0, p0, q0, hargs, rfl, rfl, h0, r0⟩ := trodAll_cons hA
  obtain ⟨v1, vs1, d1, ds1, p1, q1, rfl, rfl, rfl, h1, r1⟩ := trodAll_cons r0
  obtain ⟨v2, vs2, d2, ds2, p2, q2, rfl, rfl, rfl, h2, r2⟩ := trodAll_cons r1
  obtain ⟨rfl, rfl, rfl⟩ := trodAll_nil r2
  obtain rfl : args = #[v0, v1, v2] := by cases args; simp_all
  obtain ⟨rfl, rfl⟩ := trodVars_none hV
  obtain ⟨z0, s0, l0⟩ := Vd.open_leaf Gp.okTypes (by kernel_rfl) (by intro e he; rw [Try.underlying5] at he; cases he) (by kernel_rfl) (hval 0 5 v0 rfl rfl) h0
  obtain ⟨a0, rfl, b0⟩ := Gp.op5 s0
  have t0 : ∀ x ∈ p0, x.block < W.heap.size := by have k := h0; obtain ⟨m, hm⟩ := k; exact DataW.trod_lt m _ _ _ hm
  obtain ⟨z1, s1, l1⟩ := Vd.open_leaf Gp.okTypes (by kernel_rfl) (by intro e he; rw [Try.underlying5] at he; cases he) (by kernel_rfl) (hval 1 5 v1 rfl rfl) h1
  obtain ⟨a1, rfl, b1⟩ := Gp.op5 s1
  have t1 : ∀ x ∈ p1, x.block < W.heap.size := by have k := h1; obtain ⟨m, hm⟩ := k; exact DataW.trod_lt m _ _ _ hm
  obtain ⟨z2, s2, l2⟩ := Vd.open_leaf Gp.okTypes (by kernel_rfl) (by intro e he; rw [Try.underlying5] at he; cases he) (by kernel_rfl) (hval 2 5 v2 rfl rfl) h2
  obtain ⟨a2, rfl, b2⟩ := Gp.op5 s2
  have t2 : ∀ x ∈ p2, x.block < W.heap.size := by have k := h2; obtain ⟨m, hm⟩ := k; exact DataW.trod_lt m _ _ _ hm
  clear hA0 hval0 hsz0
  obtain ⟨N, hN⟩ := Gp.law_prefectlaw4_NameCases a0 a1 a2 b0 b1 b2
  refine ((Gp.sat_prefectlaw4_NameCases N a0 a1 a2 true hN).below (W := W) (Vd.cells_cons l0 (Vd.cells_cons l1 (Vd.cells_cons l2 Vd.cells_nil)))).mono fun e W' ⟨he, bel⟩ => ?_
  subst he
  exact ⟨_, rfl, _, _, _, [], _, [], hW', trodAll_mk1 (shut_bool Try.underlying4 _), (trodAll_cons_mk (Below.trod laidOut (by kernel_rfl) (of_decide_eq_true (by kernel_rfl)) h0 bel t0) (trodAll_cons_mk (Below.trod laidOut (by kernel_rfl) (of_decide_eq_true (by kernel_rfl)) h1 bel t1) (trodAll_cons_mk (Below.trod laidOut (by kernel_rfl) (of_decide_eq_true (by kernel_rfl)) h2 bel t2) trodAll_mk0))), rfl, bel.frame _, fun h => by cases h⟩
theorem over : Rows.nameCasesRow.holds Try.pinned (OpenSpec.ofChange Rows.nameCasesSpec) :=
  OpenClaim.holds_of_wide 6 Try.f6 rfl rfl rfl rfl rfl rfl rfl ⟨rfl, rfl, rfl, rfl, rfl⟩ rfl rfl rfl rfl rfl (by kernel_rfl) Try.func6 (by kernel_rfl)
    (of_decide_eq_true (by kernel_rfl)) (by unfold Func.isWrapper; first | (rw [if_pos (by decide +kernel)]; kernel_rfl) | (rw [if_neg (by decide +kernel)]; exact ⟨rfl, rfl⟩))
    (fun os started H enc _ => lifted os started H enc)
end Go.Proofs.Ytbndinjjpafmjaa.nameCases
namespace Go.Proofs.Ytbndinjjpafmjaa
theorem nameCases_holds : Rows.NameCasesSaid := nameCases.over
end Go.Proofs.Ytbndinjjpafmjaa
end
