/- The statement is proved for every input: the row's theorem; no conditions. -/
import Derived.Test.YtgjeiamilppafaaDoorA7
import Derived.Test.YtgjeiamilppafaaDoorA8
import Derived.Test.YtgjeiamilppafaaDoorA10
import Derived.Test.YtgjeiamilppafaaDoorRows
import Derived.WalkKit
import Derived.ProofKit
import Derived.OpenShut
import Derived.ShutString
import Derived.ChangeOld
import Derived.Below
import Derived.SizedLaws
import Derived.Test.YtgjeiamilppafaaDoorCards
import Derived.Test.YtgjeiamilppafaaDoorTie
import Derived.LaidMore
import Derived.Lay
import Derived.SevenTiedAt
import Derived.Stop.Joined
section
namespace Go.Proofs.YtgjeiamilppafaaDoor.csnSpills
open Go.ChangeShapes Go.WideShapes Go.ChangeAt Go.RowKit
set_option linter.unusedVariables false
theorem own : ownKnob Tryd.prog.godebug = none := by kernel_rfl
theorem laidOut : laidOutB Tryd.prog = true := by kernel_rfl
set_option maxRecDepth 100000 in
theorem lifted (os : Os) (started : os.Started) (H : Type) (enc : TypeId × Value → H) :
    ReturnsInHanded {} Tryd.checked os 5 .any (fun w args => (Rows.csnSpillsSpec.pre enc Tryd.prog Tryd.f5 Rows.csnSpillsRow.domain false w args ∧ laidMetH Tryd.prog Rows.csnSpillsRow.laid w) ∧ sizedMet enc Tryd.prog Tryd.f5 (OpenSpec.ofChange Rows.csnSpillsSpec) false w args)
      (Rows.csnSpillsSpec.post enc Tryd.prog Tryd.f5 false true false false) := by
  refine returnsInHanded_of_change_and (C := Tryd.checked) (X := fun w _ => laidMetH Tryd.prog Rows.csnSpillsRow.laid w) (fun _ _ _ hh h => h.of_heap hh) own started (by kernel_rfl) Tryd.func5
    (ChangeSpec.witness_shaped (enc := enc) (C := Tryd.checked) (os := os) (X := fun w _ => laidMetH Tryd.prog Rows.csnSpillsRow.laid w) false (World.laidAll Tryd.prog os Rows.csnSpillsRow.laid) #[.int .u8 0, .int .u16 0, .bool false] 8 (World.laidAll_os _ _ _)
      (World.shaped_of_ZipB (by kernel_rfl) (by kernel_rfl)) (by kernel_rfl) (by kernel_rfl) (by kernel_rfl)
      (by rw [MakeChecks.laidMetH_plain _ _ _ (by kernel_rfl)]; exact laidMet_laidAll _ (by kernel_rfl) (by kernel_rfl))) ?_
  intro W base args ds gs before hval0 hW hcnd hsz0 hL _
  have hval : ∀ (j : Nat) t v, Tryd.f5.params[j]? = some t → args[j]? = some v → Value.okWide Tryd.prog W .any base t v := hval0
  have hW' := hW
  obtain ⟨p, q, hA0, hV, rfl, hfz, hnd⟩ := hW
  have hA : DataW.TrodAll enc Tryd.prog W 0 (fun _ => true) true Tryd.f5.params.toList args.toList ds p := hA0
  rw [Tryd.params5] at hA hval
  obtain ⟨v0, vs0, d0, ds0, p0, q0, hargs, rfl, rfl, h0, r0⟩ := trodAll_cons hA
  obtain ⟨v1, vs1, d1, ds1, p1, q1, rfl, rfl, rfl, h1, r1⟩ := trodAll_cons r0
  obtain ⟨v2, vs2, d2, ds2, p2, q2, rfl, rfl, rfl, h2, r2⟩ := trodAll_cons r1
  obtain ⟨rfl, rfl, rfl⟩ := trodAll_nil r2
  obtain rfl : args = #[v0, v1, v2] := by cases args; simp_all
  obtain ⟨rfl, rfl⟩ := trodVars_none hV
  obtain ⟨z0, s0, l0⟩ := Vd.open_leaf Gp.okTypes (by kernel_rfl) (by intro e he; rw [Tryd.underlying5] at he; cases he) (by kernel_rfl) (hval 0 5 v0 rfl rfl) h0
  obtain ⟨a0, rfl, b0⟩ := Gp.op5 s0
  have t0 : ∀ x ∈ p0, x.block < W.heap.size := by have k := h0; obtain ⟨m, hm⟩ := k; exact DataW.trod_lt m _ _ _ hm
  obtain ⟨z1, s1, l1⟩ := Vd.open_leaf Gp.okTypes (by kernel_rfl) (by intro e he; rw [Tryd.underlying40] at he; cases he) (by kernel_rfl) (hval 1 40 v1 rfl rfl) h1
  obtain ⟨a1, rfl, b1⟩ := Gp.op40 s1
  have t1 : ∀ x ∈ p1, x.block < W.heap.size := by have k := h1; obtain ⟨m, hm⟩ := k; exact DataW.trod_lt m _ _ _ hm
  obtain ⟨z2, s2, l2⟩ := Vd.open_leaf Gp.okTypes (by kernel_rfl) (by intro e he; rw [Tryd.underlying4] at he; cases he) (by kernel_rfl) (hval 2 4 v2 rfl rfl) h2
  obtain ⟨a2, rfl, b2⟩ := Gp.op4 s2
  have t2 : ∀ x ∈ p2, x.block < W.heap.size := by have k := h2; obtain ⟨m, hm⟩ := k; exact DataW.trod_lt m _ _ _ hm
  clear hA0 hval0 hsz0
  obtain ⟨N, hN⟩ := Gp.law_prefectlaw10_CsnSpills a0 a1 a2 b0 b1 b2
  refine ((Gp.sat_prefectlaw10_CsnSpills N a0 a1 a2 true hN).below (W := W) (Vd.cells_cons l0 (Vd.cells_cons l1 (Vd.cells_cons l2 Vd.cells_nil))) (Gp.glob_ok W hL)).mono fun e W' ⟨he, bel⟩ => ?_
  subst he
  exact ⟨_, rfl, _, _, _, [], _, [], hW', trodAll_mk1 (shut_bool Tryd.underlying4 _), (trodAll_cons_mk (Below.trod laidOut (by kernel_rfl) (of_decide_eq_true (by kernel_rfl)) h0 bel t0) (trodAll_cons_mk (Below.trod laidOut (by kernel_rfl) (of_decide_eq_true (by kernel_rfl)) h1 bel t1) (trodAll_cons_mk (Below.trod laidOut (by kernel_rfl) (of_decide_eq_true (by kernel_rfl)) h2 bel t2) trodAll_mk0))), rfl, bel.frame _, fun h => by cases h⟩
theorem over : Rows.csnSpillsRow.holds Tryd.pinned (OpenSpec.ofChange Rows.csnSpillsSpec) :=
  OpenClaim.holds_of_wide 5 Tryd.f5 rfl rfl rfl rfl rfl rfl rfl ⟨rfl, rfl, rfl, rfl, rfl⟩ rfl rfl rfl rfl rfl (by kernel_rfl) Tryd.func5 (by kernel_rfl)
    (of_decide_eq_true (by kernel_rfl)) (by unfold Func.isWrapper; first | (rw [if_pos (by decide +kernel)]; kernel_rfl) | (rw [if_neg (by decide +kernel)]; exact ⟨rfl, rfl⟩))
    (fun os started H enc _ => lifted os started H enc)
end Go.Proofs.YtgjeiamilppafaaDoor.csnSpills
namespace Go.Proofs.YtgjeiamilppafaaDoor
theorem csnSpills_holds : Rows.CsnSpillsCardSaid :=
  Claim7.holds_tied_plain_at .later [] [.data, .data, .data, .data, .sentinel, .sentinel, .pinned] true (true, "172030732d2c2c8c5d5b8d827ead5fd628dfcc9947eb23a186e2070c0f7ad929") true csnSpills.over (fun _ h => by cases h) (by kernel_rfl) (fun _ h => by cases h) csnSpills_row_tie rfl ⟨rfl, rfl⟩ (by kernel_rfl) rfl
    (fun f fn hf hfn => by
      obtain rfl : f = 5 := Option.some.inj ((show Tryd.prog.funcNamed "prefect/prefectlaw10.CsnSpills" = some 5 by kernel_rfl).symm.trans hf) |>.symm
      obtain rfl : fn = Tryd.f5 := (Option.some.inj (Tryd.func5.symm.trans hfn)).symm
      exact ⟨by kernel_rfl, fun j t ht => by
        rw [Tryd.params5] at ht
        have hm : t ∈ [5, 40, 4] := by simpa using Array.mem_of_getElem? ht
        have hall : ([5, 40, 4].all fun u => !Tryd.prog.wantsStandIn u) = true := by kernel_rfl
        exact (show Tryd.prog.wantsStandIn t = false by simpa using List.all_eq_true.1 hall t hm)⟩)
    (by kernel_rfl)
end Go.Proofs.YtgjeiamilppafaaDoor
end
