/- The order in which places come does not count; what is added twice is there once; what is cut again is not there. (P5.1) -/
import Derived.Test.YtidmolpkcfhkaaaRows
import Derived.Test.YtidmolpkcfhkaaaK20
import Derived.Test.YtidmolpkcfhkaaaL9
import Derived.WalkKit
import Derived.ProofKit
import Derived.OpenShut
import Derived.ShutString
import Derived.ChangeOld
import Derived.Below
import Derived.SizedLaws
namespace Go.Proofs.Ytidmolpkcfhkaaa.rangesOrder
set_option linter.unusedSectionVars false
set_option linter.unusedVariables false
set_option linter.unusedSimpArgs false
open Go.ChangeShapes Go.WideShapes Go.ChangeAt Go.RowKit
open Go.ChangeMaps (open_string shut_string)
set_option linter.unusedVariables false
theorem own : ownKnob Try.prog.godebug = none := by kernel_rfl
theorem laidOut : laidOutB Try.prog = true := by kernel_rfl
instance inst : IsP Try.prog := ⟨rfl⟩
theorem RangesOrder_walk (w : World) (a0 : Option Addr) (c0 : Nat) (l0 : List Act5) (k0 : (ESl Act5 24).ok ⟨a0, c0, l0⟩) (x1 : Int) (h1 : -9223372036854775808 ≤ x1 ∧ x1 ≤ 9223372036854775807) (x2 : Int) (h2 : -9223372036854775808 ≤ x2 ∧ x2 ≤ 9223372036854775807)
    (o0 : ∀ p, Base w p → ISl EAct5 a0 c0 l0 p ∧ ∀ x ∈ l0, True) :
    Calls Try.prog 13 #[.slice a0 l0.length c0, .int .i64 x1, .int .i64 x2] w fun e w' => e = .returned (.bool true) ∧ Go.RowKit.Below w.heap.size w w' :=
  Spec.walk (P := Try.prog) (rangesorder_walk x1 x2 h1 h2) (by
    intro A hA p hp
    simp only [List.mem_cons, List.not_mem_nil, or_false] at hA
    rcases hA with rfl
    · exact (o0 p hp).1
  )
set_option maxRecDepth 100000 in
set_option maxHeartbeats 2000000 in
theorem lifted (os : Os) (started : os.Started) (H : Type) (enc : TypeId × Value → H) :
    ReturnsInHanded {} Try.checked os 13 .any (Rows.rangesOrderSpec.pre6 enc Try.prog Try.f13 Rows.rangesOrderRow.domain false) (Rows.rangesOrderSpec.post enc Try.prog Try.f13 false true false false) := by
  refine returnsInHanded_of_change_sized (C := Try.checked) own started (by kernel_rfl) Try.func13
    (ChangeSpec.witness6 (enc := enc) (C := Try.checked) false ⟨#[], #[.slice none 0 0, .int .i64 0, .int .i64 0], []⟩ 8 (by kernel_rfl) (by kernel_rfl) (by kernel_rfl) (by kernel_rfl)) ?_
  intro W base args ds gs before hval0 hW hcnd hsz0 _
  have hsz : (DataW.weightsEach Try.prog (Try.f13.params.toList ++ Rows.rangesOrderSpec.plain.varTypes Try.prog) (ds ++ gs)).all (· ≤ reachBytes) = true := hsz0
  have hval : ∀ (j : Nat) t v, Try.f13.params[j]? = some t → args[j]? = some v → Value.okWide Try.prog W .any base t v := hval0
  have hW' := hW
  obtain ⟨p, q, hA0, hV, rfl, hfz, hnd⟩ := hW
  have hA : DataW.TrodAll enc Try.prog W 0 (fun _ => true) true Try.f13.params.toList args.toList ds p := hA0
  rw [Try.params13] at hA hval hsz
  obtain ⟨v0, vs0, d0, ds0, p0, q0, hargs, rfl, rfl, h0, r0⟩ := trodAll_cons hA
  obtain ⟨v1, vs1, d1, ds1, p1, q1, rfl, rfl, rfl, h1, r1⟩ := trodAll_cons r0
  obtain ⟨v2, vs2, d2, ds2, p2, q2, rfl, rfl, rfl, h2, r2⟩ := trodAll_cons r1
  obtain ⟨rfl, rfl, rfl⟩ := trodAll_nil r2
  obtain rfl : args = #[v0, v1, v2] := by cases args; simp_all
  obtain ⟨rfl, rfl⟩ := trodVars_none hV
  obtain ⟨b0, len0, cap0, rfl⟩ := okWide_slice Try.underlying78 (hval 0 78 v0 rfl rfl)
  have k0 := h0
  have lt0 : ∀ x ∈ p0, x.block < W.heap.size := by obtain ⟨m, hm⟩ := k0; exact DataW.trod_lt m _ _ _ hm
  obtain ⟨fuel0, hf0⟩ := h0
  obtain ⟨⟨x0, c0, l0⟩, e0, ok0, o0⟩ := (Opens.slice Try.underlying78 (by kernel_rfl) (by decide) (B := 24) (by kernel_rfl) (opens_haulierlaw05_Act (P := Try.prog) ⟨rfl⟩)) fuel0 _ _ _ hf0 (fun m hm => by
    have := List.all_eq_true.1 hsz _ (DataW.weights_mem_each (j := 0) (t := 78) rfl rfl m hm)
    simpa using this)
  have e02 := (List.cons.inj e0).1
  simp only [Value.slice.injEq] at e02
  obtain ⟨rfl, rfl, rfl⟩ := e02
  obtain ⟨a1, rfl, rfl, rfl, w1⟩ := open_int Try.underlying3 (hval 1 3 v1 rfl rfl) h1
  obtain ⟨a2, rfl, rfl, rfl, w2⟩ := open_int Try.underlying3 (hval 2 3 v2 rfl rfl) h2
  clear hA0 hval0 hsz0 hsz
  refine (RangesOrder_walk W b0 cap0 l0 ok0 a1 (wf_i64 w1) a2 (wf_i64 w2) o0).mono fun e W' ⟨he, bel⟩ => ?_
  subst he
  exact ⟨_, rfl, _, _, _, [], _, [], hW', trodAll_mk1 (shut_bool Try.underlying4 _), (trodAll_cons_mk (Below.trod laidOut (by kernel_rfl) (of_decide_eq_true (by kernel_rfl)) k0 bel lt0) (trodAll_cons_mk (shut_int Try.underlying3 w1) (trodAll_cons_mk (shut_int Try.underlying3 w2) trodAll_mk0))), rfl, bel.frame _, fun h => by cases h⟩
theorem over : Rows.rangesOrderRow.holds Try.pinned (OpenSpec.ofChange Rows.rangesOrderSpec) :=
  OpenClaim.holds_of_wide 13 Try.f13 rfl rfl rfl rfl rfl rfl rfl ⟨rfl, rfl, rfl, rfl, rfl⟩ rfl rfl rfl rfl rfl (by kernel_rfl) Try.func13 (by kernel_rfl)
    (of_decide_eq_true (by kernel_rfl)) (by unfold Func.isWrapper; first | (rw [if_pos (by decide +kernel)]; kernel_rfl) | (rw [if_neg (by decide +kernel)]; exact ⟨rfl, rfl⟩))
    (fun os started H enc _ => lifted os started H enc)
theorem proved : Rows.RangesOrderSaid := over
#print axioms proved
end Go.Proofs.Ytidmolpkcfhkaaa.rangesOrder
namespace Go.Proofs.Ytidmolpkcfhkaaa
/-- The row, under a short name, for the claim. -/
theorem rangesOrder_holds : Rows.RangesOrderSaid := rangesOrder.proved
end Go.Proofs.Ytidmolpkcfhkaaa
