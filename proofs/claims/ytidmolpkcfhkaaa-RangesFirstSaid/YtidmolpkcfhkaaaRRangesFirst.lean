/- Taken away from the front, Range by Range, a set is empty in the end; its Ranges are those that it told, in their order. (P5.1) -/
import Derived.Test.YtidmolpkcfhkaaaRows
import Derived.Test.YtidmolpkcfhkaaaK20
import Derived.Test.YtidmolpkcfhkaaaL7
import Derived.WalkKit
import Derived.ProofKit
import Derived.OpenShut
import Derived.ShutString
import Derived.ChangeOld
import Derived.Below
import Derived.SizedLaws
namespace Go.Proofs.Ytidmolpkcfhkaaa.rangesFirst
set_option linter.unusedSectionVars false
set_option linter.unusedVariables false
set_option linter.unusedSimpArgs false
open Go.ChangeShapes Go.WideShapes Go.ChangeAt Go.RowKit
open Go.ChangeMaps (open_string shut_string)
set_option linter.unusedVariables false
theorem own : ownKnob Try.prog.godebug = none := by kernel_rfl
theorem laidOut : laidOutB Try.prog = true := by kernel_rfl
instance inst : IsP Try.prog := ⟨rfl⟩
theorem RangesFirst_walk (w : World) (a0 : Option Addr) (c0 : Nat) (l0 : List Act5) (k0 : (ESl Act5 24).ok ⟨a0, c0, l0⟩)
    (o0 : ∀ p, Base w p → ISl EAct5 a0 c0 l0 p ∧ ∀ x ∈ l0, True) :
    Calls Try.prog 12 #[.slice a0 l0.length c0] w fun e w' => e = .returned (.bool true) ∧ Go.RowKit.Below w.heap.size w w' :=
  Spec.walk (P := Try.prog) (rangesfirst_walk) (by
    intro A hA p hp
    simp only [List.mem_cons, List.not_mem_nil, or_false] at hA
    rcases hA with rfl
    · exact (o0 p hp).1
  )
set_option maxRecDepth 100000 in
set_option maxHeartbeats 2000000 in
theorem lifted (os : Os) (started : os.Started) (H : Type) (enc : TypeId × Value → H) :
    ReturnsInHanded {} Try.checked os 12 .any (Rows.rangesFirstSpec.pre6 enc Try.prog Try.f12 Rows.rangesFirstRow.domain false) (Rows.rangesFirstSpec.post enc Try.prog Try.f12 false true false false) := by
  refine returnsInHanded_of_change_sized (C := Try.checked) own started (by kernel_rfl) Try.func12
    (ChangeSpec.witness6 (enc := enc) (C := Try.checked) false ⟨#[], #[.slice none 0 0], []⟩ 8 (by kernel_rfl) (by kernel_rfl) (by kernel_rfl) (by kernel_rfl)) ?_
  intro W base args ds gs before hval0 hW hcnd hsz0 _
  have hsz : (DataW.weightsEach Try.prog (Try.f12.params.toList ++ Rows.rangesFirstSpec.plain.varTypes Try.prog) (ds ++ gs)).all (· ≤ reachBytes) = true := hsz0
  have hval : ∀ (j : Nat) t v, Try.f12.params[j]? = some t → args[j]? = some v → Value.okWide Try.prog W .any base t v := hval0
  have hW' := hW
  obtain ⟨p, q, hA0, hV, rfl, hfz, hnd⟩ := hW
  have hA : DataW.TrodAll enc Try.prog W 0 (fun _ => true) true Try.f12.params.toList args.toList ds p := hA0
  rw [Try.params12] at hA hval hsz
  obtain ⟨v0, vs0, d0, ds0, p0, q0, hargs, rfl, rfl, h0, r0⟩ := trodAll_cons hA
  obtain ⟨rfl, rfl, rfl⟩ := trodAll_nil r0
  obtain rfl : args = #[v0] := by cases args; simp_all
  obtain ⟨rfl, rfl⟩ := trodVars_none hV
  obtain ⟨b0, len0, cap0, rfl⟩ := okWide_slice Try.underlying78 (hval 0 78 v0 rfl rfl)
  have k0 := h0
  have lt0 : ∀ x ∈ p0, x.block < W.heap.size := by obtain ⟨m, hm⟩ := k0; exact DataW.trod_lt m _ _ _ hm
  obtain ⟨fuel0, hf0⟩ := h0
  obtain ⟨⟨x0, c0, l0⟩, e0, ok0, o0⟩ := (Opens.slice Try.underlying78 (by kernel_rfl) (by decide) (B := 24) (by kernel_rfl) (opens_haulierlaw05_Act (P := Try.prog) ⟨rfl⟩)) fuel0 _ _ _ hf0 (fun m hm => by
    have := List.all_eq_true.1 hsz _ (DataW.weights_mem_each (j := 0) (t := 78) rfl rfl m hm)
    simpa using this)
  have e02 := (List.cons.inj e0).1
  simp only [Value.slice.injEq] at e02
  obtain ⟨rfl, rfl, rfl⟩ := e02
  clear hA0 hval0 hsz0 hsz
  refine (RangesFirst_walk W b0 cap0 l0 ok0 o0).mono fun e W' ⟨he, bel⟩ => ?_
  subst he
  exact ⟨_, rfl, _, _, _, [], _, [], hW', trodAll_mk1 (shut_bool Try.underlying4 _), (trodAll_cons_mk (Below.trod laidOut (by kernel_rfl) (of_decide_eq_true (by kernel_rfl)) k0 bel lt0) trodAll_mk0), rfl, bel.frame _, fun h => by cases h⟩
theorem over : Rows.rangesFirstRow.holds Try.pinned (OpenSpec.ofChange Rows.rangesFirstSpec) :=
  OpenClaim.holds_of_wide 12 Try.f12 rfl rfl rfl rfl rfl rfl rfl ⟨rfl, rfl, rfl, rfl, rfl⟩ rfl rfl rfl rfl rfl (by kernel_rfl) Try.func12 (by kernel_rfl)
    (of_decide_eq_true (by kernel_rfl)) (by unfold Func.isWrapper; first | (rw [if_pos (by decide +kernel)]; kernel_rfl) | (rw [if_neg (by decide +kernel)]; exact ⟨rfl, rfl⟩))
    (fun os started H enc _ => lifted os started H enc)
theorem proved : Rows.RangesFirstSaid := over
#print axioms proved
end Go.Proofs.Ytidmolpkcfhkaaa.rangesFirst
namespace Go.Proofs.Ytidmolpkcfhkaaa
/-- The row, under a short name, for the claim. -/
theorem rangesFirst_holds : Rows.RangesFirstSaid := rangesFirst.proved
end Go.Proofs.Ytidmolpkcfhkaaa
