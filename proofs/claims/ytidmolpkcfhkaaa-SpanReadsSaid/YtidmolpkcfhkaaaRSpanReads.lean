/- The statement SpanReads holds for every input: what is read of any bytes, field by field; its place; when it is bad. -/
import Derived.Test.YtidmolpkcfhkaaaRows
import Derived.Test.YtidmolpkcfhkaaaK13
import Derived.Test.YtidmolpkcfhkaaaL4
import Derived.WalkKit
import Derived.ProofKit
import Derived.OpenShut
import Derived.ShutString
import Derived.ChangeOld
import Derived.Below
import Derived.SizedLaws
namespace Go.Proofs.Ytidmolpkcfhkaaa.spanReads
set_option linter.unusedSectionVars false
set_option linter.unusedVariables false
set_option linter.unusedSimpArgs false
open Go.ChangeShapes Go.WideShapes Go.ChangeAt Go.RowKit
open Go.ChangeMaps (open_string shut_string)
set_option linter.unusedVariables false
theorem own : ownKnob Try.prog.godebug = none := by kernel_rfl
theorem laidOut : laidOutB Try.prog = true := by kernel_rfl
instance inst : IsP Try.prog := ⟨rfl⟩
theorem SpanReads_walk (w : World) (a0 : Option Addr) (c0 : Nat) (l0 : List Int) (k0 : (ESl Int 1).ok ⟨a0, c0, l0⟩) (a1 : Option Addr) (c1 : Nat) (l1 : List Int) (k1 : (ESl Int 8).ok ⟨a1, c1, l1⟩) (a2 : Option Addr) (c2 : Nat) (l2 : List (Sl Int)) (k2 : (ESl (Sl Int) 24).ok ⟨a2, c2, l2⟩) (a3 : Option Addr) (c3 : Nat) (l3 : List Int) (k3 : (ESl Int 8).ok ⟨a3, c3, l3⟩) (x4 : Bool)
    (o0 : ∀ p, Base w p → ISl EB a0 c0 l0 p ∧ ∀ x ∈ l0, True) (o1 : ∀ p, Base w p → ISl EI a1 c1 l1 p ∧ ∀ x ∈ l1, True) (o2 : ∀ p, Base w p → ISl (ESl Int 1) a2 c2 l2 p ∧ ∀ x ∈ l2, (ISl EB x.a x.c x.xs p ∧ ∀ y ∈ x.xs, True)) (o3 : ∀ p, Base w p → ISl EI a3 c3 l3 p ∧ ∀ x ∈ l3, True) :
    Calls Try.prog 7 #[.slice a0 l0.length c0, .slice a1 l1.length c1, .slice a2 l2.length c2, .slice a3 l3.length c3, .bool x4] w fun e w' => e = .returned (.bool true) ∧ Go.RowKit.Below w.heap.size w w' :=
  Spec.walk (P := Try.prog) (spanreads_walk (by have : l0.length * 1 ≤ 140737488351232 := k0.2.2; omega) x4) (by
    intro A hA p hp
    simp only [List.mem_cons, List.not_mem_nil, or_false] at hA
    rcases hA with rfl | rfl | rfl | rfl | rfl
    · exact (o0 p hp).1
    · exact (o1 p hp).1
    · exact (o2 p hp).1
    · exact fun x hx => ((o2 p hp).2 x hx).1
    · exact (o3 p hp).1
  )
set_option maxRecDepth 100000 in
set_option maxHeartbeats 2000000 in
theorem lifted (os : Os) (started : os.Started) (H : Type) (enc : TypeId × Value → H) :
    ReturnsInHanded {} Try.checked os 7 .any (Rows.spanReadsSpec.pre6 enc Try.prog Try.f7 Rows.spanReadsRow.domain false) (Rows.spanReadsSpec.post enc Try.prog Try.f7 false true false false) := by
  refine returnsInHanded_of_change_sized (C := Try.checked) own started (by kernel_rfl) Try.func7
    (ChangeSpec.witness6 (enc := enc) (C := Try.checked) false ⟨#[], #[.slice none 0 0, .slice none 0 0, .slice none 0 0, .slice none 0 0, .bool false], []⟩ 8 (by kernel_rfl) (by kernel_rfl) (by kernel_rfl) (by kernel_rfl)) ?_
  intro W base args ds gs before hval0 hW hcnd hsz0 _
  have hsz : (DataW.weightsEach Try.prog (Try.f7.params.toList ++ Rows.spanReadsSpec.plain.varTypes Try.prog) (ds ++ gs)).all (· ≤ reachBytes) = true := hsz0
  have hval : ∀ (j : Nat) t v, Try.f7.params[j]? = some t → args[j]? = some v → Value.okWide Try.prog W .any base t v := hval0
  have hW' := hW
  obtain ⟨p, q, hA0, hV, rfl, hfz, hnd⟩ := hW
  have hA : DataW.TrodAll enc Try.prog W 0 (fun _ => true) true Try.f7.params.toList args.toList ds p := hA0
  rw [Try.params7] at hA hval hsz
  obtain ⟨v0, vs0, d0, ds0, p0, q0, hargs, rfl, rfl, h0, r0⟩ := trodAll_cons hA
  obtain ⟨v1, vs1, d1, ds1, p1, q1, rfl, rfl, rfl, h1, r1⟩ := trodAll_cons r0
  obtain ⟨v2, vs2, d2, ds2, p2, q2, rfl, rfl, rfl, h2, r2⟩ := trodAll_cons r1
  obtain ⟨v3, vs3, d3, ds3, p3, q3, rfl, rfl, rfl, h3, r3⟩ := trodAll_cons r2
  obtain ⟨v4, vs4, d4, ds4, p4, q4, rfl, rfl, rfl, h4, r4⟩ := trodAll_cons r3
  obtain ⟨rfl, rfl, rfl⟩ := trodAll_nil r4
  obtain rfl : args = #[v0, v1, v2, v3, v4] := by cases args; simp_all
  obtain ⟨rfl, rfl⟩ := trodVars_none hV
  obtain ⟨b0, len0, cap0, rfl⟩ := okWide_slice Try.underlying23 (hval 0 23 v0 rfl rfl)
  have k0 := h0
  have lt0 : ∀ x ∈ p0, x.block < W.heap.size := by obtain ⟨m, hm⟩ := k0; exact DataW.trod_lt m _ _ _ hm
  obtain ⟨fuel0, hf0⟩ := h0
  obtain ⟨⟨x0, c0, l0⟩, e0, ok0, o0⟩ := (Opens.slice Try.underlying23 (by kernel_rfl) (by decide) (B := 1) (by kernel_rfl) (Opens.u8 Try.underlying5)) fuel0 _ _ _ hf0 (fun m hm => by
    have := List.all_eq_true.1 hsz _ (DataW.weights_mem_each (j := 0) (t := 23) rfl rfl m hm)
    simpa using this)
  have e02 := (List.cons.inj e0).1
  simp only [Value.slice.injEq] at e02
  obtain ⟨rfl, rfl, rfl⟩ := e02
  obtain ⟨b1, len1, cap1, rfl⟩ := okWide_slice Try.underlying22 (hval 1 22 v1 rfl rfl)
  have k1 := h1
  have lt1 : ∀ x ∈ p1, x.block < W.heap.size := by obtain ⟨m, hm⟩ := k1; exact DataW.trod_lt m _ _ _ hm
  obtain ⟨fuel1, hf1⟩ := h1
  obtain ⟨⟨x1, c1, l1⟩, e1, ok1, o1⟩ := (Opens.slice Try.underlying22 (by kernel_rfl) (by decide) (B := 8) (by kernel_rfl) (Opens.i64 Try.underlying3)) fuel1 _ _ _ hf1 (fun m hm => by
    have := List.all_eq_true.1 hsz _ (DataW.weights_mem_each (j := 1) (t := 22) rfl rfl m hm)
    simpa using this)
  have e12 := (List.cons.inj e1).1
  simp only [Value.slice.injEq] at e12
  obtain ⟨rfl, rfl, rfl⟩ := e12
  obtain ⟨b2, len2, cap2, rfl⟩ := okWide_slice Try.underlying35 (hval 2 35 v2 rfl rfl)
  have k2 := h2
  have lt2 : ∀ x ∈ p2, x.block < W.heap.size := by obtain ⟨m, hm⟩ := k2; exact DataW.trod_lt m _ _ _ hm
  obtain ⟨fuel2, hf2⟩ := h2
  obtain ⟨⟨x2, c2, l2⟩, e2, ok2, o2⟩ := (Opens.slice Try.underlying35 (by kernel_rfl) (by decide) (B := 24) (by kernel_rfl) (Opens.slice Try.underlying23 (by kernel_rfl) (by decide) (B := 1) (by kernel_rfl) (Opens.u8 Try.underlying5))) fuel2 _ _ _ hf2 (fun m hm => by
    have := List.all_eq_true.1 hsz _ (DataW.weights_mem_each (j := 2) (t := 35) rfl rfl m hm)
    simpa using this)
  have e22 := (List.cons.inj e2).1
  simp only [Value.slice.injEq] at e22
  obtain ⟨rfl, rfl, rfl⟩ := e22
  obtain ⟨b3, len3, cap3, rfl⟩ := okWide_slice Try.underlying22 (hval 3 22 v3 rfl rfl)
  have k3 := h3
  have lt3 : ∀ x ∈ p3, x.block < W.heap.size := by obtain ⟨m, hm⟩ := k3; exact DataW.trod_lt m _ _ _ hm
  obtain ⟨fuel3, hf3⟩ := h3
  obtain ⟨⟨x3, c3, l3⟩, e3, ok3, o3⟩ := (Opens.slice Try.underlying22 (by kernel_rfl) (by decide) (B := 8) (by kernel_rfl) (Opens.i64 Try.underlying3)) fuel3 _ _ _ hf3 (fun m hm => by
    have := List.all_eq_true.1 hsz _ (DataW.weights_mem_each (j := 3) (t := 22) rfl rfl m hm)
    simpa using this)
  have e32 := (List.cons.inj e3).1
  simp only [Value.slice.injEq] at e32
  obtain ⟨rfl, rfl, rfl⟩ := e32
  obtain ⟨a4, rfl, rfl, rfl⟩ := open_bool Try.underlying4 (hval 4 4 v4 rfl rfl) h4
  clear hA0 hval0 hsz0 hsz
  refine (SpanReads_walk W b0 cap0 l0 ok0 b1 cap1 l1 ok1 b2 cap2 l2 ok2 b3 cap3 l3 ok3 a4 o0 o1 o2 o3).mono fun e W' ⟨he, bel⟩ => ?_
  subst he
  exact ⟨_, rfl, _, _, _, [], _, [], hW', trodAll_mk1 (shut_bool Try.underlying4 _), (trodAll_cons_mk (Below.trod laidOut (by kernel_rfl) (of_decide_eq_true (by kernel_rfl)) k0 bel lt0) (trodAll_cons_mk (Below.trod laidOut (by kernel_rfl) (of_decide_eq_true (by kernel_rfl)) k1 bel lt1) (trodAll_cons_mk (Below.trod laidOut (by kernel_rfl) (of_decide_eq_true (by kernel_rfl)) k2 bel lt2) (trodAll_cons_mk (Below.trod laidOut (by kernel_rfl) (of_decide_eq_true (by kernel_rfl)) k3 bel lt3) (trodAll_cons_mk (shut_bool Try.underlying4 _) trodAll_mk0))))), rfl, bel.frame _, fun h => by cases h⟩
theorem over : Rows.spanReadsRow.holds Try.pinned (OpenSpec.ofChange Rows.spanReadsSpec) :=
  OpenClaim.holds_of_wide 7 Try.f7 rfl rfl rfl rfl rfl rfl rfl ⟨rfl, rfl, rfl, rfl, rfl⟩ rfl rfl rfl rfl rfl (by kernel_rfl) Try.func7 (by kernel_rfl)
    (of_decide_eq_true (by kernel_rfl)) (by unfold Func.isWrapper; first | (rw [if_pos (by decide +kernel)]; kernel_rfl) | (rw [if_neg (by decide +kernel)]; exact ⟨rfl, rfl⟩))
    (fun os started H enc _ => lifted os started H enc)
theorem proved : Rows.SpanReadsSaid := over
#print axioms proved
end Go.Proofs.Ytidmolpkcfhkaaa.spanReads
namespace Go.Proofs.Ytidmolpkcfhkaaa
/-- The row, under a short name, for the claim. -/
theorem spanReads_holds : Rows.SpanReadsSaid := spanReads.proved
end Go.Proofs.Ytidmolpkcfhkaaa
