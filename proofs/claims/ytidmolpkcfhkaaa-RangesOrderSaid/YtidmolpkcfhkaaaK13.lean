/- From an argument's data to what is known of the heap. -/
import Derived.Test.YtidmolpkcfhkaaaK12
import Derived.ChangeSlices
import Derived.SizedLaws
import Derived.Below
import Derived.Carry
namespace Go.Proofs.Ytidmolpkcfhkaaa
set_option linter.unusedSectionVars false
set_option linter.unusedVariables false
set_option linter.unusedSimpArgs false
open Go Go.RowKit

/-- A slice's head, its room and its elements. -/
structure Sl (α : Type) where
  a : Option Addr
  c : Nat
  xs : List α
/-- A cell that is a slice; B: the bytes of an element. -/
def ESl (α : Type) (B : Nat) : Enc (Sl α) := { sz := 1, f := fun s => [.slice s.a s.xs.length s.c], len := fun _ => rfl, one := fun _ => rfl, ok := fun s => s.xs.length ≤ s.c ∧ s.c ≤ 9223372036854775807 ∧ s.xs.length * B ≤ 140737488351232 }

def Opens {α : Type} (P : Program) (W : World) (t : TypeId) (E : Enc α) (A : α → HP) : Prop :=
  ∀ {H : Type} {enc : TypeId × Value → H} (n : Nat) (cs : List Value) (d : DataW H) (ps : List MemPlace), DataW.trod enc P W 0 (fun _ => true) true n t cs = some (d, ps) →
    (∀ m ∈ d.weights P t, m ≤ reachBytes) → ∃ x, cs = E.f x ∧ E.ok x ∧ ∀ p, Base W p → A x p

theorem wf_i64 {n : Int} (h : (Lit.int .i64 n).wf = true) : -9223372036854775808 ≤ n ∧ n ≤ 9223372036854775807 := by
  simp only [Lit.wf, Bool.and_eq_true, decide_eq_true_eq] at h
  exact h
theorem wf_u8 {n : Int} (h : (Lit.int .u8 n).wf = true) : 0 ≤ n ∧ n ≤ 255 := by
  simp only [Lit.wf, Bool.and_eq_true, decide_eq_true_eq] at h
  exact h

section
variable {P : Program} {W : World} {t e : TypeId} {α : Type}
theorem Opens.i64 (ht : P.underlying t = some (.int .i64)) : Opens P W t EI (fun _ _ => True) := by
  intro H enc n cs d ps h _
  obtain ⟨m, h1, h2, h3⟩ := DataW.trod_int ht h
  exact ⟨m, h1, wf_i64 h3, fun _ _ => trivial⟩
theorem Opens.u8 (ht : P.underlying t = some (.int .u8)) : Opens P W t EB (fun _ _ => True) := by
  intro H enc n cs d ps h _
  obtain ⟨m, h1, h2, h3⟩ := DataW.trod_int ht h
  exact ⟨m, h1, wf_u8 h3, fun _ _ => trivial⟩
theorem Opens.bool (ht : P.underlying t = some .bool) : Opens P W t EBo (fun _ _ => True) := by
  intro H enc n cs d ps h _
  obtain ⟨m, h1, h2⟩ := DataW.trod_bool ht h
  exact ⟨m, h1, trivial, fun _ _ => trivial⟩

theorem exists_list {Q : Nat → α → Prop} : ∀ (len : Nat), (∀ i, i < len → ∃ x, Q i x) → ∃ xs : List α, xs.length = len ∧ ∀ i x, xs[i]? = some x → Q i x
  | 0, _ => ⟨[], rfl, by simp⟩
  | len + 1, h => by
    obtain ⟨xs, h1, h2⟩ := exists_list len fun i hi => h i (by omega)
    obtain ⟨x, hx⟩ := h len (by omega)
    refine ⟨xs ++ [x], by simp [h1], ?_⟩
    intro i y hy
    rw [List.getElem?_append] at hy
    split at hy
    · exact h2 i y hy
    · rename_i hi
      have hi2 : i - xs.length = 0 := by
        rcases Nat.lt_or_ge (i - xs.length) 1 with h | h
        · omega
        · rw [List.getElem?_eq_none (by simpa using h)] at hy; cases hy
      rw [hi2] at hy
      simp at hy
      subst hy
      have : i = len := by omega
      rw [this]; exact hx

theorem cell_some {b : Addr} {v : Value} (h : W.cell? b = some v) : ∃ c T fr, W.heap[b.block]? = some (.cells c T fr) ∧ b.spot = none ∧ c[b.off]? = some v := by
  unfold World.cell? at h
  split at h
  · rename_i c T fr hc
    split at h
    · cases h
    · rename_i hs
      exact ⟨c, T, fr, hc, by simpa using hs, h⟩
  · cases h
theorem add_off (a : Addr) (n : Nat) : (a.add n).block = a.block ∧ (a.add n).off = a.off + n := by
  unfold Addr.add
  split
  · simp_all
  · exact ⟨rfl, rfl⟩
theorem weights_all {H : Type} {P : Program} {e : TypeId} {d : DataW H} : ∀ {ds : List (DataW H)}, d ∈ ds → ∀ m ∈ d.weights P e, m ∈ DataW.weightsAll P e ds
  | x :: ds, hd, m, hm => by
    simp only [DataW.weightsAll, List.mem_append]
    rcases List.mem_cons.1 hd with rfl | hd
    · exact .inl hm
    · exact .inr (weights_all hd m hm)

theorem Opens.slice {E : Enc α} {A : α → HP} (ht : P.underlying t = some (.slice e)) (hc : P.cellsOf e = E.sz) (hz : 0 < E.sz) {B : Nat} (hB : P.bytesOf e = B) (he : Opens P W e E A) :
    Opens P W t (ESl α B) (fun s p => ISl E s.a s.c s.xs p ∧ ∀ x ∈ s.xs, A x p) := by
  intro H enc n cs d ps h hw
  rcases DataW.trod_slice ht h with ⟨rfl, _⟩ | ⟨a, len, cap, elems, rest, m, _, rfl, hx, _, hl, hm, hlen, hel, _, _⟩
  · exact ⟨⟨none, 0, []⟩, rfl, ⟨by simp, by simp, by simp⟩, fun p _ => ⟨⟨by simp, by simp, .inl rfl⟩, by simp⟩⟩
  · obtain ⟨hx, _⟩ := Prod.mk.inj hx
    subst hx
    simp only [DataW.weights, ht, List.mem_cons, List.mem_append] at hw
    have key : ∀ i, i < len → ∃ x, W.cells? 0 (a.add (i * E.sz)) E.sz = some (E.f x) ∧ E.ok x ∧ ∀ p, Base W p → A x p := by
      intro i hi
      have h1 := hel i hi
      rw [List.getElem?_eq_getElem (by omega)] at h1
      obtain ⟨c1, h2, h3⟩ := Option.bind_eq_some_iff.1 h1
      obtain ⟨x, h4, h5, h6⟩ := he m c1 (elems[i]).1 (elems[i]).2 h3 (fun q hq => hw q (.inr (.inl (weights_all (List.mem_map_of_mem (List.getElem_mem _)) q hq))))
      rw [hc, h4] at h2
      exact ⟨x, h2, h5, h6⟩
    obtain ⟨xs, hxl, hxs⟩ := exists_list len key
    have hsz := hw _ (.inl rfl)
    rw [List.length_map, hB, hlen] at hsz
    have hcell : ∀ i x, xs[i]? = some x → ∀ j v, (E.f x)[j]? = some v → W.cell? ((a.add (i * E.sz)).add j) = some v := by
      intro i x hi j v hj
      have h1 := (hxs i x hi).1
      unfold World.cells? at h1
      rw [if_pos (by omega)] at h1
      have hjl : j < E.sz := by rw [← E.len x]; exact (List.getElem?_eq_some_iff.1 hj).1
      have := mapM_some_get h1 j j (by simp [hjl])
      rw [this]; exact hj
    refine ⟨⟨some a, cap, xs⟩, by show _ = [_]; rw [hxl], ⟨by show xs.length ≤ cap; omega, hm, ?_⟩, fun p hp => ⟨⟨?_, by show xs.length ≤ cap; omega, ?_⟩, ?_⟩⟩
    · show xs.length * B ≤ _
      have h3 : len * B ≤ (len + (rest.map (·.1)).length) * B := Nat.mul_le_mul_right _ (by omega)
      rw [hxl]
      have : reachBytes = 140737488351232 := rfl
      omega
    · intro x hx
      obtain ⟨i, hi⟩ := List.mem_iff_getElem?.1 hx
      exact (hxs i x hi).2.1
    · rcases xs with _ | ⟨x0, xr⟩
      · exact .inl rfl
      · right
        have h0l : 0 < (E.f x0).length := by rw [E.len]; exact hz
        obtain ⟨c, T, fr, hb, hs, _⟩ := cell_some (hcell 0 x0 rfl 0 _ (List.getElem?_eq_getElem h0l))
        have ha0 : (a.add (0 * E.sz)).add 0 = a := by simp [Addr.add]
        rw [ha0] at hb hs
        obtain ⟨ab, ao, sp⟩ := a
        simp only at hs
        subst hs
        refine ⟨ab, ao, c.toList, T, fr, rfl, hp ab _ hb, ?_⟩
        intro i x hi j v hj
        obtain ⟨c', T', fr', hb', _, hv⟩ := cell_some (hcell i x hi j v hj)
        rw [(add_off _ j).1, (add_off _ (i * E.sz)).1] at hb'
        rw [hb] at hb'
        cases hb'
        rw [(add_off _ j).2, (add_off _ (i * E.sz)).2] at hv
        simpa using hv
    · intro x hx
      obtain ⟨i, hi⟩ := List.mem_iff_getElem?.1 hx
      exact (hxs i x hi).2.2 p hp
end

section
variable {P : Program} {W : World}
theorem Sat.ofBase {H : List HP} (h : ∀ A ∈ H, ∀ p, Base W p → A p) : Sat W (H ++ [Base W]) := by
  have key : ∀ {H : List HP}, (∀ A ∈ H, ∀ p, Base W p → A p) → Sat W (Base W :: H) := by
    intro H
    induction H with
    | nil => intro _; exact Sat.base W
    | cons A H ih =>
      intro h
      have s := ih fun B hB => h B (by simp [hB])
      have s2 : Sat W (A :: Base W :: H) := (Ent.addP (Base.pers W) Pick.here (h A (by simp))).apply s
      have e2 : Ent (A :: Base W :: H) (Base W :: A :: H) := Ent.of (Pick.there Pick.here)
      exact e2.apply s2
  have := key h
  exact this.imp fun r hr => SatH.behind (F := []) (by simpa using hr)

/-- A law's walk, from its contract. -/
theorem Spec.walk {f : FuncId} {args : List Value} {H : List HP} (s : Spec P f args H fun r R => r = .bool true ∧ R = []) (h : ∀ A ∈ H, ∀ p, Base W p → A p) :
    Calls P f ⟨args⟩ W fun e w' => e = .returned (.bool true) ∧ Below W.heap.size W w' := by
  refine (s.calls [Base W] W (Sat.ofBase h)).mono ?_
  rintro e w' ⟨v, H', rfl, h2, h3, rfl, rfl⟩
  refine ⟨rfl, ⟨h3.os, h3.tape, h3.output, h3.size, fun k hk => ?_⟩⟩
  have hb : W.heap[k]? = some W.heap[k] := Array.getElem?_eq_getElem hk
  rw [hb]
  exact Sat.base_block (by simpa using h2) hb
end
end Go.Proofs.Ytidmolpkcfhkaaa
