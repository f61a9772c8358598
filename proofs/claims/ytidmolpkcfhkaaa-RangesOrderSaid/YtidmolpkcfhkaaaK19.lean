/- From a struct's data to what is known of the heap, field by field. -/
import Derived.Test.YtidmolpkcfhkaaaK13
namespace Go.Proofs.Ytidmolpkcfhkaaa
set_option linter.unusedSectionVars false
set_option linter.unusedVariables false
set_option linter.unusedSimpArgs false
open Go Go.RowKit
theorem allOne_app : ∀ {xs ys : List Value}, allOne xs = true → allOne ys = true → allOne (xs ++ ys) = true
  | [], _, _, h => h
  | x :: xs, ys, h, h2 => by
    simp only [allOne, List.cons_append, Bool.and_eq_true] at h ⊢
    exact ⟨h.1, allOne_app h.2 h2⟩
def EU : Enc Unit := { sz := 0, f := fun _ => [], len := fun _ => rfl, one := fun _ => rfl, ok := fun _ => True }
def EPr {α β : Type} (E : Enc α) (F : Enc β) : Enc (α × β) := { sz := E.sz + F.sz, f := fun x => E.f x.1 ++ F.f x.2, len := fun x => by rw [List.length_append, E.len, F.len], one := fun x => allOne_app (E.one x.1) (F.one x.2), ok := fun x => E.ok x.1 ∧ F.ok x.2 }
structure OpensF {α : Type} (P : Program) (W : World) (fs : List Field) (o : Nat) (E : Enc α) (A : α → HP) : Prop where
  out : ∀ {H : Type} {enc : TypeId × Value → H} (n : Nat) (cs : List Value) (xs : List (DataW H × List MemPlace)), cs.length = o + E.sz → xs.length = fs.length →
    (∀ (i : Nat) (f : Field), fs[i]? = some f → DataW.trod enc P W 0 (fun _ => true) true n f.type ((cs.drop f.offset).take (P.cellsOf f.type)) = xs[i]?) →
    (∀ m ∈ DataW.weightsEach P (fs.map (·.type)) (xs.map (·.1)), m ≤ reachBytes) → ∃ x, cs.drop o = E.f x ∧ E.ok x ∧ ∀ p, Base W p → A x p
section
variable {P : Program} {W : World} {t : TypeId} {α β : Type}
theorem OpensF.nil {o : Nat} : OpensF P W [] o EU (fun _ _ => True) := by
  refine ⟨?_⟩
  intro H enc n cs xs hl _ _ _
  exact ⟨(), List.drop_of_length_le (by rw [hl]; exact Nat.le_refl _), trivial, fun _ _ => trivial⟩
theorem OpensF.cons {f : Field} {fs : List Field} {o : Nat} {E : Enc α} {F : Enc β} {A : α → HP} {B : β → HP} (ho : f.offset = o) (hc : P.cellsOf f.type = E.sz) (h1 : Opens P W f.type E A) (h2 : OpensF P W fs (o + E.sz) F B) :
    OpensF P W (f :: fs) o (EPr E F) (fun x p => A x.1 p ∧ B x.2 p) := by
  refine ⟨?_⟩
  intro H enc n cs xs hl hx ht hw
  rcases xs with _ | ⟨x0, xs⟩
  · simp at hx
  have e0 := ht 0 f rfl
  rw [ho, hc, List.getElem?_cons_zero] at e0
  simp only [List.map_cons, DataW.weightsEach, List.mem_append] at hw
  obtain ⟨a, ha1, ha2, ha3⟩ := h1 n _ x0.1 x0.2 e0 (fun m hm => hw m (.inl hm))
  have hl' : cs.length = o + (E.sz + F.sz) := hl
  obtain ⟨b, hb1, hb2, hb3⟩ := h2.out n cs xs (by omega) (by simpa using hx) (fun i g hg => ht (i + 1) g hg) (fun m hm => hw m (.inr hm))
  refine ⟨(a, b), ?_, ⟨ha2, hb2⟩, fun p hp => ⟨ha3 p hp, hb3 p hp⟩⟩
  show cs.drop o = E.f a ++ F.f b
  rw [← ha1, ← hb1, ← List.drop_drop, List.take_append_drop]
theorem Opens.struct {fs : Array Field} {E : Enc α} {A : α → HP} (ht : P.underlying t = some (.struct fs)) (hc : P.cellsOf t = E.sz) (h : OpensF P W fs.toList 0 E A) : Opens P W t E A := by
  intro H enc n cs d ps hd hw
  obtain ⟨xs, m, rfl, hx, hl, hlen, hf⟩ := DataW.trod_struct ht hd
  obtain ⟨rfl, rfl⟩ := Prod.mk.inj hx
  simp only [DataW.weights, ht] at hw
  obtain ⟨x, h1, h2, h3⟩ := h.out m cs xs (by rw [hl, hc, Nat.zero_add]) (by simpa using hlen) (fun i f hi => hf i f (by simpa using hi)) hw
  exact ⟨x, by simpa using h1, h2, h3⟩
theorem Opens.map {E : Enc α} {F : Enc β} {A : α → HP} {B : β → HP} (h : Opens P W t E A) (g : α → β) (h1 : ∀ x, E.f x = F.f (g x)) (h2 : ∀ x, E.ok x → F.ok (g x)) (h3 : ∀ x p, A x p → B (g x) p) : Opens P W t F B := by
  intro H enc n cs d ps hd hw
  obtain ⟨x, g1, g2, g3⟩ := h n cs d ps hd hw
  exact ⟨g x, by rw [g1, h1], h2 x g2, fun p hp => h3 x p (g3 p hp)⟩
end
end Go.Proofs.Ytidmolpkcfhkaaa
