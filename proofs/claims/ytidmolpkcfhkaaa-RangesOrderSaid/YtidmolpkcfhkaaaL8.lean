/- RangesOrder: what the code computes. -/
import Derived.Test.YtidmolpkcfhkaaaL7
namespace Go.Proofs.Ytidmolpkcfhkaaa
set_option linter.unusedSectionVars false
set_option linter.unusedVariables false
set_option linter.unusedSimpArgs false
open Go
theorem cutP_count {k : Int} {r : Rg} (h : r.1 < r.2) : countM (cutP k (k + 1) r) = (r.2 - r.1) - (if r.1 ≤ k ∧ k < r.2 then 1 else 0) := by
  unfold cutP
  by_cases h1 : r.1 < k <;> by_cases h2 : k + 1 < r.2
  · rw [if_pos h1, if_pos h2]
    simp only [countM, List.cons_append, List.nil_append, List.map_cons, List.map_nil, List.sum_cons, List.sum_nil]
    rw [if_pos (by omega)]; omega
  · rw [if_pos h1, if_neg h2]
    simp only [countM, List.cons_append, List.append_nil, List.nil_append, List.map_cons, List.map_nil, List.sum_cons, List.sum_nil]
    split <;> omega
  · rw [if_neg h1, if_pos h2]
    simp only [countM, List.nil_append, List.map_cons, List.map_nil, List.sum_cons, List.sum_nil]
    split <;> omega
  · rw [if_neg h1, if_neg h2]
    simp only [countM, List.nil_append, List.map_nil, List.sum_nil]
    split <;> omega
theorem count_app (a b : List Rg) : countM (a ++ b) = countM a + countM b := by simp [countM]
theorem has_iff {l : List Rg} {k : Int} : hasM l k (k + 1) = true ↔ InR l k := by
  unfold hasM
  rw [decide_eq_false (by omega), Bool.false_or, List.any_eq_true]
  constructor
  · rintro ⟨r, hr, h⟩
    simp only [Bool.and_eq_true, decide_eq_true_eq] at h
    exact ⟨r, hr, h.1, by omega⟩
  · rintro ⟨r, hr, h1, h2⟩
    exact ⟨r, hr, by simp only [Bool.and_eq_true, decide_eq_true_eq]; omega⟩
theorem cut1_count : ∀ {l : List Rg} {k : Int}, Canon l → countM (l.flatMap (cutP k (k + 1))) = countM l - (if hasM l k (k + 1) = true then 1 else 0)
  | [], k, _ => by
    have : ¬ hasM [] k (k + 1) = true := by rw [has_iff]; exact InR.nil k
    rw [if_neg this]; simp [countM]
  | r :: l, k, h => by
    have ih := cut1_count (k := k) h.tail
    rw [List.flatMap_cons, count_app, ih, cutP_count h.head.2.1, count_cons]
    have e : (hasM (r :: l) k (k + 1) = true) ↔ ((r.1 ≤ k ∧ k < r.2) ∨ hasM l k (k + 1) = true) := by
      rw [has_iff, has_iff, InR.cons]
    by_cases h1 : r.1 ≤ k ∧ k < r.2
    · have h2 : ¬ hasM l k (k + 1) = true := by
        rw [has_iff]; intro h3; have := h.gt h3; omega
      rw [if_pos h1, if_neg h2, if_pos (e.2 (.inl h1))]; omega
    · by_cases h2 : hasM l k (k + 1) = true
      · rw [if_neg h1, if_pos h2, if_pos (e.2 (.inr h2))]; omega
      · rw [if_neg h1, if_neg h2, if_neg (fun h3 => (e.1 h3).elim h1 h2)]; omega
theorem cut_nil {l : List Rg} {f : Int} : cutM l f f = l := by unfold cutM; rw [if_neg (by omega)]
theorem cut_step {l : List Rg} (h : Canon l) {f k : Int} (h0 : 0 ≤ f) (h1 : f ≤ k) (h2 : k < 1099511627776) : countM (cutM l f (k + 1)) = countM (cutM l f k) - (if hasM l k (k + 1) = true then 1 else 0) := by
  have hc := cutM_canon h f k
  have e : cutM l f (k + 1) = (cutM l f k).flatMap (cutP k (k + 1)) := by
    refine (cutM_canon h _ _).ext (cut_canon (by omega) hc) fun x => ?_
    rw [cutM_mem h, cut_mem (by omega) hc, cutM_mem h]
    constructor
    · rintro ⟨h3, h4⟩; exact ⟨⟨h3, by omega⟩, by omega⟩
    · rintro ⟨⟨h3, h4⟩, h5⟩; exact ⟨h3, by omega⟩
  rw [e, cut1_count hc]
  have e2 : (hasM (cutM l f k) k (k + 1) = true) ↔ hasM l k (k + 1) = true := by
    rw [has_iff, has_iff, cutM_mem h]
    exact ⟨And.left, fun h3 => ⟨h3, by omega⟩⟩
  by_cases h3 : hasM l k (k + 1) = true
  · rw [if_pos h3, if_pos (e2.2 h3)]
  · rw [if_neg h3, if_neg (fun h4 => h3 (e2.1 h4))]
theorem has_all : ∀ {l : List Rg} {f t : Int}, Canon l → (∀ x, f ≤ x → x < t → InR l x) → f < t → ∃ r ∈ l, r.1 ≤ f ∧ t ≤ r.2
  | [], f, t, _, h, h1 => absurd (h f (by omega) h1) (InR.nil f)
  | q :: l, f, t, hc, h, h1 => by
    rcases InR.cons.1 (h f (by omega) h1) with h2 | h2
    · by_cases h3 : t ≤ q.2
      · exact ⟨q, by simp, h2.1, h3⟩
      · rcases InR.cons.1 (h q.2 (by omega) (by omega)) with h4 | h4
        · omega
        · have := hc.gt h4; omega
    · have h3 := hc.gt h2
      obtain ⟨r, hr, h4⟩ := has_all (f := f) (t := t) hc.tail (fun x hx hx2 => by
        rcases InR.cons.1 (h x hx hx2) with h5 | h5
        · omega
        · exact h5) h1
      exact ⟨r, by simp [hr], h4⟩
theorem has_add {l : List Rg} (h : Canon l) {f t : Int} (h0 : 0 ≤ f) (h1 : t ≤ 1099511627776) : hasM (addM l f t) f t = true := by
  unfold hasM
  by_cases h2 : t ≤ f
  · rw [decide_eq_true h2, Bool.true_or]
  · obtain ⟨r, hr, h3, h4⟩ := has_all (f := f) (t := t) (addM_canon h f t) (fun x hx hx2 => (addM_mem h f t x).2 (.inr (by omega))) (by omega)
    rw [Bool.or_eq_true]
    right
    rw [List.any_eq_true]
    exact ⟨r, hr, by simp only [Bool.and_eq_true, decide_eq_true_eq]; exact ⟨h3, h4⟩⟩
theorem add_cut {l : List Rg} (h : Canon l) (f t : Int) : addM (cutM l f t) f t = addM l f t := by
  refine (addM_canon (cutM_canon h _ _) _ _).ext (addM_canon h _ _) fun x => ?_
  rw [addM_mem (cutM_canon h _ _), cutM_mem h, addM_mem h]
  constructor
  · rintro (h1 | h1)
    · exact .inl h1.1
    · exact .inr h1
  · rintro (h1 | h1)
    · have := InR.bd h h1
      by_cases h2 : f ≤ x ∧ x < t
      · exact .inr (by omega)
      · exact .inl ⟨h1, h2⟩
    · exact .inr h1
/-- The places of one step. -/
def stepM (xs : List Act5) (j : Nat) (x : Int) : Prop := ∃ q, xs[j]? = some q ∧ q.frm % 90 ≤ x ∧ x < q.frm % 90 + q.to % 12
theorem add_step {l : List Rg} (h : Canon l) {q : Act5} (x : Int) : InR (addM l (q.frm % 90) (q.frm % 90 + q.to % 12)) x ↔ InR l x ∨ (q.frm % 90 ≤ x ∧ x < q.frm % 90 + q.to % 12) := by
  rw [addM_mem h]
  constructor
  · rintro (h1 | h1)
    · exact .inl h1
    · exact .inr (by omega)
  · rintro (h1 | h1)
    · exact .inl h1
    · exact .inr (by omega)
theorem step_up {xs : List Act5} {i : Nat} {q : Act5} (hq : xs[i]? = some q) {l : List Rg} (hc : Canon l) (h : ∀ x, InR l x ↔ ∃ j, j < i ∧ stepM xs j x) (x : Int) : InR (addM l (q.frm % 90) (q.frm % 90 + q.to % 12)) x ↔ ∃ j, j < i + 1 ∧ stepM xs j x := by
  rw [add_step hc, h]
  constructor
  · rintro (⟨j, h1, h2⟩ | h1)
    · exact ⟨j, by omega, h2⟩
    · exact ⟨i, by omega, q, hq, h1⟩
  · rintro ⟨j, h1, h2⟩
    by_cases h3 : j = i
    · subst h3
      obtain ⟨q', h4, h5⟩ := h2
      rw [hq] at h4
      cases h4
      exact .inr h5
    · exact .inl ⟨j, by omega, h2⟩
theorem step_down {xs : List Act5} {n i : Nat} (hi : i < n) {q : Act5} (hq : xs[n - 1 - i]? = some q) {l : List Rg} (hc : Canon l) (h : ∀ x, InR l x ↔ ∃ j, (j < n ∧ n - 1 - j < i) ∧ stepM xs j x) (x : Int) :
    InR (addM (addM l (q.frm % 90) (q.frm % 90 + q.to % 12)) (q.frm % 90) (q.frm % 90 + q.to % 12)) x ↔ ∃ j, (j < n ∧ n - 1 - j < i + 1) ∧ stepM xs j x := by
  rw [add_step (addM_canon hc _ _), add_step hc, h]
  constructor
  · rintro ((⟨j, h1, h2⟩ | h1) | h1)
    · exact ⟨j, by omega, h2⟩
    · exact ⟨n - 1 - i, by omega, q, hq, h1⟩
    · exact ⟨n - 1 - i, by omega, q, hq, h1⟩
  · rintro ⟨j, h1, h2⟩
    by_cases h3 : j = n - 1 - i
    · subst h3
      obtain ⟨q', h4, h5⟩ := h2
      rw [hq] at h4
      cases h4
      exact .inr h5
    · exact .inl (.inl ⟨j, by omega, h2⟩)
theorem same_sets {xs : List Act5} {n : Nat} {a b : List Rg} (ha : Canon a) (hb : Canon b) (h1 : ∀ x, InR a x ↔ ∃ j, j < n ∧ stepM xs j x) (h2 : ∀ x, InR b x ↔ ∃ j, (j < n ∧ n - 1 - j < n) ∧ stepM xs j x) : a = b := by
  refine ha.ext hb fun x => ?_
  rw [h1, h2]
  constructor
  · rintro ⟨j, h3, h4⟩; exact ⟨j, ⟨h3, by omega⟩, h4⟩
  · rintro ⟨j, h3, h4⟩; exact ⟨j, h3.1, h4⟩
end Go.Proofs.Ytidmolpkcfhkaaa
