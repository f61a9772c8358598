/- Plain law: sets of places as rising ranges. -/
import Derived.Test.YtidmolpkcfhkaaaK1
namespace Go.Proofs.Ytidmolpkcfhkaaa
set_option linter.unusedSectionVars false
set_option linter.unusedVariables false
set_option linter.unusedSimpArgs false
abbrev Rg := Int × Int
def RgOk (r : Rg) : Prop := 0 ≤ r.1 ∧ r.1 < r.2 ∧ r.2 ≤ 1099511627776
structure Canon (l : List Rg) : Prop where
  ok : ∀ r ∈ l, RgOk r
  sep : l.Pairwise fun a b => a.2 < b.1
def InR (l : List Rg) (x : Int) : Prop := ∃ r ∈ l, r.1 ≤ x ∧ x < r.2
theorem InR.nil (x : Int) : ¬ InR [] x := by rintro ⟨r, hr, _⟩; cases hr
theorem InR.cons {r : Rg} {l : List Rg} {x : Int} : InR (r :: l) x ↔ (r.1 ≤ x ∧ x < r.2) ∨ InR l x := by
  unfold InR; simp
theorem InR.app {l m : List Rg} {x : Int} : InR (l ++ m) x ↔ InR l x ∨ InR m x := by
  unfold InR; simp only [List.mem_append]
  constructor
  · rintro ⟨r, h | h, g⟩
    · exact .inl ⟨r, h, g⟩
    · exact .inr ⟨r, h, g⟩
  · rintro (⟨r, h, g⟩ | ⟨r, h, g⟩)
    · exact ⟨r, .inl h, g⟩
    · exact ⟨r, .inr h, g⟩
theorem InR.perm {l m : List Rg} (h : l.Perm m) {x : Int} : InR l x ↔ InR m x := by
  unfold InR; simp only [h.mem_iff]
theorem Canon.nil : Canon [] := ⟨by simp, by simp⟩
theorem Canon.tail {r : Rg} {l : List Rg} (h : Canon (r :: l)) : Canon l := ⟨fun q hq => h.ok q (by simp [hq]), (List.pairwise_cons.1 h.sep).2⟩
theorem Canon.head {r : Rg} {l : List Rg} (h : Canon (r :: l)) : RgOk r := h.ok r (by simp)
theorem Canon.gt {r : Rg} {l : List Rg} (h : Canon (r :: l)) {x : Int} (hx : InR l x) : r.2 < x := by
  obtain ⟨q, hq, h1, _⟩ := hx
  have := (List.pairwise_cons.1 h.sep).1 q hq
  omega
theorem Canon.ge {r : Rg} {l : List Rg} (h : Canon (r :: l)) {x : Int} (hx : InR (r :: l) x) : r.1 ≤ x := by
  rcases InR.cons.1 hx with h1 | h1
  · exact h1.1
  · have := h.gt h1
    have := h.head.2.1
    omega
/-- Which places there are tells the ranges. -/
theorem Canon.ext : ∀ {l m : List Rg}, Canon l → Canon m → (∀ x, InR l x ↔ InR m x) → l = m
  | [], [], _, _, _ => rfl
  | [], b :: m, _, hm, h => by
    have hb := hm.head
    exact absurd ((h b.1).2 (InR.cons.2 (.inl ⟨by omega, hb.2.1⟩))) (InR.nil _)
  | a :: l, [], hl, _, h => by
    have ha := hl.head
    exact absurd ((h a.1).1 (InR.cons.2 (.inl ⟨by omega, ha.2.1⟩))) (InR.nil _)
  | a :: l, b :: m, hl, hm, h => by
    have ha := hl.head
    have hb := hm.head
    have e1 : a.1 = b.1 := by
      have h1 := hm.ge ((h a.1).1 (InR.cons.2 (.inl ⟨by omega, ha.2.1⟩)))
      have h2 := hl.ge ((h b.1).2 (InR.cons.2 (.inl ⟨by omega, hb.2.1⟩)))
      omega
    have e2 : a.2 = b.2 := by
      rcases Int.lt_trichotomy a.2 b.2 with h1 | h1 | h1
      · rcases InR.cons.1 ((h a.2).2 (InR.cons.2 (.inl ⟨by have := ha.2.1; omega, h1⟩))) with h2 | h2
        · omega
        · have := hl.gt h2; omega
      · exact h1
      · rcases InR.cons.1 ((h b.2).1 (InR.cons.2 (.inl ⟨by have := hb.2.1; omega, h1⟩))) with h2 | h2
        · omega
        · have := hm.gt h2; omega
    have e : a = b := Prod.ext e1 e2
    subst e
    congr 1
    refine Canon.ext hl.tail hm.tail fun x => ⟨fun hx => ?_, fun hx => ?_⟩
    · rcases InR.cons.1 ((h x).1 (InR.cons.2 (.inr hx))) with h2 | h2
      · have := hl.gt hx; omega
      · exact h2
    · rcases InR.cons.1 ((h x).2 (InR.cons.2 (.inr hx))) with h2 | h2
      · have := hm.gt hx; omega
      · exact h2

/- Adding. -/
def addFold : Int → Int → List Rg → List Rg × Int × Int
  | f, t, [] => ([], f, t)
  | f, t, r :: l => if r.2 < f ∨ t < r.1 then (r :: (addFold f t l).1, (addFold f t l).2) else addFold (min f r.1) (max t r.2) l
theorem addFold_right : ∀ {l : List Rg} {f t : Int}, (∀ r ∈ l, t < r.1) → addFold f t l = (l, f, t)
  | [], _, _, _ => rfl
  | r :: l, f, t, h => by
    rw [addFold, if_pos (.inr (h r (by simp))), addFold_right fun q hq => h q (by simp [hq])]
structure AddOk (l : List Rg) (f t : Int) (o : List Rg) (f' t' : Int) : Prop where
  sub : ∀ r ∈ o, r ∈ l
  sep : o.Pairwise fun a b => a.2 < b.1
  lo : f' = f ∨ ∃ r ∈ l, f' = r.1
  ok : 0 ≤ f' ∧ f' < t' ∧ t' ≤ 1099511627776
  apart : ∀ r ∈ o, r.2 < f' ∨ t' < r.1
  mem : ∀ x, (InR o x ∨ (f' ≤ x ∧ x < t')) ↔ (InR l x ∨ (f ≤ x ∧ x < t))
theorem addFold_ok : ∀ {l : List Rg} {f t : Int}, Canon l → 0 ≤ f → f < t → t ≤ 1099511627776 → AddOk l f t (addFold f t l).1 (addFold f t l).2.1 (addFold f t l).2.2
  | [], f, t, _, h0, h1, h2 => ⟨by simp [addFold], by simp [addFold], .inl rfl, ⟨h0, h1, h2⟩, by simp [addFold], fun x => Iff.rfl⟩
  | r :: l, f, t, hc, h0, h1, h2 => by
    have hr := hc.head
    rw [addFold]
    by_cases hA : r.2 < f
    · rw [if_pos (.inl hA)]
      have ih := addFold_ok hc.tail h0 h1 h2
      refine ⟨?_, ?_, ?_, ih.ok, ?_, ?_⟩
      · intro q hq
        rcases List.mem_cons.1 hq with rfl | hq
        · simp
        · simp [ih.sub q hq]
      · exact List.pairwise_cons.2 ⟨fun q hq => (List.pairwise_cons.1 hc.sep).1 q (ih.sub q hq), ih.sep⟩
      · rcases ih.lo with h | ⟨q, hq, h⟩
        · exact .inl h
        · exact .inr ⟨q, by simp [hq], h⟩
      · intro q hq
        rcases List.mem_cons.1 hq with rfl | hq
        · left
          rcases ih.lo with h | ⟨q', hq', h⟩
          · rw [h]; exact hA
          · rw [h]; exact (List.pairwise_cons.1 hc.sep).1 q' hq'
        · exact ih.apart q hq
      · intro x
        simp only [InR.cons]
        have := ih.mem x
        constructor
        · rintro ((h | h) | h)
          · exact .inl (.inl h)
          · rcases this.1 (.inl h) with h | h
            · exact .inl (.inr h)
            · exact .inr h
          · rcases this.1 (.inr h) with h | h
            · exact .inl (.inr h)
            · exact .inr h
        · rintro ((h | h) | h)
          · exact .inl (.inl h)
          · rcases this.2 (.inl h) with h | h
            · exact .inl (.inr h)
            · exact .inr h
          · rcases this.2 (.inr h) with h | h
            · exact .inl (.inr h)
            · exact .inr h
    · by_cases hB : t < r.1
      · have hall : ∀ q ∈ l, t < q.1 := fun q hq => by have := (List.pairwise_cons.1 hc.sep).1 q hq; have := hr.2.1; omega
        rw [if_pos (.inr hB), addFold_right hall]
        refine ⟨fun q hq => hq, hc.sep, .inl rfl, ⟨h0, h1, h2⟩, ?_, fun x => Iff.rfl⟩
        intro q hq
        rcases List.mem_cons.1 hq with rfl | hq
        · exact .inr hB
        · exact .inr (hall q hq)
      · rw [if_neg (by omega)]
        obtain ⟨g1, g2, g3⟩ := hr
        have ih := addFold_ok (f := min f r.1) (t := max t r.2) hc.tail (by omega) (by omega) (by omega)
        refine ⟨fun q hq => by simp [ih.sub q hq], ih.sep, ?_, ih.ok, ih.apart, ?_⟩
        · rcases ih.lo with h | ⟨q, hq, h⟩
          · rcases (show min f r.1 = f ∨ min f r.1 = r.1 by omega) with h' | h'
            · exact .inl (h.trans h')
            · exact .inr ⟨r, by simp, h.trans h'⟩
          · exact .inr ⟨q, by simp [hq], h⟩
        · intro x
          rw [ih.mem x, InR.cons]
          constructor
          · rintro (h | h)
            · exact .inl (.inr h)
            · rcases (show (r.1 ≤ x ∧ x < r.2) ∨ (f ≤ x ∧ x < t) by omega) with h | h
              · exact .inl (.inl h)
              · exact .inr h
          · rintro ((h | h) | h)
            · exact .inr (by omega)
            · exact .inl h
            · exact .inr (by omega)
theorem canon_of_perm {xs ys : List Rg} (hp : ys.Perm xs) (hs : ys.Pairwise fun a b => ¬ b.1 < a.1) (hok : ∀ r ∈ xs, RgOk r) (hsep : xs.Pairwise fun a b => a.2 < b.1 ∨ b.2 < a.1) : Canon ys := by
  have hok' : ∀ r ∈ ys, RgOk r := fun r hr => hok r (hp.mem_iff.1 hr)
  refine ⟨hok', ?_⟩
  have h2 : ys.Pairwise fun a b => a.2 < b.1 ∨ b.2 < a.1 := (hp.pairwise_iff (fun h => h.symm)).2 hsep
  refine (List.Pairwise.and_mem.1 (hs.and h2)).imp ?_
  rintro a b ⟨ha, hb, h3, h4⟩
  have := (hok' a ha).2.1
  have := (hok' b hb).2.1
  omega
/-- As the document adds. -/
def raddF : Int → Int → Bool → List Rg → List Rg
  | f, t, dn, [] => if dn = true then [] else [(f, t)]
  | f, t, dn, r :: l => if r.2 < f then r :: raddF f t dn l else if t < r.1 then (if dn = true then r :: raddF f t true l else (f, t) :: r :: raddF f t true l) else raddF (min f r.1) (max t r.2) dn l
theorem raddF_done : ∀ {l : List Rg} {f t : Int}, f < t → (∀ r ∈ l, t < r.1 ∧ r.1 < r.2) → raddF f t true l = l
  | [], _, _, _, _ => rfl
  | r :: l, f, t, h0, h => by
    have h1 := h r (by simp)
    rw [raddF, if_neg (by omega), if_pos h1.1, if_pos rfl, raddF_done h0 fun q hq => h q (by simp [hq])]
theorem radd_ok : ∀ {l : List Rg} {f t : Int}, Canon l → 0 ≤ f → f < t → t ≤ 1099511627776 →
    Canon (raddF f t false l) ∧ (∀ q ∈ raddF f t false l, q.1 = f ∨ ∃ r ∈ l, q.1 = r.1) ∧ ∀ x, InR (raddF f t false l) x ↔ (InR l x ∨ (f ≤ x ∧ x < t))
  | [], f, t, _, h0, h1, h2 => by
    rw [raddF, if_neg (by simp)]
    refine ⟨⟨?_, by simp⟩, by simp, fun x => ?_⟩
    · intro r hr; rw [List.mem_singleton] at hr; subst hr; exact ⟨h0, h1, h2⟩
    · rw [InR.cons]; simp [InR.nil]
  | r :: l, f, t, hc, h0, h1, h2 => by
    have hr := hc.head
    rw [raddF]
    by_cases hA : r.2 < f
    · rw [if_pos hA]
      obtain ⟨i1, i2, i3⟩ := radd_ok hc.tail h0 h1 h2
      refine ⟨⟨?_, ?_⟩, ?_, ?_⟩
      · intro q hq
        rcases List.mem_cons.1 hq with rfl | hq
        · exact hr
        · exact i1.ok q hq
      · refine List.pairwise_cons.2 ⟨fun q hq => ?_, i1.sep⟩
        rcases i2 q hq with h | ⟨q', hq', h⟩
        · omega
        · rw [h]; exact (List.pairwise_cons.1 hc.sep).1 q' hq'
      · intro q hq
        rcases List.mem_cons.1 hq with rfl | hq
        · exact .inr ⟨q, by simp, rfl⟩
        · rcases i2 q hq with h | ⟨q', hq', h⟩
          · exact .inl h
          · exact .inr ⟨q', by simp [hq'], h⟩
      · intro x
        rw [InR.cons, i3 x, InR.cons, or_assoc]
    · rw [if_neg hA]
      by_cases hB : t < r.1
      · have hall : ∀ q ∈ l, t < q.1 ∧ q.1 < q.2 := fun q hq => by
          have := (List.pairwise_cons.1 hc.sep).1 q hq
          have h3 := hc.ok q (by simp [hq])
          exact ⟨by have := hr.2.1; omega, h3.2.1⟩
        rw [if_pos hB, if_neg (by simp), raddF_done h1 hall]
        refine ⟨⟨?_, ?_⟩, ?_, ?_⟩
        · intro q hq
          rcases List.mem_cons.1 hq with rfl | hq
          · exact ⟨h0, h1, h2⟩
          · exact hc.ok q hq
        · refine List.pairwise_cons.2 ⟨fun q hq => ?_, hc.sep⟩
          rcases List.mem_cons.1 hq with rfl | hq
          · exact hB
          · exact (hall q hq).1
        · intro q hq
          rcases List.mem_cons.1 hq with rfl | hq
          · exact .inl rfl
          · exact .inr ⟨q, hq, rfl⟩
        · intro x
          rw [InR.cons, or_comm]
      · rw [if_neg hB]
        obtain ⟨g1, g2, g3⟩ := hr
        obtain ⟨i1, i2, i3⟩ := radd_ok (f := min f r.1) (t := max t r.2) hc.tail (by omega) (by omega) (by omega)
        refine ⟨i1, ?_, ?_⟩
        · intro q hq
          rcases i2 q hq with h | ⟨q', hq', h⟩
          · rcases (show min f r.1 = f ∨ min f r.1 = r.1 by omega) with h' | h'
            · exact .inl (h.trans h')
            · exact .inr ⟨r, by simp, h.trans h'⟩
          · exact .inr ⟨q', by simp [hq'], h⟩
        · intro x
          rw [i3 x, InR.cons]
          constructor
          · rintro (h | h)
            · exact .inl (.inr h)
            · rcases (show (r.1 ≤ x ∧ x < r.2) ∨ (f ≤ x ∧ x < t) by omega) with h | h
              · exact .inl (.inl h)
              · exact .inr h
          · rintro ((h | h) | h)
            · exact .inr (by omega)
            · exact .inl h
            · exact .inr (by omega)
/-- A set, places added. -/
def addM (l : List Rg) (f t : Int) : List Rg := if max 0 f < min t 1099511627776 then raddF (max 0 f) (min t 1099511627776) false l else l
theorem addM_canon {l : List Rg} (h : Canon l) (f t : Int) : Canon (addM l f t) := by
  unfold addM
  split
  · exact (radd_ok h (by omega) ‹_› (by omega)).1
  · exact h
theorem addM_mem {l : List Rg} (h : Canon l) (f t x : Int) : InR (addM l f t) x ↔ InR l x ∨ (0 ≤ x ∧ x < 1099511627776 ∧ f ≤ x ∧ x < t) := by
  unfold addM
  split
  · rw [(radd_ok h (by omega) ‹_› (by omega)).2.2 x]
    constructor
    · rintro (h | h)
      · exact .inl h
      · exact .inr (by omega)
    · rintro (h | h)
      · exact .inl h
      · exact .inr (by omega)
  · constructor
    · exact .inl
    · rintro (h | h)
      · exact h
      · omega
/-- What the program sorts is what the document has. -/
theorem addM_sorted {l ys : List Rg} (h : Canon l) {f t : Int} (hft : max 0 f < min t 1099511627776)
    (hp : ys.Perm ((addFold (max 0 f) (min t 1099511627776) l).1 ++ [((addFold (max 0 f) (min t 1099511627776) l).2.1, (addFold (max 0 f) (min t 1099511627776) l).2.2)])) (hs : ys.Pairwise fun a b => ¬ b.1 < a.1) : ys = addM l f t := by
  have ha := addFold_ok (f := max 0 f) (t := min t 1099511627776) h (by omega) hft (by omega)
  generalize (addFold (max 0 f) (min t 1099511627776) l).1 = o at *
  generalize (addFold (max 0 f) (min t 1099511627776) l).2.1 = f' at *
  generalize (addFold (max 0 f) (min t 1099511627776) l).2.2 = t' at *
  have hc : Canon ys := by
    refine canon_of_perm hp hs ?_ ?_
    · intro r hr
      rcases List.mem_append.1 hr with hr | hr
      · exact h.ok r (ha.sub r hr)
      · rw [List.mem_singleton] at hr; subst hr; exact ha.ok
    · refine List.pairwise_append.2 ⟨ha.sep.imp fun h => .inl h, by simp, ?_⟩
      intro a hA b hB
      rw [List.mem_singleton] at hB
      subst hB
      exact ha.apart a hA
  refine hc.ext (addM_canon h f t) fun x => ?_
  rw [InR.perm hp, InR.app, InR.cons, addM_mem h f t x]
  have hm := ha.mem x
  constructor
  · rintro (h | h | h)
    · rcases hm.1 (.inl h) with h | h
      · exact .inl h
      · exact .inr (by omega)
    · rcases hm.1 (.inr h) with h | h
      · exact .inl h
      · exact .inr (by omega)
    · exact absurd h (InR.nil _)
  · rintro (h | h)
    · rcases hm.2 (.inl h) with h | h
      · exact .inl h
      · exact .inr (.inl h)
    · rcases hm.2 (.inr (by omega)) with h | h
      · exact .inl h
      · exact .inr (.inl h)

/- Cutting. -/
def cutP (f t : Int) (r : Rg) : List Rg := (if r.1 < f then [(r.1, min r.2 f)] else []) ++ (if t < r.2 then [(max r.1 t, r.2)] else [])
def cutM (l : List Rg) (f t : Int) : List Rg := if max 0 f < min t 1099511627776 then l.flatMap (cutP (max 0 f) (min t 1099511627776)) else l
theorem cutP_mem {f t : Int} {r q : Rg} (h : q ∈ cutP f t r) : r.1 ≤ q.1 ∧ q.2 ≤ r.2 := by
  unfold cutP at h
  rcases List.mem_append.1 h with h | h
  · split at h
    · rw [List.mem_singleton] at h; subst h; simp only; omega
    · cases h
  · split at h
    · rw [List.mem_singleton] at h; subst h; simp only; omega
    · cases h
theorem cut_canon {f t : Int} (hft : f < t) : ∀ {l : List Rg}, Canon l → Canon (l.flatMap (cutP f t))
  | [], _ => Canon.nil
  | r :: l, h => by
    have ih := cut_canon hft h.tail
    obtain ⟨g1, g2, g3⟩ := h.head
    rw [List.flatMap_cons]
    refine ⟨?_, List.pairwise_append.2 ⟨?_, ih.sep, ?_⟩⟩
    · intro q hq
      rcases List.mem_append.1 hq with hq | hq
      · unfold cutP at hq
        rcases List.mem_append.1 hq with hq | hq
        · split at hq
          · rw [List.mem_singleton] at hq; subst hq; exact ⟨by simp only; omega, by simp only; omega, by simp only; omega⟩
          · cases hq
        · split at hq
          · rw [List.mem_singleton] at hq; subst hq; exact ⟨by simp only; omega, by simp only; omega, by simp only; omega⟩
          · cases hq
      · exact ih.ok q hq
    · unfold cutP
      split <;> split <;> simp
      omega
    · intro a ha b hb
      obtain ⟨r', hr', hb'⟩ := List.mem_flatMap.1 hb
      have h1 := cutP_mem ha
      have h2 := cutP_mem hb'
      have h3 := (List.pairwise_cons.1 h.sep).1 r' hr'
      omega
theorem cut_mem {f t : Int} (hft : f < t) {l : List Rg} (h : Canon l) (x : Int) : InR (l.flatMap (cutP f t)) x ↔ InR l x ∧ ¬ (f ≤ x ∧ x < t) := by
  induction l with
  | nil => simp [InR.nil]
  | cons r l ih =>
    rw [List.flatMap_cons, InR.app, ih h.tail, InR.cons]
    obtain ⟨g1, g2, g3⟩ := h.head
    have hp : InR (cutP f t r) x ↔ (r.1 ≤ x ∧ x < r.2) ∧ ¬ (f ≤ x ∧ x < t) := by
      unfold cutP
      rw [InR.app]
      constructor
      · rintro (h | h)
        · split at h
          · rcases InR.cons.1 h with h | h
            · simp only at h; omega
            · exact absurd h (InR.nil _)
          · exact absurd h (InR.nil _)
        · split at h
          · rcases InR.cons.1 h with h | h
            · simp only at h; omega
            · exact absurd h (InR.nil _)
          · exact absurd h (InR.nil _)
      · rintro ⟨h1, h2⟩
        by_cases h3 : x < f
        · left; rw [if_pos (by omega)]; exact InR.cons.2 (.inl ⟨by simp only; omega, by simp only; omega⟩)
        · right; rw [if_pos (by omega)]; exact InR.cons.2 (.inl ⟨by simp only; omega, by simp only; omega⟩)
    rw [hp]
    constructor
    · rintro (⟨h1, h2⟩ | ⟨h1, h2⟩)
      · exact ⟨.inl h1, h2⟩
      · exact ⟨.inr h1, h2⟩
    · rintro ⟨h1 | h1, h2⟩
      · exact .inl ⟨h1, h2⟩
      · exact .inr ⟨h1, h2⟩
theorem cutM_canon {l : List Rg} (h : Canon l) (f t : Int) : Canon (cutM l f t) := by
  unfold cutM
  split
  · exact cut_canon ‹_› h
  · exact h
theorem InR.bd {l : List Rg} (h : Canon l) {x : Int} (hx : InR l x) : 0 ≤ x ∧ x < 1099511627776 := by
  obtain ⟨r, hr, h1, h2⟩ := hx
  have := h.ok r hr
  unfold RgOk at this
  omega
theorem cutM_mem {l : List Rg} (h : Canon l) (f t x : Int) : InR (cutM l f t) x ↔ InR l x ∧ ¬ (f ≤ x ∧ x < t) := by
  unfold cutM
  split
  · rw [cut_mem ‹_› h x]
    constructor
    · rintro ⟨h1, h2⟩; have := InR.bd h h1; exact ⟨h1, by omega⟩
    · rintro ⟨h1, h2⟩; exact ⟨h1, by omega⟩
  · constructor
    · intro h1; have := InR.bd h h1; exact ⟨h1, by omega⟩
    · exact And.left
def countM (l : List Rg) : Int := (l.map fun r => r.2 - r.1).sum
def frontM : List Rg → Int
  | [] => 0
  | r :: _ => if r.1 = 0 then r.2 else 0
def hasM (l : List Rg) (f t : Int) : Bool := decide (t ≤ f) || l.any fun r => decide (r.1 ≤ f) && decide (t ≤ r.2)
end Go.Proofs.Ytidmolpkcfhkaaa
