/- What holds where several ways meet. -/
import Derived.Test.YtidmolpkcfhkaaaK11
namespace Go.Proofs.Ytidmolpkcfhkaaa
set_option linter.unusedSectionVars false
set_option linter.unusedVariables false
set_option linter.unusedSimpArgs false
open Go
section
variable {P : Program} {n : Nat} {Q : QT} {e : Env} {H : List HP} {M : Env → List HP → Prop}
def Qmx (i : Nat) (M : Env → List HP → Prop) (Q : QT) : QT
  | .exit j, e, H => bif Nat.beq j i then ∃ e' H', EnvSub e' e ∧ Ent H H' ∧ M e' H' else Q (.exit j) e H
  | x, e, H => Q x e H
def Qmn (M : Env → List HP → Prop) (Q : QT) : QT
  | .normal, e, H => ∃ e' H', EnvSub e' e ∧ Ent H H' ∧ M e' H'
  | x, e, H => Q x e H
theorem WC.midx {c : Code} (i : Nat) (M : Env → List HP → Prop) (h1 : WC P n c (Qmx i M Q) e H) (h2 : ∀ e H, M e H → Q (.exit i) e H) : WC P n c Q e H := by
  intro w0 F a w g1 g2 g3
  refine wp_mono (h1 w0 F a w g1 g2 g3) ?_
  intro x a' w' hx
  cases x <;> simp only [lift] at hx ⊢
  · exact hx
  · rename_i j
    obtain ⟨e', H', k1, k2, k3, k4⟩ := hx
    simp only [Qmx] at k4
    cases hb : Nat.beq j i
    · rw [hb] at k4; exact ⟨e', H', k1, k2, k3, k4⟩
    · rw [hb] at k4
      have := Nat.eq_of_beq_eq_true hb
      subst this
      obtain ⟨e2, H2, m1, m2, m3⟩ := k4
      exact ⟨e2, H2, k1.sub m1, m2 F w' k2, k3, h2 _ _ m3⟩
  · exact hx
theorem WC.midn {c : Code} (M : Env → List HP → Prop) (h1 : WC P n c (Qmn M Q) e H) (h2 : ∀ e H, M e H → Q .normal e H) : WC P n c Q e H := by
  intro w0 F a w g1 g2 g3
  refine wp_mono (h1 w0 F a w g1 g2 g3) ?_
  intro x a' w' hx
  cases x <;> simp only [lift] at hx ⊢
  · obtain ⟨e', H', k1, k2, k3, k4⟩ := hx
    obtain ⟨e2, H2, m1, m2, m3⟩ := k4
    exact ⟨e2, H2, k1.sub m1, m2 F w' k2, k3, h2 _ _ m3⟩
  · exact hx
  · exact hx
theorem Qmx.hit {i : Nat} {e' : Env} {H' : List HP} (hs : EnvSub e' e) (hE : Ent H H') (hM : M e' H') : Qmx i M Q (.exit i) e H := by
  simp only [Qmx, Nat.beq_refl, cond_true]; exact ⟨e', H', hs, hE, hM⟩
theorem Qmx.r {i : Nat} (h : Q .ret e H) : Qmx i M Q .ret e H := h
theorem Qmx.nm {i : Nat} (h : Q .normal e H) : Qmx i M Q .normal e H := h
theorem Qmx.f {i j : Nat} (hb : Nat.beq j i = false) (h : Q (.exit j) e H) : Qmx i M Q (.exit j) e H := by simp only [Qmx, hb, cond_false]; exact h
theorem Qmn.hit {e' : Env} {H' : List HP} (hs : EnvSub e' e) (hE : Ent H H') (hM : M e' H') : Qmn M Q .normal e H := ⟨e', H', hs, hE, hM⟩
theorem Qmn.r (h : Q .ret e H) : Qmn M Q .ret e H := h
theorem Qmn.x {j : Nat} (h : Q (.exit j) e H) : Qmn M Q (.exit j) e H := h
end
section
variable {P : Program} {n : Nat} {Q : QT} {e : Env} {H Fz : List HP} {ops : Array Oper} {g m f : Nat} {listed : Array Bool} {d : Tmp} {op : Op} {ty : TypeId} {pos : String} {after : Array Edge}
/-- A test that a guard asks for is told, one way or the other: only where it is not told yet. -/
theorem wa_splitD {j t : Nat} {p : Prop} {hp : Decidable p} (hi : ops[m - (f + 1)]? = some ⟨some d, op, ty, pos, after, some (j, true)⟩) (hj : (ops[j]?).bind (·.dst) = some t) (ht : lk e t = some (.bool (decide p)))
    (h1 : p → WA P n ops Q g m (f + 1) listed ((t, .bool true) :: e) Fz H) (h2 : ¬ p → WA P n ops Q g m (f + 1) listed ((t, .bool false) :: e) Fz H) : WA P n ops Q g m (f + 1) listed e Fz H :=
  wa_split hi hj ht (fun h => h1 (by simpa using h)) (fun h => h2 (by simpa using h))
theorem wa_splitE {j t : Nat} {p : Prop} {hp : Decidable p} (hi : ops[m - (f + 1)]? = some ⟨some d, op, ty, pos, after, some (j, false)⟩) (hj : (ops[j]?).bind (·.dst) = some t) (ht : lk e t = some (.bool (decide p)))
    (h1 : ¬ p → WA P n ops Q g m (f + 1) listed ((t, .bool false) :: e) Fz H) (h2 : p → WA P n ops Q g m (f + 1) listed ((t, .bool true) :: e) Fz H) : WA P n ops Q g m (f + 1) listed e Fz H :=
  wa_split hi hj ht (fun h => h1 (by simpa using h)) (fun h => h2 (by simpa using h))
end
end Go.Proofs.Ytidmolpkcfhkaaa
