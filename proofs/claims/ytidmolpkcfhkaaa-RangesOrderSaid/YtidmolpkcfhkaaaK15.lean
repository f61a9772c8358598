/- Bytes of a text's constant, converted. -/
import Derived.Test.YtidmolpkcfhkaaaK14
namespace Go.Proofs.Ytidmolpkcfhkaaa
set_option linter.unusedSectionVars false
set_option linter.unusedVariables false
set_option linter.unusedSimpArgs false
open Go
section
variable {P : Program} [IsP P] {e : Env} {H H1 H2 : List HP} {K : Value → List HP → Prop} {d : Option Tmp} {ty : TypeId} {pos : String} {after : Array Edge} {g : Option (Nat × Bool)}
theorem OpT.convB {t : TypeId} {x : Operand} {b n c : Nat} {td te : TD} {T : TypeId} {cs : List Value} (hx : ev e x = some (.slice (some ⟨b, 0, none⟩) n c)) (ht : tab t = some td) (hk : td.kind = .slice) (he : tab td.elem = some te) (hke : te.kind = .int .u8)
    (hp : Pick (Blk b T cs) H H1) (hK : K (.slice (some ⟨b, 0, none⟩) n c) (IBlk b T cs :: H1)) : OpT P e H ⟨d, .convert t t x, ty, pos, after, g⟩ K := by
  intro ρ hρ F w s
  obtain ⟨i, u, h1, h2, h3, h4, h5, h6, h7⟩ := tab_info (P := P) ht
  obtain ⟨j, u', j1, j2, j3, j4, j5, j6, j7⟩ := tab_info (P := P) he
  have hu := slice_kind h6 hk
  subst hu
  have hu' : u' = .int .u8 := by cases u' <;> simp [kindOk, hke] at j6; rw [j6]
  subst hu'
  have hx' := hρ x (by simp [Op.operands]) _ hx
  have s1 : Sat w (Blk b T cs :: (H1 ++ F)) := SatH.pick hp s
  obtain ⟨o, k, hb, fr, ho⟩ := SatH.head_block (P := fun o' _ => ∃ fr, o' = Obj.cells ⟨cs⟩ T fr) (b := b) s1 (fun p ⟨fr, _, hp⟩ => ⟨_, _, hp, fr, rfl⟩)
  subst ho
  have hsh : (shape b).run P w = .ok (some (T, cs.length)) w := by
    show Result.ok (w.shape? b) w = _
    simp [World.shape?, hb]
  have hfz : (freeze { block := b, off := cs.length } 1).run P w = .ok () (w.freeze { block := b, off := cs.length } 1) := by
    rfl
  have hrun : (execOp ρ ⟨d, .convert t t x, ty, pos, after, g⟩).run P w = .ok (.value (.slice (some ⟨b, 0, none⟩) n c)) (w.freeze { block := b, off := cs.length } 1) := by
    refine run_value2 ?_
    rw [hx']
    simp [convert, run_under h2, run_under j2, markStringish, hsh, hfz]
  rw [hrun]
  refine ⟨IBlk b T cs :: H1, ?_, ⟨rfl, rfl, rfl, by simp [World.freeze]⟩, hK⟩
  refine Sat.upd (b := b) (o := .cells ⟨cs⟩ T (if fr.1 == fr.2 then (cs.length, cs.length + 1) else (min fr.1 cs.length, max fr.2 (cs.length + 1)))) (k := true) s1 (fun p ⟨fr, _, hp⟩ => ⟨_, hp⟩) (fun p _ => ⟨_, by simp [upd]; rfl⟩) ?_ ?_
  · intro q hq
    simp only [World.freeze, Nat.succ_ne_zero, if_false, Array.getElem?_modify]
    rw [if_neg (by omega)]
  · obtain ⟨lo, hi⟩ := fr
    simp [World.freeze, Array.getElem?_modify, hb]
end
theorem IBlk.isl {α : Type} (E : Enc α) (xs : List α) {b : Nat} {T : TypeId} {cs : List Value} (hc : cs = xs.flatMap E.f) (hok : ∀ x ∈ xs, E.ok x) : ∀ p, IBlk b T cs p → ISl E (some ⟨b, 0, none⟩) xs.length xs p := by
  rintro p ⟨fr, hp⟩
  have h := lies_flat E xs [] [] (off := 0) rfl
  rw [List.nil_append, List.append_nil, ← hc] at h
  exact ⟨hok, Nat.le_refl _, .inr ⟨b, 0, cs, T, fr, rfl, hp, h⟩⟩
end Go.Proofs.Ytidmolpkcfhkaaa
