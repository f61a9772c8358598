/- Structs of two whole numbers compared; results that lie in memory. -/
import Derived.Test.YtidmolpkcfhkaaaK17
import Derived.Laws.StructEq
namespace Go.Proofs.Ytidmolpkcfhkaaa
set_option linter.unusedSectionVars false
set_option linter.unusedVariables false
set_option linter.unusedSimpArgs false
open Go
/-- Values of this type of two whole numbers are compared field by field. -/
class EqS2 (P : Program) (t : TypeId) : Prop where
  eql : ∀ (a b c d : Int) (w : World), (binOp .eql t (.agg ⟨[.int .i64 a, .int .i64 b]⟩) (.agg ⟨[.int .i64 c, .int .i64 d]⟩)).run P w = .ok (.bool (decide ((a, b) = (c, d)))) w
  neq : ∀ (a b c d : Int) (w : World), (binOp .neq t (.agg ⟨[.int .i64 a, .int .i64 b]⟩) (.agg ⟨[.int .i64 c, .int .i64 d]⟩)).run P w = .ok (.bool (decide ((a, b) ≠ (c, d)))) w
  guard : P.eqGuardType P.depth t = false
theorem EqS2.of {t : TypeId} (hS : Try.prog.underlying t = some (.struct (Try.prog.fieldsOf t))) (hp : Try.prog.stoodInHeld t = false) (hg : Try.prog.eqGuardType Try.prog.depth t = false)
    (hf : (Try.prog.fieldsOf t).toList.map (fun f => (f.type, f.offset)) = [(3, 0), (3, 1)]) (hn : (Try.prog.fieldsOf t).toList.all (fun f => f.name != "_") = true) : EqS2 Try.prog t := by
  have key : ∀ (a b c d : Int) (w : World), (Op.equalIn 10000 t (.agg ⟨[.int .i64 a, .int .i64 b]⟩) (.agg ⟨[.int .i64 c, .int .i64 d]⟩)).run Try.prog w = .ok (decide ((a, b) = (c, d))) w := by
    intro a b c d w
    have u3 := Try.underlying3
    have a3 := Try.isAgg3
    have z3 := Try.sizeOf3
    rw [show (10000 : Nat) = 9999 + 1 from rfl, run_equalIn_agg w 9999 t _ _ hS hp]
    generalize (Try.prog.fieldsOf t).toList = fs at hf hn
    rcases fs with _ | ⟨f0, _ | ⟨f1, _ | ⟨f2, fs⟩⟩⟩
    · simp at hf
    · simp at hf
    · simp only [List.map_cons, List.map_nil, List.cons.injEq, Prod.mk.injEq, and_true] at hf
      simp only [List.all_cons, List.all_nil, Bool.and_true, Bool.and_eq_true, bne_iff_ne] at hn
      obtain ⟨⟨h1, h2⟩, h3, h4⟩ := hf
      simp only [Op.eqFields, if_pos hn.1, if_pos hn.2, h1, h2, h3, h4]
      go_simp
      by_cases g1 : a = c <;> by_cases g2 : b = d <;> simp [g1, g2]
    · simp at hf
  refine ⟨fun a b c d w => ?_, fun a b c d w => ?_, hg⟩
  · rw [run_eql_struct, key]; rfl
  · rw [run_neq_struct, key]
    show Result.ok (Value.bool (!decide ((a, b) = (c, d)))) w = _
    rw [show (!decide ((a, b) = (c, d))) = decide ((a, b) ≠ (c, d)) from (decide_not).symm]
section
variable {P : Program} [IsP P] {e : Env} {H H1 : List HP} {d : Option Tmp} {ty : TypeId} {pos : String} {after : Array Edge} {g : Option (Nat × Bool)}
omit [IsP P] in
theorem QuietT.eqlS {t t' : TypeId} [hE : EqS2 P t] {x y : Operand} {a b a' b' : Int} (hx : ev e x = some (.agg ⟨[.int .i64 a, .int .i64 b]⟩)) (hy : ev e y = some (.agg ⟨[.int .i64 a', .int .i64 b']⟩)) :
    QuietT P e H ⟨d, .binOp .eql t x y t', ty, pos, after, g⟩ (.bool (decide ((a, b) = (a', b')))) := by
  intro ρ hρ F w s
  have hx' := hρ x (by simp [Op.operands]) _ hx
  have hy' := hρ y (by simp [Op.operands]) _ hy
  refine run_value ?_
  rw [hx', hy', run_bind_ok (run_eqGuard_agg w .eql t x y _ _ hE.guard)]
  exact hE.eql a b a' b' w
omit [IsP P] in
theorem QuietT.neqS {t t' : TypeId} [hE : EqS2 P t] {x y : Operand} {a b a' b' : Int} (hx : ev e x = some (.agg ⟨[.int .i64 a, .int .i64 b]⟩)) (hy : ev e y = some (.agg ⟨[.int .i64 a', .int .i64 b']⟩)) :
    QuietT P e H ⟨d, .binOp .neq t x y t', ty, pos, after, g⟩ (.bool (decide ((a, b) ≠ (a', b')))) := by
  intro ρ hρ F w s
  have hx' := hρ x (by simp [Op.operands]) _ hx
  have hy' := hρ y (by simp [Op.operands]) _ hy
  refine run_value ?_
  rw [hx', hy', run_bind_ok (run_eqGuard_agg w .neq t x y _ _ hE.guard)]
  exact hE.neq a b a' b' w
variable {n : Nat} {Q : QT} {ops : Array Oper} {l : List Oper} {dd : Tmp}
omit [IsP P] in
theorem wl_eqlS {t t' : TypeId} [EqS2 P t] {x y : Operand} {a b a' b' : Int} (hx : ev e x = some (.agg ⟨[.int .i64 a, .int .i64 b]⟩)) (hy : ev e y = some (.agg ⟨[.int .i64 a', .int .i64 b']⟩)) (hd : Nat.blt dd n = true)
    (h : WL P n ops Q l ((dd, .bool (decide ((a, b) = (a', b')))) :: e) H) : WL P n ops Q (⟨some dd, .binOp .eql t x y t', ty, pos, after, none⟩ :: l) e H := wl_quiet (QuietT.eqlS hx hy) hd h
omit [IsP P] in
theorem wl_neqS {t t' : TypeId} [EqS2 P t] {x y : Operand} {a b a' b' : Int} (hx : ev e x = some (.agg ⟨[.int .i64 a, .int .i64 b]⟩)) (hy : ev e y = some (.agg ⟨[.int .i64 a', .int .i64 b']⟩)) (hd : Nat.blt dd n = true)
    (h : WL P n ops Q l ((dd, .bool (decide ((a, b) ≠ (a', b')))) :: e) H) : WL P n ops Q (⟨some dd, .binOp .neq t x y t', ty, pos, after, none⟩ :: l) e H := wl_quiet (QuietT.neqS hx hy) hd h
/-- A result that lies in memory. -/
theorem RV1.cell {a : Tmp} {t : TypeId} {td : TD} {b o : Nat} {T : TypeId} {cs : List Value} {v : Value} (hx : lk e a = some (.pointer (some ⟨b, o, none⟩))) (ht : tab t = some td) (hp : Pick (Blk b T cs) H H1) (hv : partOf td.agg td.size o cs = some v) : RV1 P e H (.cell a t) v := by
  intro n F ac w h1 h2
  obtain ⟨i, u, g1, g2, g3, g4, g5, g6, g7⟩ := tab_info (P := P) ht
  have s' := SatH.pick hp h2
  simp only [resOne, h1.get a _ hx]
  refine (run_bind_ok (a := ⟨b, o, none⟩) (w' := w) rfl).trans ?_
  exact run_loadVar g1 g2 (fun j v hv => (Blk.cell s' hv).1) (by rw [g3, g5]; exact hv)
theorem Qfn.cellt {a u : Tmp} {t : TypeId} {td : TD} {b o : Nat} {T : TypeId} {cs : List Value} {v x : Value} {Post : Value → List HP → Prop} (hx : lk e a = some (.pointer (some ⟨b, o, none⟩))) (ht : tab t = some td) (hp : Pick (Blk b T cs) H H1) (hv : partOf td.agg td.size o cs = some v) (hu : lk e u = some x)
    (h : ∃ R, Ent H R ∧ Post (.tuple ⟨[v, x]⟩) R) : Qfn P [.cell a t, .tmp u] Post .ret e H := ⟨[v, x], .cons (.cell hx ht hp hv) (.cons (.tmp hu) .nil), h⟩
theorem Qfn.cell1 {a : Tmp} {t : TypeId} {td : TD} {b o : Nat} {T : TypeId} {cs : List Value} {v : Value} {Post : Value → List HP → Prop} (hx : lk e a = some (.pointer (some ⟨b, o, none⟩))) (ht : tab t = some td) (hp : Pick (Blk b T cs) H H1) (hv : partOf td.agg td.size o cs = some v)
    (h : ∃ R, Ent H R ∧ Post v R) : Qfn P [.cell a t] Post .ret e H := ⟨[v], .cons (.cell hx ht hp hv) .nil, h⟩
end
end Go.Proofs.Ytidmolpkcfhkaaa
