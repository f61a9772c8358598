/- Runs of code over assertions: frames told in part, operations one by one, code, loops, calls. -/
import Derived.Test.YtidmolpkcfhkaaaK1
namespace Go.Proofs.Ytidmolpkcfhkaaa
set_option linter.unusedSectionVars false
set_option linter.unusedVariables false
set_option linter.unusedSimpArgs false
open Go

abbrev Env := List (Nat × Value)

def lk : Env → Nat → Option Value
  | [], _ => none
  | (k, v) :: e, x => bif Nat.beq k x then some v else lk e x

def ev (e : Env) : Operand → Option Value
  | .tmp t => lk e t
  | .const v => some v
  | .global g => some (.pointer (some ⟨g, 0, none⟩))
  | .func f => some (.func (.func f) #[] #[])

def evs (e : Env) : List Operand → Option (List Value)
  | [] => some []
  | x :: xs => match ev e x with
    | some v => match evs e xs with
      | some vs => some (v :: vs)
      | none => none
    | none => none

structure EnvOK (n : Nat) (e : Env) (a : Act) : Prop where
  size : a.tmps.size = n
  defers : a.defers = []
  get : ∀ x v, lk e x = some v → a.tmps.getD x undef = v

theorem EnvOK.eval {n : Nat} {e : Env} {a : Act} (h : EnvOK n e a) (x : Operand) (v : Value) (hx : ev e x = some v) : a.eval x = v := by
  cases x with
  | tmp t => exact h.get t v hx
  | const c => simpa [ev, Act.eval] using hx
  | global g => simpa [ev, Act.eval] using hx
  | func f => simpa [ev, Act.eval] using hx

theorem EnvOK.put {n : Nat} {e : Env} {a : Act} (h : EnvOK n e a) {d : Nat} (hd : Nat.blt d n = true) (v : Value) : EnvOK n ((d, v) :: e) (a.put (some d) v) := by
  have hd' : d < n := by simpa [Nat.blt_eq] using hd
  refine ⟨by simpa [Act.put] using h.size, h.defers, ?_⟩
  intro x u hx
  simp only [lk] at hx
  by_cases hdx : d = x
  · subst hdx
    rw [show Nat.beq d d = true from Nat.beq_refl d] at hx
    have hv : v = u := by simpa using hx
    subst hv
    simp [Act.put, Array.getD, h.size, hd']
  · rw [show Nat.beq d x = false from by
      cases hb : Nat.beq d x
      · rfl
      · exact absurd (Nat.eq_of_beq_eq_true hb) hdx] at hx
    have := h.get x u (by simpa using hx)
    rw [← this]
    simp only [Act.put, Array.getD]
    by_cases hxs : x < a.tmps.size
    · simp [hxs, hdx]
    · simp [hxs]

theorem EnvOK.put_none {n : Nat} {e : Env} {a : Act} (h : EnvOK n e a) (v : Value) : EnvOK n e (a.put none v) := h

/-- The one frame tells no more than the other. -/
def EnvSub : Env → Env → Prop
  | [], _ => True
  | (x, v) :: e, e' => lk e' x = some v ∧ EnvSub e e'

theorem EnvSub.get {e e' : Env} (h : EnvSub e e') : ∀ x v, lk e x = some v → lk e' x = some v := by
  induction e with
  | nil => intro x v h; simp [lk] at h
  | cons p e ih =>
    obtain ⟨y, u⟩ := p
    obtain ⟨h1, h2⟩ := h
    intro x v hx
    simp only [lk] at hx
    cases hb : Nat.beq y x
    · rw [hb] at hx; exact ih h2 x v (by simpa using hx)
    · rw [hb] at hx
      have : y = x := Nat.eq_of_beq_eq_true hb
      subst this
      have hv : u = v := by simpa using hx
      subst hv
      exact h1
theorem EnvOK.sub {n : Nat} {e e' : Env} {a : Act} (h : EnvOK n e' a) (hs : EnvSub e e') : EnvOK n e a :=
  ⟨h.size, h.defers, fun x v hx => h.get x v (hs.get x v hx)⟩

/-- A function can be entered by a call. -/
def CallOK (P : Program) (f : FuncId) : Prop := ∃ fn, P.funcs[f]? = some fn ∧ (fn.name == "runtime.NumGoroutine") = false ∧ fn.body.isNone = false

theorem CallOK.run {P : Program} {f : FuncId} (h : CallOK P f) (args : Array Value) (w : World) : (callFunc f args).run P w = .ok (.enter f args) w := by
  obtain ⟨fn, h1, h2, h3⟩ := h
  simp only [callFunc, program, Bind.bind, Sem.bind, Sem.run, h1, h2, h3, Bool.false_eq_true, if_false]
  rfl

/-- What a call of a function asks, and what it leaves. -/
structure Spec (P : Program) (f : FuncId) (args : List Value) (H : List HP) (Post : Value → List HP → Prop) : Prop where
  ok : CallOK P f
  calls : ∀ F w, Sat w (H ++ F) → Calls P f ⟨args⟩ w fun e w' => ∃ v H', e = .returned v ∧ Sat w' (H' ++ F) ∧ Ext w w' ∧ Post v H'

theorem Spec.mono {P : Program} {f : FuncId} {args : List Value} {H : List HP} {Post Post' : Value → List HP → Prop} (h : Spec P f args H Post)
    (hp : ∀ v R, Post v R → Post' v R) : Spec P f args H Post' :=
  ⟨h.ok, fun F w s => (h.calls F w s).mono fun _ _ ⟨v, R, h1, h2, h3, h4⟩ => ⟨v, R, h1, h2, h3, hp v R h4⟩⟩

theorem Spec.pre {P : Program} {f : FuncId} {args : List Value} {H H' : List HP} {Post : Value → List HP → Prop} (h : Spec P f args H Post)
    (hp : Ent H' H) : Spec P f args H' Post :=
  ⟨h.ok, fun F w s => h.calls F w (hp F w s)⟩

def UponT (P : Program) (R : Value → World → Prop) : Result Next → Prop
  | .ok (.value v) w => R v w
  | .ok .skip w => R undef w
  | .ok (.enter f args) w => Calls P f args w fun e w' => ∃ v, e = .returned v ∧ R v w'
  | _ => False

def Agr (e : Env) (ρ : Operand → Value) (o : Op) : Prop := ∀ x ∈ o.operands, ∀ v, ev e x = some v → ρ x = v

/-- One operation. -/
def OpT (P : Program) (e : Env) (H : List HP) (o : Oper) (K : Value → List HP → Prop) : Prop :=
  ∀ ρ, Agr e ρ o.op → ∀ F w, Sat w (H ++ F) → UponT P (fun v w' => ∃ H', Sat w' (H' ++ F) ∧ Ext w w' ∧ K v H') ((execOp ρ o).run P w)

theorem UponT.mono {P : Program} {R R' : Value → World → Prop} (h : ∀ v w, R v w → R' v w) : ∀ {r : Result Next}, UponT P R r → UponT P R' r := by
  intro r hr
  unfold UponT at *
  split <;> simp_all
  exact hr.mono fun e w' ⟨v, h1, h2⟩ => ⟨v, h1, h v w' h2⟩

theorem OpT.mono {P : Program} {e : Env} {H : List HP} {o : Oper} {K K' : Value → List HP → Prop} (h : OpT P e H o K) (hk : ∀ v R, K v R → K' v R) : OpT P e H o K' :=
  fun ρ hρ F w s => (h ρ hρ F w s).mono fun _ _ ⟨H', h1, h2, h3⟩ => ⟨H', h1, h2, hk _ _ h3⟩

inductive X where
  | normal
  | exit (id : Nat)
  | ret

abbrev QT := X → Env → List HP → Prop

def lift (n : Nat) (w0 : World) (F : List HP) (Q : QT) : Exit → Act → World → Prop
  | .normal, a, w => ∃ e H, EnvOK n e a ∧ Sat w (H ++ F) ∧ Ext w0 w ∧ Q .normal e H
  | .exit id, a, w => ∃ e H, EnvOK n e a ∧ Sat w (H ++ F) ∧ Ext w0 w ∧ Q (.exit id) e H
  | .ret, a, w => ∃ e H, EnvOK n e a ∧ Sat w (H ++ F) ∧ Ext w0 w ∧ Q .ret e H
  | _, _, _ => False

def WC (P : Program) (n : Nat) (c : Code) (Q : QT) (e : Env) (H : List HP) : Prop :=
  ∀ w0 F a w, EnvOK n e a → Sat w (H ++ F) → Ext w0 w → c.wp P (lift n w0 F Q) a w

def WL (P : Program) (n : Nat) (ops : Array Oper) (Q : QT) (l : List Oper) (e : Env) (H : List HP) : Prop :=
  ∀ w0 F a w, EnvOK n e a → Sat w (H ++ F) → Ext w0 w → wpList P ops (lift n w0 F Q) l a w

section
variable {P : Program} {n : Nat} {Q : QT} {e : Env} {H : List HP}

theorem WC.ent {c : Code} {H' : List HP} (he : Ent H H') (h : WC P n c Q e H') : WC P n c Q e H :=
  fun w0 F a w h1 h2 h3 => h w0 F a w h1 (he F w h2) h3
theorem WL.ent {ops : Array Oper} {l : List Oper} {H' : List HP} (he : Ent H H') (h : WL P n ops Q l e H') : WL P n ops Q l e H :=
  fun w0 F a w h1 h2 h3 => h w0 F a w h1 (he F w h2) h3
theorem WC.env {c : Code} {e' : Env} (he : EnvSub e' e) (h : WC P n c Q e' H) : WC P n c Q e H :=
  fun w0 F a w h1 h2 h3 => h w0 F a w (h1.sub he) h2 h3
theorem WL.env {ops : Array Oper} {l : List Oper} {e' : Env} (he : EnvSub e' e) (h : WL P n ops Q l e' H) : WL P n ops Q l e H :=
  fun w0 F a w h1 h2 h3 => h w0 F a w (h1.sub he) h2 h3
theorem WC.pure {c : Code} {φ : Prop} (h : φ → WC P n c Q e H) : WC P n c Q e (Pure φ :: H) :=
  fun w0 F a w h1 h2 h3 => h h2.pure.1 w0 F a w h1 h2.pure.2 h3
theorem WL.pure {ops : Array Oper} {l : List Oper} {φ : Prop} (h : φ → WL P n ops Q l e H) : WL P n ops Q l e (Pure φ :: H) :=
  fun w0 F a w h1 h2 h3 => h h2.pure.1 w0 F a w h1 h2.pure.2 h3
theorem WC.ex {α : Sort _} {c : Code} {A : α → HP} (h : ∀ x, WC P n c Q e (A x :: H)) : WC P n c Q e (Ex A :: H) := by
  intro w0 F a w h1 h2 h3
  obtain ⟨x, hx⟩ := Sat.ex (H := H ++ F) h2
  exact h x w0 F a w h1 hx h3
theorem WL.ex {α : Sort _} {ops : Array Oper} {l : List Oper} {A : α → HP} (h : ∀ x, WL P n ops Q l e (A x :: H)) : WL P n ops Q l e (Ex A :: H) := by
  intro w0 F a w h1 h2 h3
  obtain ⟨x, hx⟩ := Sat.ex (H := H ++ F) h2
  exact h x w0 F a w h1 hx h3

theorem lift.imp {w0 : World} {F : List HP} {Q Q' : QT} (h : ∀ x e H, Q x e H → Q' x e H) : ∀ x a w, lift n w0 F Q x a w → lift n w0 F Q' x a w := by
  intro x a w hx
  cases x <;> first | exact hx | (obtain ⟨e, H, h1, h2, h3, h4⟩ := hx; exact ⟨e, H, h1, h2, h3, h _ _ _ h4⟩)

/-- What follows a piece of code: told once, out of what the piece leaves. -/
theorem WC.mono {c : Code} {Q' : QT} (hq : ∀ x e H, Q x e H → Q' x e H) (h : WC P n c Q e H) : WC P n c Q' e H :=
  fun w0 F a w h1 h2 h3 => wp_mono (h w0 F a w h1 h2 h3) (lift.imp hq)

def Qseq (P : Program) (n : Nat) (c : Code) (Q : QT) : QT
  | .normal, e, H => WC P n c Q e H
  | x, e, H => Q x e H

theorem WC.seq {a b : Code} (h : WC P n a (Qseq P n b Q) e H) : WC P n (.seq a b) Q e H := by
  intro w0 F ac w h1 h2 h3
  refine wp_seq (wp_mono (h w0 F ac w h1 h2 h3) ?_)
  intro x a' w' hx
  cases x <;> simp only [lift] at hx
  · obtain ⟨e', H', g1, g2, g3, g4⟩ := hx
    exact g4 w0 F a' w' g1 g2 g3
  · obtain ⟨e', H', g1, g2, g3, g4⟩ := hx
    exact ⟨e', H', g1, g2, g3, g4⟩
  · obtain ⟨e', H', g1, g2, g3, g4⟩ := hx
    exact ⟨e', H', g1, g2, g3, g4⟩

theorem WC.skip (h : Q .normal e H) : WC P n .skip Q e H := fun _ _ _ _ h1 h2 h3 => wp_skip ⟨e, H, h1, h2, h3, h⟩
theorem WC.label {l : Nat} (h : Q .normal e H) : WC P n (.label l) Q e H := fun _ _ _ _ h1 h2 h3 => wp_label ⟨e, H, h1, h2, h3, h⟩
theorem WC.exit {id : Nat} (h : Q (.exit id) e H) : WC P n (.exit id) Q e H := fun _ _ _ _ h1 h2 h3 => wp_exit ⟨e, H, h1, h2, h3, h⟩
theorem WC.ret (h : Q .ret e H) : WC P n .ret Q e H := fun _ _ _ _ h1 h2 h3 => wp_ret ⟨e, H, h1, h2, h3, h⟩

theorem WC.cond {c : Operand} {x y : Code} {b : Bool} (hc : ev e c = some (.bool b)) (h1 : b = true → WC P n x Q e H) (h2 : b = false → WC P n y Q e H) :
    WC P n (.cond c x y) Q e H := by
  intro w0 F a w g1 g2 g3
  refine wp_cond_split (g1.eval c _ hc) (fun hb => h1 hb w0 F a w g1 g2 g3) (fun hb => h2 hb w0 F a w g1 g2 g3)
theorem WC.condT {c : Operand} {x y : Code} (hc : ev e c = some (.bool true)) (h1 : WC P n x Q e H) : WC P n (.cond c x y) Q e H :=
  WC.cond hc (fun _ => h1) (fun h => by cases h)
theorem WC.condF {c : Operand} {x y : Code} (hc : ev e c = some (.bool false)) (h1 : WC P n y Q e H) : WC P n (.cond c x y) Q e H :=
  WC.cond hc (fun h => by cases h) (fun _ => h1)

def Qblock (id : Nat) (Q : QT) : QT
  | .exit i, e, H => bif Nat.beq i id then Q .normal e H else Q (.exit i) e H
  | x, e, H => Q x e H

theorem WC.block {id : Nat} {c : Code} (h : WC P n c (Qblock id Q) e H) : WC P n (.block id c) Q e H := by
  intro w0 F a w h1 h2 h3
  refine wp_block (wp_mono (h w0 F a w h1 h2 h3) ?_)
  intro x a' w' hx
  cases x <;> simp only [lift] at hx
  · exact hx
  · rename_i i
    obtain ⟨e', H', g1, g2, g3, g4⟩ := hx
    simp only [Exit.inBlock]
    by_cases hi : i = id
    · subst hi
      rw [if_pos rfl]
      simp only [Qblock, Nat.beq_refl, cond_true] at g4
      exact ⟨e', H', g1, g2, g3, g4⟩
    · rw [if_neg hi]
      have : Nat.beq i id = false := by
        cases hb : Nat.beq i id
        · rfl
        · exact absurd (Nat.eq_of_beq_eq_true hb) hi
      simp only [Qblock, this, cond_false] at g4
      exact ⟨e', H', g1, g2, g3, g4⟩
  · exact hx

/-- A loop's round: what it comes back to, by a smaller measure. -/
def Qloop (I : Nat → Env → List HP → Prop) (k : Nat) (Q : QT) : QT
  | .normal, e, H => ∃ k' e' H', k' < k ∧ EnvSub e' e ∧ Ent H H' ∧ I k' e' H'
  | x, e, H => Q x e H

theorem WC.loop {c : Code} (I : Nat → Env → List HP → Prop) {k : Nat} {e0 : Env} {H0 : List HP} (he : EnvSub e0 e) (hh : Ent H H0) (h0 : I k e0 H0)
    (h : ∀ k e H, I k e H → WC P n c (Qloop I k Q) e H) : WC P n (.loop c) Q e H := by
  intro w0 F a w h1 h2 h3 b kk cs
  have key : ∀ k e H a w, I k e H → EnvOK n e a → Sat w (H ++ F) → Ext w0 w →
      ∃ x a' w', lift n w0 F Q x a' w' ∧ Arrives P (lone (b.at a (.code c :: .inLoop c :: kk)) cs w) b kk cs x a' w' := by
    intro k
    induction k using Nat.strongRecOn with
    | _ k ih =>
      intro e H a w hI g1 g2 g3
      obtain ⟨x, a1, w1, hq, harr⟩ := h k e H hI w0 F a w g1 g2 g3 b (.inLoop c :: kk) cs
      cases x with
      | normal =>
        obtain ⟨e1, H1, q1, q2, q3, k', e2, H2, hk, hs, hE, hI'⟩ := hq
        obtain ⟨x2, a2, w2, hq2, harr2⟩ := ih k' hk e2 H2 a1 w1 hI' (q1.sub hs) (hE F w1 q2) q3
        exact ⟨x2, a2, w2, hq2, .of_steps (Steps.trans harr (.one step_inLoop)) harr2⟩
      | exit id => exact ⟨.exit id, a1, w1, hq, .pass (x := .inLoop c) rfl (fun _ _ => .inl (by simp)) harr⟩
      | goto l => exact hq.elim
      | ret => exact ⟨.ret, a1, w1, hq, .pass (x := .inLoop c) rfl (fun _ _ => .inl (by simp)) harr⟩
      | panic ch => exact hq.elim
      | outgrown => exact hq.elim
  obtain ⟨x, a', w', hq, harr⟩ := key k e0 H0 a w h0 (h1.sub he) (hh F w h2) h3
  exact ⟨x, a', w', hq, .of_steps (.one step_loop) harr⟩

theorem WC.region {id : Nat} {ops : Array Oper} {l : List Oper} (hl : ops = ⟨l⟩) (h : WL P n ops Q l e H) : WC P n (.region id ops false) Q e H :=
  fun w0 F a w h1 h2 h3 => wp_region_list (by rw [hl] at h ⊢; exact h w0 F a w h1 h2 h3)

theorem WL.nil {ops : Array Oper} (h : Q .normal e H) : WL P n ops Q [] e H := fun _ _ _ _ h1 h2 h3 => ⟨e, H, h1, h2, h3, h⟩

theorem WL.run {ops : Array Oper} {o : Oper} {l : List Oper} {w0 : World} {F : List HP} {a : Act} {w : World} (hw : Region.wanted o (yielded ops a.tmps) = true)
    (h : UponT P (fun v w' => wpList P ops (lift n w0 F Q) l (a.put o.dst v) w') ((execOp a.eval o).run P w)) : wpList P ops (lift n w0 F Q) (o :: l) a w := by
  unfold wpList
  rw [if_pos hw]
  left
  unfold Oper.wp
  generalize (execOp a.eval o).run P w = r at h
  unfold UponT at h
  split at h
  · exact h
  · exact h
  · refine Calls.mono h ?_
    rintro x w' ⟨v, rfl, hr⟩
    exact hr
  · exact h.elim

theorem WL.op {ops : Array Oper} {d : Option Tmp} {op : Op} {ty : TypeId} {pos : String} {after : Array Edge} {l : List Oper}
    (h : OpT P e H ⟨d, op, ty, pos, after, none⟩ fun v H' => match d with
      | some d => Nat.blt d n = true ∧ WL P n ops Q l ((d, v) :: e) H'
      | none => WL P n ops Q l e H') : WL P n ops Q (⟨d, op, ty, pos, after, none⟩ :: l) e H := by
  intro w0 F a w h1 h2 h3
  refine WL.run rfl ?_
  refine (h a.eval (fun x _ v hx => h1.eval x v hx) F w h2).mono ?_
  rintro v w' ⟨H', g1, g2, g3⟩
  cases d with
  | none => exact g3 w0 F _ w' (h1.put_none v) g1 (h3.trans g2)
  | some d => exact g3.2 w0 F _ w' (h1.put g3.1 v) g1 (h3.trans g2)

/-- An operation under a guard that says yes. -/
theorem WL.opg {ops : Array Oper} {d : Option Tmp} {op : Op} {ty : TypeId} {pos : String} {after : Array Edge} {j t : Nat} {b c : Bool} {l : List Oper}
    (hj : (ops[j]?).bind (·.dst) = some t) (ht : lk e t = some (.bool c)) (htn : Nat.blt t n = true) (hc : c = b)
    (h : OpT P e H ⟨d, op, ty, pos, after, some (j, b)⟩ fun v H' => match d with
      | some d => Nat.blt d n = true ∧ WL P n ops Q l ((d, v) :: e) H'
      | none => WL P n ops Q l e H') : WL P n ops Q (⟨d, op, ty, pos, after, some (j, b)⟩ :: l) e H := by
  intro w0 F a w h1 h2 h3
  have hy : yielded ops a.tmps j = some c := by
    have := h1.get t _ ht
    have hs : t < a.tmps.size := by rw [h1.size]; simpa [Nat.blt_eq] using htn
    unfold yielded
    rw [hj]
    simp only [Option.bind_some]
    rw [Array.getElem?_eq_getElem hs]
    rw [Array.getD, dif_pos hs] at this
    rw [show a.tmps[t] = .bool c from this]
  refine WL.run (by simp [Region.wanted, hy, hc]) ?_
  refine (h a.eval (fun x _ v hx => h1.eval x v hx) F w h2).mono ?_
  rintro v w' ⟨H', g1, g2, g3⟩
  cases d with
  | none => exact g3 w0 F _ w' (h1.put_none v) g1 (h3.trans g2)
  | some d => exact g3.2 w0 F _ w' (h1.put g3.1 v) g1 (h3.trans g2)

/-- An operation under a guard that says no. -/
theorem WL.skipg {ops : Array Oper} {d : Tmp} {op : Op} {ty : TypeId} {pos : String} {after : Array Edge} {j t : Nat} {b : Bool} {u : Value} {l : List Oper}
    (hj : (ops[j]?).bind (·.dst) = some t) (ht : lk e t = some u) (htn : Nat.blt t n = true) (hc : ∀ c, u = .bool c → c = !b) (hd : Nat.blt d n = true)
    (h : WL P n ops Q l ((d, undef) :: e) H) : WL P n ops Q (⟨some d, op, ty, pos, after, some (j, b)⟩ :: l) e H := by
  intro w0 F a w h1 h2 h3
  have hy : (yielded ops a.tmps j == some b) = false := by
    have := h1.get t _ ht
    have hs : t < a.tmps.size := by rw [h1.size]; simpa [Nat.blt_eq] using htn
    unfold yielded
    rw [hj]
    simp only [Option.bind_some]
    rw [Array.getElem?_eq_getElem hs]
    rw [Array.getD, dif_pos hs] at this
    rw [show a.tmps[t] = u from this]
    cases u <;> first | rfl | skip
    have := hc _ rfl
    subst this
    cases b <;> rfl
  unfold wpList
  rw [if_neg (by simp only [Region.wanted, hy]; simp)]
  exact h w0 F _ w (h1.put hd undef) h2 h3
end

/-- One result of a function. -/
def resOne (tmps : Array Value) : ResultVar → Sem Value
  | .tmp t => Pure.pure (tmps.getD t undef)
  | .cell a t => do loadVar t (← asAddr (tmps.getD a undef))

def RV1 (P : Program) (e : Env) (H : List HP) (r : ResultVar) (v : Value) : Prop :=
  ∀ n F a w, EnvOK n e a → Sat w (H ++ F) → (resOne a.tmps r).run P w = .ok v w

inductive RVs (P : Program) (e : Env) (H : List HP) : List ResultVar → List Value → Prop where
  | nil : RVs P e H [] []
  | cons {r : ResultVar} {rs : List ResultVar} {v : Value} {vs : List Value} : RV1 P e H r v → RVs P e H rs vs → RVs P e H (r :: rs) (v :: vs)

def resVal : List Value → Value
  | [v] => v
  | vs => .tuple ⟨vs⟩

theorem RV1.tmp {P : Program} {e : Env} {H : List HP} {t : Tmp} {v : Value} (h : lk e t = some v) : RV1 P e H (.tmp t) v := by
  intro n F a w h1 h2
  have := h1.get t v h
  simp only [resOne, this]
  rfl

theorem run_bind_ok {α β : Type} {P : Program} {x : Sem α} {f : α → Sem β} {w : World} {a : α} {w' : World} (h : x.run P w = .ok a w') : (x >>= f).run P w = (f a).run P w' := by
  rw [Sem.run_bind, h]; rfl

theorem mapM_run {P : Program} {rs : List ResultVar} {vs : List Value} {tmps : Array Value} {w : World} (h : List.length rs = vs.length)
    (hr : ∀ (i : Nat) (r : ResultVar) (v : Value), rs[i]? = some r → vs[i]? = some v → (resOne tmps r).run P w = .ok v w) : (List.mapM (resOne tmps) rs).run P w = .ok vs w := by
  induction rs generalizing vs with
  | nil => cases vs with
    | nil => rfl
    | cons => simp at h
  | cons r rs ih =>
    cases vs with
    | nil => simp at h
    | cons v vs =>
      rw [List.mapM_cons]
      rw [run_bind_ok (hr 0 r v rfl rfl)]
      rw [run_bind_ok (ih (vs := vs) (by simpa using h) (fun i r v h1 h2 => hr (i + 1) r v (by simpa using h1) (by simpa using h2)))]
      rfl

theorem RVs.run {P : Program} {e : Env} {H : List HP} {rs : List ResultVar} {vs : List Value} (h : RVs P e H rs vs) {n : Nat} {F : List HP} {a : Act} {w : World}
    (h1 : EnvOK n e a) (h2 : Sat w (H ++ F)) : rs.length = vs.length ∧ ∀ (i : Nat) (r : ResultVar) (v : Value), rs[i]? = some r → vs[i]? = some v → (resOne a.tmps r).run P w = .ok v w := by
  induction h with
  | nil => exact ⟨rfl, fun i r v h => by simp at h⟩
  | cons hr _ ih =>
    refine ⟨by simp [ih.1], ?_⟩
    intro i r v g1 g2
    cases i with
    | zero =>
      simp at g1 g2
      subst g1 g2
      exact hr n F a w h1 h2
    | succ i => exact ih.2 i r v (by simpa using g1) (by simpa using g2)

theorem results_run {P : Program} {fn : Func} {e : Env} {H : List HP} {rs : List ResultVar} {vs : List Value} (hr : fn.results = ⟨rs⟩) (h : RVs P e H rs vs) {n : Nat} {F : List HP}
    {a : Act} {w : World} (h1 : EnvOK n e a) (h2 : Sat w (H ++ F)) : (results fn a.tmps).run P w = .ok (resVal vs) w := by
  obtain ⟨hl, hi⟩ := h.run h1 h2
  have hm := mapM_run hl hi
  unfold results
  rw [hr]
  have : (Array.mapM (resOne a.tmps) (⟨rs⟩ : Array ResultVar)).run P w = .ok ⟨vs⟩ w := by
    rw [Array.mapM_eq_mapM_toList, Sem.run_map]
    rw [hm]; rfl
  have hfun : (fun r : ResultVar => match r with
    | .tmp t => (Pure.pure (a.tmps.getD t undef) : Sem Value)
    | .cell b t => do loadVar t (← asAddr (a.tmps.getD b undef))) = resOne a.tmps := by
    funext r; cases r <;> rfl
  refine (run_bind_ok (by rw [← this]; exact congrArg (fun f => Sem.run P (Array.mapM f (⟨rs⟩ : Array ResultVar)) w) hfun)).trans ?_
  rw [Sem.run_pure]
  cases vs with
  | nil => rfl
  | cons v vs => cases vs with
    | nil => rfl
    | cons u vs => simp [resVal]

/-- What a function's body leaves. -/
def Qfn (P : Program) (rs : List ResultVar) (Post : Value → List HP → Prop) : QT
  | .exit _, _, _ => False
  | _, e, H => ∃ vs, RVs P e H rs vs ∧ ∃ R, Ent H R ∧ Post (resVal vs) R

def zipEnv : Nat → List Value → Env
  | _, [] => []
  | i, v :: vs => (i, v) :: zipEnv (i + 1) vs

theorem lk_zipEnv : ∀ (vs : List Value) (i x : Nat) (v : Value), lk (zipEnv i vs) x = some v → i ≤ x ∧ vs[x - i]? = some v := by
  intro vs
  induction vs with
  | nil => intro i x v h; simp [zipEnv, lk] at h
  | cons u vs ih =>
    intro i x v h
    simp only [zipEnv, lk] at h
    cases hb : Nat.beq i x
    · rw [hb] at h
      obtain ⟨h1, h2⟩ := ih (i + 1) x v (by simpa using h)
      refine ⟨by omega, ?_⟩
      rw [show x - i = (x - (i + 1)) + 1 from by omega]
      simpa using h2
    · rw [hb] at h
      have := Nat.eq_of_beq_eq_true hb
      subst this
      simp at h
      simp [h]

theorem Spec.of {P : Program} {f : FuncId} {fn : Func} {c : Code} {n : Nat} {rs : List ResultVar} {args : List Value} {H : List HP} {Post : Value → List HP → Prop}
    (hf : P.funcs[f]? = some fn) (hname : (fn.name == "runtime.NumGoroutine") = false) (hb : fn.body = some c) (hn : fn.ntmps = n) (hr : fn.results = ⟨rs⟩)
    (hargs : Nat.ble args.length n = true) (h : WC P n c (Qfn P rs Post) (zipEnv 0 args) H) : Spec P f args H Post := by
  refine ⟨⟨fn, hf, hname, by simp [hb]⟩, fun F w s => ?_⟩
  have hle : args.length ≤ n := by simpa using hargs
  refine calls_of_wp hf hb (wp_mono (h w F _ w ⟨?_, rfl, ?_⟩ s (Ext.refl w)) ?_)
  · simp [hn]; omega
  · intro x v hx
    obtain ⟨_, h2⟩ := lk_zipEnv args 0 x v hx
    simp only [Nat.sub_zero] at h2
    have hx' : x < args.length := (List.getElem?_eq_some_iff.1 h2).1
    have hv : args[x] = v := (List.getElem?_eq_some_iff.1 h2).2
    simp only [Array.getD]
    rw [dif_pos (by simp; omega)]
    simp only [Array.getInternal_eq_getElem]
    rw [Array.getElem_append_left (by simpa using hx')]
    simpa using hv
  · intro x a w' hx
    cases x with
    | normal =>
      obtain ⟨e, H', h1, h2, h3, vs, h4, R, h5, h6⟩ := hx
      exact ⟨h1.defers, _, results_run hr h4 h1 h2, _, _, rfl, h5 F w' h2, h3, h6⟩
    | ret =>
      obtain ⟨e, H', h1, h2, h3, vs, h4, R, h5, h6⟩ := hx
      exact ⟨h1.defers, _, results_run hr h4 h1 h2, _, _, rfl, h5 F w' h2, h3, h6⟩
    | exit id =>
      obtain ⟨e, H', h1, h2, h3, h4⟩ := hx
      exact h4.elim
    | _ => exact hx.elim

end Go.Proofs.Ytidmolpkcfhkaaa
