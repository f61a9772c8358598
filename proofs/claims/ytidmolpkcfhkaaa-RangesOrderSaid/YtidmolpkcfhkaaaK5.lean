/- Calls; and the operations as steps of a list. -/
import Derived.Test.YtidmolpkcfhkaaaK4
namespace Go.Proofs.Ytidmolpkcfhkaaa
set_option linter.unusedSectionVars false
set_option linter.unusedVariables false
set_option linter.unusedSimpArgs false
open Go

/-- These stand in H; the rest is G. -/
inductive Take : List HP → List HP → List HP → Prop where
  | nil {H : List HP} : Take [] H H
  | cons {A : HP} {Pre H H1 G : List HP} : Pick A H H1 → Take Pre H1 G → Take (A :: Pre) H G
  | keep {A : HP} {Pre H H1 G : List HP} : Pers A → Pick A H H1 → Take Pre (A :: H1) G → Take (A :: Pre) H G

theorem Take.ent {Pre H G : List HP} (h : Take Pre H G) : Ent H (Pre ++ G) := by
  induction h with
  | nil => exact Ent.refl _
  | cons hp _ ih => exact Ent.pick hp ih
  | keep hA hp _ ih => exact ((Ent.of hp).trans (Ent.dup hA)).trans (ih.cons _)

theorem Take.back {Pre H : List HP} (h : Take Pre H []) : Ent H Pre := by simpa using h.ent

/-- What is told of a persistent assertion: found by instances. -/
class IsPers (A : HP) : Prop where
  pers : Pers A
instance (b : Nat) (o : Obj) : IsPers (Imm b o) := ⟨Imm.pers b o⟩
instance (φ : Prop) : IsPers (Pure φ) := ⟨Pure.pers φ⟩
instance (b : Nat) (T : TypeId) (cs : List Value) : IsPers (IBlk b T cs) := ⟨IBlk.pers b T cs⟩
instance (w : World) : IsPers (Base w) := ⟨Base.pers w⟩
theorem Take.keepI {A : HP} [hA : IsPers A] {Pre H H1 G : List HP} (h : Pick A H H1) (k : Take Pre (A :: H1) G) : Take (A :: Pre) H G := .keep hA.pers h k
theorem Take.pure {φ : Prop} {Pre H G : List HP} (hφ : φ) (k : Take Pre H G) : Take (Pure φ :: Pre) H G :=
  .cons (A := Pure φ) (H1 := H) (fun _ hr => hr.add_pure hφ) k
theorem Take.drop {Pre H H1 : List HP} (h : Take Pre H H1) {G : List HP} (hd : Ent H1 G) : Ent H (Pre ++ G) := by
  refine h.ent.trans ?_
  intro F w s
  have s1 : Sat w (Pre ++ (H1 ++ F)) := by simpa using s
  have s2 : Sat w ((H1 ++ F) ++ Pre) := by
    obtain ⟨r, hf, hr⟩ := s1
    obtain ⟨p, q, hj, h1, h2⟩ := SatH.append.1 hr
    exact ⟨r, hf, SatH.append.2 ⟨q, p, hj.comm, h2, h1⟩⟩
  have s3 : Sat w (H1 ++ (F ++ Pre)) := by simpa using s2
  have s4 := hd (F ++ Pre) w s3
  have s5 : Sat w ((G ++ F) ++ Pre) := by simpa using s4
  obtain ⟨r, hf, hr⟩ := s5
  obtain ⟨p, q, hj, h1, h2⟩ := SatH.append.1 hr
  have : Sat w (Pre ++ (G ++ F)) := ⟨r, hf, SatH.append.2 ⟨q, p, hj.comm, h2, h1⟩⟩
  simpa using this

section
variable {P : Program} {e : Env} {H H' : List HP} {K : Value → List HP → Prop} {d : Option Tmp} {ty : TypeId} {pos : String} {after : Array Edge} {g : Option (Nat × Bool)}

theorem OpT.call {x : Operand} {xs : List Operand} {ts : Array TypeId} {f : FuncId} {first cap vs : List Value} {Pre G : List HP} {Post : Value → List HP → Prop}
    (hx : ev e x = some (.func (.func f) ⟨first⟩ ⟨cap⟩)) (hv : evs e xs = some vs) (hs : Spec P f (first ++ vs ++ cap) Pre Post) (hE : Take Pre H G)
    (hk : ∀ v R, Post v R → K v (R ++ G)) : OpT P e H ⟨d, .call ⟨.value x, ⟨xs⟩, ts⟩, ty, pos, after, g⟩ K := by
  intro ρ hρ F w s
  have hx' := hρ x (by simp [Op.operands, Call.operands]) _ hx
  have hv' := evs_eq (fun y hy => hρ y (by simp [Op.operands, Call.operands, hy])) hv
  have hr : (execOp ρ ⟨d, .call ⟨.value x, ⟨xs⟩, ts⟩, ty, pos, after, g⟩).run P w = .ok (.enter f ⟨first ++ vs ++ cap⟩) w := by
    simp only [execOp, resolve]
    rw [hx']
    refine (run_bind_ok (a := { target := .fn (.func f) ⟨cap⟩, args := ⟨first⟩ ++ (⟨xs⟩ : Array Operand).map ρ }) (w' := w) rfl).trans ?_
    simp only [invoke]
    rw [show (⟨first⟩ : Array Value) ++ (⟨xs⟩ : Array Operand).map ρ ++ ⟨cap⟩ = ⟨first ++ vs ++ cap⟩ from by rw [← hv']; simp]
    exact hs.ok.run _ w
  rw [hr]
  have s' : Sat w (Pre ++ (G ++ F)) := by
    have := hE.ent F w s
    simpa using this
  refine (hs.calls (G ++ F) w s').mono ?_
  rintro ec w' ⟨v, R, rfl, h1, h2, h3⟩
  exact ⟨v, rfl, R ++ G, by simpa using h1, h2, hk v R h3⟩
end

/- As steps of a list. -/
section
variable {P : Program} {n : Nat} {Q : QT} {e : Env} {H H' : List HP} {ops : Array Oper} {l : List Oper} {d : Tmp} {ty : TypeId} {pos : String} {after : Array Edge}

def noX : Bool → Bool → Bool
  | true, true => false
  | false, false => false
  | _, _ => true

theorem wl_guard {dd : Option Tmp} {op : Op} {j t : Nat} {b c : Bool} (hj : (ops[j]?).bind (·.dst) = some t) (ht : lk e t = some (.bool c)) (htn : Nat.blt t n = true) (hc : c = b)
    (h : WL P n ops Q (⟨dd, op, ty, pos, after, none⟩ :: l) e H) : WL P n ops Q (⟨dd, op, ty, pos, after, some (j, b)⟩ :: l) e H := by
  intro w0 F a w h1 h2 h3
  have hy : yielded ops a.tmps j = some c := by
    have := h1.get t _ ht
    have hs : t < a.tmps.size := by rw [h1.size]; simpa [Nat.blt_eq] using htn
    unfold yielded
    rw [hj]
    simp only [Option.bind_some]
    rw [Array.getElem?_eq_getElem hs]
    rw [Array.getD, dif_pos hs] at this
    rw [show a.tmps[t] = .bool c from this]
  have hh := h w0 F a w h1 h2 h3
  unfold wpList at hh ⊢
  rw [if_pos (by simp [Region.wanted])] at hh
  rw [if_pos (by simp [Region.wanted, hy, hc])]
  exact hh

theorem wl_gsplit {op : Op} {j t : Nat} {b c : Bool} (hj : (ops[j]?).bind (·.dst) = some t) (ht : lk e t = some (.bool c)) (htn : Nat.blt t n = true) (hd : Nat.blt d n = true)
    (h1 : c = b → WL P n ops Q (⟨some d, op, ty, pos, after, none⟩ :: l) ((t, .bool b) :: e) H) (h2 : c = (!b) → WL P n ops Q l ((d, undef) :: (t, .bool !b) :: e) H) :
    WL P n ops Q (⟨some d, op, ty, pos, after, some (j, b)⟩ :: l) e H := by
  by_cases hc : c = b
  · refine wl_guard hj ht htn hc ?_
    intro w0 F a w g1 g2 g3
    refine h1 hc w0 F a w ⟨g1.size, g1.defers, ?_⟩ g2 g3
    intro x v hx
    simp only [lk] at hx
    cases hb : Nat.beq t x
    · rw [hb] at hx; exact g1.get x v (by simpa using hx)
    · rw [hb] at hx
      have := Nat.eq_of_beq_eq_true hb
      subst this
      rw [g1.get t _ ht, hc]
      simpa using hx
  · have hc' : c = !b := by cases c <;> cases b <;> simp_all
    refine WL.skipg hj ht htn (fun c' h => by cases h; exact hc') hd ?_
    intro w0 F a w g1 g2 g3
    refine h2 hc' w0 F a w ⟨g1.size, g1.defers, ?_⟩ g2 g3
    intro x v hx
    simp only [lk] at hx
    cases hb : Nat.beq d x
    · rw [hb] at hx
      simp only [cond_false] at hx
      cases hb2 : Nat.beq t x
      · rw [hb2] at hx
        exact g1.get x v (by simp only [lk, hb]; simpa using hx)
      · rw [hb2] at hx
        have := Nat.eq_of_beq_eq_true hb2
        subst this
        have h3 := g1.get t (.bool c) (by simp only [lk, hb]; simpa using ht)
        rw [h3, hc']
        simpa using hx
    · rw [hb] at hx
      exact g1.get x v (by simp only [lk, hb]; simpa using hx)

/-- An operation under a guard that says no, as is known. -/
theorem wl_gno {op : Op} {j t : Nat} {b : Bool} {u : Value} (hj : (ops[j]?).bind (·.dst) = some t) (ht : lk e t = some u) (htn : Nat.blt t n = true) (hd : Nat.blt d n = true)
    (hc : (match u with | .bool c => noX c b | _ => true) = true) (h : WL P n ops Q l ((d, undef) :: e) H) : WL P n ops Q (⟨some d, op, ty, pos, after, some (j, b)⟩ :: l) e H :=
  WL.skipg hj ht htn (fun c hu => by subst hu; cases c <;> cases b <;> simp_all [noX]) hd h

variable [IsP P]
theorem wl_calc {op : Op} {v : Value} {c : Prop} (hv : evalOp e op = some (v, c)) (hc : c) (hd : Nat.blt d n = true) (h : WL P n ops Q l ((d, v) :: e) H) :
    WL P n ops Q (⟨some d, op, ty, pos, after, none⟩ :: l) e H := WL.op (OpT.calc hv hc ⟨hd, h⟩)
theorem wl_load {t : TypeId} {x : Operand} {b o : Nat} {td : TD} {T : TypeId} {cs : List Value} {v : Value} (hx : ev e x = some (.pointer (some ⟨b, o, none⟩)))
    (ht : tab t = some td) (hd : Nat.blt d n = true) (hp : Pick (Blk b T cs) H H') (hv : partOf td.agg td.size o cs = some v) (h : WL P n ops Q l ((d, v) :: e) H) :
    WL P n ops Q (⟨some d, .load t x, ty, pos, after, none⟩ :: l) e H := WL.op (OpT.load hx ht hp hv ⟨hd, h⟩)
theorem wl_loadI {t : TypeId} {x : Operand} {b o : Nat} {td : TD} {T : TypeId} {cs : List Value} {v : Value} (hx : ev e x = some (.pointer (some ⟨b, o, none⟩)))
    (ht : tab t = some td) (hd : Nat.blt d n = true) (hp : Pick (IBlk b T cs) H H') (hv : partOf td.agg td.size o cs = some v) (h : WL P n ops Q l ((d, v) :: e) H) :
    WL P n ops Q (⟨some d, .load t x, ty, pos, after, none⟩ :: l) e H := WL.op (OpT.loadI hx ht hp hv ⟨hd, h⟩)
theorem wl_store {t : TypeId} {x y : Operand} {b o : Nat} {td : TD} {T : TypeId} {cs cs' : List Value} {v : Value} (hx : ev e x = some (.pointer (some ⟨b, o, none⟩))) (hy : ev e y = some v)
    (ht : tab t = some td) (hp : Pick (Blk b T cs) H H') (hv : storeOf td.agg td.size o cs v = some cs') (h : WL P n ops Q l e (Blk b T cs' :: H')) :
    WL P n ops Q (⟨none, .store t x y, ty, pos, after, none⟩ :: l) e H := WL.op (OpT.store hx hy ht hp hv h)
theorem wl_alloc {t : TypeId} {td : TD} (ht : tab t = some td) (hd : Nat.blt d n = true) (h : ∀ b, WL P n ops Q l ((d, .pointer (some ⟨b, 0, none⟩)) :: e) (Blk b t td.zero :: H)) :
    WL P n ops Q (⟨some d, .alloc t, ty, pos, after, none⟩ :: l) e H := WL.op (OpT.alloc ht fun b => ⟨hd, h b⟩)
omit [IsP P] in
theorem wl_box {t : TypeId} {x : Operand} {v : Value} {vs : List Value} (hx : ev e x = some v) (hv : boxOf v = some vs) (hd : Nat.blt d n = true)
    (h : ∀ b, WL P n ops Q l ((d, .pointer (some ⟨b, 0, none⟩)) :: e) (Blk b t vs :: H)) :
    WL P n ops Q (⟨some d, .box t x, ty, pos, after, none⟩ :: l) e H := WL.op (OpT.box hx hv fun b => ⟨hd, h b⟩)
theorem wl_row {t : TypeId} {m : Nat} {ps : List (Nat × Operand)} {td te : TD} {cs : List Value} (ht : tab t = some td) (hk : td.kind = .slice) (he : tab td.elem = some te)
    (hn : Nat.ble (m * te.size) 1000 = true) (hz : Nat.beq te.zero.length te.size = true) (hc : rowOf e te.agg te.size ps (zeros te.zero m) = some cs) (hd : Nat.blt d n = true)
    (h : ∀ b, WL P n ops Q l ((d, .slice (some ⟨b, 0, none⟩) m m) :: e) (Blk b td.elem cs :: H)) :
    WL P n ops Q (⟨some d, .buildSlice t m ⟨ps⟩, ty, pos, after, none⟩ :: l) e H := WL.op (OpT.buildSlice ht hk he hn hz hc fun b => ⟨hd, h b⟩)
omit [IsP P] in
theorem wl_call {x : Operand} {xs : List Operand} {ts : Array TypeId} {f : FuncId} {first cap vs : List Value} {Pre G : List HP} {Post : Value → List HP → Prop}
    (hx : ev e x = some (.func (.func f) ⟨first⟩ ⟨cap⟩)) (hv : evs e xs = some vs) (hd : Nat.blt d n = true) (hs : Spec P f (first ++ vs ++ cap) Pre Post) (hE : Take Pre H G)
    (h : ∀ v R, Post v R → WL P n ops Q l ((d, v) :: e) (R ++ G)) : WL P n ops Q (⟨some d, .call ⟨.value x, ⟨xs⟩, ts⟩, ty, pos, after, none⟩ :: l) e H :=
  WL.op (OpT.call hx hv hs hE fun v R hp => ⟨hd, h v R hp⟩)
end

theorem Qfn.one {P : Program} {t : Tmp} {Post : Value → List HP → Prop} {e : Env} {H : List HP} {v : Value} (h : lk e t = some v) (hp : ∃ R, Ent H R ∧ Post v R) : Qfn P [.tmp t] Post .ret e H :=
  ⟨[v], .cons (.tmp h) .nil, hp⟩
theorem Qfn.two {P : Program} {t u : Tmp} {Post : Value → List HP → Prop} {e : Env} {H : List HP} {v x : Value} (h : lk e t = some v) (h2 : lk e u = some x) (hp : ∃ R, Ent H R ∧ Post (.tuple ⟨[v, x]⟩) R) : Qfn P [.tmp t, .tmp u] Post .ret e H :=
  ⟨[v, x], .cons (.tmp h) (.cons (.tmp h2) .nil), hp⟩
theorem Qfn.three {P : Program} {t u r : Tmp} {Post : Value → List HP → Prop} {e : Env} {H : List HP} {v x y : Value} (h : lk e t = some v) (h2 : lk e u = some x) (h3 : lk e r = some y)
    (hp : ∃ R, Ent H R ∧ Post (.tuple ⟨[v, x, y]⟩) R) : Qfn P [.tmp t, .tmp u, .tmp r] Post .ret e H :=
  ⟨[v, x, y], .cons (.tmp h) (.cons (.tmp h2) (.cons (.tmp h3) .nil)), hp⟩
theorem Qfn.zero {P : Program} {Post : Value → List HP → Prop} {e : Env} {H : List HP} (hp : ∃ R, Ent H R ∧ Post (.tuple ⟨[]⟩) R) : Qfn P [] Post .ret e H := ⟨[], .nil, hp⟩
theorem Qfn.zeroN {P : Program} {Post : Value → List HP → Prop} {e : Env} {H : List HP} (hp : ∃ R, Ent H R ∧ Post (.tuple ⟨[]⟩) R) : Qfn P [] Post .normal e H := ⟨[], .nil, hp⟩


section
variable {P : Program} {n : Nat} {c : Code} {Q : QT} {e : Env} {H : List HP} {I : Nat → Env → List HP → Prop} {k i id : Nat}
theorem Qseq.nm (h : WC P n c Q e H) : Qseq P n c Q .normal e H := h
theorem Qseq.r (h : Q .ret e H) : Qseq P n c Q .ret e H := h
theorem Qseq.x (h : Q (.exit i) e H) : Qseq P n c Q (.exit i) e H := h
theorem Qblock.nm (h : Q .normal e H) : Qblock id Q .normal e H := h
theorem Qblock.r (h : Q .ret e H) : Qblock id Q .ret e H := h
theorem Qblock.t (hb : Nat.beq i id = true) (h : Q .normal e H) : Qblock id Q (.exit i) e H := by
  simp only [Qblock, hb, cond_true]; exact h
theorem Qblock.f (hb : Nat.beq i id = false) (h : Q (.exit i) e H) : Qblock id Q (.exit i) e H := by
  simp only [Qblock, hb, cond_false]; exact h
theorem Qloop.r (h : Q .ret e H) : Qloop I k Q .ret e H := h
theorem Qloop.x (h : Q (.exit i) e H) : Qloop I k Q (.exit i) e H := h
end

end Go.Proofs.Ytidmolpkcfhkaaa
