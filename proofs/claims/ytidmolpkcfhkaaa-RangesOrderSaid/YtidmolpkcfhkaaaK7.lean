/- Slices: rows of elements, owned or shared for good. -/
import Derived.Test.YtidmolpkcfhkaaaK6
namespace Go.Proofs.Ytidmolpkcfhkaaa
set_option linter.unusedSectionVars false
set_option linter.unusedVariables false
set_option linter.unusedSimpArgs false
open Go

/-- How an element lies in cells, and which elements there are. -/
structure Enc (α : Type) where
  sz : Nat
  f : α → List Value
  len : ∀ x, (f x).length = sz
  one : ∀ x, allOne (f x) = true
  ok : α → Prop

section
variable {α : Type}
def lies (E : Enc α) (off : Nat) (cs : List Value) (xs : List α) : Prop :=
  ∀ (i : Nat) (x : α), xs[i]? = some x → ∀ (j : Nat) (v : Value), (E.f x)[j]? = some v → cs[off + i * E.sz + j]? = some v

/-- A slice of such elements that is shared for good. -/
def ISl (E : Enc α) (a : Option Addr) (c : Nat) (xs : List α) : HP := fun p =>
  (∀ x ∈ xs, E.ok x) ∧ xs.length ≤ c ∧ (xs = [] ∨ ∃ b off cs T fr, a = some ⟨b, off, none⟩ ∧ p b = some (.cells ⟨cs⟩ T fr, true) ∧ lies E off cs xs)

/-- A slice of such elements that is owned, from its array's head on; T: the element's type. -/
def OSl (E : Enc α) (T : TypeId) (a : Option Addr) (c : Nat) (xs : List α) : HP := fun p =>
  (∀ x ∈ xs, E.ok x) ∧ xs.length ≤ c ∧ ((a = none ∧ c = 0) ∨
    ∃ b cs, a = some ⟨b, 0, none⟩ ∧ Blk b T cs p ∧ cs.length = c * E.sz ∧ lies E 0 cs xs)

theorem ISl.pers (E : Enc α) (a : Option Addr) (c : Nat) (xs : List α) : Pers (ISl E a c xs) := by
  rintro p ⟨h1, h2, h3⟩
  refine ⟨h1, h2, h3.imp id ?_⟩
  rintro ⟨b, off, cs, T, fr, ha, hp, hl⟩
  exact ⟨b, off, cs, T, fr, ha, by simp [immPart, hp], hl⟩
instance (E : Enc α) (a : Option Addr) (c : Nat) (xs : List α) : IsPers (ISl E a c xs) := ⟨ISl.pers E a c xs⟩

/-- In this world the slice reads so. -/
def RdW (w : World) (E : Enc α) (a : Option Addr) (xs : List α) : Prop :=
  xs = [] ∨ ∃ b off, a = some ⟨b, off, none⟩ ∧ ∀ (i : Nat) (x : α), xs[i]? = some x → ∀ (j : Nat) (v : Value), (E.f x)[j]? = some v → w.cell? ⟨b, off + i * E.sz + j, none⟩ = some v

theorem Sat.head {w : World} {A : HP} {H : List HP} (h : Sat w (A :: H)) : ∃ p, Fits p w ∧ A p := by
  obtain ⟨r, hf, p, q, hj, h1, _⟩ := h
  refine ⟨p, ?_, h1⟩
  intro b o k hb
  have := hj b
  rw [hb] at this
  rcases hx : q b with _ | ⟨o', k'⟩
  · rw [hx] at this; exact hf _ _ _ this
  · rw [hx] at this
    obtain ⟨_, _, _, hz⟩ := this
    exact hf _ _ _ hz

theorem ISl.rd {w : World} {E : Enc α} {a : Option Addr} {c : Nat} {xs : List α} {F : List HP} (h : Sat w (ISl E a c xs :: F)) : (∀ x ∈ xs, E.ok x) ∧ xs.length ≤ c ∧ RdW w E a xs := by
  obtain ⟨p, hf, h1, h2, h3⟩ := Sat.head h
  refine ⟨h1, h2, h3.imp id ?_⟩
  rintro ⟨b, off, cs, T, fr, ha, hp, hl⟩
  refine ⟨b, off, ha, fun i x hx j v hv => ?_⟩
  have := hl i x hx j v hv
  simp [World.cell?, hf _ _ _ hp, this]

theorem OSl.rd {w : World} {E : Enc α} {T : TypeId} {a : Option Addr} {c : Nat} {xs : List α} {F : List HP} (h : Sat w (OSl E T a c xs :: F)) : (∀ x ∈ xs, E.ok x) ∧ xs.length ≤ c ∧ RdW w E a xs := by
  obtain ⟨p, hf, h1, h2, h3⟩ := Sat.head h
  refine ⟨h1, h2, ?_⟩
  rcases h3 with ⟨_, hc⟩ | ⟨b, cs, ha, ⟨fr, hfr, hp⟩, _, hl⟩
  · left
    exact List.length_eq_zero_iff.1 (by omega)
  · right
    refine ⟨b, 0, ha, fun i x hx j v hv => ?_⟩
    have := hl i x hx j v hv
    rw [Nat.zero_add] at this
    simp [World.cell?, hf _ _ _ hp, this]

/-- Assertions that tell how a slice reads. -/
class Rds (A : HP) (E : outParam (Enc α)) (a : outParam (Option Addr)) (c : outParam Nat) (xs : outParam (List α)) : Prop where
  rd : ∀ w F, Sat w (A :: F) → (∀ x ∈ xs, E.ok x) ∧ xs.length ≤ c ∧ RdW w E a xs
instance (E : Enc α) (a : Option Addr) (c : Nat) (xs : List α) : Rds (ISl E a c xs) E a c xs := ⟨fun _ _ h => ISl.rd h⟩
instance (E : Enc α) (T : TypeId) (a : Option Addr) (c : Nat) (xs : List α) : Rds (OSl E T a c xs) E a c xs := ⟨fun _ _ h => OSl.rd h⟩

/-- Cell o of element i. -/
@[irreducible] def eaddr (a : Option Addr) (sz : Nat) (i : Int) (o : Nat) : Addr := ⟨(a.getD ⟨0, 0, none⟩).block, (a.getD ⟨0, 0, none⟩).off + i.toNat * sz + o, none⟩
theorem eaddr_eq (b off sz : Nat) (i : Int) (o : Nat) : eaddr (some ⟨b, off, none⟩) sz i o = ⟨b, off + i.toNat * sz + o, none⟩ := by
  unfold eaddr; rfl
theorem eaddr_spot (a : Option Addr) (sz : Nat) (i : Int) (o : Nat) : (eaddr a sz i o).spot = none := by
  unfold eaddr; rfl
theorem eaddr_add (a : Option Addr) (sz : Nat) (i : Int) (o n : Nat) : (eaddr a sz i o).add n = eaddr a sz i (o + n) := by
  unfold eaddr
  rw [Addr.add_mk]
  simp [Nat.add_assoc]

theorem slice_kind {P : Program} {td : TD} {u : TypeDesc} (h : kindOk P td u = true) (hk : td.kind = .slice) : u = .slice td.elem := by
  cases u <;> simp [kindOk, hk] at h
  rw [h]

section
variable {P : Program} {e : Env} {H H' : List HP} {d : Option Tmp} {ty : TypeId} {pos : String} {after : Array Edge} {g : Option (Nat × Bool)}

theorem QuietT.opT {o : Oper} {v : Value} (hq : QuietT P e H o v) {K : Value → List HP → Prop} (hk : K v H) : OpT P e H o K := by
  intro ρ hρ F w s
  rw [hq ρ hρ F w s]
  exact ⟨H, s, Ext.refl w, hk⟩
theorem QuietT.ent {o : Oper} {v : Value} (hq : QuietT P e H' o v) (he : Ent H H') : QuietT P e H o v := fun ρ hρ F w s => hq ρ hρ F w (he F w s)

variable [IsP P]
theorem QuietT.calc {op : Op} {v : Value} {c : Prop} (hv : evalOp e op = some (v, c)) (hc : c) : QuietT P e H ⟨d, op, ty, pos, after, g⟩ v :=
  fun ρ hρ F w s => evalOp_run (o := ⟨d, op, ty, pos, after, g⟩) hv hc hρ w

theorem QuietT.load {t : TypeId} {x : Operand} {b o : Nat} {td : TD} {T : TypeId} {cs : List Value} {v : Value} (hx : ev e x = some (.pointer (some ⟨b, o, none⟩)))
    (ht : tab t = some td) (hp : Pick (Blk b T cs) H H') (hv : partOf td.agg td.size o cs = some v) : QuietT P e H ⟨d, .load t x, ty, pos, after, g⟩ v := by
  intro ρ hρ F w s
  obtain ⟨i, u, h1, h2, h3, h4, h5, h6, h7⟩ := tab_info (P := P) ht
  have hx' := hρ x (by simp [Op.operands]) _ hx
  have s' := SatH.pick hp s
  refine run_value ?_
  unfold Instr.loadAt
  rw [hx']
  refine (run_bind_ok (a := ⟨b, o, none⟩) (w' := w) rfl).trans ?_
  exact run_loadVar h1 h2 (fun j v hv => (Blk.cell s' hv).1) (by rw [h3, h5]; exact hv)
theorem QuietT.loadI {t : TypeId} {x : Operand} {b o : Nat} {td : TD} {T : TypeId} {cs : List Value} {v : Value} (hx : ev e x = some (.pointer (some ⟨b, o, none⟩)))
    (ht : tab t = some td) (hp : Pick (IBlk b T cs) H H') (hv : partOf td.agg td.size o cs = some v) : QuietT P e H ⟨d, .load t x, ty, pos, after, g⟩ v := by
  intro ρ hρ F w s
  obtain ⟨i, u, h1, h2, h3, h4, h5, h6, h7⟩ := tab_info (P := P) ht
  have hx' := hρ x (by simp [Op.operands]) _ hx
  have s' := SatH.pick hp s
  refine run_value ?_
  unfold Instr.loadAt
  rw [hx']
  refine (run_bind_ok (a := ⟨b, o, none⟩) (w' := w) rfl).trans ?_
  exact run_loadVar h1 h2 (fun j v hv => IBlk.cell s' hv) (by rw [h3, h5]; exact hv)

/-- An element's place. -/
theorem QuietT.index {t : TypeId} {x ix : Operand} {a : Option Addr} {n c c' : Nat} {k : IntKind} {iv : Int} {td te : TD} {A : HP} {E : Enc α} {xs : List α}
    (hx : ev e x = some (.slice a n c)) (hi : ev e ix = some (.int k iv)) (ht : tab t = some td) (hk : td.kind = .slice) (he : tab td.elem = some te) (hp : Pick A H H') (hA : Rds A E a c' xs)
    (hs : te.size = E.sz) (hn : n = xs.length) (hb : 0 ≤ iv ∧ iv < xs.length) : QuietT P e H ⟨d, .indexAddr t x ix, ty, pos, after, g⟩ (.pointer (some (eaddr a te.size iv 0))) := by
  intro ρ hρ F w s
  obtain ⟨i, u, h1, h2, h3, h4, h5, h6, h7⟩ := tab_info (P := P) ht
  obtain ⟨j, u', j1, j2, j3, j4, j5, j6, j7⟩ := tab_info (P := P) he
  have hu := slice_kind h6 hk
  subst hu
  have hx' := hρ x (by simp [Op.operands]) _ hx
  have hi' := hρ ix (by simp [Op.operands]) _ hi
  obtain ⟨_, _, hrd⟩ := hA.rd w _ (SatH.pick hp s)
  rcases hrd with h0 | ⟨b, off, ha, _⟩
  · subst h0; simp at hb; omega
  · subst ha
    refine run_value ?_
    unfold Instr.indexAt
    rw [hi', hx']
    refine (run_bind_ok (a := (k, iv)) (w' := w) rfl).trans ?_
    simp only []
    rw [run_bind_ok (run_under h2)]
    simp only [Sem.run_pure, Sem.run_bind, Result.andThen_ok, run_under h2]
    rw [if_pos (by omega)]
    rw [run_bind_ok (run_size j1), j3, Addr.add_mk, eaddr_eq]
    rfl

/-- A part of an element is read. -/
theorem QuietT.loadE {t : TypeId} {x : Operand} {a : Option Addr} {sz o c : Nat} {iv : Int} {td : TD} {A : HP} {E : Enc α} {xs : List α} {y : α} {v : Value}
    (hx : ev e x = some (.pointer (some (eaddr a sz iv o)))) (ht : tab t = some td) (hp : Pick A H H') (hA : Rds A E a c xs) (hs : sz = E.sz) (hy : xs[iv.toNat]? = some y)
    (hv : partOf td.agg td.size o (E.f y) = some v) : QuietT P e H ⟨d, .load t x, ty, pos, after, g⟩ v := by
  intro ρ hρ F w s
  obtain ⟨i, u, h1, h2, h3, h4, h5, h6, h7⟩ := tab_info (P := P) ht
  have hx' := hρ x (by simp [Op.operands]) _ hx
  obtain ⟨_, _, hrd⟩ := hA.rd w _ (SatH.pick hp s)
  rcases hrd with h0 | ⟨b, off, ha, hc⟩
  · subst h0; simp at hy
  · subst ha hs
    refine run_value ?_
    unfold Instr.loadAt
    rw [hx', eaddr_eq]
    refine (run_bind_ok (a := ⟨b, off + iv.toNat * E.sz + o, none⟩) (w' := w) rfl).trans ?_
    exact run_loadVarAt h1 h2 (b := b) (off := off + iv.toNat * E.sz) (hc iv.toNat y hy) (by rw [h3, h5]; exact hv)

/-- A field of an element: its place. -/
theorem QuietT.fieldE {t : TypeId} {x : Operand} {f : Nat} {a : Option Addr} {sz o fo k : Nat} {iv : Int} {ag : Bool} {td : TD} (hx : ev e x = some (.pointer (some (eaddr a sz iv o)))) (ht : tab t = some td)
    (hk : td.kind = .struct) (hf : lnth td.fs f = some (fo, k + 1, ag)) : QuietT P e H ⟨d, .fieldAddr t x f, ty, pos, after, g⟩ (.pointer (some (eaddr a sz iv (o + fo)))) := by
  intro ρ hρ F w s
  obtain ⟨i, u, a1, a2, a3, a4, a5, a6, a7⟩ := tab_info (P := P) ht
  have hu : ∃ e, u = .struct e := by cases u <;> simp [kindOk, hk] at a6; exact ⟨_, rfl⟩
  obtain ⟨flds, rfl⟩ := hu
  obtain ⟨fld, inf, u, b1, b2, b3, b4, b5, b6⟩ := fields_at a6 hf
  have hx' := hρ x (by simp [Op.operands]) _ hx
  refine run_value ?_
  unfold Instr.fieldAt
  rw [run_bind_ok (run_under a2)]
  simp only [b1, hx']
  refine (run_bind_ok (a := eaddr a sz iv o) (w' := w) rfl).trans ?_
  have hpl : (fieldPlace (eaddr a sz iv o) fld).run P w = .ok (eaddr a sz iv (o + fo)) w := by
    unfold fieldPlace
    rw [run_bind_ok (run_size b3), if_neg (by omega), b2, eaddr_add]
    rfl
  rw [run_bind_ok hpl]; rfl

/-- Where a part of a slice begins: the same address, where nothing more fits. -/
@[irreducible] def subA (a : Option Addr) (sz c l : Nat) : Option Addr := if c = l then a else a.map (·.add (l * sz))

def bnd (e : Env) (dflt : Nat) : Option Operand → Option Int
  | none => some (dflt : Int)
  | some x => match ev e x with
    | some (.int _ v) => some v
    | _ => none

theorem run_bounds {n c : Nat} {lo hi : Option Operand} {lv hv : Int} {ρ : Operand → Value} (hρ : ∀ x, (lo = some x ∨ hi = some x) → ∀ v, ev e x = some v → ρ x = v)
    (h1 : bnd e 0 lo = some lv) (h2 : bnd e n hi = some hv) (hb : 0 ≤ lv ∧ lv ≤ hv ∧ hv ≤ c) {w : World} :
    (Instr.sliceBounds true n c (lo.map ρ) (hi.map ρ) none).run P w = .ok (lv.toNat, hv.toNat, c) w := by
  have hB : ∀ (k : IntKind) (v : Int) (y : Nat) code, 0 ≤ v → v ≤ y → (Instr.sliceBound (.int k v) y code).run P w = .ok v.toNat w := by
    intro k v y code h0 hy
    unfold Instr.sliceBound
    refine (run_bind_ok (a := (k, v)) (w' := w) rfl).trans ?_
    simp only []
    rw [if_pos ⟨h0, hy⟩]; rfl
  have hH : ∀ x, hi = some x → ∀ code, (Instr.sliceBound (ρ x) c code).run P w = .ok hv.toNat w := by
    rintro x rfl code
    simp only [bnd] at h2
    split at h2
    · rename_i k v hx
      simp at h2; subst h2
      rw [hρ x (.inr rfl) _ hx]
      exact hB k _ c _ (by omega) (by omega)
    · simp at h2
  have hL : ∀ x, lo = some x → ∀ code, (Instr.sliceBound (ρ x) hv.toNat code).run P w = .ok lv.toNat w := by
    rintro x rfl code
    simp only [bnd] at h1
    split at h1
    · rename_i k v hx
      simp at h1; subst h1
      rw [hρ x (.inl rfl) _ hx]
      exact hB k _ _ _ (by omega) (by omega)
    · simp at h1
  unfold Instr.sliceBounds
  cases hi with
  | none =>
    simp only [bnd, Option.some.injEq] at h2
    subst h2
    simp only [Int.toNat_natCast] at hL ⊢
    cases lo with
    | none =>
      simp only [bnd, Option.some.injEq] at h1
      subst h1
      simp
    | some y => simp [hL y rfl]
  | some x =>
    have hx := hH x rfl
    cases lo with
    | none =>
      simp only [bnd, Option.some.injEq] at h1
      subst h1
      simp [hx]
    | some y => simp [hx, hL y rfl]

/-- A part of a slice that is shared: its value; what it reads, 'ISl.sub' tells. -/
theorem QuietT.slice {t : TypeId} {x : Operand} {lo hi : Option Operand} {a : Option Addr} {n c m : Nat} {lv hv : Int} {td te : TD} (hx : ev e x = some (.slice a n c)) (ht : tab t = some td) (hk : td.kind = .slice)
    (he : tab td.elem = some te) (h1 : bnd e 0 lo = some lv) (h2 : bnd e n hi = some hv) (hb : 0 ≤ lv ∧ lv ≤ hv ∧ hv ≤ c) (hm : m = hv.toNat - lv.toNat) :
    QuietT P e H ⟨d, .slice t x lo hi none, ty, pos, after, g⟩ (.slice (subA a te.size c lv.toNat) m (c - lv.toNat)) := by
  intro ρ hρ F w s
  obtain ⟨i, u, a1, a2, a3, a4, a5, a6, a7⟩ := tab_info (P := P) ht
  obtain ⟨j, u', j1, j2, j3, j4, j5, j6, j7⟩ := tab_info (P := P) he
  have hu := slice_kind a6 hk
  subst hu
  have hx' := hρ x (by simp [Op.operands]) _ hx
  have hρ' : ∀ y, (lo = some y ∨ hi = some y) → ∀ v, ev e y = some v → ρ y = v := by
    rintro y (rfl | rfl) v hv <;> exact hρ y (by simp [Op.operands]) v hv
  refine run_value ?_
  unfold Instr.sliceAt
  rw [run_bind_ok (run_under a2)]
  simp only [hx']
  unfold Instr.slice
  rw [run_bind_ok (run_under a2)]
  simp only [Option.map_none]
  rw [run_bind_ok (run_bounds (P := P) hρ' h1 h2 hb)]
  simp only []
  rw [run_bind_ok (run_size j1), j3, hm]
  unfold subA
  rfl

end

theorem ISl.sub {E : Enc α} {a : Option Addr} {c : Nat} {xs : List α} (l h : Nat) (hl : l ≤ h) (hh : h ≤ xs.length) {sz : Nat} (hs : sz = E.sz) :
    ∀ p, ISl E a c xs p → ISl E (subA a sz c l) (c - l) ((xs.take h).drop l) p := by
  rintro p ⟨h1, h2, h3⟩
  refine ⟨fun x hx => h1 x (List.mem_of_mem_take (List.mem_of_mem_drop hx)), by simp; omega, ?_⟩
  by_cases hlh : l = h
  · left
    simp; omega
  · right
    rcases h3 with h3 | ⟨b, off, cs, T, fr, ha, hp, hlies⟩
    · subst h3; simp at hh; omega
    · refine ⟨b, off + l * sz, cs, T, fr, ?_, hp, ?_⟩
      · unfold subA
        rw [if_neg (by omega), ha]
        simp [Addr.add_mk]
      · intro i x hx j v hv
        have hx' : xs[l + i]? = some x := by
          rw [List.getElem?_drop] at hx
          rw [List.getElem?_take] at hx
          split at hx
          · exact hx
          · simp at hx
        have := hlies (l + i) x hx' j v hv
        rw [Nat.add_mul] at this
        rw [hs]
        rw [show off + l * E.sz + i * E.sz + j = off + (l * E.sz + i * E.sz) + j from by omega]
        exact this
end
end Go.Proofs.Ytidmolpkcfhkaaa
