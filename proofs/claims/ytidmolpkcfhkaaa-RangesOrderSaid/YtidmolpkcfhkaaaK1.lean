/- Heap assertions for a Go world: what is owned, what is shared for good, and the rules to take them apart. -/
import Derived.WalkKit
namespace Go.Proofs.Ytidmolpkcfhkaaa
set_option linter.unusedSectionVars false
set_option linter.unusedVariables false
set_option linter.unusedSimpArgs false
open Go

abbrev Cell := Option (Obj × Bool)
/-- A part of the heap: a block's object, and whether it is shared for good (true) or owned (false). -/
abbrev PH := Nat → Cell
abbrev HP := PH → Prop

def J1 : Cell → Cell → Cell → Prop
  | none, y, z => z = y
  | some x, none, z => z = some x
  | some (o, k), some (o', k'), z => k = true ∧ k' = true ∧ o' = o ∧ z = some (o, true)

def Join (p q r : PH) : Prop := ∀ b, J1 (p b) (q b) (r b)

def comb : Cell → Cell → Cell
  | none, z => z
  | some y, _ => some y

theorem J1.comm {x y z : Cell} (h : J1 x y z) : J1 y x z := by
  rcases x with _ | ⟨o, k⟩ <;> rcases y with _ | ⟨o', k'⟩ <;> simp_all [J1]

theorem J1.assoc {x y u z v : Cell} (h : J1 x y u) (h' : J1 u z v) : J1 y z (comb y z) ∧ J1 x (comb y z) v := by
  rcases x with _ | ⟨o, k⟩ <;> rcases y with _ | ⟨o', k'⟩ <;> rcases z with _ | ⟨o'', k''⟩ <;> simp_all [J1, comb]

theorem Join.comm {p q r : PH} (h : Join p q r) : Join q p r := fun b => (h b).comm

theorem Join.assoc {p q u z v : PH} (h : Join p q u) (h' : Join u z v) : ∃ t, Join q z t ∧ Join p t v :=
  ⟨fun b => comb (q b) (z b), fun b => ((h b).assoc (h' b)).1, fun b => ((h b).assoc (h' b)).2⟩

theorem Join.assoc' {p q u z v : PH} (h : Join q z u) (h' : Join p u v) : ∃ t, Join p q t ∧ Join t z v := by
  obtain ⟨t, ht, ht'⟩ := Join.assoc h.comm h'.comm
  exact ⟨t, ht.comm, ht'.comm⟩

def emp : PH := fun _ => none
theorem Join.emp_left (p : PH) : Join emp p p := fun _ => rfl

def SatH : List HP → PH → Prop
  | [], _ => True
  | A :: H, r => ∃ p q, Join p q r ∧ A p ∧ SatH H q

theorem SatH.mono {H : List HP} : ∀ {r s t : PH}, SatH H r → Join r s t → SatH H t := by
  induction H with
  | nil => intros; trivial
  | cons A H ih =>
    rintro r s t ⟨p, q, hj, ha, hh⟩ hst
    obtain ⟨u, hu, hu'⟩ := hj.assoc hst
    exact ⟨p, u, hu', ha, ih hh hu⟩

theorem SatH.drop {A : HP} {H : List HP} {r : PH} (h : SatH (A :: H) r) : SatH H r := by
  obtain ⟨p, q, hj, _, hh⟩ := h
  exact hh.mono hj.comm

theorem SatH.swap {A B : HP} {H : List HP} {r : PH} (h : SatH (A :: B :: H) r) : SatH (B :: A :: H) r := by
  obtain ⟨p, q, hj, ha, p', q', hj', hb, hh⟩ := h
  obtain ⟨t, ht, ht'⟩ := Join.assoc hj'.comm hj.comm
  obtain ⟨u, hu, hu'⟩ := Join.assoc' ht ht'
  obtain ⟨x, hx, hx'⟩ := Join.assoc (p := p') (q := q') (u := q) (z := p) (v := r) hj' hj.comm
  exact ⟨p', x, hx', hb, p, q', hx.comm, ha, hh⟩

theorem SatH.imp_head {A B : HP} {H : List HP} {r : PH} (hab : ∀ p, A p → B p) (h : SatH (A :: H) r) : SatH (B :: H) r := by
  obtain ⟨p, q, hj, ha, hh⟩ := h
  exact ⟨p, q, hj, hab p ha, hh⟩

theorem SatH.imp_tail {A : HP} {H H' : List HP} {r : PH} (hab : ∀ q, SatH H q → SatH H' q) (h : SatH (A :: H) r) : SatH (A :: H') r := by
  obtain ⟨p, q, hj, ha, hh⟩ := h
  exact ⟨p, q, hj, ha, hab q hh⟩

theorem SatH.append {H H' : List HP} : ∀ {r : PH}, SatH (H ++ H') r ↔ ∃ p q, Join p q r ∧ SatH H p ∧ SatH H' q := by
  induction H with
  | nil =>
    intro r
    refine ⟨fun h => ⟨emp, r, Join.emp_left r, trivial, h⟩, ?_⟩
    rintro ⟨p, q, hj, _, h⟩
    exact h.mono hj.comm
  | cons A H ih =>
    intro r
    constructor
    · rintro ⟨p, q, hj, ha, hh⟩
      obtain ⟨p', q', hj', h1, h2⟩ := ih.1 hh
      obtain ⟨t, ht, ht'⟩ := Join.assoc' hj' hj
      exact ⟨t, q', ht', ⟨p, p', ht, ha, h1⟩, h2⟩
    · rintro ⟨p, q, hj, ⟨p', q', hj', ha, h1⟩, h2⟩
      obtain ⟨t, ht, ht'⟩ := hj'.assoc hj
      exact ⟨p', t, ht', ha, ih.2 ⟨q', q, ht, h1, h2⟩⟩

/-- All of these, as one assertion. -/
def Star (H : List HP) : HP := SatH H
def Pure (φ : Prop) : HP := fun _ => φ
def Ex {α : Sort _} (A : α → HP) : HP := fun p => ∃ x, A x p
/-- The block b is owned, and is this object. -/
def Own (b : Nat) (o : Obj) : HP := fun p => p b = some (o, false)
/-- The block b is shared for good. -/
def Imm (b : Nat) (o : Obj) : HP := fun p => p b = some (o, true)

def immPart (p : PH) : PH := fun b => match p b with
  | some (o, true) => some (o, true)
  | _ => none
def Pers (A : HP) : Prop := ∀ p, A p → A (immPart p)

theorem join_immPart (p : PH) : Join (immPart p) p p := by
  intro b
  unfold immPart
  rcases h : p b with _ | ⟨o, k⟩
  · simp [J1]
  · cases k <;> simp [J1]

theorem SatH.dup {A : HP} (ha : Pers A) {H : List HP} {r : PH} (h : SatH (A :: H) r) : SatH (A :: A :: H) r := by
  obtain ⟨p, q, hj, h1, hh⟩ := h
  obtain ⟨t, ht, ht'⟩ := (join_immPart p).assoc hj
  exact ⟨immPart p, t, ht', ha p h1, p, q, ht, h1, hh⟩

theorem Imm.pers (b : Nat) (o : Obj) : Pers (Imm b o) := by
  intro p h
  unfold Imm at *
  simp [immPart, h]

theorem Pure.pers (φ : Prop) : Pers (Pure φ) := fun _ h => h

/-- A stands somewhere in H; H' is the rest. -/
def Pick (A : HP) (H H' : List HP) : Prop := ∀ r, SatH H r → SatH (A :: H') r
theorem Pick.here {A : HP} {H : List HP} : Pick A (A :: H) H := fun _ h => h
theorem Pick.there {A B : HP} {H H' : List HP} (h : Pick A H H') : Pick A (B :: H) (B :: H') :=
  fun _ hr => (hr.imp_tail h).swap

/-- What is not of the heap: as it was in the world in which the call began. -/
structure Ext (w w' : World) : Prop where
  os : w'.os = w.os
  tape : w'.tape = w.tape
  output : w'.output = w.output
  size : w.heap.size ≤ w'.heap.size

theorem Ext.refl (w : World) : Ext w w := ⟨rfl, rfl, rfl, Nat.le_refl _⟩
theorem Ext.trans {a b c : World} (h : Ext a b) (k : Ext b c) : Ext a c :=
  ⟨k.os.trans h.os, k.tape.trans h.tape, k.output.trans h.output, Nat.le_trans h.size k.size⟩

def Fits (r : PH) (w : World) : Prop := ∀ b o k, r b = some (o, k) → w.heap[b]? = some o

def Sat (w : World) (H : List HP) : Prop := ∃ r : PH, Fits r w ∧ SatH H r

theorem Sat.imp {w : World} {H H' : List HP} (h : Sat w H) (hh : ∀ r, SatH H r → SatH H' r) : Sat w H' := by
  obtain ⟨r, hf, hr⟩ := h
  exact ⟨r, hf, hh r hr⟩

/-- One list of assertions gives another, whatever stands beside it. -/
def Ent (H H' : List HP) : Prop := ∀ F w, Sat w (H ++ F) → Sat w (H' ++ F)
theorem Ent.refl (H : List HP) : Ent H H := fun _ _ h => h
theorem Ent.trans {A B C : List HP} (h : Ent A B) (k : Ent B C) : Ent A C := fun F w s => k F w (h F w s)

theorem SatH.left {H H' : List HP} (hh : ∀ r, SatH H r → SatH H' r) {F : List HP} {r : PH} (h : SatH (H ++ F) r) : SatH (H' ++ F) r := by
  obtain ⟨p, q, hj, h1, h2⟩ := SatH.append.1 h
  exact SatH.append.2 ⟨p, q, hj, hh p h1, h2⟩

theorem Ent.of {H H' : List HP} (hh : ∀ r, SatH H r → SatH H' r) : Ent H H' := fun _ _ s => s.imp fun _ h => h.left hh

theorem Ent.apply {H H' : List HP} (h : Ent H H') {w : World} (s : Sat w H) : Sat w H' := by
  have := h [] w (by simpa using s)
  simpa using this

theorem SatH.front {A : HP} {H F : List HP} {r : PH} (h : SatH (H ++ A :: F) r) : SatH (A :: (H ++ F)) r := by
  obtain ⟨p, q, hj, h1, p', q', hj', h2, h3⟩ := SatH.append.1 h
  obtain ⟨t, ht, ht'⟩ := Join.assoc hj' hj.comm
  exact ⟨p', t, ht', h2, SatH.append.2 ⟨p, q', ht.comm, h1, h3⟩⟩

theorem SatH.behind {A : HP} {H F : List HP} {r : PH} (h : SatH (A :: (H ++ F)) r) : SatH (H ++ A :: F) r := by
  obtain ⟨p', t, ht', h2, h4⟩ := h
  obtain ⟨p, q', ht, h1, h3⟩ := SatH.append.1 h4
  obtain ⟨q, hq, hq'⟩ := Join.assoc' ht.comm ht'
  exact SatH.append.2 ⟨p, q, hq'.comm, h1, p', q', hq, h2, h3⟩

/-- The same with another one ahead. -/
theorem Ent.cons (A : HP) {H H' : List HP} (h : Ent H H') : Ent (A :: H) (A :: H') := by
  intro F w s
  have s1 : Sat w (H ++ A :: F) := s.imp fun _ hr => SatH.behind hr
  exact (h (A :: F) w s1).imp fun _ hr => SatH.front hr

theorem Ent.pick {A : HP} {H H1 H2 : List HP} (hp : Pick A H H1) (h : Ent H1 H2) : Ent H (A :: H2) :=
  (Ent.of hp).trans (h.cons A)
theorem Ent.nil (H : List HP) : Ent H [] := Ent.of fun _ _ => trivial
theorem Ent.drop (A : HP) (H : List HP) : Ent (A :: H) H := Ent.of fun _ h => h.drop
theorem Ent.left {H H' : List HP} (h : Ent H H') (F : List HP) : Ent (H ++ F) (H' ++ F) := by
  intro G w s
  have := h (F ++ G) w (by simpa [List.append_assoc] using s)
  simpa [List.append_assoc] using this
theorem Ent.imp {A B : HP} {H : List HP} (hab : ∀ p, A p → B p) : Ent (A :: H) (B :: H) := Ent.of fun _ h => h.imp_head hab
theorem Ent.star {H F : List HP} : Ent (Star H :: F) (H ++ F) := Ent.of fun _ h => by
  obtain ⟨p, q, hj, h1, h2⟩ := h
  exact SatH.append.2 ⟨p, q, hj, h1, h2⟩
theorem Ent.unstar {H F : List HP} : Ent (H ++ F) (Star H :: F) := Ent.of fun _ h => by
  obtain ⟨p, q, hj, h1, h2⟩ := SatH.append.1 h
  exact ⟨p, q, hj, h1, h2⟩
theorem Ent.dup {A : HP} (ha : Pers A) {H : List HP} : Ent (A :: H) (A :: A :: H) := Ent.of fun _ h => h.dup ha

theorem Sat.pure {φ : Prop} {w : World} {H : List HP} (h : Sat w (Pure φ :: H)) : φ ∧ Sat w H := by
  obtain ⟨r, hf, p, q, hj, h1, h2⟩ := h
  exact ⟨h1, r, hf, h2.mono hj.comm⟩
theorem SatH.pure {φ : Prop} {r : PH} {H : List HP} (h : SatH (Pure φ :: H) r) : φ ∧ SatH H r := by
  obtain ⟨p, q, hj, h1, h2⟩ := h
  exact ⟨h1, h2.mono hj.comm⟩
theorem SatH.add_pure {φ : Prop} (hφ : φ) {r : PH} {H : List HP} (h : SatH H r) : SatH (Pure φ :: H) r :=
  ⟨emp, r, Join.emp_left r, hφ, h⟩
theorem Ent.add_pure {φ : Prop} (hφ : φ) (H : List HP) : Ent H (Pure φ :: H) := Ent.of fun _ h => h.add_pure hφ
theorem Sat.ex {α : Sort _} {A : α → HP} {w : World} {H : List HP} (h : Sat w (Ex A :: H)) : ∃ x, Sat w (A x :: H) := by
  obtain ⟨r, hf, p, q, hj, ⟨x, h1⟩, h2⟩ := h
  exact ⟨x, r, hf, p, q, hj, h1, h2⟩

/- What the world does. -/
def single (b : Nat) (x : Obj × Bool) : PH := fun c => if c = b then some x else none
def upd (r : PH) (b : Nat) (x : Obj × Bool) : PH := fun c => if c = b then some x else r c

theorem Sat.alloc {w : World} {H : List HP} (h : Sat w H) (o : Obj) : Sat (w.alloc o) (Own w.heap.size o :: H) := by
  obtain ⟨r, hf, hr⟩ := h
  have hb : r w.heap.size = none := by
    rcases hx : r w.heap.size with _ | ⟨o', k⟩
    · rfl
    · have := hf _ _ _ hx
      simp at this
  refine ⟨upd r w.heap.size (o, false), ?_, single w.heap.size (o, false), r, ?_, ?_, hr⟩
  · intro b o' k hx
    unfold upd at hx
    show (w.heap.push o)[b]? = _
    split at hx
    · subst b; simp at hx; simp [hx.1]
    · have := hf _ _ _ hx
      rw [Array.getElem?_push]
      rw [if_neg (by omega)]
      exact this
  · intro b
    unfold single upd
    split
    · subst b; rw [hb]; simp [J1]
    · simp [J1]
  · simp [Own, single]

theorem Sat.upd {w w' : World} {b : Nat} {A B : HP} {o : Obj} {k : Bool} {H : List HP} (h : Sat w (A :: H)) (hA : ∀ p, A p → ∃ o, p b = some (o, false))
    (hB : ∀ p, A p → B (upd p b (o, k))) (hw : ∀ c, c ≠ b → w'.heap[c]? = w.heap[c]?) (hb : w'.heap[b]? = some o) : Sat w' (B :: H) := by
  obtain ⟨r, hf, p, q, hj, h1, h2⟩ := h
  obtain ⟨o1, ho⟩ := hA p h1
  have hq : q b = none := by
    have := hj b
    rw [ho] at this
    rcases hx : q b with _ | ⟨o', k'⟩
    · rfl
    · rw [hx] at this; simp [J1] at this
  refine ⟨Go.Proofs.Ytidmolpkcfhkaaa.upd r b (o, k), ?_, Go.Proofs.Ytidmolpkcfhkaaa.upd p b (o, k), q, ?_, hB p h1, h2⟩
  · intro c o' k' hx
    unfold Go.Proofs.Ytidmolpkcfhkaaa.upd at hx
    split at hx
    · subst c
      rw [hb]
      exact congrArg some (Prod.mk.inj (Option.some.inj hx)).1
    · rename_i hc
      rw [hw c hc]
      exact hf _ _ _ hx
  · intro c
    unfold Go.Proofs.Ytidmolpkcfhkaaa.upd
    split
    · subst c; rw [hq]; simp [J1]
    · exact hj c

theorem Sat.drew {w : World} {H : List HP} (h : Sat w H) : Sat w.drew H := h
theorem Sat.drawn {w : World} {H : List HP} (h : Sat w H) (n : Nat) : Sat { w with drawn := n } H := h

/-- A row of cells that is owned. -/
def Blk (b : Nat) (T : TypeId) (cs : List Value) : HP :=
  fun p => ∃ fr : Nat × Nat, (∀ i, i < cs.length → (decide (fr.1 ≤ i) && decide (i < fr.2)) = false) ∧ p b = some (.cells ⟨cs⟩ T fr, false)
/-- A row of cells that is shared for good. -/
def IBlk (b : Nat) (T : TypeId) (cs : List Value) : HP :=
  fun p => ∃ fr : Nat × Nat, p b = some (.cells ⟨cs⟩ T fr, true)

theorem IBlk.pers (b : Nat) (T : TypeId) (cs : List Value) : Pers (IBlk b T cs) := by
  rintro p ⟨fr, h⟩
  exact ⟨fr, by simp [immPart, h]⟩

theorem Blk.of_own {b : Nat} {T : TypeId} {cs : List Value} : ∀ p, Own b (.cells ⟨cs⟩ T) p → Blk b T cs p :=
  fun _ h => ⟨(0, 0), by simp, h⟩

theorem SatH.head_block {A : HP} {H : List HP} {w : World} {b : Nat} {P : Obj → Bool → Prop} (h : Sat w (A :: H)) (hA : ∀ p, A p → ∃ o k, p b = some (o, k) ∧ P o k) : ∃ o k, w.heap[b]? = some o ∧ P o k := by
  obtain ⟨r, hf, p, q, hj, h1, h2⟩ := h
  obtain ⟨o, k, ho, hP⟩ := hA p h1
  refine ⟨o, k, ?_, hP⟩
  have := hj b
  rw [ho] at this
  rcases hx : q b with _ | ⟨o', k'⟩
  · rw [hx] at this; exact hf _ _ _ this
  · rw [hx] at this
    obtain ⟨hk, _, _, hz⟩ := this
    exact hf _ _ _ hz

theorem Blk.cell {w : World} {b : Nat} {T : TypeId} {cs : List Value} {H : List HP} (h : Sat w (Blk b T cs :: H)) {i : Nat} {v : Value} (hv : cs[i]? = some v) :
    w.cell? ⟨b, i, none⟩ = some v ∧ w.frozen? ⟨b, i, none⟩ = false := by
  obtain ⟨o, k, ho, fr, rfl, hfr⟩ := SatH.head_block (P := fun o _ => ∃ fr : Nat × Nat, o = .cells ⟨cs⟩ T fr ∧ ∀ i, i < cs.length → (decide (fr.1 ≤ i) && decide (i < fr.2)) = false) (b := b) h
    (fun p ⟨fr, h1, h2⟩ => ⟨_, _, h2, fr, rfl, h1⟩)
  have hi : i < cs.length := (List.getElem?_eq_some_iff.1 hv).1
  refine ⟨?_, ?_⟩
  · simp [World.cell?, ho, hv]
  · simp only [World.frozen?, ho]
    exact hfr i hi

theorem IBlk.cell {w : World} {b : Nat} {T : TypeId} {cs : List Value} {H : List HP} (h : Sat w (IBlk b T cs :: H)) {i : Nat} {v : Value} (hv : cs[i]? = some v) :
    w.cell? ⟨b, i, none⟩ = some v := by
  obtain ⟨o, k, ho, fr, rfl⟩ := SatH.head_block (P := fun o _ => ∃ fr : Nat × Nat, o = .cells ⟨cs⟩ T fr) (b := b) h
    (fun p ⟨fr, h2⟩ => ⟨_, _, h2, fr, rfl⟩)
  simp [World.cell?, ho, hv]

theorem Blk.set {w : World} {b : Nat} {T : TypeId} {cs : List Value} {H : List HP} (h : Sat w (Blk b T cs :: H)) {i : Nat} (v : Value) :
    Sat (w.setCell ⟨b, i, none⟩ v) (Blk b T (cs.set i v) :: H) := by
  obtain ⟨r, hf, p, q, hj, ⟨fr, hfr, hp⟩, h2⟩ := h
  have hr : r b = some (.cells ⟨cs⟩ T fr, false) := by
    have := hj b
    rw [hp] at this
    rcases hx : q b with _ | ⟨o', k'⟩
    · rw [hx] at this; exact this
    · rw [hx] at this; simp [J1] at this
  have hw := hf _ _ _ hr
  have hq : q b = none := by
    have := hj b
    rw [hp] at this
    rcases hx : q b with _ | ⟨o', k'⟩
    · rfl
    · rw [hx] at this; simp [J1] at this
  refine ⟨Go.Proofs.Ytidmolpkcfhkaaa.upd r b (.cells ⟨cs.set i v⟩ T fr, false), ?_, Go.Proofs.Ytidmolpkcfhkaaa.upd p b (.cells ⟨cs.set i v⟩ T fr, false), q, ?_, ⟨fr, ?_, ?_⟩, h2⟩
  · intro c o' k' hx
    unfold Go.Proofs.Ytidmolpkcfhkaaa.upd at hx
    simp only [World.setCell, Array.getElem?_modify]
    split at hx
    · subst c
      have := (Prod.mk.inj (Option.some.inj hx)).1
      subst this
      simp [hw]
    · rename_i hc
      rw [if_neg (fun e => hc e.symm)]
      exact hf _ _ _ hx
  · intro c
    unfold Go.Proofs.Ytidmolpkcfhkaaa.upd
    split
    · subst c; rw [hq]; simp [J1]
    · exact hj c
  · simpa using hfr
  · simp [Go.Proofs.Ytidmolpkcfhkaaa.upd]

theorem Sat.share {w : World} {b : Nat} {T : TypeId} {cs : List Value} {H : List HP} (h : Sat w (Blk b T cs :: H)) : Sat w (IBlk b T cs :: H) := by
  obtain ⟨r, hf, p, q, hj, ⟨fr, hfr, hp⟩, h2⟩ := h
  have hq : q b = none := by
    have := hj b
    rw [hp] at this
    rcases hx : q b with _ | ⟨o', k'⟩
    · rfl
    · rw [hx] at this; simp [J1] at this
  have hr : r b = some (.cells ⟨cs⟩ T fr, false) := by
    have := hj b
    rw [hp, hq] at this
    exact this
  refine ⟨Go.Proofs.Ytidmolpkcfhkaaa.upd r b (.cells ⟨cs⟩ T fr, true), ?_, Go.Proofs.Ytidmolpkcfhkaaa.upd p b (.cells ⟨cs⟩ T fr, true), q, ?_, ⟨fr, ?_⟩, h2⟩
  · intro c o' k' hx
    unfold Go.Proofs.Ytidmolpkcfhkaaa.upd at hx
    split at hx
    · subst c
      have := (Prod.mk.inj (Option.some.inj hx)).1
      subst this
      exact hf _ _ _ hr
    · exact hf _ _ _ hx
  · intro c
    unfold Go.Proofs.Ytidmolpkcfhkaaa.upd
    split
    · subst c; rw [hq]; simp [J1]
    · exact hj c
  · simp [Go.Proofs.Ytidmolpkcfhkaaa.upd]

theorem Ent.share {b : Nat} {T : TypeId} {cs : List Value} {H : List HP} : Ent (Blk b T cs :: H) (IBlk b T cs :: H) := fun _ _ s => s.share

/-- All blocks that there were, as they were. -/
def Base (w : World) : HP := fun p => ∀ b o, w.heap[b]? = some o → p b = some (o, true)
theorem Base.pers (w : World) : Pers (Base w) := by
  intro p h b o hb
  simp [immPart, h b o hb]
theorem Sat.base (w : World) : Sat w [Base w] := by
  have hj : ∀ p : PH, Join p emp p := fun p b => (Join.emp_left p b).comm
  refine ⟨fun b => (w.heap[b]?).map (·, true), ?_, fun b => (w.heap[b]?).map (·, true), emp, hj _, ?_, trivial⟩
  · intro b o k h
    simp at h
    obtain ⟨o', h1, h2⟩ := h
    rw [h1]; exact congrArg some h2.1
  · intro b o h
    simp [h]
theorem Sat.base_block {w w' : World} {H : List HP} (h : Sat w' (Base w :: H)) {b : Nat} {o : Obj} (hb : w.heap[b]? = some o) : w'.heap[b]? = some o := by
  obtain ⟨o', k, h1, h2⟩ := SatH.head_block (P := fun o' _ => o' = o) (b := b) h (fun p hp => ⟨o, true, hp b o hb, rfl⟩)
  rw [h1, h2]
end Go.Proofs.Ytidmolpkcfhkaaa
