/- Loops and meetings told by what they change; regions that draw their order, the next operation picked. -/
import Derived.Test.YtidmolpkcfhkaaaK15
namespace Go.Proofs.Ytidmolpkcfhkaaa
set_option linter.unusedSectionVars false
set_option linter.unusedVariables false
set_option linter.unusedSimpArgs false
open Go

/- What a piece of code assigns. -/
def opsDst : List Oper → List Nat → List Nat
  | [], r => r
  | o :: l, r => match o.dst with
    | some d => opsDst l (d :: r)
    | none => opsDst l r
def asg : Code → List Nat → List Nat
  | .region _ ⟨l⟩ _, r => opsDst l r
  | .seq a b, r => asg a (asg b r)
  | .cond _ a b, r => asg a (asg b r)
  | .block _ c, r => asg c r
  | .loop c, r => asg c r
  | _, r => r
def memN (x : Nat) : List Nat → Bool
  | [] => false
  | y :: ys => bif Nat.beq x y then true else memN x ys
def stripK {β : Type} (bad : List Nat) : Env → (Env → Option β) → Option β
  | [], k => k []
  | (x, v) :: e, k => bif memN x bad then stripK bad e k else stripK (x :: bad) e fun ys => k ((x, v) :: ys)
def strip (bad : List Nat) : Env → Env
  | [] => []
  | (x, v) :: e => bif memN x bad then strip bad e else (x, v) :: strip (x :: bad) e
theorem stripK_eq {β : Type} : ∀ (e : Env) (bad : List Nat) (k : Env → Option β), stripK bad e k = k (strip bad e)
  | [], _, _ => rfl
  | (x, v) :: e, bad, k => by
    simp only [stripK, strip]
    cases memN x bad
    · simp only [cond_false]; exact stripK_eq e _ _
    · simp only [cond_true]; exact stripK_eq e _ _
theorem memN_cons {x y : Nat} {l : List Nat} (h : memN x (y :: l) = false) : Nat.beq x y = false ∧ memN x l = false := by
  simp only [memN] at h
  cases hb : Nat.beq x y
  · rw [hb] at h; exact ⟨rfl, h⟩
  · rw [hb] at h; simp at h
theorem strip_sub : ∀ (e : Env) (bad : List Nat) (e' : Env), (∀ x v, memN x bad = false → lk e x = some v → lk e' x = some v) → EnvSub (strip bad e) e'
  | [], _, _, _ => trivial
  | (x, v) :: e, bad, e', h => by
    simp only [strip]
    cases hm : memN x bad
    · simp only [cond_false]
      refine ⟨h x v hm (by simp [lk]), strip_sub e (x :: bad) e' fun y u hy hl => ?_⟩
      obtain ⟨h1, h2⟩ := memN_cons hy
      refine h y u h2 ?_
      simp only [lk]
      have : Nat.beq x y = false := by
        cases hb : Nat.beq x y
        · rfl
        · have := Nat.eq_of_beq_eq_true hb; subst this; rw [hb] at h1; cases h1
      rw [this]; exact hl
    · simp only [cond_true]
      refine strip_sub e bad e' fun y u hy hl => h y u hy ?_
      simp only [lk]
      have : Nat.beq x y = false := by
        cases hb : Nat.beq x y
        · rfl
        · have := Nat.eq_of_beq_eq_true hb; subst this; rw [hm] at hy; cases hy
      rw [this]; exact hl
theorem stripK_sub {bad : List Nat} {e e0 : Env} (h : stripK bad e some = some e0) : EnvSub e0 e := by
  rw [stripK_eq] at h
  cases h
  exact strip_sub e bad e fun _ _ _ h => h
theorem EnvSub.append {d e0 e : Env} (h1 : EnvSub d e) (h2 : EnvSub e0 e) : EnvSub (d ++ e0) e := by
  induction d with
  | nil => exact h2
  | cons p d ih =>
    obtain ⟨x, v⟩ := p
    exact ⟨h1.1, ih h1.2⟩

section
variable {P : Program} {n : Nat} {Q : QT} {e : Env} {H : List HP}
/-- What stands at a head or a meeting: what is told of it, beside what nothing changes. -/
def UI (J : Nat → Env → List HP → Prop) (e0 : Env) (G : List HP) (k : Nat) (e : Env) (H : List HP) : Prop := ∃ d D, J k d D ∧ e = d ++ e0 ∧ H = D ++ G
theorem WC.loopU {c : Code} (J : Nat → Env → List HP → Prop) {k : Nat} {e0 d0 : Env} {D0 G : List HP} (hs : stripK (asg c []) e some = some e0) (hd : EnvSub d0 e) (hh : Take D0 H G) (h0 : J k d0 D0)
    (h : ∀ k d D, J k d D → WC P n c (Qloop (UI J e0 G) k Q) (d ++ e0) (D ++ G)) : WC P n (.loop c) Q e H :=
  WC.loop (UI J e0 G) (hd.append (stripK_sub hs)) hh.ent ⟨d0, D0, h0, rfl, rfl⟩ (by
    rintro k _ _ ⟨d, D, hJ, rfl, rfl⟩
    exact h k d D hJ)
theorem Qloop.againU {J : Nat → Env → List HP → Prop} {e0 : Env} {G G' : List HP} {k : Nat} (k' : Nat) {d' : Env} {D' : List HP} (hk : k' < k) (hI : J k' d' D') (hs : EnvSub (d' ++ e0) e) (hE : Take (D' ++ G) H G') :
    Qloop (UI J e0 G) k Q .normal e H := ⟨k', _, _, hk, hs, hE.fin, d', D', hI, rfl, rfl⟩
def UM (M : Env → List HP → Prop) (e0 : Env) (G : List HP) (e : Env) (H : List HP) : Prop := ∃ d D, M d D ∧ e = d ++ e0 ∧ H = D ++ G
theorem WC.midxU {c : Code} (i : Nat) (D0 : List HP) (M : Env → List HP → Prop) {e0 : Env} {G : List HP} (hs : stripK (asg c []) e some = some e0) (hh : Take D0 H G) (h1 : WC P n c (Qmx i (UM M e0 G) Q) e (D0 ++ G))
    (h2 : ∀ d D, M d D → Q (.exit i) (d ++ e0) (D ++ G)) : WC P n c Q e H :=
  WC.ent hh.ent (WC.midx i (UM M e0 G) h1 (by
    rintro _ _ ⟨d, D, hM, rfl, rfl⟩
    exact h2 d D hM))
theorem WC.midnU {c : Code} (D0 : List HP) (M : Env → List HP → Prop) {e0 : Env} {G : List HP} (hs : stripK (asg c []) e some = some e0) (hh : Take D0 H G) (h1 : WC P n c (Qmn (UM M e0 G) Q) e (D0 ++ G))
    (h2 : ∀ d D, M d D → Q .normal (d ++ e0) (D ++ G)) : WC P n c Q e H :=
  WC.ent hh.ent (WC.midn (UM M e0 G) h1 (by
    rintro _ _ ⟨d, D, hM, rfl, rfl⟩
    exact h2 d D hM))
theorem Qmx.hitU {i : Nat} {M : Env → List HP → Prop} {e0 d : Env} {D G G' : List HP} (hM : M d D) (hs : EnvSub (d ++ e0) e) (hE : Take (D ++ G) H G') : Qmx i (UM M e0 G) Q (.exit i) e H :=
  Qmx.hit hs hE.fin ⟨d, D, hM, rfl, rfl⟩
theorem Qmn.hitU {M : Env → List HP → Prop} {e0 d : Env} {D G G' : List HP} (hM : M d D) (hs : EnvSub (d ++ e0) e) (hE : Take (D ++ G) H G') : Qmn (UM M e0 G) Q .normal e H :=
  Qmn.hit hs hE.fin ⟨d, D, hM, rfl, rfl⟩
end

theorem Take.ent0 {Pre H G : List HP} (h : Take Pre H G) : Ent H (Pre ++ []) := by rw [List.append_nil]; exact h.fin
/- The next operation. -/
def qOp : Op → Bool
  | .move _ => true
  | .assign _ => true
  | .pick .. => true
  | .extract .. => true
  | .build .. => true
  | .load .. => true
  | .nilCheck _ => true
  | .unOp .. => true
  | .binOp .. => true
  | .fieldAddr .. => true
  | .field .. => true
  | .indexAddr .. => true
  | .makeFunc .. => true
  | .slice .. => true
  | .convert .. => true
  | .call ⟨.builtin .len, _, _⟩ => true
  | .call ⟨.builtin .cap, _, _⟩ => true
  | .call ⟨.builtin .min, _, _⟩ => true
  | .call ⟨.builtin .max, _, _⟩ => true
  | _ => false
def allDone (lst : List Bool) : List Edge → Bool
  | [] => true
  | e :: es => match e.ground with
    | .textOnly _ => allDone lst es
    | .gcOnly _ => allDone lst es
    | _ => match lnth lst e.on with
      | some true => allDone lst es
      | _ => false
/-- The first one that may come and only reads. -/
def pickQ (lst : List Bool) : List Oper → List Bool → Nat → Option Nat
  | o :: os, l :: ls, i => match l with
    | true => pickQ lst os ls (i + 1)
    | false => match qOp o.op with
      | false => pickQ lst os ls (i + 1)
      | true => match o.after with
        | ⟨es⟩ => match allDone lst es with
          | true => some i
          | false => pickQ lst os ls (i + 1)
  | _, _, _ => none
/-- The first one that may come. -/
def pickA (lst : List Bool) : List Oper → List Bool → Nat → Option Nat
  | o :: os, l :: ls, i => match l with
    | true => pickA lst os ls (i + 1)
    | false => match o.after with
        | ⟨es⟩ => match allDone lst es with
          | true => some i
          | false => pickA lst os ls (i + 1)
  | _, _, _ => none
def setK {β : Type} : List Bool → Nat → (List Bool → Option β) → Option β
  | [], _, k => k []
  | _ :: ls, 0, k => lcopy ls fun ys => k (true :: ys)
  | l :: ls, i + 1, k => setK ls i fun ys => k (l :: ys)
theorem setK_eq {β : Type} : ∀ (l : List Bool) (i : Nat) (k : List Bool → Option β), setK l i k = k (l.set i true)
  | [], _, _ => rfl
  | _ :: ls, 0, k => by simp only [setK, lcopy_eq]; rfl
  | l :: ls, i + 1, k => by simp only [setK]; rw [setK_eq ls i]; rfl
theorem setK_some {l l' : List Bool} {i : Nat} (h : setK l i some = some l') : (⟨l⟩ : Array Bool).setIfInBounds i true = ⟨l'⟩ := by
  rw [setK_eq] at h
  cases h
  simp
def repK {β : Type} : Nat → (List Bool → Option β) → Option β
  | 0, k => k []
  | n + 1, k => repK n fun ys => k (false :: ys)
theorem repK_eq {β : Type} : ∀ (n : Nat) (k : List Bool → Option β), repK n k = k (List.replicate n false)
  | 0, _ => rfl
  | n + 1, k => by simp only [repK]; rw [repK_eq n]; rfl
def lenN {α : Type} : List α → Nat
  | [] => 0
  | _ :: l => Nat.succ (lenN l)
theorem lenN_eq {α : Type} : ∀ l : List α, lenN l = l.length
  | [] => rfl
  | _ :: l => by simp [lenN, lenN_eq l]
theorem repK_some {n : Nat} {l : List Bool} (h : repK n some = some l) : Array.replicate n false = ⟨l⟩ := by
  rw [repK_eq] at h
  cases h
  simp

def chkQ (ops : List Oper) (lst : List Bool) (m f i : Nat) : Bool :=
  Nat.blt i m && Region.noSelect ⟨ops⟩ && Nat.beq (left m ⟨lst⟩) (f + 1) && (Region.ready .any ⟨ops⟩ ⟨lst⟩).contains i && Region.free .any ⟨ops⟩ ⟨lst⟩ i
def chkA (ops : List Oper) (lst : List Bool) (i : Nat) : Bool := decide (Region.ready .any ⟨ops⟩ ⟨lst⟩ = [i])
section
variable {P : Program} {n : Nat} {Q : QT} {e : Env} {H Fz : List HP} {l : List Oper} {g m f i : Nat} {lst lst' : List Bool} {d : Tmp} {op : Op} {ty : TypeId} {pos : String} {after : Array Edge} {v : Value}

theorem chkQ_eq (h : chkQ l lst m f i = true) : Nat.blt i m = true ∧ Region.noSelect ⟨l⟩ = true ∧ left m ⟨lst⟩ = f + 1 ∧ (Region.ready .any ⟨l⟩ ⟨lst⟩).contains i = true ∧ Region.free .any ⟨l⟩ ⟨lst⟩ i = true := by
  unfold chkQ at h
  simp only [Bool.and_eq_true] at h
  exact ⟨h.1.1.1.1, h.1.1.1.2, Nat.eq_of_beq_eq_true h.1.1.2, h.1.2, h.2⟩
theorem lnth_arr {o : Oper} (h : lnth l i = some o) : (⟨l⟩ : Array Oper)[i]? = some o := by
  rw [lnth_eq] at h; simpa using h

theorem wa_pick (hp : pickQ lst l lst 0 = some i) (hi : lnth l i = some ⟨some d, op, ty, pos, after, none⟩) (hl : setK lst i some = some lst') (hd : Nat.blt d n = true) (hq : QuietT P e Fz ⟨some d, op, ty, pos, after, none⟩ v) (hc : chkQ l lst m f i = true)
    (h : WA P n ⟨l⟩ Q g m f ⟨lst'⟩ ((d, v) :: e) Fz H) : WA P n ⟨l⟩ Q g m (f + 1) ⟨lst⟩ e Fz H := by
  obtain ⟨c1, c2, c3, c4, c5⟩ := chkQ_eq hc
  exact WA.take i (lnth_arr hi) c1 c2 c3 c4 c5 .none hd hq (by rw [setK_some hl]; exact h)
theorem wa_pickG {j t : Nat} {b : Bool} (hp : pickQ lst l lst 0 = some i) (hi : lnth l i = some ⟨some d, op, ty, pos, after, some (j, b)⟩) (hj : (lnth l j).bind (·.dst) = some t) (ht : lk e t = some (.bool b)) (hl : setK lst i some = some lst') (hn : Nat.blt t n = true) (hd : Nat.blt d n = true)
    (hq : QuietT P e Fz ⟨some d, op, ty, pos, after, some (j, b)⟩ v) (hc : chkQ l lst m f i = true)
    (h : WA P n ⟨l⟩ Q g m f ⟨lst'⟩ ((d, v) :: e) Fz H) : WA P n ⟨l⟩ Q g m (f + 1) ⟨lst⟩ e Fz H := by
  obtain ⟨c1, c2, c3, c4, c5⟩ := chkQ_eq hc
  exact WA.take i (lnth_arr hi) c1 c2 c3 c4 c5 (.run (by rw [lnth_eq] at hj; simpa using hj) ht hn) hd hq (by rw [setK_some hl]; exact h)
theorem wa_pickN {j t : Nat} {b : Bool} {u : Value} (hp : pickQ lst l lst 0 = some i) (hi : lnth l i = some ⟨some d, op, ty, pos, after, some (j, b)⟩) (hj : (lnth l j).bind (·.dst) = some t) (ht : lk e t = some u) (hu : noG u b = true) (hl : setK lst i some = some lst') (hn : Nat.blt t n = true) (hd : Nat.blt d n = true)
    (hc : chkQ l lst m f i = true)
    (h : WA P n ⟨l⟩ Q g m f ⟨lst'⟩ ((d, undef) :: e) Fz H) : WA P n ⟨l⟩ Q g m (f + 1) ⟨lst⟩ e Fz H := by
  obtain ⟨c1, c2, c3, c4, c5⟩ := chkQ_eq hc
  exact WA.skip i (lnth_arr hi) c1 c2 c3 c4 c5 (.skip (by rw [lnth_eq] at hj; simpa using hj) ht hn hu) hd (by rw [setK_some hl]; exact h)
/-- The same for one that would act: its guard says no. -/
theorem wa_skipA {dd : Option Tmp} {j t : Nat} {b : Bool} {u : Value} (hp : pickA lst l lst 0 = some i) (hi : lnth l i = some ⟨dd, op, ty, pos, after, some (j, b)⟩) (hj : (lnth l j).bind (·.dst) = some t) (ht : lk e t = some u) (hu : noG u b = true) (hl : setK lst i some = some lst') (hn : Nat.blt t n = true) (hd : dstB n dd = true)
    (hc : chkQ l lst m f i = true)
    (h : WA P n ⟨l⟩ Q g m f ⟨lst'⟩ (putE e dd undef) Fz H) : WA P n ⟨l⟩ Q g m (f + 1) ⟨lst⟩ e Fz H := by
  obtain ⟨c1, c2, c3, c4, c5⟩ := chkQ_eq hc
  exact WA.skip i (lnth_arr hi) c1 c2 c3 c4 c5 (.skip (by rw [lnth_eq] at hj; simpa using hj) ht hn hu) hd (by rw [setK_some hl]; exact h)
theorem wa_splitP {j t : Nat} {b c : Bool} (hp : pickA lst l lst 0 = some i) {dd : Option Tmp} (hi : lnth l i = some ⟨dd, op, ty, pos, after, some (j, b)⟩) (hj : (lnth l j).bind (·.dst) = some t) (ht : lk e t = some (.bool c))
    (h1 : c = b → WA P n ⟨l⟩ Q g m (f + 1) ⟨lst⟩ ((t, .bool b) :: e) Fz H) (h2 : c = (!b) → WA P n ⟨l⟩ Q g m (f + 1) ⟨lst⟩ ((t, .bool !b) :: e) Fz H) : WA P n ⟨l⟩ Q g m (f + 1) ⟨lst⟩ e Fz H := by
  have key : ∀ c', c = c' → WA P n ⟨l⟩ Q g m (f + 1) ⟨lst⟩ ((t, .bool c') :: e) Fz H → WA P n ⟨l⟩ Q g m (f + 1) ⟨lst⟩ e Fz H := by
    intro c' hc h w0 F a w g1 g2 g3
    refine h w0 F a w ⟨g1.size, g1.defers, ?_⟩ g2 g3
    intro x v hx
    simp only [lk] at hx
    cases hb : Nat.beq t x
    · rw [hb] at hx; exact g1.get x v (by simpa using hx)
    · rw [hb] at hx
      have := Nat.eq_of_beq_eq_true hb
      subst this
      rw [g1.get t _ ht, hc]
      simpa using hx
  by_cases hc : c = b
  · exact key _ hc (h1 hc)
  · have hc' : c = !b := by cases c <;> cases b <;> simp_all
    exact key _ hc' (h2 hc')
theorem wa_splitPD {j t : Nat} {p : Prop} {hp : Decidable p} (hq : pickA lst l lst 0 = some i) {dd : Option Tmp} (hi : lnth l i = some ⟨dd, op, ty, pos, after, some (j, true)⟩) (hj : (lnth l j).bind (·.dst) = some t) (ht : lk e t = some (.bool (decide p)))
    (h1 : p → WA P n ⟨l⟩ Q g m (f + 1) ⟨lst⟩ ((t, .bool true) :: e) Fz H) (h2 : ¬ p → WA P n ⟨l⟩ Q g m (f + 1) ⟨lst⟩ ((t, .bool false) :: e) Fz H) : WA P n ⟨l⟩ Q g m (f + 1) ⟨lst⟩ e Fz H :=
  wa_splitP hq hi hj ht (fun h => h1 (by simpa using h)) (fun h => h2 (by simpa using h))
theorem wa_splitPE {j t : Nat} {p : Prop} {hp : Decidable p} (hq : pickA lst l lst 0 = some i) {dd : Option Tmp} (hi : lnth l i = some ⟨dd, op, ty, pos, after, some (j, false)⟩) (hj : (lnth l j).bind (·.dst) = some t) (ht : lk e t = some (.bool (decide p)))
    (h1 : ¬ p → WA P n ⟨l⟩ Q g m (f + 1) ⟨lst⟩ ((t, .bool false) :: e) Fz H) (h2 : p → WA P n ⟨l⟩ Q g m (f + 1) ⟨lst⟩ ((t, .bool true) :: e) Fz H) : WA P n ⟨l⟩ Q g m (f + 1) ⟨lst⟩ e Fz H :=
  wa_splitP hq hi hj ht (fun h => h1 (by simpa using h)) (fun h => h2 (by simpa using h))

/-- How a guard stands, over a list. -/
theorem GOK.runL {j t : Nat} {b : Bool} (hj : (lnth l j).bind (·.dst) = some t) (ht : lk e t = some (.bool b)) (hn : Nat.blt t n = true) : GOK n ⟨l⟩ e (some (j, b)) true :=
  .run (by rw [lnth_eq] at hj; simpa using hj) ht hn
/-- The one that acts, when it alone may come. -/
theorem wa_actU {dd : Option Tmp} {gd : Option (Nat × Bool)} (hp : pickA lst l lst 0 = some i) (hi : lnth l i = some ⟨dd, op, ty, pos, after, gd⟩) (hl : setK lst i some = some lst') (hg : GOK n ⟨l⟩ e gd true) (hd : dstB n dd = true) (hc : chkA l lst i = true)
    (h : OpT P e (Fz ++ H) ⟨dd, op, ty, pos, after, gd⟩ fun v H1 => ∃ H', Ent H1 (Fz ++ H') ∧ WA P n ⟨l⟩ Q g m f ⟨lst'⟩ (putE e dd v) Fz H') : WA P n ⟨l⟩ Q g m (f + 1) ⟨lst⟩ e Fz H :=
  WA.only i (by simpa [chkA] using hc) (lnth_arr hi) hg hd (h.mono fun v R ⟨H', h1, h2⟩ => ⟨H', h1, by rw [setK_some hl]; exact h2⟩)
theorem wa_callU {gd : Option (Nat × Bool)} {x : Operand} {xs : List Operand} {ts : Array TypeId} {fid : FuncId} {first cap vs : List Value} {Pre G : List HP} {Post : Value → List HP → Prop}
    (hp : pickA lst l lst 0 = some i) (hi : lnth l i = some ⟨some d, .call ⟨.value x, ⟨xs⟩, ts⟩, ty, pos, after, gd⟩) (hl : setK lst i some = some lst') (hg : GOK n ⟨l⟩ e gd true) (hd : Nat.blt d n = true)
    (hx : ev e x = some (.func (.func fid) ⟨first⟩ ⟨cap⟩)) (hv : evs e xs = some vs) (hc : chkA l lst i = true) (hs : Spec P fid (first ++ vs ++ cap) Pre Post) (hE : Take Pre (Fz ++ H) G)
    (h : ∀ v R, Post v R → ∃ H', Ent (R ++ G) (Fz ++ H') ∧ WA P n ⟨l⟩ Q g m f ⟨lst'⟩ ((d, v) :: e) Fz H') : WA P n ⟨l⟩ Q g m (f + 1) ⟨lst⟩ e Fz H :=
  wa_actU (dd := some d) hp hi hl hg hd hc (OpT.call hx hv hs hE h)
/-- Behind the head: the one that may come. -/
theorem wt_pickQ {gd : Option (Nat × Bool)} (hp : pickA lst l lst 0 = some i) (hi : lnth l i = some ⟨some d, op, ty, pos, after, gd⟩) (hl : setK lst i some = some lst') (hg : GOK n ⟨l⟩ e gd true) (hd : Nat.blt d n = true) (hq : QuietT P e H ⟨some d, op, ty, pos, after, gd⟩ v) (hc : chkA l lst i = true)
    (h : WT P n ⟨l⟩ Q g ⟨lst'⟩ ((d, v) :: e) H) : WT P n ⟨l⟩ Q (g + 1) ⟨lst⟩ e H :=
  WT.only (by simpa [chkA] using hc) (lnth_arr hi) hg hd (hq.opT (by rw [setK_some hl]; exact h))
theorem wt_actU {dd : Option Tmp} {gd : Option (Nat × Bool)} (hp : pickA lst l lst 0 = some i) (hi : lnth l i = some ⟨dd, op, ty, pos, after, gd⟩) (hl : setK lst i some = some lst') (hg : GOK n ⟨l⟩ e gd true) (hd : dstB n dd = true) (hc : chkA l lst i = true)
    (h : OpT P e H ⟨dd, op, ty, pos, after, gd⟩ fun v H1 => WT P n ⟨l⟩ Q g ⟨lst'⟩ (putE e dd v) H1) : WT P n ⟨l⟩ Q (g + 1) ⟨lst⟩ e H :=
  WT.only (by simpa [chkA] using hc) (lnth_arr hi) hg hd (by rw [setK_some hl]; exact h)
theorem wt_callU {gd : Option (Nat × Bool)} {x : Operand} {xs : List Operand} {ts : Array TypeId} {fid : FuncId} {first cap vs : List Value} {Pre G : List HP} {Post : Value → List HP → Prop}
    (hp : pickA lst l lst 0 = some i) (hi : lnth l i = some ⟨some d, .call ⟨.value x, ⟨xs⟩, ts⟩, ty, pos, after, gd⟩) (hl : setK lst i some = some lst') (hg : GOK n ⟨l⟩ e gd true) (hd : Nat.blt d n = true)
    (hx : ev e x = some (.func (.func fid) ⟨first⟩ ⟨cap⟩)) (hv : evs e xs = some vs) (hc : chkA l lst i = true) (hs : Spec P fid (first ++ vs ++ cap) Pre Post) (hE : Take Pre H G)
    (h : ∀ v R, Post v R → WT P n ⟨l⟩ Q g ⟨lst'⟩ ((d, v) :: e) (R ++ G)) : WT P n ⟨l⟩ Q (g + 1) ⟨lst⟩ e H :=
  wt_actU (dd := some d) hp hi hl hg hd hc (OpT.call hx hv hs hE h)

/-- What follows from what stays may be told beside it. -/
theorem WA.addFz {B A : HP} {ops : Array Oper} {ls : Array Bool} {Fz' : List HP} {k : Nat} (hA : Pers A) (hp : Pick A Fz Fz') (hB : ∀ p, A p → B p) (h : WA P n ops Q g m k ls e (B :: Fz) H) : WA P n ops Q g m k ls e Fz H := by
  intro w0 F a w h1 h2 h3
  have hE := Ent.addP (B := B) hA hp hB
  have hC : (fun w => Sat w (B :: Fz)) = (fun w => Sat w Fz) := by
    funext w'
    exact propext ⟨fun s => (Ent.drop B Fz).apply s, fun s => hE.apply s⟩
  have h2' : Sat w ((B :: Fz) ++ (H ++ F)) := hE (H ++ F) w h2
  have := h w0 F a w h1 h2' h3
  rw [hC] at this
  exact this
theorem WA.factFz {A : HP} {φ : Prop} {ops : Array Oper} {ls : Array Bool} {Fz' : List HP} {k : Nat} (hp : Pick A Fz Fz') (hA : ∀ p, A p → φ) (h : φ → WA P n ops Q g m k ls e Fz H) : WA P n ops Q g m k ls e Fz H := by
  intro w0 F a w g1 g2 g3
  obtain ⟨p, _, hap⟩ := Sat.head (SatH.pick hp g2)
  exact h (hA p hap) w0 F a w g1 g2 g3
/-- A slice is cut; what the part reads is known from then on. -/
theorem wa_pickCut {α : Type} [IsP P] {t : TypeId} {x : Operand} {lo hi : Option Operand} {gd : Option (Nat × Bool)} {a : Option Addr} {s c : Nat} {lv hv : Int} {td te : TD} {E : Enc α} {xs : List α} {Fz' : List HP} (hp : pickQ lst l lst 0 = some i)
    (hi' : lnth l i = some ⟨some d, .slice t x lo hi none, ty, pos, after, gd⟩) (hl : setK lst i some = some lst') (hg : GOK n ⟨l⟩ e gd true) (hd : Nat.blt d n = true)
    (hx : ev e x = some (.slice a s c)) (ht : tab t = some td) (hk : td.kind = .slice) (he : tab td.elem = some te) (h1 : bnd e 0 lo = some lv) (h2 : bnd e s hi = some hv) (hpk : Pick (ISl E a c xs) Fz Fz') (hs : te.size = E.sz) (hc : chkQ l lst m f i = true)
    (hb : 0 ≤ lv ∧ lv ≤ hv ∧ hv ≤ xs.length) {zs : List α} (hzs : (xs.take hv.toNat).drop lv.toNat = zs)
    (h : ∀ a' c', WA P n ⟨l⟩ Q g m f ⟨lst'⟩ ((d, .slice a' zs.length c') :: e) (ISl E a' c' zs :: Fz) H) : WA P n ⟨l⟩ Q g m (f + 1) ⟨lst⟩ e Fz H := by
  obtain ⟨c1, c2, c3, c4, c5⟩ := chkQ_eq hc
  subst hzs
  refine WA.factFz hpk (φ := xs.length ≤ c) (fun p hp => hp.2.1) fun hxc => ?_
  refine WA.take i (lnth_arr hi') c1 c2 c3 c4 c5 hg hd (QuietT.slice hx ht hk he h1 h2 (m := ((xs.take hv.toNat).drop lv.toNat).length) ⟨hb.1, hb.2.1, by omega⟩ (by simp; omega)) ?_
  rw [setK_some hl]
  exact WA.addFz (ISl.pers E a c xs) hpk (ISl.sub lv.toNat hv.toNat (by omega) (by omega) hs) (h _ _)

theorem wc_drawU [IsP P] {id : Nat} {z : Nat} {lst : List Bool} (hg : lenN l = z) (hr : repK z some = some lst) (hlow : (lowB ⟨l⟩ && Nat.beq (left z ⟨lst⟩) z) = true)
    (h : WA P n ⟨l⟩ Q 0 z z ⟨lst⟩ e H []) : WC P n (.region id ⟨l⟩ true) Q e H := by
  have hg' : l.length = z := by rw [← lenN_eq]; exact hg
  simp only [Bool.and_eq_true] at hlow
  have hrr := repK_some hr
  refine wc_draw rfl hg' hlow.1 (by rw [hrr]; exact Nat.eq_of_beq_eq_true hlow.2) ?_
  rw [hrr]; exact h
theorem wc_drawHU [IsP P] {id : Nat} {H' : List HP} (m : Nat) {z : Nat} {lst : List Bool} (Fz : List HP) (hg : lenN l = z) (hr : repK z some = some lst) (hc : (lowB ⟨l⟩ && barB ⟨l⟩ m && Nat.ble m l.length && Nat.beq (left m ⟨lst⟩) m) = true) (hE : Take Fz H H')
    (h : WA P n ⟨l⟩ Q (z - m) m m ⟨lst⟩ e Fz H') : WC P n (.region id ⟨l⟩ true) Q e H := by
  have hg' : l.length = z := by rw [← lenN_eq]; exact hg
  simp only [Bool.and_eq_true] at hc
  have hrr := repK_some hr
  refine wc_drawH m Fz hE.ent rfl hg' hc.1.1.1 hc.1.1.2 hc.1.2 (by rw [hrr]; exact Nat.eq_of_beq_eq_true hc.2) ?_
  rw [hrr]; exact h
end
theorem Ent.sh {α : Type} {E : Enc α} {T : TypeId} {a : Option Addr} {c : Nat} {xs : List α} {H H1 : List HP} (hp : Pick (OSl E T a c xs) H H1) : Ent H (ISl E a c xs :: H1) := (Ent.pick hp (Ent.refl _)).trans OSl.share
end Go.Proofs.Ytidmolpkcfhkaaa
