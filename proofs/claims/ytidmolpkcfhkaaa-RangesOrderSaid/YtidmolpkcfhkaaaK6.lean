/- Regions that draw their order: what only reads is taken first, what acts comes when nothing else may. -/
import Derived.Test.YtidmolpkcfhkaaaK5
import Derived.Orders
namespace Go.Proofs.Ytidmolpkcfhkaaa
set_option linter.unusedSectionVars false
set_option linter.unusedVariables false
set_option linter.unusedSimpArgs false
open Go

/-- One value, wherever these assertions hold; nothing turns. -/
def QuietT (P : Program) (e : Env) (H : List HP) (o : Oper) (v : Value) : Prop :=
  ∀ ρ, Agr e ρ o.op → ∀ F w, Sat w (H ++ F) → (execOp ρ o).run P w = .ok (.value v) w

section
variable {P : Program} {ops : Array Oper} {Q : Exit → Act → World → Prop} {C : World → Prop}

def YieldsC (P : Program) (ops : Array Oper) (C : World → Prop) (o : Oper) (v : Value) (a : Act) : Prop :=
  (Region.wanted o (yielded ops a.tmps) = true ∧ ∀ w, C w → (execOp a.eval o).run P w = .ok (.value v) w) ∨
  (Region.wanted o (yielded ops a.tmps) = false ∧ v = undef)

theorem YieldsC.wpOp {i : Nat} {o : Oper} {v : Value} {a : Act} (hi : ops[i]? = some o) (hy : YieldsC P ops C o v a) {K : Act → World → Prop} {w : World} (hC : C w) (h : K (a.put o.dst v) w) :
    wpOp P ops Q i K a w := by
  unfold Go.wpOp
  simp only [hi]
  rcases hy with ⟨hw, hv⟩ | ⟨hw, rfl⟩
  · simp only [hw, if_true, Oper.wp, hv w hC, Oper.upon]; exact .inl h
  · simp only [hw, Bool.false_eq_true, if_false]; exact h

theorem YieldsC.of_same {o : Oper} {v : Value} {a a' : Act} (hy : YieldsC P ops C o v a) (he : execOp a'.eval o = execOp a.eval o)
    (hw : Region.wanted o (yielded ops a'.tmps) = Region.wanted o (yielded ops a.tmps)) : YieldsC P ops C o v a' := by
  unfold YieldsC at *
  rw [he, hw]; exact hy

/-- What does not act may be done behind another one as well. -/
theorem wpOp_later {j : Nat} {oi oj : Oper} {v : Value} (hj : ops[j]? = some oj) (hap : oi.apart ops oj = true) (hsi : ∀ cs b, oi.op ≠ .select cs b) (hsj : ∀ cs b, oj.op ≠ .select cs b)
    (hQ : ∀ c a w, ¬ Q (.panic c) a w) (hO : ∀ a w, ¬ Q .outgrown a w) {K : Act → World → Prop} {a : Act} {w : World} (hy : YieldsC P ops C oi v a) (h : wpOp P ops Q j K (a.put oi.dst v) w) :
    wpOp P ops Q j (fun a' w' => YieldsC P ops C oi v a' ∧ K (a'.put oi.dst v) w') a w := by
  obtain ⟨h1, h2, h3⟩ := Oper.apart_spec hap
  have keep : ∀ (b : Act), YieldsC P ops C oi v b → ∀ u, YieldsC P ops C oi v (b.put oj.dst u) := fun b hb u =>
    hb.of_same (execOp_put oi hsi b oj.dst u h3) (wanted_put oi b oj.dst u h3)
  have hlet : ¬ LetsOut Q := fun ⟨a, w, hq⟩ => hO a w hq
  unfold wpOp at *
  simp only [hj] at *
  rw [wanted_put oj a oi.dst v h1] at h
  split
  · rename_i hw
    simp only [hw, if_true] at h
    left
    have h := h.resolve_right (fun hh => hlet hh.2)
    unfold Oper.wp at *
    rw [execOp_put oj hsj a oi.dst v h1] at h
    generalize (execOp a.eval oj).run P w = r at *
    cases r with
    | halt x w' =>
      cases x <;> simp only [Oper.upon] at h ⊢
      exact (hQ _ _ _ h).elim
    | ok n w' =>
      cases n <;> simp only [Oper.upon] at h ⊢
      case value u => exact ⟨keep a hy u, by rw [← Act.put_comm a v u h2]; exact h⟩
      case skip => exact ⟨keep a hy _, by rw [← Act.put_comm a v undef h2]; exact h⟩
      case defer d =>
        refine ⟨keep { a with defers := d :: a.defers } (hy.of_same rfl rfl) _, ?_⟩
        rw [← Act.put_comm _ v undef h2, ← Act.put_defers]
        exact h
      case enter f args =>
        refine Calls.mono h fun e w'' he => ?_
        cases e with
        | returned u => exact ⟨keep a hy u, by rw [← Act.put_comm a v u h2]; exact he⟩
        | panicked c => exact (hQ _ _ _ he).elim
        | outgrown => exact he
      case row row args => exact Rows.mono h fun u w'' he => ⟨keep a hy u, by rw [← Act.put_comm a v u h2]; exact he⟩
  · rename_i hw
    simp only [hw] at h
    exact ⟨keep a hy _, by rw [← Act.put_comm a v undef h2]; exact h⟩

abbrev rdy (ops : Array Oper) (listed : Array Bool) : List Nat := Region.ready .any ops listed

/-- Whatever order is picked among the first m operations; each step leaves a world of C. -/
def wpAC (P : Program) (ops : Array Oper) (C : World → Prop) (m : Nat) (Q : Exit → Act → World → Prop) (K : Array Bool → Act → World → Prop) : Nat → Array Bool → Act → World → Prop
  | 0, listed, a, w => K listed a w
  | f + 1, listed, a, w => ∀ i ∈ rdy ops listed, i < m → wpOp P ops Q i (fun a' w' => C w' ∧ wpAC P ops C m Q K f (listed.setIfInBounds i true) a' w') a w

/-- How many of the first m are not done. -/
def left (m : Nat) (listed : Array Bool) : Nat := (List.range m).countP fun j => !listed.getD j true

theorem left_set {m : Nat} {listed : Array Bool} {i : Nat} (hi : i < m) (hl : listed.getD i true = false) : left m listed = left m (listed.setIfInBounds i true) + 1 := by
  unfold left
  have hs : i < listed.size := by
    rcases Nat.lt_or_ge i listed.size with h | h
    · exact h
    · simp [Array.getElem?_eq_none h] at hl
  induction m with
  | zero => omega
  | succ m ih =>
    rw [List.range_succ, List.countP_append, List.countP_append]
    rcases Nat.lt_or_ge i m with h | h
    · have := ih h
      have hne : i ≠ m := by omega
      rw [this]
      simp only [List.countP_cons, List.countP_nil, getD_set_ne true hne]
      omega
    · have hm : i = m := by omega
      subst hm
      have heq : (List.range i).countP (fun j => !(listed.setIfInBounds i true).getD j true) = (List.range i).countP (fun j => !listed.getD j true) := by
        apply List.countP_congr
        intro j hj
        have : i ≠ j := by simp at hj; omega
        rw [getD_set_ne true this]
      rw [heq]
      have h1 : (listed.setIfInBounds i true).getD i true = true := by simp [hs]
      simp only [List.countP_cons, List.countP_nil, h1, hl]
      simp

theorem wpAC_first {m i : Nat} {oi : Oper} {v : Value} {K : Array Bool → Act → World → Prop} (hi : ops[i]? = some oi) (him : i < m)
    (hsel : ∀ (j : Nat) (o : Oper) cs b, ops[j]? = some o → o.op ≠ .select cs b) (hQ : ∀ c a w, ¬ Q (.panic c) a w) (hO : ∀ a w, ¬ Q .outgrown a w) :
    ∀ (f : Nat) (listed : Array Bool) (a : Act) (w : World), left m listed = f + 1 →
      (∀ j oj, ops[j]? = some oj → j ≠ i → listed.getD j true = false → (∀ e ∈ oj.after, Region.binds .any e = true → e.on ≠ i) → oi.apart ops oj = true) →
      i ∈ rdy ops listed → YieldsC P ops C oi v a → C w →
      wpAC P ops C m Q K f (listed.setIfInBounds i true) (a.put oi.dst v) w → wpAC P ops C m Q K (f + 1) listed a w := by
  intro f
  induction f with
  | zero =>
    intro listed a w hc hfree hr hy hC H j hj hjm
    by_cases hji : j = i
    · subst hji
      exact hy.wpOp hi hC ⟨hC, H⟩
    · exfalso
      have h1 := left_set him (mem_ready.1 hr).1
      have h2 := left_set hjm (mem_ready.1 (ready_mono hj hji)).1
      omega
  | succ f ih =>
    intro listed a w hc hfree hr hy hC H j hj hjm
    by_cases hji : j = i
    · subst hji
      exact hy.wpOp hi hC ⟨hC, H⟩
    · have h1 := H j (ready_mono hj hji) hjm
      obtain ⟨hjun, oj, hoj, hall⟩ := mem_ready.1 hj
      have hnot : ∀ e ∈ oj.after, Region.binds .any e = true → e.on ≠ i := fun e he hb heq => by
        have h1 := hall e he hb
        have h0 := (mem_ready.1 hr).1
        rw [heq] at h1
        rcases Nat.lt_or_ge i listed.size with h' | h'
        · simp [h'] at h0 h1; rw [h0] at h1; cases h1
        · simp [Array.getElem?_eq_none h'] at h1
      have h2 := wpOp_later hoj (hfree j oj hoj hji hjun hnot) (fun cs b => hsel i oi cs b hi) (fun cs b => hsel j oj cs b hoj) hQ hO hy h1
      have hfree' : ∀ k ok, ops[k]? = some ok → k ≠ i → (listed.setIfInBounds j true).getD k true = false →
          (∀ e ∈ ok.after, Region.binds .any e = true → e.on ≠ i) → oi.apart ops ok = true := fun k ok hk hki hun hno => by
        refine hfree k ok hk hki ?_ hno
        by_cases hjk : j = k
        · subst hjk; exact hjun
        · rw [getD_set_ne true hjk] at hun; exact hun
      have hcnt : left m (listed.setIfInBounds j true) = f + 1 := by
        have := left_set hjm hjun
        omega
      refine wpOp_mono (fun a' w' h3 => ⟨h3.2.1, ih (listed.setIfInBounds j true) a' w' hcnt hfree' (ready_mono hr (Ne.symm hji)) h3.1 h3.2.1 ?_⟩) h2
      rw [Array.setIfInBounds_comm _ _ hji]
      exact h3.2.2

/-- Each operation waits for earlier ones alone; those from m on wait for all of the first m. -/
def lowB (ops : Array Oper) : Bool := (List.range ops.size).all fun j => ((ops[j]?).map fun o => o.after.all fun e => !Region.binds .any e || decide (e.on < j)).getD true
def barB (ops : Array Oper) (m : Nat) : Bool :=
  (List.range ops.size).all fun j => decide (j < m) || (List.range m).all fun i => ((ops[j]?).map fun o => o.after.any fun e => Region.binds .any e && e.on == i).getD false

theorem wpAny_of_AC {m g : Nat} (hlow : lowB ops = true) (hbar : barB ops m = true) (hm : m ≤ ops.size) : ∀ (f : Nat) (listed : Array Bool) (a : Act) (w : World), left m listed = f → listed.size = ops.size →
    wpAC P ops C m Q (fun listed a w => wpAny P .any ops Q g listed a w) f listed a w → wpAny P .any ops Q (f + g) listed a w := by
  intro f
  induction f with
  | zero => intro listed a w _ _ h; rw [Nat.zero_add]; exact h
  | succ f ih =>
    intro listed a w hc hs h
    -- the least one that is not done may come
    have hex : ∃ i, i < m ∧ listed.getD i true = false := by
      have : 0 < left m listed := by omega
      unfold left at this
      rw [List.countP_pos_iff] at this
      obtain ⟨i, h1, h2⟩ := this
      exact ⟨i, by simpa using h1, by simpa using h2⟩
    have hready : ∀ i ∈ rdy ops listed, i < m := by
      intro i hi
      obtain ⟨h1, o, ho, hall⟩ := mem_ready.1 hi
      have his : i < ops.size := (Array.getElem?_eq_some_iff.1 ho).1
      have hb := List.all_eq_true.1 hbar i (List.mem_range.2 his)
      simp only [Bool.or_eq_true, decide_eq_true_eq] at hb
      rcases hb with hb | hb
      · exact hb
      · obtain ⟨k, hk, hkl⟩ := hex
        have hb2 := List.all_eq_true.1 hb k (List.mem_range.2 hk)
        rw [ho] at hb2
        simp only [Option.map_some, Option.getD_some] at hb2
        obtain ⟨e, he, hbe⟩ := Array.any_eq_true'.1 hb2
        simp only [Bool.and_eq_true, beq_iff_eq] at hbe
        have := hall e he hbe.1
        rw [hbe.2] at this
        have hks : k < listed.size := by omega
        simp [hks] at this hkl
        rw [this] at hkl; cases hkl
    have hne : rdy ops listed ≠ [] := by
      have key : ∀ n i, i ≤ n → i < m → listed.getD i true = false → ∃ j, j ∈ rdy ops listed := by
        intro n
        induction n with
        | zero =>
          intro i hi him hil
          have : i = 0 := by omega
          subst this
          have h0 : 0 < ops.size := by omega
          refine ⟨0, mem_ready.2 ⟨hil, _, Array.getElem?_eq_getElem h0, fun e he hb => ?_⟩⟩
          have hl := List.all_eq_true.1 hlow 0 (List.mem_range.2 h0)
          rw [Array.getElem?_eq_getElem h0] at hl
          simp only [Option.map_some, Option.getD_some] at hl
          have := Array.all_eq_true_iff_forall_mem.1 hl e he
          rw [hb] at this
          simp at this
        | succ n ihn =>
          intro i hi him hil
          have his : i < ops.size := by omega
          by_cases hr : i ∈ rdy ops listed
          · exact ⟨i, hr⟩
          · have : ¬ (∀ e ∈ (ops[i]).after, Region.binds .any e = true → listed.getD e.on false = true) := fun hall =>
              hr (mem_ready.2 ⟨hil, _, Array.getElem?_eq_getElem his, hall⟩)
            simp only [Classical.not_forall] at this
            obtain ⟨e, he, hb, hl⟩ := this
            have hlo := List.all_eq_true.1 hlow i (List.mem_range.2 his)
            rw [Array.getElem?_eq_getElem his] at hlo
            simp only [Option.map_some, Option.getD_some] at hlo
            have := Array.all_eq_true_iff_forall_mem.1 hlo e he
            rw [hb] at this
            simp at this
            refine ihn e.on (by omega) (by omega) ?_
            have hes : e.on < listed.size := by omega
            simpa [hes] using hl
      obtain ⟨i, him, hil⟩ := hex
      obtain ⟨j, hj⟩ := key i i (Nat.le_refl _) him hil
      exact fun h0 => by rw [h0] at hj; cases hj
    rw [Nat.succ_add]
    refine ⟨fun h0 => absurd h0 hne, fun i hi => ?_⟩
    have him := hready i hi
    refine wpOp_mono (fun a' w' h3 => ?_) (h i hi him)
    refine ih (listed.setIfInBounds i true) a' w' ?_ (by simpa using hs) h3.2
    have := left_set him (mem_ready.1 hi).1
    omega
end

/- As judgements. -/
section
variable {P : Program} {n : Nat} {ops : Array Oper} {Q : QT} {e : Env} {H Fz : List HP}

/-- What is left of a region that draws its order. -/
def WT (P : Program) (n : Nat) (ops : Array Oper) (Q : QT) (g : Nat) (listed : Array Bool) (e : Env) (H : List HP) : Prop :=
  ∀ w0 F a w, EnvOK n e a → Sat w (H ++ F) → Ext w0 w → wpAny P .any ops (lift n w0 F Q) g listed a w
/-- The same while some are still to come of the first m; Fz stays as it is until they are done. -/
def WA (P : Program) (n : Nat) (ops : Array Oper) (Q : QT) (g m f : Nat) (listed : Array Bool) (e : Env) (Fz H : List HP) : Prop :=
  ∀ w0 F a w, EnvOK n e a → Sat w (Fz ++ (H ++ F)) → Ext w0 w →
    wpAC P ops (fun w => Sat w Fz) m (lift n w0 F Q) (fun listed a w => wpAny P .any ops (lift n w0 F Q) g listed a w) f listed a w

theorem WC.regionD {id : Nat} {l : List Oper} {g : Nat} (hm : P.follows .mixedOrders = true) (hl : ops = ⟨l⟩) (hg : l.length = g) (h : WT P n ⟨l⟩ Q g (Array.replicate g false) e H) :
    WC P n (.region id ops true) Q e H := by
  intro w0 F a w h1 h2 h3
  subst hl hg
  exact wp_region_any hm (h w0 F a { w with drawn := w.drawn + 1 } h1 h2 ⟨h3.os, h3.tape, h3.output, h3.size⟩)

theorem WT.done {g : Nat} {listed : Array Bool} (hr : Region.ready .any ops listed = []) (h : Q .normal e H) : WT P n ops Q g listed e H :=
  fun w0 F a w h1 h2 h3 => wpAny_done hr ⟨e, H, h1, h2, h3, h⟩ g

def noG (u : Value) (b : Bool) : Bool := match u with
  | .bool c => noX c b
  | _ => true
def ybool : Value → Option Bool
  | .bool b => some b
  | _ => Option.none
theorem noG_ne {u : Value} {b : Bool} (h : noG u b = true) : (ybool u == some b) = false := by
  cases u <;> first | rfl | skip
  rename_i c
  cases c <;> cases b <;> first | rfl | cases h
/-- How a guard stands. -/
inductive GOK (n : Nat) (ops : Array Oper) (e : Env) : Option (Nat × Bool) → Bool → Prop where
  | none : GOK n ops e none true
  | run {j t : Nat} {b : Bool} (hj : (ops[j]?).bind (·.dst) = some t) (ht : lk e t = some (.bool b)) (hn : Nat.blt t n = true) : GOK n ops e (some (j, b)) true
  | skip {j t : Nat} {b : Bool} {u : Value} (hj : (ops[j]?).bind (·.dst) = some t) (ht : lk e t = some u) (hn : Nat.blt t n = true)
      (hc : noG u b = true) : GOK n ops e (some (j, b)) false

theorem GOK.wanted {o : Oper} {b : Bool} (h : GOK n ops e o.guard b) {a : Act} (ha : EnvOK n e a) : Region.wanted o (yielded ops a.tmps) = b := by
  unfold Region.wanted
  have hy : ∀ j t u, (ops[j]?).bind (·.dst) = some t → lk e t = some u → Nat.blt t n = true → yielded ops a.tmps j = ybool u := by
    intro j t u hj ht hn
    have := ha.get t _ ht
    have hs : t < a.tmps.size := by rw [ha.size]; simpa [Nat.blt_eq] using hn
    unfold yielded
    rw [hj]
    simp only [Option.bind_some]
    rw [Array.getElem?_eq_getElem hs]
    rw [Array.getD, dif_pos hs] at this
    rw [show a.tmps[t] = u from this]
    cases u <;> rfl
  cases hg : o.guard with
  | none => rw [hg] at h; cases h; rfl
  | some p =>
    rw [hg] at h
    cases h with
    | run hj ht hn => simp [hy _ _ _ hj ht hn, ybool]
    | skip hj ht hn hc =>
      simp only [hy _ _ _ hj ht hn]
      exact noG_ne hc

def putE (e : Env) : Option Tmp → Value → Env
  | some d, v => (d, v) :: e
  | none, _ => e
def dstB (n : Nat) : Option Tmp → Bool
  | some d => Nat.blt d n
  | none => true
theorem EnvOK.putE {a : Act} (h : EnvOK n e a) {d : Option Tmp} (hd : dstB n d = true) (v : Value) : EnvOK n (Go.Proofs.Ytidmolpkcfhkaaa.putE e d v) (a.put d v) := by
  cases d with
  | none => exact h
  | some d => exact h.put hd v

theorem lift_nopanic {w0 : World} {F : List HP} : ∀ c a w, ¬ lift n w0 F Q (.panic c) a w := fun _ _ _ h => h
theorem lift_noout {w0 : World} {F : List HP} : ∀ a w, ¬ lift n w0 F Q .outgrown a w := fun _ _ h => h

theorem OpT.wpOp {i : Nat} {o : Oper} (hi : ops[i]? = some o) (hg : GOK n ops e o.guard true) {K : Value → List HP → Prop} (h : OpT P e H o K) {w0 : World} {F : List HP} {a : Act} {w : World} {Q' : Exit → Act → World → Prop}
    (h1 : EnvOK n e a) (h2 : Sat w (H ++ F)) (h3 : Ext w0 w) {K' : Act → World → Prop} (hK : ∀ v H' w', Sat w' (H' ++ F) → Ext w0 w' → K v H' → K' (a.put o.dst v) w') : wpOp P ops Q' i K' a w := by
  unfold Go.wpOp
  simp only [hi, hg.wanted h1, if_true]
  left
  have := h a.eval (fun x _ v hx => h1.eval x v hx) F w h2
  unfold Oper.wp
  generalize (execOp a.eval o).run P w = r at this
  unfold UponT at this
  split at this
  · obtain ⟨H', g1, g2, g3⟩ := this
    exact hK _ _ _ g1 (h3.trans g2) g3
  · obtain ⟨H', g1, g2, g3⟩ := this
    exact hK _ _ _ g1 (h3.trans g2) g3
  · refine Calls.mono this ?_
    rintro x w' ⟨v, rfl, H', g1, g2, g3⟩
    exact hK _ _ _ g1 (h3.trans g2) g3
  · exact this.elim

/-- The one operation that may come. -/
theorem WT.only {g i : Nat} {listed : Array Bool} {o : Oper} (hr : Region.ready .any ops listed = [i]) (hi : ops[i]? = some o) (hg : GOK n ops e o.guard true) (hd : dstB n o.dst = true)
    (h : OpT P e H o fun v H' => WT P n ops Q g (listed.setIfInBounds i true) (putE e o.dst v) H') : WT P n ops Q (g + 1) listed e H := by
  intro w0 F a w h1 h2 h3
  refine wpAny_all hr (by simp) ?_
  intro j hj
  have : j = i := by simpa using hj
  subst this
  exact OpT.wpOp hi hg h h1 h2 h3 fun v H' w' g1 g2 g3 => g3 w0 F _ w' (h1.putE hd v) g1 g2
theorem WT.onlyS {g i : Nat} {listed : Array Bool} {o : Oper} (hr : Region.ready .any ops listed = [i]) (hi : ops[i]? = some o) (hg : GOK n ops e o.guard false) (hd : dstB n o.dst = true)
    (h : WT P n ops Q g (listed.setIfInBounds i true) (putE e o.dst undef) H) : WT P n ops Q (g + 1) listed e H := by
  intro w0 F a w h1 h2 h3
  refine wpAny_all hr (by simp) ?_
  intro j hj
  have : j = i := by simpa using hj
  subst this
  unfold wpOp
  simp only [hi, hg.wanted h1]
  exact h w0 F _ w (h1.putE hd undef) h2 h3

/-- Those that may come now, one by one. -/
theorem WT.all {g : Nat} {listed : Array Bool} {rs : List Nat} (hr : Region.ready .any ops listed = rs) (hne : rs.isEmpty = false)
    (h : ∀ i ∈ rs, ∃ o, ops[i]? = some o ∧ dstB n o.dst = true ∧ GOK n ops e o.guard true ∧ OpT P e H o fun v H' => WT P n ops Q g (listed.setIfInBounds i true) (putE e o.dst v) H') : WT P n ops Q (g + 1) listed e H := by
  intro w0 F a w h1 h2 h3
  refine wpAny_all hr (by cases rs <;> simp at hne ⊢) ?_
  intro j hj
  obtain ⟨o, hi, hd, hg, hh⟩ := h j hj
  exact OpT.wpOp hi hg hh h1 h2 h3 fun v H' w' g1 g2 g3 => g3 w0 F _ w' (h1.putE hd v) g1 g2

/-- The first m by themselves. -/
theorem WT.head {g m f : Nat} {listed : Array Bool} (Fz : List HP) {H' : List HP} (hE : Ent H (Fz ++ H')) (hlow : lowB ops = true) (hbar : barB ops m = true) (hm : Nat.ble m ops.size = true)
    (hf : left m listed = f) (hs : listed.size = ops.size) (h : WA P n ops Q g m f listed e Fz H') : WT P n ops Q (f + g) listed e H := by
  intro w0 F a w h1 h2 h3
  refine wpAny_of_AC hlow hbar (by simpa using hm) f listed a w hf hs (h w0 F a w h1 ?_ h3)
  have := hE F w h2
  simpa using this

theorem WA.end_ {g m : Nat} {listed : Array Bool} (h : WT P n ops Q g listed e (Fz ++ H)) : WA P n ops Q g m 0 listed e Fz H :=
  fun w0 F a w h1 h2 h3 => h w0 F a w h1 (by simpa using h2) h3

theorem SatL {w : World} {A B : List HP} (h : Sat w (A ++ B)) : Sat w A := by
  obtain ⟨r, hf, hr⟩ := h
  obtain ⟨p, q, hj, h1, _⟩ := SatH.append.1 hr
  exact ⟨r, hf, h1.mono hj⟩

/-- One that only reads is taken first. -/
theorem WA.take {g m f : Nat} {listed : Array Bool} {o : Oper} {v : Value} (i : Nat) (hi : ops[i]? = some o) (him : Nat.blt i m = true) (hs : Region.noSelect ops = true) (hc : left m listed = f + 1)
    (hr : (Region.ready .any ops listed).contains i = true) (hfr : Region.free .any ops listed i = true) (hg : GOK n ops e o.guard true) (hd : dstB n o.dst = true)
    (hq : QuietT P e Fz o v) (h : WA P n ops Q g m f (listed.setIfInBounds i true) (putE e o.dst v) Fz H) : WA P n ops Q g m (f + 1) listed e Fz H := by
  intro w0 F a w h1 h2 h3
  refine wpAC_first hi (by simpa [Nat.blt_eq] using him) (Region.noSelect_spec hs) lift_nopanic lift_noout f listed a w hc (Region.free_spec hi hfr) (by simpa using hr) (v := v) ?_ (SatL h2) ?_
  · exact .inl ⟨hg.wanted h1, fun w' hw' => hq a.eval (fun x _ v hx => h1.eval x v hx) [] w' (by simpa using hw')⟩
  · exact h w0 F _ w (h1.putE hd v) h2 h3
theorem WA.skip {g m f : Nat} {listed : Array Bool} {o : Oper} (i : Nat) (hi : ops[i]? = some o) (him : Nat.blt i m = true) (hs : Region.noSelect ops = true) (hc : left m listed = f + 1)
    (hr : (Region.ready .any ops listed).contains i = true) (hfr : Region.free .any ops listed i = true) (hg : GOK n ops e o.guard false) (hd : dstB n o.dst = true)
    (h : WA P n ops Q g m f (listed.setIfInBounds i true) (putE e o.dst undef) Fz H) : WA P n ops Q g m (f + 1) listed e Fz H := by
  intro w0 F a w h1 h2 h3
  refine wpAC_first hi (by simpa [Nat.blt_eq] using him) (Region.noSelect_spec hs) lift_nopanic lift_noout f listed a w hc (Region.free_spec hi hfr) (by simpa using hr) (v := undef) ?_ (SatL h2) ?_
  · exact .inr ⟨hg.wanted h1, rfl⟩
  · exact h w0 F _ w (h1.putE hd undef) h2 h3

/-- One that acts, when no other may come. -/
theorem WA.only {g m f : Nat} {listed : Array Bool} {o : Oper} (i : Nat) (hr : Region.ready .any ops listed = [i]) (hi : ops[i]? = some o) (hg : GOK n ops e o.guard true) (hd : dstB n o.dst = true)
    (h : OpT P e (Fz ++ H) o fun v H1 => ∃ H', Ent H1 (Fz ++ H') ∧ WA P n ops Q g m f (listed.setIfInBounds i true) (putE e o.dst v) Fz H') : WA P n ops Q g m (f + 1) listed e Fz H := by
  intro w0 F a w h1 h2 h3 j hj _
  have : j = i := by rw [show rdy ops listed = [i] from hr] at hj; simpa using hj
  subst this
  refine OpT.wpOp (F := F) hi hg h h1 (by simpa using h2) h3 ?_
  rintro v H1 w' g1 g2 ⟨H', g3, g4⟩
  have g5 : Sat w' (Fz ++ (H' ++ F)) := by
    have := g3 F w' g1
    simpa using this
  exact ⟨SatL g5, g4 w0 F _ w' (h1.putE hd v) g5 g2⟩
end
end Go.Proofs.Ytidmolpkcfhkaaa
