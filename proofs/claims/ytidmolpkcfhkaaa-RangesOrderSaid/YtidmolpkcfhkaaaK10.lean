/- The operations on slices as steps of a list; entries to functions. -/
import Derived.Test.YtidmolpkcfhkaaaK9
namespace Go.Proofs.Ytidmolpkcfhkaaa
set_option linter.unusedSectionVars false
set_option linter.unusedVariables false
set_option linter.unusedSimpArgs false
open Go

theorem join_imm_sub {p q r : PH} (h : Join p q r) : Join (immPart p) r r := by
  intro b
  have := h b
  unfold immPart
  rcases hp : p b with _ | ⟨o, k⟩
  · simp [J1]
  · cases k
    · simp [J1]
    · rw [hp] at this
      rcases hq : q b with _ | ⟨o', k'⟩
      · rw [hq] at this; simp [J1] at this ⊢; simp [this]
      · rw [hq] at this
        obtain ⟨_, _, _, hz⟩ := this
        simp [J1, hz]

/-- What a shared assertion that stands there tells may be told beside it. -/
theorem Ent.addP {A B : HP} {H H1 : List HP} (hA : Pers A) (hp : Pick A H H1) (hB : ∀ p, A p → B p) : Ent H (B :: H) := Ent.of fun r hr => by
  obtain ⟨p, q, hj, ha, _⟩ := hp r hr
  exact ⟨immPart p, r, join_imm_sub hj, hB _ (hA p ha), hr⟩

section
variable {P : Program} {n : Nat} {Q : QT} {e : Env} {H H1 H2 : List HP} {ops : Array Oper} {l : List Oper} {d : Tmp} {ty : TypeId} {pos : String} {after : Array Edge}

theorem wl_quiet {op : Op} {v : Value} (hq : QuietT P e H ⟨some d, op, ty, pos, after, none⟩ v) (hd : Nat.blt d n = true) (h : WL P n ops Q l ((d, v) :: e) H) :
    WL P n ops Q (⟨some d, op, ty, pos, after, none⟩ :: l) e H := WL.op (hq.opT ⟨hd, h⟩)

/-- A slice is cut; what the part reads is known from then on. -/
theorem wl_cut {α : Type} [IsP P] {t : TypeId} {x : Operand} {lo hi : Option Operand} {a : Option Addr} {m c : Nat} {lv hv : Int} {td te : TD} {E : Enc α} {xs : List α} (hx : ev e x = some (.slice a m c)) (ht : tab t = some td) (hk : td.kind = .slice)
    (he : tab td.elem = some te) (h1 : bnd e 0 lo = some lv) (h2 : bnd e m hi = some hv) (hd : Nat.blt d n = true) (hp : Pick (ISl E a c xs) H H1) (hs : te.size = E.sz) (hb : 0 ≤ lv ∧ lv ≤ hv ∧ hv ≤ xs.length) {zs : List α} (hzs : (xs.take hv.toNat).drop lv.toNat = zs)
    (h : ∀ a' c', WL P n ops Q l ((d, .slice a' zs.length c') :: e) (ISl E a' c' zs :: H)) :
    WL P n ops Q (⟨some d, .slice t x lo hi none, ty, pos, after, none⟩ :: l) e H := by
  subst hzs
  intro w0 F a0 w g1 g2 g3
  have hc : xs.length ≤ c := (ISl.rd (SatH.pick hp g2)).2.1
  refine wl_quiet (QuietT.slice hx ht hk he h1 h2 (m := ((xs.take hv.toNat).drop lv.toNat).length) ⟨hb.1, hb.2.1, by omega⟩ (by simp; omega)) hd (WL.ent ?_ (h _ _)) w0 F a0 w g1 g2 g3
  exact Ent.addP (ISl.pers E a c xs) hp (ISl.sub lv.toNat hv.toNat (by omega) (by omega) hs)

theorem wl_append {α : Type} [IsP P] {t : TypeId} {x y : Operand} {td te : TD} {E : Enc α} {A : HP} {T : TypeId} {a a2 : Option Addr} {m m2 c c2 c3 : Nat} {xs ys zs : List α}
    (hx : ev e x = some (.slice a m c)) (hy : ev e y = some (.slice a2 m2 c2)) (ht : tab t = some td) (hk : td.kind = .slice) (he : tab td.elem = some te) (hT : T = td.elem)
    (hp : Ent H (OSl E T a c xs :: H1)) (hA : Pick A H1 H2) (hr : Rds A E a2 c3 ys) (hn : m = xs.length) (hn2 : m2 = ys.length)
    (hs : te.size = E.sz) (hz : Nat.blt 0 te.size = true) (hzl : Nat.beq te.zero.length te.size = true) (hb0 : Nat.blt 0 te.bytes = true) (hd : Nat.blt d n = true) (hb : (xs.length + ys.length) * te.bytes ≤ 140737488355328) (hzs : xs ++ ys = zs)
    (h : ∀ a' c', WL P n ops Q l ((d, .slice a' zs.length c') :: e) (OSl E T a' c' zs :: H1)) :
    WL P n ops Q (⟨some d, .call ⟨.builtin .append, ⟨[x, y]⟩, ⟨[t, t]⟩⟩, ty, pos, after, none⟩ :: l) e H :=
  WL.op (OpT.append hx hy ht hk he hT hp hA hr hn hn2 hs hz hzl hb0 hb fun a' c' => ⟨hd, by rw [hzs]; exact h a' c'⟩)

theorem wl_append1 {α : Type} [IsP P] {t : TypeId} {x y : Operand} {td te : TD} {E : Enc α} {T T2 : TypeId} {a : Option Addr} {b2 m c : Nat} {cs2 : List Value} {xs zs : List α} (z : α)
    (hx : ev e x = some (.slice a m c)) (hy : ev e y = some (.slice (some ⟨b2, 0, none⟩) 1 1)) (ht : tab t = some td) (hk : td.kind = .slice) (he : tab td.elem = some te) (hT : T = td.elem)
    (hp : Ent H (OSl E T a c xs :: H1)) (hA : Pick (Blk b2 T2 cs2) H1 H2) (hcs : cs2 = E.f z) (hok : E.ok z) (hn : m = xs.length)
    (hs : te.size = E.sz) (hz : Nat.blt 0 te.size = true) (hzl : Nat.beq te.zero.length te.size = true) (hb0 : Nat.blt 0 te.bytes = true) (hd : Nat.blt d n = true) (hb : (xs.length + 1) * te.bytes ≤ 140737488355328) (hzs : xs ++ [z] = zs)
    (h : ∀ a' c', WL P n ops Q l ((d, .slice a' zs.length c') :: e) (OSl E T a' c' zs :: H2)) :
    WL P n ops Q (⟨some d, .call ⟨.builtin .append, ⟨[x, y]⟩, ⟨[t, t]⟩⟩, ty, pos, after, none⟩ :: l) e H :=
  WL.op (OpT.append1 z hx hy ht hk he hT hp hA hcs hok hn hs hz hzl hb0 hb fun a' c' => ⟨hd, by rw [hzs]; exact h a' c'⟩)

theorem wl_storeE {α : Type} [IsP P] {t : TypeId} {x y : Operand} {a : Option Addr} {sz o c : Nat} {iv : Int} {td : TD} {T : TypeId} {E : Enc α} {xs : List α} {u : α} (u' : α) {v : Value}
    (hx : ev e x = some (.pointer (some (eaddr a sz iv o)))) (hy : ev e y = some v) (ht : tab t = some td) (hp : Pick (OSl E T a c xs) H H1) (hs : sz = E.sz) (hu : xs[iv.toNat]? = some u)
    (hv : storeOf td.agg td.size o (E.f u) v = some (E.f u')) (hok : E.ok u') (h : WL P n ops Q l e (OSl E T a c (xs.set iv.toNat u') :: H1)) :
    WL P n ops Q (⟨none, .store t x y, ty, pos, after, none⟩ :: l) e H := WL.op (OpT.storeE u' hx hy ht hp hs hu hv hok h)

theorem wl_make {α : Type} [IsP P] {t : TypeId} {x y : Operand} {td te : TD} {E : Enc α} {k k' : IntKind} {m c : Int} (z : α) (hx : ev e x = some (.int k m)) (hy : ev e y = some (.int k' c)) (ht : tab t = some td) (hk : td.kind = .slice) (he : tab td.elem = some te)
    (hzc : te.zero = E.f z) (hok : E.ok z) (hs : te.size = E.sz) (hz : Nat.blt 0 te.size = true) (hd : Nat.blt d n = true) (hb : 0 ≤ m ∧ m ≤ c ∧ c * te.bytes ≤ 281474976710656 ∧ c ≤ 9223372036854775807)
    (h : ∀ b, WL P n ops Q l ((d, .slice (some ⟨b, 0, none⟩) (List.replicate m.toNat z).length c.toNat) :: e) (OSl E td.elem (some ⟨b, 0, none⟩) c.toNat (List.replicate m.toNat z) :: H)) :
    WL P n ops Q (⟨some d, .makeSlice t x y, ty, pos, after, none⟩ :: l) e H := WL.op (OpT.make z hx hy ht hk he hzc hok hs hz hb fun b => ⟨hd, h b⟩)

/-- What a shared assertion tells, as a fact. -/
theorem WC.fact {c : Code} {A : HP} {φ : Prop} (hp : Pick A H H1) (hA : ∀ p, A p → φ) (h : φ → WC P n c Q e H) : WC P n c Q e H := by
  intro w0 F a w g1 g2 g3
  obtain ⟨p, _, hap⟩ := Sat.head (SatH.pick hp g2)
  exact h (hA p hap) w0 F a w g1 g2 g3
theorem WL.fact {A : HP} {φ : Prop} (hp : Pick A H H1) (hA : ∀ p, A p → φ) (h : φ → WL P n ops Q l e H) : WL P n ops Q l e H := by
  intro w0 F a w g1 g2 g3
  obtain ⟨p, _, hap⟩ := Sat.head (SatH.pick hp g2)
  exact h (hA p hap) w0 F a w g1 g2 g3
theorem Spec.fact {f : FuncId} {args : List Value} {Post : Value → List HP → Prop} {A : HP} {φ : Prop} (hc : CallOK P f) (hp : Pick A H H1) (hA : ∀ p, A p → φ) (h : φ → Spec P f args H Post) : Spec P f args H Post := by
  refine ⟨hc, fun F w s => ?_⟩
  obtain ⟨p, _, hap⟩ := Sat.head (SatH.pick hp s)
  exact (h (hA p hap)).calls F w s
theorem ISl.facts {α : Type} {E : Enc α} {a : Option Addr} {c : Nat} {xs : List α} : ∀ p, ISl E a c xs p → (∀ x ∈ xs, E.ok x) ∧ xs.length ≤ c ∧ (a = none → xs = []) := fun _ h => ⟨h.1, h.2.1, fun ha => h.2.2.elim id fun ⟨_, _, _, _, _, hb, _⟩ => by rw [ha] at hb; cases hb⟩
theorem OSl.facts {α : Type} {E : Enc α} {T : TypeId} {a : Option Addr} {c : Nat} {xs : List α} : ∀ p, OSl E T a c xs p → (∀ x ∈ xs, E.ok x) ∧ xs.length ≤ c := fun _ h => ⟨h.1, h.2.1⟩
end

theorem fn_ok {P : Program} {f : FuncId} {fn : Func} {c : Code} (hf : P.funcs[f]? = some fn) (hname : (fn.name == "runtime.NumGoroutine") = false) (hb : fn.body = some c) : CallOK P f := ⟨fn, hf, hname, by simp [hb]⟩


section
variable {P : Program} [IsP P] {e : Env} {H : List HP} {d : Option Tmp} {ty : TypeId} {pos : String} {after : Array Edge} {g : Option (Nat × Bool)}
theorem QuietT.rem {t t' : TypeId} {x y : Operand} {k : IntKind} {a b : Int} (hx : ev e x = some (.int k a)) (hy : ev e y = some (.int k b)) (hb : b ≠ 0) :
    QuietT P e H ⟨d, .binOp .rem t x y t', ty, pos, after, g⟩ (.int k (a.tmod b)) := by
  intro ρ hρ F w s
  have hx' := hρ x (by simp [Op.operands]) _ hx
  have hy' := hρ y (by simp [Op.operands]) _ hy
  refine run_value ?_
  rw [hx', hy', run_bind_ok (eqGuard_run (by simp) (by simp))]
  simp only [binOp, ne_eq, not_true_eq_false, if_false, Op.intDiv, hb]; rfl
theorem QuietT.shr {t t' : TypeId} {x y : Operand} {k k' : IntKind} {a b : Int} (hx : ev e x = some (.int k a)) (hy : ev e y = some (.int k' b)) (hb : 0 ≤ b ∧ b < k.bits) :
    QuietT P e H ⟨d, .binOp .shr t x y t', ty, pos, after, g⟩ (.int k (a / 2 ^ b.toNat)) := by
  intro ρ hρ F w s
  have hx' := hρ x (by simp [Op.operands]) _ hx
  have hy' := hρ y (by simp [Op.operands]) _ hy
  refine run_value ?_
  rw [hx', hy', run_bind_ok (eqGuard_run (by simp) (by simp))]
  have hp : (0 : Int) ≤ 2 ^ b.toNat := Int.pow_nonneg (by omega)
  simp only [binOp, Op.shift]
  rw [if_neg (by omega), Nat.min_eq_left (by omega), Int.fdiv_eq_ediv_of_nonneg _ hp]
  rfl
theorem QuietT.shl {t t' : TypeId} {x y : Operand} {k k' : IntKind} {a b : Int} (hx : ev e x = some (.int k a)) (hy : ev e y = some (.int k' b)) (hb : 0 ≤ b ∧ b < k.bits) :
    QuietT P e H ⟨d, .binOp .shl t x y t', ty, pos, after, g⟩ (.int k (k.wrap (a * 2 ^ b.toNat))) := by
  intro ρ hρ F w s
  have hx' := hρ x (by simp [Op.operands]) _ hx
  have hy' := hρ y (by simp [Op.operands]) _ hy
  refine run_value ?_
  rw [hx', hy', run_bind_ok (eqGuard_run (by simp) (by simp))]
  simp only [binOp, Op.shift]
  rw [if_neg (by omega), Nat.min_eq_left (by omega)]
  rfl
/-- Digits put together, and, or, exclusive or. -/
def bitsOf (op : BinOp) (k : IntKind) (a b : Int) : Int :=
  k.wrap (match op with
    | .and => (BitVec.ofInt k.bits a &&& BitVec.ofInt k.bits b).toNat
    | .or => (BitVec.ofInt k.bits a ||| BitVec.ofInt k.bits b).toNat
    | _ => (BitVec.ofInt k.bits a ^^^ BitVec.ofInt k.bits b).toNat : Nat)
theorem QuietT.bits {op : BinOp} {t t' : TypeId} {x y : Operand} {k : IntKind} {a b : Int} (ho : op = .and ∨ op = .or ∨ op = .xor) (hx : ev e x = some (.int k a)) (hy : ev e y = some (.int k b)) :
    QuietT P e H ⟨d, .binOp op t x y t', ty, pos, after, g⟩ (.int k (bitsOf op k a b)) := by
  intro ρ hρ F w s
  have hx' := hρ x (by simp [Op.operands]) _ hx
  have hy' := hρ y (by simp [Op.operands]) _ hy
  refine run_value ?_
  rw [hx', hy', run_bind_ok (eqGuard_run (by simp) (by simp))]
  rcases ho with rfl | rfl | rfl <;> (simp only [binOp, ne_eq, not_true_eq_false, if_false, Op.intBits, bitsOf]; rfl)
theorem QuietT.conv {s t : TypeId} {x : Operand} {k k' : IntKind} {a : Int} {ts tt : TD} (hx : ev e x = some (.int k a)) (hs : tab s = some ts) (ht : tab t = some tt) (hk : tt.kind = .int k') :
    QuietT P e H ⟨d, .convert s t x, ty, pos, after, g⟩ (.int k' (k'.wrap a)) := by
  intro ρ hρ F w sa
  obtain ⟨i, u, a1, a2, a3, a4, a5, a6, a7⟩ := tab_info (P := P) hs
  obtain ⟨i', u', b1, b2, b3, b4, b5, b6, b7⟩ := tab_info (P := P) ht
  have hu : u' = .int k' := by cases u' <;> simp [kindOk, hk] at b6; rw [b6]
  subst hu
  have hx' := hρ x (by simp [Op.operands]) _ hx
  refine run_value ?_
  unfold convert
  rw [run_bind_ok (run_under a2), run_bind_ok (run_under b2), hx']
  rfl
end

theorem Ent.dropR (A B : List HP) : Ent (A ++ B) A := Ent.of fun r hr => by
  obtain ⟨p, q, hj, h1, _⟩ := SatH.append.1 hr
  exact h1.mono hj
theorem Take.fin {Pre H G : List HP} (h : Take Pre H G) : Ent H Pre := h.ent.trans (Ent.dropR Pre G)
end Go.Proofs.Ytidmolpkcfhkaaa
