/- Regions that draw their order and loops: the forms in which they are used. -/
import Derived.Test.YtidmolpkcfhkaaaK10
namespace Go.Proofs.Ytidmolpkcfhkaaa
set_option linter.unusedSectionVars false
set_option linter.unusedVariables false
set_option linter.unusedSimpArgs false
open Go

theorem mixed_src : Try.prog.follows .mixedOrders = true := by kernel_rfl
theorem mixed {P : Program} [hP : IsP P] : P.follows .mixedOrders = true := by rw [hP.eq]; exact mixed_src

section
variable {P : Program} {n : Nat} {Q : QT} {e : Env} {H Fz : List HP} {ops : Array Oper}

theorem Qloop.again {I : Nat → Env → List HP → Prop} {k : Nat} (k' : Nat) {e' : Env} {H' : List HP} (hk : k' < k) (hs : EnvSub e' e) (hE : Ent H H') (hI : I k' e' H') : Qloop I k Q .normal e H := ⟨k', e', H', hk, hs, hE, hI⟩

/-- A region of which every operation only reads. -/
theorem wc_draw [IsP P] {id : Nat} {l : List Oper} {m : Nat} (hl : ops = ⟨l⟩) (hg : l.length = m) (hlow : lowB ⟨l⟩ = true) (hf : left m (Array.replicate m false) = m)
    (h : WA P n ⟨l⟩ Q 0 m m (Array.replicate m false) e H []) : WC P n (.region id ops true) Q e H := by
  refine WC.regionD mixed hl hg ?_
  subst hl
  have hE : Ent H (H ++ []) := by rw [List.append_nil]; exact Ent.refl H
  have hb : barB ⟨l⟩ m = true := by
    unfold barB
    rw [List.all_eq_true]
    intro j hj
    have : j < m := by rw [← hg]; simpa using hj
    simp [this]
  have := WT.head (P := P) (n := n) (ops := ⟨l⟩) (Q := Q) (e := e) (H := H) (g := 0) (m := m) (f := m) (listed := Array.replicate m false) H hE hlow hb (by simp [hg]) hf (by simp [hg]) h
  simpa using this

/-- A region whose first m operations read and act, Fz left as it is; the others come behind them. -/
theorem wc_drawH [IsP P] {id : Nat} {l : List Oper} {H' : List HP} (m : Nat) {z : Nat} (Fz : List HP) (hE : Ent H (Fz ++ H')) (hl : ops = ⟨l⟩) (hg : l.length = z) (hlow : lowB ⟨l⟩ = true) (hbar : barB ⟨l⟩ m = true) (hm : Nat.ble m l.length = true)
    (hf : left m (Array.replicate z false) = m) (h : WA P n ⟨l⟩ Q (z - m) m m (Array.replicate z false) e Fz H') : WC P n (.region id ops true) Q e H := by
  refine WC.regionD mixed hl hg ?_
  subst hl
  have hm' : m ≤ z := by rw [← hg]; simpa using hm
  have := WT.head (P := P) (n := n) (ops := ⟨l⟩) (Q := Q) (e := e) (H := H) (g := z - m) (m := m) (f := m) (listed := Array.replicate z false) Fz hE hlow hbar (by simpa using hm) hf (by simp [hg]) h
  rwa [show m + (z - m) = z from by omega] at this

variable {g m f : Nat} {listed : Array Bool} {d : Tmp} {op : Op} {ty : TypeId} {pos : String} {after : Array Edge} {gd : Option (Nat × Bool)} {v : Value}

/-- The next in the text's order, which only reads. -/
theorem wa_seq (hi : ops[m - (f + 1)]? = some ⟨some d, op, ty, pos, after, none⟩) (hq : QuietT P e Fz ⟨some d, op, ty, pos, after, none⟩ v) (him : Nat.blt (m - (f + 1)) m = true) (hs : Region.noSelect ops = true) (hc : left m listed = f + 1)
    (hr : (Region.ready .any ops listed).contains (m - (f + 1)) = true) (hfr : Region.free .any ops listed (m - (f + 1)) = true) (hd : Nat.blt d n = true)
    (h : WA P n ops Q g m f (listed.setIfInBounds (m - (f + 1)) true) ((d, v) :: e) Fz H) : WA P n ops Q g m (f + 1) listed e Fz H :=
  WA.take (m - (f + 1)) hi him hs hc hr hfr .none hd hq h
theorem wa_seqG {j t : Nat} {b : Bool} (hi : ops[m - (f + 1)]? = some ⟨some d, op, ty, pos, after, some (j, b)⟩) (hj : (ops[j]?).bind (·.dst) = some t) (ht : lk e t = some (.bool b)) (hn : Nat.blt t n = true)
    (hq : QuietT P e Fz ⟨some d, op, ty, pos, after, some (j, b)⟩ v) (him : Nat.blt (m - (f + 1)) m = true) (hs : Region.noSelect ops = true) (hc : left m listed = f + 1)
    (hr : (Region.ready .any ops listed).contains (m - (f + 1)) = true) (hfr : Region.free .any ops listed (m - (f + 1)) = true) (hd : Nat.blt d n = true)
    (h : WA P n ops Q g m f (listed.setIfInBounds (m - (f + 1)) true) ((d, v) :: e) Fz H) : WA P n ops Q g m (f + 1) listed e Fz H :=
  WA.take (m - (f + 1)) hi him hs hc hr hfr (.run hj ht hn) hd hq h
theorem wa_seqN {j t : Nat} {b : Bool} {u : Value} (hi : ops[m - (f + 1)]? = some ⟨some d, op, ty, pos, after, some (j, b)⟩) (hj : (ops[j]?).bind (·.dst) = some t) (ht : lk e t = some u) (hn : Nat.blt t n = true) (hu : noG u b = true)
    (him : Nat.blt (m - (f + 1)) m = true) (hs : Region.noSelect ops = true) (hc : left m listed = f + 1)
    (hr : (Region.ready .any ops listed).contains (m - (f + 1)) = true) (hfr : Region.free .any ops listed (m - (f + 1)) = true) (hd : Nat.blt d n = true)
    (h : WA P n ops Q g m f (listed.setIfInBounds (m - (f + 1)) true) ((d, undef) :: e) Fz H) : WA P n ops Q g m (f + 1) listed e Fz H :=
  WA.skip (m - (f + 1)) hi him hs hc hr hfr (.skip hj ht hn hu) hd h
/-- A test that a guard asks for is told, one way or the other. -/
theorem wa_split {j t : Nat} {b c : Bool} (hi : ops[m - (f + 1)]? = some ⟨some d, op, ty, pos, after, some (j, b)⟩) (hj : (ops[j]?).bind (·.dst) = some t) (ht : lk e t = some (.bool c))
    (h1 : c = b → WA P n ops Q g m (f + 1) listed ((t, .bool b) :: e) Fz H) (h2 : c = (!b) → WA P n ops Q g m (f + 1) listed ((t, .bool !b) :: e) Fz H) : WA P n ops Q g m (f + 1) listed e Fz H := by
  have key : ∀ c', c = c' → WA P n ops Q g m (f + 1) listed ((t, .bool c') :: e) Fz H → WA P n ops Q g m (f + 1) listed e Fz H := by
    intro c' hc h w0 F a w g1 g2 g3
    refine h w0 F a w ⟨g1.size, g1.defers, ?_⟩ g2 g3
    intro x v hx
    simp only [lk] at hx
    cases hb : Nat.beq t x
    · rw [hb] at hx; exact g1.get x v (by simpa using hx)
    · rw [hb] at hx
      have := Nat.eq_of_beq_eq_true hb
      subst this
      rw [g1.get t _ ht, hc]
      simpa using hx
  by_cases hc : c = b
  · exact key _ hc (h1 hc)
  · have hc' : c = !b := by cases c <;> cases b <;> simp_all
    exact key _ hc' (h2 hc')
/-- Another one than the next, which only reads. -/
theorem wa_at (i : Nat) (hi : ops[i]? = some ⟨some d, op, ty, pos, after, none⟩) (hq : QuietT P e Fz ⟨some d, op, ty, pos, after, none⟩ v) (him : Nat.blt i m = true) (hs : Region.noSelect ops = true) (hc : left m listed = f + 1)
    (hr : (Region.ready .any ops listed).contains i = true) (hfr : Region.free .any ops listed i = true) (hd : Nat.blt d n = true)
    (h : WA P n ops Q g m f (listed.setIfInBounds i true) ((d, v) :: e) Fz H) : WA P n ops Q g m (f + 1) listed e Fz H :=
  WA.take i hi him hs hc hr hfr .none hd hq h
/-- One that acts, when it alone may come. -/
theorem wa_act (i : Nat) {dd : Option Tmp} (hi : ops[i]? = some ⟨dd, op, ty, pos, after, none⟩) (hr : Region.ready .any ops listed = [i]) (hd : dstB n dd = true)
    (h : OpT P e (Fz ++ H) ⟨dd, op, ty, pos, after, none⟩ fun v H1 => ∃ H', Ent H1 (Fz ++ H') ∧ WA P n ops Q g m f (listed.setIfInBounds i true) (putE e dd v) Fz H') : WA P n ops Q g m (f + 1) listed e Fz H :=
  WA.only i hr hi .none hd h
theorem wa_call (i : Nat) {x : Operand} {xs : List Operand} {ts : Array TypeId} {fid : FuncId} {first cap vs : List Value} {Pre G : List HP} {Post : Value → List HP → Prop}
    (hi : ops[i]? = some ⟨some d, .call ⟨.value x, ⟨xs⟩, ts⟩, ty, pos, after, none⟩) (hr : Region.ready .any ops listed = [i]) (hd : Nat.blt d n = true)
    (hx : ev e x = some (.func (.func fid) ⟨first⟩ ⟨cap⟩)) (hv : evs e xs = some vs) (hs : Spec P fid (first ++ vs ++ cap) Pre Post) (hE : Take Pre (Fz ++ H) G)
    (h : ∀ v R, Post v R → ∃ H', Ent (R ++ G) (Fz ++ H') ∧ WA P n ops Q g m f (listed.setIfInBounds i true) ((d, v) :: e) Fz H') : WA P n ops Q g m (f + 1) listed e Fz H :=
  WA.only i hr hi .none hd (OpT.call hx hv hs hE h)
/-- Behind the head: one by one. -/
theorem wt_quiet (i : Nat) (hi : ops[i]? = some ⟨some d, op, ty, pos, after, none⟩) (hq : QuietT P e H ⟨some d, op, ty, pos, after, none⟩ v) (hr : Region.ready .any ops listed = [i]) (hd : Nat.blt d n = true)
    (h : WT P n ops Q g (listed.setIfInBounds i true) ((d, v) :: e) H) : WT P n ops Q (g + 1) listed e H :=
  WT.only hr hi .none hd (hq.opT h)
theorem wt_act (i : Nat) {dd : Option Tmp} (hi : ops[i]? = some ⟨dd, op, ty, pos, after, none⟩) (hr : Region.ready .any ops listed = [i]) (hd : dstB n dd = true)
    (h : OpT P e H ⟨dd, op, ty, pos, after, none⟩ fun v H' => WT P n ops Q g (listed.setIfInBounds i true) (putE e dd v) H') : WT P n ops Q (g + 1) listed e H :=
  WT.only hr hi .none hd h
theorem wt_call (i : Nat) {x : Operand} {xs : List Operand} {ts : Array TypeId} {fid : FuncId} {first cap vs : List Value} {Pre G : List HP} {Post : Value → List HP → Prop}
    (hi : ops[i]? = some ⟨some d, .call ⟨.value x, ⟨xs⟩, ts⟩, ty, pos, after, none⟩) (hr : Region.ready .any ops listed = [i]) (hd : Nat.blt d n = true)
    (hx : ev e x = some (.func (.func fid) ⟨first⟩ ⟨cap⟩)) (hv : evs e xs = some vs) (hs : Spec P fid (first ++ vs ++ cap) Pre Post) (hE : Take Pre H G)
    (h : ∀ v R, Post v R → WT P n ops Q g (listed.setIfInBounds i true) ((d, v) :: e) (R ++ G)) : WT P n ops Q (g + 1) listed e H :=
  WT.only hr hi .none hd (OpT.call hx hv hs hE h)
theorem wt_done (hr : Region.ready .any ops listed = []) (h : Q .normal e H) : WT P n ops Q g listed e H := WT.done hr h
end

section
variable {α : Type} {P : Program} [IsP P] {n : Nat} {Q : QT} {e : Env} {H H1 H2 H' : List HP} {d : Option Tmp} {ty : TypeId} {pos : String} {after : Array Edge} {g : Option (Nat × Bool)}
theorem QuietT.indexI {t : TypeId} {x ix : Operand} {a : Option Addr} {n c c' : Nat} {k : IntKind} {iv : Int} {td te : TD} {E : Enc α} {xs : List α}
    (hx : ev e x = some (.slice a n c)) (hi : ev e ix = some (.int k iv)) (ht : tab t = some td) (hk : td.kind = .slice) (he : tab td.elem = some te) (hp : Pick (ISl E a c' xs) H H')
    (hs : te.size = E.sz) (hn : n = xs.length) (hb : 0 ≤ iv ∧ iv < xs.length) : QuietT P e H ⟨d, .indexAddr t x ix, ty, pos, after, g⟩ (.pointer (some (eaddr a te.size iv 0))) :=
  QuietT.index hx hi ht hk he hp inferInstance hs hn hb
theorem QuietT.indexO {t : TypeId} {x ix : Operand} {a : Option Addr} {n c c' : Nat} {k : IntKind} {iv : Int} {td te : TD} {E : Enc α} {T : TypeId} {xs : List α}
    (hx : ev e x = some (.slice a n c)) (hi : ev e ix = some (.int k iv)) (ht : tab t = some td) (hk : td.kind = .slice) (he : tab td.elem = some te) (hp : Pick (OSl E T a c' xs) H H')
    (hs : te.size = E.sz) (hn : n = xs.length) (hb : 0 ≤ iv ∧ iv < xs.length) : QuietT P e H ⟨d, .indexAddr t x ix, ty, pos, after, g⟩ (.pointer (some (eaddr a te.size iv 0))) :=
  QuietT.index hx hi ht hk he hp inferInstance hs hn hb
theorem QuietT.loadEI {t : TypeId} {x : Operand} {a : Option Addr} {sz o c : Nat} {iv : Int} {td : TD} {E : Enc α} {xs : List α} {y : α} {v : Value}
    (hx : ev e x = some (.pointer (some (eaddr a sz iv o)))) (ht : tab t = some td) (hp : Pick (ISl E a c xs) H H') (hs : sz = E.sz) (hy : xs[iv.toNat]? = some y)
    (hv : partOf td.agg td.size o (E.f y) = some v) : QuietT P e H ⟨d, .load t x, ty, pos, after, g⟩ v := QuietT.loadE hx ht hp inferInstance hs hy hv
theorem QuietT.loadEO {t : TypeId} {x : Operand} {a : Option Addr} {sz o c : Nat} {iv : Int} {td : TD} {E : Enc α} {T : TypeId} {xs : List α} {y : α} {v : Value}
    (hx : ev e x = some (.pointer (some (eaddr a sz iv o)))) (ht : tab t = some td) (hp : Pick (OSl E T a c xs) H H') (hs : sz = E.sz) (hy : xs[iv.toNat]? = some y)
    (hv : partOf td.agg td.size o (E.f y) = some v) : QuietT P e H ⟨d, .load t x, ty, pos, after, g⟩ v := QuietT.loadE hx ht hp inferInstance hs hy hv
theorem QuietT.strI {s t : TypeId} {x : Operand} {a : Option Addr} {n c c' : Nat} {ts te tt : TD} {xs : List Int} (hx : ev e x = some (.slice a n c)) (hs : tab s = some ts) (hk : ts.kind = .slice)
    (he : tab ts.elem = some te) (hke : te.kind = .int .u8) (ht : tab t = some tt) (hkt : tt.kind = .string) (hp : Pick (ISl EB a c' xs) H H1) (hn : n = xs.length) :
    QuietT P e H ⟨d, .convert s t x, ty, pos, after, g⟩ (.string (bstr xs)) := QuietT.str hx hs hk he hke ht hkt hp inferInstance hn
theorem QuietT.strO {s t : TypeId} {x : Operand} {a : Option Addr} {n c c' : Nat} {ts te tt : TD} {T : TypeId} {xs : List Int} (hx : ev e x = some (.slice a n c)) (hs : tab s = some ts) (hk : ts.kind = .slice)
    (he : tab ts.elem = some te) (hke : te.kind = .int .u8) (ht : tab t = some tt) (hkt : tt.kind = .string) (hp : Pick (OSl EB T a c' xs) H H1) (hn : n = xs.length) :
    QuietT P e H ⟨d, .convert s t x, ty, pos, after, g⟩ (.string (bstr xs)) := QuietT.str hx hs hk he hke ht hkt hp inferInstance hn
variable {ops : Array Oper} {l : List Oper} {dd : Tmp}
theorem wl_ld {t : TypeId} {x : Operand} {b o : Nat} {td : TD} {T : TypeId} {cs : List Value} {v : Value} (hx : ev e x = some (.pointer (some ⟨b, o, none⟩)))
    (ht : tab t = some td) (hp : Pick (Blk b T cs) H H') (hv : partOf td.agg td.size o cs = some v) (hd : Nat.blt dd n = true) (h : WL P n ops Q l ((dd, v) :: e) H) :
    WL P n ops Q (⟨some dd, .load t x, ty, pos, after, none⟩ :: l) e H := wl_quiet (QuietT.load hx ht hp hv) hd h
theorem wl_ldI {t : TypeId} {x : Operand} {b o : Nat} {td : TD} {T : TypeId} {cs : List Value} {v : Value} (hx : ev e x = some (.pointer (some ⟨b, o, none⟩)))
    (ht : tab t = some td) (hp : Pick (IBlk b T cs) H H') (hv : partOf td.agg td.size o cs = some v) (hd : Nat.blt dd n = true) (h : WL P n ops Q l ((dd, v) :: e) H) :
    WL P n ops Q (⟨some dd, .load t x, ty, pos, after, none⟩ :: l) e H := wl_quiet (QuietT.loadI hx ht hp hv) hd h
theorem wl_ldEI {t : TypeId} {x : Operand} {a : Option Addr} {sz o c : Nat} {iv : Int} {td : TD} {E : Enc α} {xs : List α} {y : α} {v : Value}
    (hx : ev e x = some (.pointer (some (eaddr a sz iv o)))) (ht : tab t = some td) (hp : Pick (ISl E a c xs) H H') (hs : sz = E.sz) (hy : xs[iv.toNat]? = some y)
    (hv : partOf td.agg td.size o (E.f y) = some v) (hd : Nat.blt dd n = true) (h : WL P n ops Q l ((dd, v) :: e) H) :
    WL P n ops Q (⟨some dd, .load t x, ty, pos, after, none⟩ :: l) e H := wl_quiet (QuietT.loadEI hx ht hp hs hy hv) hd h
theorem wl_ldEO {t : TypeId} {x : Operand} {a : Option Addr} {sz o c : Nat} {iv : Int} {td : TD} {E : Enc α} {T : TypeId} {xs : List α} {y : α} {v : Value}
    (hx : ev e x = some (.pointer (some (eaddr a sz iv o)))) (ht : tab t = some td) (hp : Pick (OSl E T a c xs) H H') (hs : sz = E.sz) (hy : xs[iv.toNat]? = some y)
    (hv : partOf td.agg td.size o (E.f y) = some v) (hd : Nat.blt dd n = true) (h : WL P n ops Q l ((dd, v) :: e) H) :
    WL P n ops Q (⟨some dd, .load t x, ty, pos, after, none⟩ :: l) e H := wl_quiet (QuietT.loadEO hx ht hp hs hy hv) hd h
theorem wl_ixI {t : TypeId} {x ix : Operand} {a : Option Addr} {m c c' : Nat} {k : IntKind} {iv : Int} {td te : TD} {E : Enc α} {xs : List α}
    (hx : ev e x = some (.slice a m c)) (hi : ev e ix = some (.int k iv)) (ht : tab t = some td) (hk : td.kind = .slice) (he : tab td.elem = some te) (hp : Pick (ISl E a c' xs) H H')
    (hs : te.size = E.sz) (hn : m = xs.length) (hb : 0 ≤ iv ∧ iv < xs.length) (hd : Nat.blt dd n = true) (h : WL P n ops Q l ((dd, .pointer (some (eaddr a E.sz iv 0))) :: e) H) :
    WL P n ops Q (⟨some dd, .indexAddr t x ix, ty, pos, after, none⟩ :: l) e H := by
  refine wl_quiet (QuietT.indexI hx hi ht hk he hp hs hn hb) hd ?_
  rw [hs]; exact h
theorem wl_ixO {t : TypeId} {x ix : Operand} {a : Option Addr} {m c c' : Nat} {k : IntKind} {iv : Int} {td te : TD} {E : Enc α} {T : TypeId} {xs : List α}
    (hx : ev e x = some (.slice a m c)) (hi : ev e ix = some (.int k iv)) (ht : tab t = some td) (hk : td.kind = .slice) (he : tab td.elem = some te) (hp : Pick (OSl E T a c' xs) H H')
    (hs : te.size = E.sz) (hn : m = xs.length) (hb : 0 ≤ iv ∧ iv < xs.length) (hd : Nat.blt dd n = true) (h : WL P n ops Q l ((dd, .pointer (some (eaddr a E.sz iv 0))) :: e) H) :
    WL P n ops Q (⟨some dd, .indexAddr t x ix, ty, pos, after, none⟩ :: l) e H := by
  refine wl_quiet (QuietT.indexO hx hi ht hk he hp hs hn hb) hd ?_
  rw [hs]; exact h
omit [IsP P] in
theorem wl_fldE [IsP P] {t : TypeId} {x : Operand} {f : Nat} {a : Option Addr} {sz o fo k : Nat} {iv : Int} {ag : Bool} {td : TD} (hx : ev e x = some (.pointer (some (eaddr a sz iv o)))) (ht : tab t = some td)
    (hk : td.kind = .struct) (hf : lnth td.fs f = some (fo, k + 1, ag)) (hd : Nat.blt dd n = true) (h : WL P n ops Q l ((dd, .pointer (some (eaddr a sz iv (o + fo)))) :: e) H) :
    WL P n ops Q (⟨some dd, .fieldAddr t x f, ty, pos, after, none⟩ :: l) e H := wl_quiet (QuietT.fieldE hx ht hk hf) hd h
theorem wl_rem {t t' : TypeId} {x y : Operand} {k : IntKind} {a b : Int} (hx : ev e x = some (.int k a)) (hy : ev e y = some (.int k b)) (hb : b ≠ 0) (hd : Nat.blt dd n = true) (h : WL P n ops Q l ((dd, .int k (a.tmod b)) :: e) H) :
    WL P n ops Q (⟨some dd, .binOp .rem t x y t', ty, pos, after, none⟩ :: l) e H := wl_quiet (QuietT.rem hx hy hb) hd h
theorem wl_appendI {t : TypeId} {x y : Operand} {td te : TD} {E : Enc α} {T : TypeId} {a a2 : Option Addr} {m m2 c c2 c3 : Nat} {xs ys zs : List α}
    (hx : ev e x = some (.slice a m c)) (hy : ev e y = some (.slice a2 m2 c2)) (ht : tab t = some td) (hk : td.kind = .slice) (he : tab td.elem = some te) (hT : T = td.elem)
    (hp : Ent H (OSl E T a c xs :: H1)) (hA : Pick (ISl E a2 c3 ys) H1 H2) (hn : m = xs.length) (hn2 : m2 = ys.length)
    (hs : te.size = E.sz) (hz : Nat.blt 0 te.size = true) (hzl : Nat.beq te.zero.length te.size = true) (hb0 : Nat.blt 0 te.bytes = true) (hd : Nat.blt dd n = true) (hb : (xs.length + ys.length) * te.bytes ≤ 140737488355328) (hzs : xs ++ ys = zs)
    (h : ∀ a' c', WL P n ops Q l ((dd, .slice a' zs.length c') :: e) (OSl E T a' c' zs :: H1)) :
    WL P n ops Q (⟨some dd, .call ⟨.builtin .append, ⟨[x, y]⟩, ⟨[t, t]⟩⟩, ty, pos, after, none⟩ :: l) e H :=
  wl_append hx hy ht hk he hT hp hA inferInstance hn hn2 hs hz hzl hb0 hd hb hzs h
theorem wl_appendO {t : TypeId} {x y : Operand} {td te : TD} {E : Enc α} {T T2 : TypeId} {a a2 : Option Addr} {m m2 c c2 c3 : Nat} {xs ys zs : List α}
    (hx : ev e x = some (.slice a m c)) (hy : ev e y = some (.slice a2 m2 c2)) (ht : tab t = some td) (hk : td.kind = .slice) (he : tab td.elem = some te) (hT : T = td.elem)
    (hp : Ent H (OSl E T a c xs :: H1)) (hA : Pick (OSl E T2 a2 c3 ys) H1 H2) (hn : m = xs.length) (hn2 : m2 = ys.length)
    (hs : te.size = E.sz) (hz : Nat.blt 0 te.size = true) (hzl : Nat.beq te.zero.length te.size = true) (hb0 : Nat.blt 0 te.bytes = true) (hd : Nat.blt dd n = true) (hb : (xs.length + ys.length) * te.bytes ≤ 140737488355328) (hzs : xs ++ ys = zs)
    (h : ∀ a' c', WL P n ops Q l ((dd, .slice a' zs.length c') :: e) (OSl E T a' c' zs :: H1)) :
    WL P n ops Q (⟨some dd, .call ⟨.builtin .append, ⟨[x, y]⟩, ⟨[t, t]⟩⟩, ty, pos, after, none⟩ :: l) e H :=
  wl_append hx hy ht hk he hT hp hA inferInstance hn hn2 hs hz hzl hb0 hd hb hzs h
end
end Go.Proofs.Ytidmolpkcfhkaaa
