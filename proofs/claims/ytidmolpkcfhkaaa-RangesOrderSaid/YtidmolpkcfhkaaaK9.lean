/- Operations on slices: append, make, an element stored, bytes as a string. -/
import Derived.Test.YtidmolpkcfhkaaaK8
namespace Go.Proofs.Ytidmolpkcfhkaaa
set_option linter.unusedSectionVars false
set_option linter.unusedVariables false
set_option linter.unusedSimpArgs false
open Go

/-- Bytes, ints, bools as elements. -/
def EB : Enc Int := { sz := 1, f := fun x => [.int .u8 x], len := fun _ => rfl, one := fun _ => rfl, ok := fun x => 0 ≤ x ∧ x ≤ 255 }
def EI : Enc Int := { sz := 1, f := fun x => [.int .i64 x], len := fun _ => rfl, one := fun _ => rfl, ok := fun x => -9223372036854775808 ≤ x ∧ x ≤ 9223372036854775807 }
def EBo : Enc Bool := { sz := 1, f := fun x => [.bool x], len := fun _ => rfl, one := fun _ => rfl, ok := fun _ => True }

def bstr (xs : List Int) : ByteArray := ⟨(xs.map fun n => UInt8.ofNat n.toNat).toArray⟩

theorem bstr_inj' {xs ys : List Int} (hx : ∀ x ∈ xs, 0 ≤ x ∧ x ≤ 255) (hy : ∀ x ∈ ys, 0 ≤ x ∧ x ≤ 255) (h : xs.map (fun n => UInt8.ofNat n.toNat) = ys.map (fun n => UInt8.ofNat n.toNat)) : xs = ys := by
  induction xs generalizing ys with
  | nil => cases ys <;> simp at h ⊢
  | cons x xs ih =>
    cases ys with
    | nil => simp at h
    | cons y ys =>
      simp only [List.map_cons, List.cons.injEq] at h
      have h1 := hx x (by simp)
      have h2 := hy y (by simp)
      have h3 : x.toNat = y.toNat := by
        have := congrArg UInt8.toNat h.1
        simp only [UInt8.toNat_ofNat'] at this
        omega
      rw [ih (fun z hz => hx z (by simp [hz])) (fun z hz => hy z (by simp [hz])) h.2, show x = y from by omega]

theorem bstr_inj {xs ys : List Int} (hx : ∀ x ∈ xs, 0 ≤ x ∧ x ≤ 255) (hy : ∀ x ∈ ys, 0 ≤ x ∧ x ≤ 255) : bstr xs = bstr ys ↔ xs = ys := by
  refine ⟨fun h => ?_, fun h => by rw [h]⟩
  unfold bstr at h
  simp only [ByteArray.mk.injEq] at h
  exact bstr_inj' hx hy (by simpa using congrArg Array.toList h)

theorem run_value2 {P : Program} {w w' : World} {x : Sem Value} {v : Value} (h : x.run P w = .ok v w') : (do Pure.pure (Next.value (← x)) : Sem Next).run P w = .ok (.value v) w' := by
  rw [run_bind_ok h]; rfl

section
variable {α : Type} {P : Program} [IsP P] {e : Env} {H H1 H2 : List HP} {K : Value → List HP → Prop} {d : Option Tmp} {ty : TypeId} {pos : String} {after : Array Edge} {g : Option (Nat × Bool)}

theorem OpT.append {t : TypeId} {x y : Operand} {td te : TD} {E : Enc α} {A : HP} {T : TypeId} {a a2 : Option Addr} {n n2 c c2 c3 : Nat} {xs ys : List α}
    (hx : ev e x = some (.slice a n c)) (hy : ev e y = some (.slice a2 n2 c2)) (ht : tab t = some td) (hk : td.kind = .slice) (he : tab td.elem = some te) (hT : T = td.elem)
    (hp : Ent H (OSl E T a c xs :: H1)) (hA : Pick A H1 H2) (hr : Rds A E a2 c3 ys) (hn : n = xs.length) (hn2 : n2 = ys.length)
    (hs : te.size = E.sz) (hz : Nat.blt 0 te.size = true) (hzl : Nat.beq te.zero.length te.size = true) (hb0 : Nat.blt 0 te.bytes = true) (hb : (xs.length + ys.length) * te.bytes ≤ 140737488355328)
    (hK : ∀ a' c', K (.slice a' (xs ++ ys).length c') (OSl E T a' c' (xs ++ ys) :: H1)) : OpT P e H ⟨d, .call ⟨.builtin .append, ⟨[x, y]⟩, ⟨[t, t]⟩⟩, ty, pos, after, g⟩ K := by
  intro ρ hρ F w s
  subst hT hn hn2
  have hx' := hρ x (by simp [Op.operands, Call.operands]) _ hx
  have hy' := hρ y (by simp [Op.operands, Call.operands]) _ hy
  have s1 : Sat w (OSl E td.elem a c xs :: (H1 ++ F)) := hp F w s
  have s2 : Sat w (A :: (H2 ++ F)) := SatH.pick hA (s1.imp fun _ h => h.drop)
  obtain ⟨hok, _, hrd⟩ := hr.rd w _ s2
  obtain ⟨a', c', w', g1, g2, g3⟩ := run_append (P := P) (ty := ty) (c2 := c2) (by rw [← hs]; simpa [Nat.blt_eq] using hz) ht hk he hs (Nat.eq_of_beq_eq_true hzl) s1 hrd hok hb (by simpa [Nat.blt_eq] using hb0)
  have hrun : (execOp ρ ⟨d, .call ⟨.builtin .append, ⟨[x, y]⟩, ⟨[t, t]⟩⟩, ty, pos, after, g⟩).run P w = .ok (.value (.slice a' (xs ++ ys).length c')) w' := by
    simp only [execOp, resolve]
    refine (run_bind_ok (a := _) (w' := w) rfl).trans ?_
    simp only [invoke]
    rw [show (⟨[x, y]⟩ : Array Operand).map ρ = #[.slice a xs.length c, .slice a2 ys.length c2] from by simp [hx', hy']]
    exact run_value2 g1
  rw [hrun]
  exact ⟨_, g3, g2, hK a' c'⟩

omit [IsP P] in
theorem OpT.conseq {o : Oper} {K' : Value → List HP → Prop} (h : OpT P e H o K') (hk : ∀ v R, K' v R → ∃ R', Ent R R' ∧ K v R') : OpT P e H o K := by
  intro ρ hρ F w s
  refine (h ρ hρ F w s).mono ?_
  rintro v w' ⟨R, h1, h2, h3⟩
  obtain ⟨R', h4, h5⟩ := hk v R h3
  exact ⟨R', h4 F w' h1, h2, h5⟩

/-- One element is appended: it lies in a row of its own. -/
theorem OpT.append1 {t : TypeId} {x y : Operand} {td te : TD} {E : Enc α} {T T2 : TypeId} {a : Option Addr} {b2 n c : Nat} {cs2 : List Value} {xs : List α} (z : α)
    (hx : ev e x = some (.slice a n c)) (hy : ev e y = some (.slice (some ⟨b2, 0, none⟩) 1 1)) (ht : tab t = some td) (hk : td.kind = .slice) (he : tab td.elem = some te) (hT : T = td.elem)
    (hp : Ent H (OSl E T a c xs :: H1)) (hA : Pick (Blk b2 T2 cs2) H1 H2) (hcs : cs2 = E.f z) (hok : E.ok z) (hn : n = xs.length)
    (hs : te.size = E.sz) (hz : Nat.blt 0 te.size = true) (hzl : Nat.beq te.zero.length te.size = true) (hb0 : Nat.blt 0 te.bytes = true) (hb : (xs.length + 1) * te.bytes ≤ 140737488355328)
    (hK : ∀ a' c', K (.slice a' (xs ++ [z]).length c') (OSl E T a' c' (xs ++ [z]) :: H2)) : OpT P e H ⟨d, .call ⟨.builtin .append, ⟨[x, y]⟩, ⟨[t, t]⟩⟩, ty, pos, after, g⟩ K := by
  have hp' : Ent H (OSl E T a c xs :: OSl E T2 (some ⟨b2, 0, none⟩) 1 [z] :: H2) := by
    refine hp.trans (Ent.cons _ ((Ent.of hA).trans ?_))
    exact Ent.imp (Blk.osl E [z] [] (by simpa using hok) (by simp [hcs]) (by simp))
  refine (OpT.append (K := fun v R => ∃ a' c', v = .slice a' (xs ++ [z]).length c' ∧ R = OSl E T a' c' (xs ++ [z]) :: OSl E T2 (some ⟨b2, 0, none⟩) 1 [z] :: H2)
    hx hy ht hk he hT hp' Pick.here inferInstance hn rfl hs hz hzl hb0 (by simpa using hb) (fun a' c' => ⟨a', c', rfl, rfl⟩)).conseq ?_
  rintro v R ⟨a', c', rfl, rfl⟩
  exact ⟨_, Ent.cons _ (Ent.drop _ _), hK a' c'⟩

theorem OpT.make {t : TypeId} {x y : Operand} {td te : TD} {E : Enc α} {k k' : IntKind} {n c : Int} (z : α) (hx : ev e x = some (.int k n)) (hy : ev e y = some (.int k' c)) (ht : tab t = some td) (hk : td.kind = .slice) (he : tab td.elem = some te)
    (hzc : te.zero = E.f z) (hok : E.ok z) (hs : te.size = E.sz) (hz : Nat.blt 0 te.size = true) (hb : 0 ≤ n ∧ n ≤ c ∧ c * te.bytes ≤ 281474976710656 ∧ c ≤ 9223372036854775807)
    (hK : ∀ b, K (.slice (some ⟨b, 0, none⟩) (List.replicate n.toNat z).length c.toNat) (OSl E td.elem (some ⟨b, 0, none⟩) c.toNat (List.replicate n.toNat z) :: H)) : OpT P e H ⟨d, .makeSlice t x y, ty, pos, after, g⟩ K := by
  intro ρ hρ F w s
  obtain ⟨i, u, h1, h2, h3, h4, h5, h6, h7⟩ := tab_info (P := P) ht
  obtain ⟨j, u', j1, j2, j3, j4, j5, j6, zz, hzz, hzzc⟩ := tab_info (P := P) he
  have hu := slice_kind h6 hk
  subst hu
  have hx' := hρ x (by simp [Op.operands]) _ hx
  have hy' := hρ y (by simp [Op.operands]) _ hy
  have hzs : zz.cells = ⟨E.f z⟩ := by rw [← hzc]; exact Array.toList_inj.1 hzzc
  have hpos : 0 < E.sz := by rw [← hs]; simpa [Nat.blt_eq] using hz
  have hrow : (Array.range (c.toNat * E.sz)).map (fun q => zz.cells[q % zz.cells.size]!) = ⟨zeros (E.f z) c.toNat⟩ := by
    apply Array.ext'
    apply List.ext_getElem?
    intro q
    by_cases hq : q < c.toNat * E.sz
    · have hm : q % E.sz < E.sz := Nat.mod_lt _ hpos
      rw [zeros_get _ _ _ (by rw [E.len]; exact hq)]
      simp only [Array.toList_map, Array.toList_range, List.getElem?_map, List.getElem?_range hq, Option.map_some, hzs, List.size_toArray, E.len]
      rw [getElem!_pos (⟨E.f z⟩ : Array Value) (q % E.sz) (by simpa [E.len] using hm)]
      simp [List.getElem?_eq_getElem (show q % E.sz < (E.f z).length by rw [E.len]; exact hm)]
    · rw [List.getElem?_eq_none (by simp; omega), List.getElem?_eq_none (by rw [zeros_length, E.len]; omega)]
  have hrun : (execOp ρ ⟨d, .makeSlice t x y, ty, pos, after, g⟩).run P w = .ok (.value (.slice (some ⟨w.heap.size, 0, none⟩) n.toNat c.toNat)) (w.alloc (.cells ⟨zeros (E.f z) c.toNat⟩ td.elem)) := by
    refine run_value2 ?_
    rw [hx', hy']
    rw [run_make w t td.elem j zz h2 j1 hzz k k' n c hb.1 hb.2.1 (by rw [j4, Int.mul_comm]; exact hb.2.2.1) hb.2.2.2]
    rw [j3, hs]
    unfold madeCells
    rw [hrow]
  rw [hrun]
  have hzr : zeros (E.f z) c.toNat = (List.replicate n.toNat z ++ List.replicate (c.toNat - n.toNat) z).flatMap E.f := by
    rw [List.replicate_append_replicate, show n.toNat + (c.toNat - n.toNat) = c.toNat from by omega]
    generalize c.toNat = m
    induction m with
    | zero => rfl
    | succ m ih => rw [List.replicate_succ, List.flatMap_cons, ← ih]; rfl
  refine ⟨OSl E td.elem (some ⟨w.heap.size, 0, none⟩) c.toNat (List.replicate n.toNat z) :: H, ?_, ext_alloc w _, ?_⟩
  rotate_left
  · have := hK w.heap.size
    rw [List.length_replicate] at this
    exact this
  · refine (Sat.alloc s (.cells ⟨zeros (E.f z) c.toNat⟩ td.elem)).imp fun r hr => hr.imp_head fun p hp => ?_
    refine Blk.osl E (List.replicate n.toNat z) (List.replicate (c.toNat - n.toNat) z) ?_ hzr ?_ p (Blk.of_own p hp)
    · intro q hq; rw [(List.mem_replicate.1 hq).2]; exact hok
    · simp; omega

/-- A part of an element is stored. -/
theorem OpT.storeE {t : TypeId} {x y : Operand} {a : Option Addr} {sz o c : Nat} {iv : Int} {td : TD} {T : TypeId} {E : Enc α} {xs : List α} {u : α} (u' : α) {v : Value}
    (hx : ev e x = some (.pointer (some (eaddr a sz iv o)))) (hy : ev e y = some v) (ht : tab t = some td) (hp : Pick (OSl E T a c xs) H H1) (hs : sz = E.sz) (hu : xs[iv.toNat]? = some u)
    (hv : storeOf td.agg td.size o (E.f u) v = some (E.f u')) (hok : E.ok u') (hK : K undef (OSl E T a c (xs.set iv.toNat u') :: H1)) : OpT P e H ⟨d, .store t x y, ty, pos, after, g⟩ K := by
  intro ρ hρ F w s
  subst hs
  obtain ⟨i, q, h1, h2, h3, h4, h5, h6, h7⟩ := tab_info (P := P) ht
  have hx' := hρ x (by simp [Op.operands]) _ hx
  have hy' := hρ y (by simp [Op.operands]) _ hy
  have s1 := SatH.pick hp s
  have hlt : iv.toNat < xs.length := (List.getElem?_eq_some_iff.1 hu).1
  have hcase : ∃ b, a = some ⟨b, 0, none⟩ := by
    obtain ⟨p, _, _, hl, h3⟩ := Sat.head s1
    rcases h3 with ⟨_, hc⟩ | ⟨b, cs, ha, _⟩
    · omega
    · exact ⟨b, ha⟩
  obtain ⟨b, rfl⟩ := hcase
  obtain ⟨cs, hcl, hl, hok1, hxc, sb⟩ := blk_of_osl s1
  unfold storeOf at hv
  split at hv
  · rename_i vs hvs
    obtain ⟨c1, c2, c3⟩ := cellsOfV_eq hvs
    obtain ⟨l1, l2⟩ := lput_eq hv
    simp only [Option.some.injEq] at l2
    rw [E.len] at l1
    have hfit : (iv.toNat + 1) * E.sz ≤ cs.length := by rw [hcl]; exact Nat.mul_le_mul_right _ (by omega)
    rw [Nat.succ_mul] at hfit
    obtain ⟨w', g1, g2, g3⟩ := run_storeCells (P := P) (iv.toNat * E.sz + o) vs 0 cs w c3 (by omega) sb
    have hrun : (execOp ρ ⟨d, .store t x y, ty, pos, after, g⟩).run P w = .ok .skip w' := by
      refine (run_bind_ok (a := ()) (w' := w') ?_).trans rfl
      unfold Instr.storeAt
      rw [hx', hy', eaddr_eq, Nat.zero_add]
      refine (run_bind_ok (a := ⟨b, iv.toNat * E.sz + o, none⟩) (w' := w) rfl).trans ?_
      unfold storeVar
      rw [run_bind_ok (run_size h1)]
      rw [if_neg (by rw [c1, h3]; simp [c2])]
      rw [c1]
      exact g1
    rw [hrun]
    refine ⟨_, ?_, g2, hK⟩
    rw [Nat.add_zero] at g3
    refine osl_of_blk ?_ ?_ ?_ (by simpa using hxc) g3
    · unfold overlay
      simp only [List.length_append, List.length_take, List.length_drop]
      omega
    · intro i z hz j q hq
      have hj : j < E.sz := by rw [← E.len z]; exact (List.getElem?_eq_some_iff.1 hq).1
      rw [List.getElem?_set] at hz
      rw [Nat.zero_add]
      unfold overlay
      split at hz
      · rename_i hii
        subst hii
        simp only [hlt, if_true, Option.some.injEq] at hz
        subst hz
        -- the element itself
        have hbase : ∀ q2 (j2 : Nat), j2 < E.sz → (E.f u)[j2]? = some q2 → cs[iv.toNat * E.sz + j2]? = some q2 := by
          intro q2 j2 _ h2; have := hl iv.toNat u hu j2 q2 h2; rwa [Nat.zero_add] at this
        rw [← l2] at hq
        unfold overlay at hq
        by_cases hA : j < o
        · rw [List.append_assoc, List.getElem?_append_left (by simp [E.len]; omega), List.getElem?_take, if_pos hA] at hq
          rw [List.append_assoc, List.getElem?_append_left (by simp; omega), List.getElem?_take, if_pos (by omega)]
          exact hbase q j hj hq
        · by_cases hB : j < o + vs.length
          · rw [List.append_assoc, List.getElem?_append_right (by simp [E.len]; omega)] at hq
            simp only [List.length_take, E.len] at hq
            rw [List.getElem?_append_left (by omega)] at hq
            rw [List.append_assoc, List.getElem?_append_right (by simp; omega)]
            simp only [List.length_take]
            rw [List.getElem?_append_left (by omega)]
            rw [show iv.toNat * E.sz + j - min (iv.toNat * E.sz + o) cs.length = j - min o E.sz from by omega]
            exact hq
          · rw [List.getElem?_append_right (by simp [E.len]; omega)] at hq
            simp only [List.length_append, List.length_take, E.len, List.getElem?_drop] at hq
            rw [List.getElem?_append_right (by simp; omega)]
            simp only [List.length_append, List.length_take, List.getElem?_drop]
            rw [show iv.toNat * E.sz + o + vs.length + (iv.toNat * E.sz + j - (min (iv.toNat * E.sz + o) cs.length + vs.length)) = iv.toNat * E.sz + j from by omega]
            rw [show o + vs.length + (j - (min o E.sz + vs.length)) = j from by omega] at hq
            exact hbase q j hj hq
      · rename_i hii
        have hc := hl i z hz j q hq
        rw [Nat.zero_add] at hc
        have hne : i * E.sz + j < iv.toNat * E.sz + o ∨ iv.toNat * E.sz + o + vs.length ≤ i * E.sz + j := by
          rcases Nat.lt_or_ge i iv.toNat with h | h
          · left
            have : (i + 1) * E.sz ≤ iv.toNat * E.sz := Nat.mul_le_mul_right _ h
            rw [Nat.succ_mul] at this; omega
          · right
            have : (iv.toNat + 1) * E.sz ≤ i * E.sz := Nat.mul_le_mul_right _ (by omega)
            rw [Nat.succ_mul] at this; omega
        rcases hne with h | h
        · rw [List.append_assoc, List.getElem?_append_left (by simp; omega), List.getElem?_take, if_pos h]
          exact hc
        · rw [List.getElem?_append_right (by simp; omega)]
          simp only [List.length_append, List.length_take, List.getElem?_drop]
          rw [show iv.toNat * E.sz + o + vs.length + (i * E.sz + j - (min (iv.toNat * E.sz + o) cs.length + vs.length)) = i * E.sz + j from by omega]
          exact hc
    · intro z hz
      rcases List.mem_or_eq_of_mem_set hz with h | h
      · exact hok1 z h
      · rw [h]; exact hok
  · simp at hv

theorem foldl_push (ns : List Int) : ∀ s : ByteArray, ns.foldl (fun r n => r.push (UInt8.ofNat n.toNat)) s = ⟨s.data ++ (bstr ns).data⟩ := by
  induction ns with
  | nil => intro s; simp [bstr]
  | cons n ns ih =>
    intro s
    rw [List.foldl_cons, ih]
    simp only [bstr, ByteArray.push]
    congr 1
    apply Array.ext'
    simp

/-- Bytes as a string. -/
theorem QuietT.str {s t : TypeId} {x : Operand} {a : Option Addr} {n c c' : Nat} {ts te tt : TD} {A : HP} {xs : List Int} (hx : ev e x = some (.slice a n c)) (hs : tab s = some ts) (hk : ts.kind = .slice)
    (he : tab ts.elem = some te) (hke : te.kind = .int .u8) (ht : tab t = some tt) (hkt : tt.kind = .string) (hp : Pick A H H1) (hA : Rds A EB a c' xs) (hn : n = xs.length) :
    QuietT P e H ⟨d, .convert s t x, ty, pos, after, g⟩ (.string (bstr xs)) := by
  intro ρ hρ F w sa
  subst hn
  obtain ⟨i, u, h1, h2, h3, h4, h5, h6, h7⟩ := tab_info (P := P) hs
  obtain ⟨j, u', j1, j2, j3, j4, j5, j6, j7⟩ := tab_info (P := P) he
  obtain ⟨l, u2, l1, l2, l3, l4, l5, l6, l7⟩ := tab_info (P := P) ht
  have hu := slice_kind h6 hk
  subst hu
  have hu' : u' = .int .u8 := by cases u' <;> simp [kindOk, hke] at j6; rw [j6]
  subst hu'
  have hu2 : u2 = .string := by cases u2 <;> simp [kindOk, hkt] at l6; rfl
  subst hu2
  have hx' := hρ x (by simp [Op.operands]) _ hx
  obtain ⟨_, _, hrd⟩ := hA.rd w _ (SatH.pick hp sa)
  refine run_value ?_
  rw [hx', run_convert_bytes_string w s t ts.elem a xs.length c h2 j2 l2]
  have hflat : ∀ ys : List Int, ys.flatMap EB.f = ys.map (Value.int .u8) := by
    intro ys; induction ys with
    | nil => rfl
    | cons y ys ih => rw [List.flatMap_cons, ih]; rfl
  have hfin : ∀ b : Addr, (∀ (j : Nat) v, (xs.map (Value.int .u8))[j]? = some v → w.cell? (b.add j) = some v) → (Conv.bytesToString (.slice (some b) xs.length c)).run P w = .ok (.string (bstr xs)) w := by
    intro b hb
    have hL := run_loadCells (P := P) (w := w) (a := b) (vs := xs.map (Value.int .u8)) hb
    rw [List.length_map] at hL
    rw [run_bytesToString w b xs.length c xs hL, foldl_push]
    have h0 : (⟨ByteArray.empty.data ++ (bstr xs).data⟩ : ByteArray) = bstr xs := by
      show (⟨#[] ++ (bstr xs).data⟩ : ByteArray) = bstr xs
      rw [Array.empty_append]
    rw [h0]
  by_cases hne : xs = []
  · subst hne
    cases a with
    | none => rfl
    | some b => exact hfin b (by intro j v h; simp at h)
  · obtain ⟨b, off, rfl, hc⟩ := RdW.cells (by decide) hrd hne
    exact hfin _ (by rw [← hflat]; exact hc)
end
end Go.Proofs.Ytidmolpkcfhkaaa
