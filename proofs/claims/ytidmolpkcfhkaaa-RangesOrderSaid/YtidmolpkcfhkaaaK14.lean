/- Slices made whole, and copied into. -/
import Derived.Test.YtidmolpkcfhkaaaK12
import Derived.Lib.AppendZeros
namespace Go.Proofs.Ytidmolpkcfhkaaa
set_option linter.unusedSectionVars false
set_option linter.unusedVariables false
set_option linter.unusedSimpArgs false
open Go
theorem lies_over {α : Type} {E : Enc α} {cs : List Value} {zs ys : List α} (h : lies E 0 cs zs) (hm : ys.length ≤ zs.length) : lies E 0 (overlay cs 0 (ys.flatMap E.f)) (ys ++ zs.drop ys.length) := by
  intro i x hx j v hv
  have hj : j < E.sz := by rw [← E.len x]; exact (List.getElem?_eq_some_iff.1 hv).1
  unfold overlay
  rw [List.take_zero, List.nil_append, Nat.zero_add, Nat.zero_add]
  by_cases hi : i < ys.length
  · rw [List.getElem?_append_left hi] at hx
    have h1 := flat_get E ys i x hx j v hv
    rw [List.getElem?_append_left (List.getElem?_eq_some_iff.1 h1).1]
    exact h1
  · rw [List.getElem?_append_right (by omega), List.getElem?_drop, show ys.length + (i - ys.length) = i from by omega] at hx
    have h1 := h i x hx j v hv
    have h2 : ys.length * E.sz ≤ i * E.sz := Nat.mul_le_mul_right _ (by omega)
    rw [List.getElem?_append_right (by rw [flat_len]; omega), List.getElem?_drop, flat_len, show ys.length * E.sz + (i * E.sz + j - ys.length * E.sz) = i * E.sz + j from by omega]
    simpa using h1
section
variable {α : Type} {P : Program} [IsP P] {e : Env} {H H1 H2 : List HP} {K : Value → List HP → Prop} {d : Option Tmp} {ty : TypeId} {pos : String} {after : Array Edge} {g : Option (Nat × Bool)}
theorem OpT.makeF {t : TypeId} {x y : Operand} {td te : TD} {E : Enc α} {k k' : IntKind} {n c : Int} (z : α) (hx : ev e x = some (.int k n)) (hy : ev e y = some (.int k' c)) (ht : tab t = some td) (hk : td.kind = .slice) (he : tab td.elem = some te)
    (hzc : te.zero = E.f z) (hok : E.ok z) (hs : te.size = E.sz) (hz : Nat.blt 0 te.size = true) (hb : 0 ≤ n ∧ n ≤ c ∧ c * te.bytes ≤ 281474976710656 ∧ c ≤ 9223372036854775807)
    (hK : ∀ b, K (.slice (some ⟨b, 0, none⟩) n.toNat c.toNat) (OSl E td.elem (some ⟨b, 0, none⟩) c.toNat (List.replicate c.toNat z) :: H)) : OpT P e H ⟨d, .makeSlice t x y, ty, pos, after, g⟩ K := by
  intro ρ hρ F w s
  obtain ⟨i, u, h1, h2, h3, h4, h5, h6, h7⟩ := tab_info (P := P) ht
  obtain ⟨j, u', j1, j2, j3, j4, j5, j6, zz, hzz, hzzc⟩ := tab_info (P := P) he
  have hu := slice_kind h6 hk
  subst hu
  have hx' := hρ x (by simp [Op.operands]) _ hx
  have hy' := hρ y (by simp [Op.operands]) _ hy
  have hzs : zz.cells = ⟨E.f z⟩ := by rw [← hzc]; exact Array.toList_inj.1 hzzc
  have hpos : 0 < E.sz := by rw [← hs]; simpa [Nat.blt_eq] using hz
  have hrow : (Array.range (c.toNat * E.sz)).map (fun q => zz.cells[q % zz.cells.size]!) = ⟨zeros (E.f z) c.toNat⟩ := by
    apply Array.ext'
    apply List.ext_getElem?
    intro q
    by_cases hq : q < c.toNat * E.sz
    · have hm : q % E.sz < E.sz := Nat.mod_lt _ hpos
      rw [zeros_get _ _ _ (by rw [E.len]; exact hq)]
      simp only [Array.toList_map, Array.toList_range, List.getElem?_map, List.getElem?_range hq, Option.map_some, hzs, List.size_toArray, E.len]
      rw [getElem!_pos (⟨E.f z⟩ : Array Value) (q % E.sz) (by simpa [E.len] using hm)]
      simp [List.getElem?_eq_getElem (show q % E.sz < (E.f z).length by rw [E.len]; exact hm)]
    · rw [List.getElem?_eq_none (by simp; omega), List.getElem?_eq_none (by rw [zeros_length, E.len]; omega)]
  have hrun : (execOp ρ ⟨d, .makeSlice t x y, ty, pos, after, g⟩).run P w = .ok (.value (.slice (some ⟨w.heap.size, 0, none⟩) n.toNat c.toNat)) (w.alloc (.cells ⟨zeros (E.f z) c.toNat⟩ td.elem)) := by
    refine run_value2 ?_
    rw [hx', hy']
    rw [run_make w t td.elem j zz h2 j1 hzz k k' n c hb.1 hb.2.1 (by rw [j4, Int.mul_comm]; exact hb.2.2.1) hb.2.2.2]
    rw [j3, hs]
    unfold madeCells
    rw [hrow]
  rw [hrun]
  have hzr : zeros (E.f z) c.toNat = (List.replicate c.toNat z ++ []).flatMap E.f := by
    rw [List.append_nil]
    generalize c.toNat = m
    induction m with
    | zero => rfl
    | succ m ih => rw [List.replicate_succ, List.flatMap_cons, ← ih]; rfl
  refine ⟨OSl E td.elem (some ⟨w.heap.size, 0, none⟩) c.toNat (List.replicate c.toNat z) :: H, ?_, ext_alloc w _, hK w.heap.size⟩
  refine (Sat.alloc s (.cells ⟨zeros (E.f z) c.toNat⟩ td.elem)).imp fun r hr => hr.imp_head fun p hp => ?_
  refine Blk.osl E (List.replicate c.toNat z) [] ?_ hzr ?_ p (Blk.of_own p hp)
  · intro q hq; rw [(List.mem_replicate.1 hq).2]; exact hok
  · simp

/-- As many elements as the slice has are copied into it. -/
theorem OpT.copy {t t2 : TypeId} {x y : Operand} {td te : TD} {E : Enc α} {A : HP} {T : TypeId} {a2 : Option Addr} {b n n2 c c' c2 c3 : Nat} {zs ys : List α}
    (hx : ev e x = some (.slice (some ⟨b, 0, none⟩) n c')) (hy : ev e y = some (.slice a2 n2 c2)) (ht : tab t = some td) (hk : td.kind = .slice) (he : tab td.elem = some te)
    (hp : Ent H (OSl E T (some ⟨b, 0, none⟩) c zs :: H1)) (hA : Pick A H1 H2) (hr : Rds A E a2 c3 ys) (hn : n = ys.length) (hn2 : n2 = ys.length) (hle : ys.length ≤ zs.length)
    (hs : te.size = E.sz) (hz : Nat.blt 0 te.size = true) 
    (hK : K (.int .i64 ys.length) (OSl E T (some ⟨b, 0, none⟩) c (ys ++ zs.drop ys.length) :: H1)) : OpT P e H ⟨d, .call ⟨.builtin .copy, ⟨[x, y]⟩, ⟨[t, t2]⟩⟩, ty, pos, after, g⟩ K := by
  intro ρ hρ F w s
  subst hn hn2
  obtain ⟨i, u, h1, h2, h3, h4, h5, h6, h7⟩ := tab_info (P := P) ht
  obtain ⟨j, u', j1, j2, j3, j4, j5, j6, z, hzz, hzc⟩ := tab_info (P := P) he
  have hu := slice_kind h6 hk
  subst hu
  have hx' := hρ x (by simp [Op.operands, Call.operands]) _ hx
  have hy' := hρ y (by simp [Op.operands, Call.operands]) _ hy
  have s1 : Sat w (OSl E T (some ⟨b, 0, none⟩) c zs :: (H1 ++ F)) := hp F w s
  have s2 : Sat w (A :: (H2 ++ F)) := SatH.pick hA (s1.imp fun _ h => h.drop)
  obtain ⟨hok, _, hrd⟩ := hr.rd w _ s2
  have hzp : 0 < E.sz := by rw [← hs]; simpa [Nat.blt_eq] using hz
  have hjs : j.size = E.sz := j3.trans hs
  obtain ⟨cs, hcl, hl, hok1, hc, sb⟩ := blk_of_osl s1
  have hfit : 0 * E.sz + 0 + (ys.flatMap E.f).length ≤ cs.length := by
    rw [flat_len, hcl, Nat.zero_mul, Nat.zero_add]; exact Nat.mul_le_mul_right _ (by omega)
  obtain ⟨w', g1, g2, g3⟩ := run_storeCells (P := P) (b := b) (T := T) (F := H1 ++ F) (0 * E.sz) (ys.flatMap E.f) 0 cs w (flat_one E ys) hfit sb
  have hf : (Builtin.firstCells j.size ys.length (.slice a2 ys.length c2)).run P w = .ok ⟨ys.flatMap E.f⟩ w := by
    by_cases hy0 : ys = []
    · subst hy0
      cases a2 <;> simp [Builtin.firstCells, loadCells, loadCellsFrom]
    · obtain ⟨b2, off2, ha2, hcell⟩ := RdW.cells hzp hrd hy0
      subst ha2
      exact run_firstCells_some (P := P) w j.size ys.length ⟨b2, off2, none⟩ ys.length c2 (ys.flatMap E.f) (by rw [flat_len, hjs]) hcell
  have hrun : (execOp ρ ⟨d, .call ⟨.builtin .copy, ⟨[x, y]⟩, ⟨[t, t2]⟩⟩, ty, pos, after, g⟩).run P w = .ok (.value (.int .i64 ys.length)) w' := by
    simp only [execOp, resolve]
    refine (run_bind_ok (a := _) (w' := w) rfl).trans ?_
    simp only [invoke]
    rw [show (⟨[x, y]⟩ : Array Operand).map ρ = #[.slice (some ⟨b, 0, none⟩) ys.length c', .slice a2 ys.length c2] from by simp [hx', hy']]
    refine run_value2 ?_
    have g1' : (storeCells (⟨b, 0, none⟩ : Addr) (ys.flatMap E.f)).run P w = .ok () w' := by
      simpa [Nat.zero_mul] using g1
    simp [Builtin.copy_, run_under h2, sizeOf, typeInfo, j1, Builtin.lenOf, hf, g1', goInt]
  rw [hrun]
  refine ⟨_, ?_, g2, hK⟩
  refine osl_of_blk ?_ ?_ ?_ (by simp; omega) g3
  · unfold overlay
    simp only [List.length_append, List.length_take, List.length_drop, flat_len, hcl]
    have : ys.length * E.sz ≤ c * E.sz := Nat.mul_le_mul_right _ (by omega)
    omega
  · simp only [Nat.zero_mul, Nat.zero_add]
    exact lies_over hl hle
  · intro x hx
    rcases List.mem_append.1 hx with hx | hx
    · exact hok x hx
    · exact hok1 x (List.mem_of_mem_drop hx)
variable {n : Nat} {Q : QT} {ops : Array Oper} {l : List Oper} {dd : Tmp}
theorem wl_makeF {t : TypeId} {x y : Operand} {td te : TD} {E : Enc α} {k k' : IntKind} {m c : Int} (z : α) (hx : ev e x = some (.int k m)) (hy : ev e y = some (.int k' c)) (ht : tab t = some td) (hk : td.kind = .slice) (he : tab td.elem = some te)
    (hzc : te.zero = E.f z) (hok : E.ok z) (hs : te.size = E.sz) (hz : Nat.blt 0 te.size = true) (hd : Nat.blt dd n = true) (hb : 0 ≤ m ∧ m ≤ c ∧ c * te.bytes ≤ 281474976710656 ∧ c ≤ 9223372036854775807) {m' c' : Nat} (hm : m.toNat = m') (hc : c.toNat = c')
    (h : ∀ b, WL P n ops Q l ((dd, .slice (some ⟨b, 0, none⟩) m' c') :: e) (OSl E td.elem (some ⟨b, 0, none⟩) c' (List.replicate c' z) :: H)) :
    WL P n ops Q (⟨some dd, .makeSlice t x y, ty, pos, after, none⟩ :: l) e H := by
  subst hm hc
  exact WL.op (OpT.makeF z hx hy ht hk he hzc hok hs hz hb fun b => ⟨hd, h b⟩)
theorem wl_copyI {t t2 : TypeId} {x y : Operand} {td te : TD} {E : Enc α} {T : TypeId} {a2 : Option Addr} {b n1 n2 c c' c2 c3 : Nat} {zs ys zs' : List α}
    (hx : ev e x = some (.slice (some ⟨b, 0, none⟩) n1 c')) (hy : ev e y = some (.slice a2 n2 c2)) (ht : tab t = some td) (hk : td.kind = .slice) (he : tab td.elem = some te)
    (hp : Ent H (OSl E T (some ⟨b, 0, none⟩) c zs :: H1)) (hA : Pick (ISl E a2 c3 ys) H1 H2) (hn : n1 = ys.length) (hn2 : n2 = ys.length) (hle : ys.length ≤ zs.length)
    (hs : te.size = E.sz) (hz : Nat.blt 0 te.size = true) (hd : Nat.blt dd n = true) (hzs : ys ++ zs.drop ys.length = zs')
    (h : WL P n ops Q l ((dd, .int .i64 ys.length) :: e) (OSl E T (some ⟨b, 0, none⟩) c zs' :: H1)) : WL P n ops Q (⟨some dd, .call ⟨.builtin .copy, ⟨[x, y]⟩, ⟨[t, t2]⟩⟩, ty, pos, after, none⟩ :: l) e H := by
  subst hzs
  exact WL.op (OpT.copy hx hy ht hk he hp hA inferInstance hn hn2 hle hs hz ⟨hd, h⟩)
omit [IsP P] in
theorem subA_zero (a : Option Addr) (sz c : Nat) : subA a sz c 0 = a := by
  unfold subA
  split
  · rfl
  · cases a <;> simp [Addr.add]
theorem wl_cut0 {t : TypeId} {x : Operand} {hi : Option Operand} {a : Option Addr} {m m' c : Nat} {hv : Int} {td te : TD} (hx : ev e x = some (.slice a m c)) (ht : tab t = some td) (hk : td.kind = .slice)
    (he : tab td.elem = some te) (h2 : bnd e m hi = some hv) (hd : Nat.blt dd n = true) (hb : 0 ≤ hv ∧ hv ≤ c) (hm : hv.toNat = m') (h : WL P n ops Q l ((dd, .slice a m' c) :: e) H) :
    WL P n ops Q (⟨some dd, .slice t x none hi none, ty, pos, after, none⟩ :: l) e H := by
  subst hm
  have hq := QuietT.slice (P := P) (H := H) (d := some dd) (ty := ty) (pos := pos) (after := after) (g := none) (m := hv.toNat) (lo := none) (lv := 0) hx ht hk he rfl h2 ⟨by omega, hb.1, hb.2⟩ (by simp)
  rw [show Int.toNat 0 = 0 from rfl, subA_zero, Nat.sub_zero] at hq
  exact wl_quiet hq hd h
theorem ISl.prefix_ {E : Enc α} {a : Option Addr} {c : Nat} {xs ys : List α} : ∀ p, ISl E a c (xs ++ ys) p → ISl E a c xs p := by
  intro p hp
  have := ISl.sub (E := E) (a := a) (c := c) (xs := xs ++ ys) 0 xs.length (by omega) (by simp) rfl p hp
  rwa [subA_zero, List.drop_zero, List.take_left, Nat.sub_zero] at this
omit [IsP P] in
/-- A block whose cells are such elements, as such a slice. -/
theorem WL.osl (E : Enc α) (xs : List α) {b m : Nat} {T : TypeId} {cs : List Value} (hp : Pick (Blk b T cs) H H1) (hc : cs = xs.flatMap E.f) (hm : m = xs.length) (hok : ∀ x ∈ xs, E.ok x)
    (h : WL P n ops Q l e (OSl E T (some ⟨b, 0, none⟩) m xs :: H1)) : WL P n ops Q l e H := by
  refine WL.ent (Ent.trans (Ent.of hp) (Ent.of fun r hr => ?_)) h
  obtain ⟨p, q, hj, g1, g2⟩ := hr
  exact ⟨p, q, hj, Blk.osl E xs [] hok (by rw [hc, List.append_nil]) (by simp [hm]) p g1, g2⟩
/-- A row of m nothings behind nothing: new memory, with room. -/
theorem OpT.appendZ {t tn : TypeId} {x y : Operand} {td te tt : TD} (E : Enc α) {k kn : IntKind} {m : Int} (hx : ev e x = some (.slice none 0 0)) (hy : ev e y = some (.int k m)) (ht : tab t = some td) (hk : td.kind = .slice) (he : tab td.elem = some te)
    (htn : tab tn = some tt) (hkn : tt.kind = .int kn) (hs : te.size = E.sz) (hz : Nat.blt 0 te.size = true) (hzl : Nat.beq te.zero.length te.size = true) (hm : 0 < m ∧ m * te.bytes ≤ 281474976710656 ∧ m ≤ 9223372036854775807)
    (hK : ∀ b c, m.toNat ≤ c → K (.slice (some ⟨b, 0, none⟩) m.toNat c) (OSl E td.elem (some ⟨b, 0, none⟩) c [] :: H)) : OpT P e H ⟨d, .call ⟨.builtin .append, ⟨[x, y]⟩, ⟨[t, tn]⟩⟩, ty, pos, after, g⟩ K := by
  intro ρ hρ F w s
  obtain ⟨i, u, h1, h2, h3, h4, h5, h6, h7⟩ := tab_info (P := P) ht
  obtain ⟨j, u', j1, j2, j3, j4, j5, j6, z, hzz, hzc⟩ := tab_info (P := P) he
  obtain ⟨i', v, a1, a2, a3, a4, a5, a6, a7⟩ := tab_info (P := P) htn
  have hu := slice_kind h6 hk
  subst hu
  have hv : v = .int kn := by cases v <;> simp [kindOk, hkn] at a6; rw [a6]
  subst hv
  have hx' := hρ x (by simp [Op.operands, Call.operands]) _ hx
  have hy' := hρ y (by simp [Op.operands, Call.operands]) _ hy
  obtain ⟨q, hq⟩ : ∃ q : Nat, m = q := ⟨m.toNat, by omega⟩
  subst hq
  have hzs : z.cells.size = E.sz := by rw [← hs, ← Nat.eq_of_beq_eq_true hzl, ← hzc]; simp
  have hpos : 0 < E.sz := by rw [← hs]; simpa [Nat.blt_eq] using hz
  have hb : q * j.bytes ≤ 281474976710656 := by
    have := hm.2.1
    rw [j4]
    have e : ((q * te.bytes : Nat) : Int) = (q : Int) * (te.bytes : Int) := Int.natCast_mul q te.bytes
    omega
  have hr := Lib.run_append_nil_zeros (P := P) w t tn ty td.elem j z k kn h2 a2 j1 hzz q (by omega) (by rw [j3, hs]; exact hpos) (by omega) hb
  have hge := grownCap_ge w q 0 td.elem
  have hrun : (execOp ρ ⟨d, .call ⟨.builtin .append, ⟨[x, y]⟩, ⟨[t, tn]⟩⟩, ty, pos, after, g⟩).run P w = .ok (.value (.slice (some ⟨w.heap.size, 0, none⟩) q (grownCap w q 0 td.elem)))
      (w.drew.alloc (.cells (Builtin.zeroCells z.cells q ++ Builtin.zeroCells z.cells (grownCap w q 0 td.elem - q)) td.elem)) := by
    simp only [execOp, resolve]
    refine (run_bind_ok (a := _) (w' := w) rfl).trans ?_
    simp only [invoke]
    rw [show (⟨[x, y]⟩ : Array Operand).map ρ = #[.slice none 0 0, .int k q] from by simp [hx', hy']]
    exact run_value2 hr
  rw [hrun]
  refine ⟨_, ?_, ⟨rfl, rfl, rfl, by show w.heap.size ≤ (w.heap.push _).size; simp⟩, by have := hK w.heap.size (grownCap w q 0 td.elem); rw [Int.toNat_natCast] at this; exact this hge⟩
  have s1 : Sat w.drew (H ++ F) := s
  have s2 := Sat.alloc s1 (.cells (Builtin.zeroCells z.cells q ++ Builtin.zeroCells z.cells (grownCap w q 0 td.elem - q)) td.elem)
  have s3 : Sat _ (Blk w.heap.size td.elem (Builtin.zeroCells z.cells q ++ Builtin.zeroCells z.cells (grownCap w q 0 td.elem - q)).toList :: (H ++ F)) := s2.imp fun r hr => hr.imp_head Blk.of_own
  refine osl_of_blk ?_ ?_ (by simp) (by simp) s3
  · simp only [Array.toList_append, List.length_append, Array.length_toList, size_zeroCells, hzs, ← Nat.add_mul]
    congr 1; omega
  · intro i x hx; simp at hx
theorem QuietT.cut0 {t : TypeId} {x : Operand} {hi : Option Operand} {a : Option Addr} {m m' c : Nat} {hv : Int} {td te : TD} (hx : ev e x = some (.slice a m c)) (ht : tab t = some td) (hk : td.kind = .slice)
    (he : tab td.elem = some te) (h2 : bnd e m hi = some hv) (hb : 0 ≤ hv ∧ hv ≤ c) (hm : hv.toNat = m') : QuietT P e H ⟨d, .slice t x none hi none, ty, pos, after, g⟩ (.slice a m' c) := by
  subst hm
  have hq := QuietT.slice (P := P) (H := H) (d := d) (ty := ty) (pos := pos) (after := after) (g := g) (m := hv.toNat) (lo := none) (lv := 0) hx ht hk he rfl h2 ⟨by omega, hb.1, hb.2⟩ (by simp)
  rw [show Int.toNat 0 = 0 from rfl, subA_zero, Nat.sub_zero] at hq
  exact hq
omit [IsP P] in
theorem ISl.take {E : Enc α} {a : Option Addr} {c : Nat} {xs : List α} (k : Nat) : ∀ p, ISl E a c xs p → ISl E a c (xs.take k) p := by
  intro p hp
  have h : xs = xs.take k ++ xs.drop k := (List.take_append_drop k xs).symm
  rw [h] at hp
  exact ISl.prefix_ p hp
end
end Go.Proofs.Ytidmolpkcfhkaaa
