/- Slices that are written: append, make, elements stored; slices out of blocks. -/
import Derived.Test.YtidmolpkcfhkaaaK7
namespace Go.Proofs.Ytidmolpkcfhkaaa
set_option linter.unusedSectionVars false
set_option linter.unusedVariables false
set_option linter.unusedSimpArgs false
open Go

section
variable {α : Type}
theorem flat_len (E : Enc α) (xs : List α) : (xs.flatMap E.f).length = xs.length * E.sz := by
  induction xs with
  | nil => simp
  | cons x xs ih => simp [ih, E.len, Nat.succ_mul, Nat.add_comm]

theorem flat_get (E : Enc α) : ∀ (xs : List α) (i : Nat) (x : α), xs[i]? = some x → ∀ (j : Nat) (v : Value), (E.f x)[j]? = some v → (xs.flatMap E.f)[i * E.sz + j]? = some v
  | [], i, x, h, _, _, _ => by simp at h
  | y :: xs, 0, x, h, j, v, hv => by
    simp at h; subst h
    rw [Nat.zero_mul, Nat.zero_add, List.flatMap_cons]
    rw [List.getElem?_append_left (List.getElem?_eq_some_iff.1 hv).1]
    exact hv
  | y :: xs, i + 1, x, h, j, v, hv => by
    rw [List.flatMap_cons, List.getElem?_append_right (by rw [E.len, Nat.succ_mul]; omega), E.len]
    rw [show (i + 1) * E.sz + j - E.sz = i * E.sz + j from by rw [Nat.succ_mul]; omega]
    exact flat_get E xs i x (by simpa using h) j v hv

theorem flat_at (E : Enc α) (hz : 0 < E.sz) (xs : List α) (k : Nat) (v : Value) (h : (xs.flatMap E.f)[k]? = some v) : ∃ x, xs[k / E.sz]? = some x ∧ (E.f x)[k % E.sz]? = some v := by
  have hk : k < xs.length * E.sz := by rw [← flat_len]; exact (List.getElem?_eq_some_iff.1 h).1
  have hd : k / E.sz < xs.length := (Nat.div_lt_iff_lt_mul hz).2 hk
  refine ⟨_, List.getElem?_eq_getElem hd, ?_⟩
  have hm : k % E.sz < (E.f xs[k / E.sz]).length := by rw [E.len]; exact Nat.mod_lt _ hz
  have h2 := flat_get E xs (k / E.sz) _ (List.getElem?_eq_getElem hd) (k % E.sz) _ (List.getElem?_eq_getElem hm)
  rw [show k / E.sz * E.sz + k % E.sz = k from by rw [Nat.mul_comm]; exact Nat.div_add_mod k E.sz] at h2
  rw [h] at h2
  rw [List.getElem?_eq_getElem hm]
  exact h2.symm

theorem flat_one (E : Enc α) (xs : List α) : allOne (xs.flatMap E.f) = true := by
  have happ : ∀ a b : List Value, allOne a = true → allOne b = true → allOne (a ++ b) = true := by
    intro a
    induction a with
    | nil => intro b _ h; exact h
    | cons x a ih =>
      intro b h1 h2
      simp only [allOne, Bool.and_eq_true] at h1
      simp only [List.cons_append, allOne, Bool.and_eq_true]
      exact ⟨h1.1, ih b h1.2 h2⟩
  induction xs with
  | nil => rfl
  | cons x xs ih => rw [List.flatMap_cons]; exact happ _ _ (E.one x) ih

theorem lies_flat (E : Enc α) (xs : List α) (pre post : List Value) {off : Nat} (h : pre.length = off) : lies E off (pre ++ xs.flatMap E.f ++ post) xs := by
  intro i x hx j v hv
  have := flat_get E xs i x hx j v hv
  have hlt := (List.getElem?_eq_some_iff.1 this).1
  rw [List.append_assoc, List.getElem?_append_right (by omega), List.getElem?_append_left (by omega)]
  rw [show off + i * E.sz + j - pre.length = i * E.sz + j from by omega]
  exact this

theorem RdW.cells {w : World} {E : Enc α} {a : Option Addr} {xs : List α} (hz : 0 < E.sz) (h : RdW w E a xs) (hne : xs ≠ []) :
    ∃ b off, a = some ⟨b, off, none⟩ ∧ ∀ (j : Nat) (v : Value), (xs.flatMap E.f)[j]? = some v → w.cell? ((⟨b, off, none⟩ : Addr).add j) = some v := by
  rcases h with h | ⟨b, off, ha, hc⟩
  · exact absurd h hne
  · refine ⟨b, off, ha, fun j v hv => ?_⟩
    obtain ⟨x, hx, hxv⟩ := flat_at E hz xs j v hv
    have := hc _ x hx _ v hxv
    rw [Addr.add_mk]
    rw [show off + j / E.sz * E.sz + j % E.sz = off + j from by rw [Nat.add_assoc, Nat.mul_comm, Nat.div_add_mod]] at this
    exact this

theorem OSl.nilE (E : Enc α) (T : TypeId) (H : List HP) : Ent H (OSl E T none 0 [] :: H) := Ent.of fun r hr =>
  ⟨emp, r, Join.emp_left r, ⟨by simp, by simp, .inl ⟨rfl, rfl⟩⟩, hr⟩

/-- A block whose cells are such elements is such a slice. -/
theorem Blk.osl (E : Enc α) {T : TypeId} {b : Nat} {cs : List Value} (xs post : List α) {n : Nat} (hok : ∀ x ∈ xs, E.ok x) (hc : cs = (xs ++ post).flatMap E.f) (hn : n = (xs ++ post).length) :
    ∀ p, Blk b T cs p → OSl E T (some ⟨b, 0, none⟩) n xs p := by
  intro p hp
  refine ⟨hok, by simp [hn], .inr ⟨b, cs, rfl, hp, by rw [hc, flat_len, hn], ?_⟩⟩
  rw [hc, List.flatMap_append]
  have := lies_flat E xs [] (post.flatMap E.f) (off := 0) rfl
  simpa using this

theorem OSl.share {E : Enc α} {T : TypeId} {a : Option Addr} {c : Nat} {xs : List α} {H : List HP} : Ent (OSl E T a c xs :: H) (ISl E a c xs :: H) := by
  intro F w s
  obtain ⟨r, hf, p, q, hj, ⟨h1, h2, h3⟩, hq⟩ := s
  rcases h3 with ⟨ha, hc⟩ | ⟨b, cs, ha, hb, hcl, hl⟩
  · exact ⟨r, hf, p, q, hj, ⟨h1, h2, .inl (List.length_eq_zero_iff.1 (by omega))⟩, hq⟩
  · have s' : Sat w (Blk b T cs :: (H ++ F)) := ⟨r, hf, p, q, hj, hb, hq⟩
    obtain ⟨r', hf', p', q', hj', ⟨fr, hb'⟩, hq'⟩ := s'.share
    exact ⟨r', hf', p', q', hj', ⟨h1, h2, .inr ⟨b, 0, cs, T, fr, ha, hb', hl⟩⟩, hq'⟩

theorem blk_of_osl {E : Enc α} {T : TypeId} {b c : Nat} {xs : List α} {w : World} {F : List HP} (s : Sat w (OSl E T (some ⟨b, 0, none⟩) c xs :: F)) :
    ∃ cs, cs.length = c * E.sz ∧ lies E 0 cs xs ∧ (∀ x ∈ xs, E.ok x) ∧ xs.length ≤ c ∧ Sat w (Blk b T cs :: F) := by
  obtain ⟨r, hf, p, q, hj, ⟨h1, h2, h3⟩, hq⟩ := s
  rcases h3 with ⟨ha, _⟩ | ⟨b', cs, ha, hb, hcl, hl⟩
  · cases ha
  · cases ha
    exact ⟨cs, hcl, hl, h1, h2, r, hf, p, q, hj, hb, hq⟩

theorem osl_of_blk {E : Enc α} {T : TypeId} {b c : Nat} {xs : List α} {cs : List Value} {w : World} {F : List HP} (hl : cs.length = c * E.sz) (h : lies E 0 cs xs) (hok : ∀ x ∈ xs, E.ok x) (hc : xs.length ≤ c)
    (s : Sat w (Blk b T cs :: F)) : Sat w (OSl E T (some ⟨b, 0, none⟩) c xs :: F) := by
  obtain ⟨r, hf, p, q, hj, hb, hq⟩ := s
  exact ⟨r, hf, p, q, hj, ⟨hok, hc, .inr ⟨b, cs, rfl, hb, hl, h⟩⟩, hq⟩

theorem lies_overlay {E : Enc α} {cs : List Value} {xs ys : List α} {c : Nat} (hcl : cs.length = c * E.sz) (h : lies E 0 cs xs) (hroom : xs.length + ys.length ≤ c) :
    lies E 0 (overlay cs (xs.length * E.sz) (ys.flatMap E.f)) (xs ++ ys) := by
  intro i x hx j v hv
  have hj : j < E.sz := by rw [← E.len x]; exact (List.getElem?_eq_some_iff.1 hv).1
  rw [Nat.zero_add]
  by_cases hi : i < xs.length
  · rw [List.getElem?_append_left hi] at hx
    have := h i x hx j v hv
    rw [Nat.zero_add] at this
    have hlt : i * E.sz + j < xs.length * E.sz := by
      have : (i + 1) * E.sz ≤ xs.length * E.sz := Nat.mul_le_mul_right _ hi
      rw [Nat.succ_mul] at this; omega
    unfold overlay
    have hle : xs.length * E.sz ≤ cs.length := by rw [hcl]; exact Nat.mul_le_mul_right _ (by omega)
    rw [List.append_assoc, List.getElem?_append_left (by simp; omega), List.getElem?_take, if_pos hlt]
    exact this
  · rw [List.getElem?_append_right (by omega)] at hx
    have hf := flat_get E ys (i - xs.length) x hx j v hv
    have hlt := (List.getElem?_eq_some_iff.1 hf).1
    have hle : xs.length * E.sz ≤ cs.length := by rw [hcl]; exact Nat.mul_le_mul_right _ (by omega)
    unfold overlay
    have he : i * E.sz = xs.length * E.sz + (i - xs.length) * E.sz := by rw [← Nat.add_mul]; congr 1; omega
    rw [List.append_assoc, List.getElem?_append_right (by simp; omega)]
    simp only [List.length_take, Nat.min_eq_left hle]
    rw [List.getElem?_append_left (by omega)]
    rw [show i * E.sz + j - xs.length * E.sz = (i - xs.length) * E.sz + j from by omega]
    exact hf

section
variable {P : Program} [IsP P] {e : Env} {H H1 H' : List HP} {K : Value → List HP → Prop} {d : Option Tmp} {ty : TypeId} {pos : String} {after : Array Edge} {g : Option (Nat × Bool)}

theorem run_append {E : Enc α} (hz : 0 < E.sz) {t : TypeId} {td te : TD} (ht : tab t = some td) (hk : td.kind = .slice) (he : tab td.elem = some te) (hs : te.size = E.sz) (hzl : te.zero.length = te.size)
    {a a2 : Option Addr} {c c2 : Nat} {xs ys : List α} {w : World} {F : List HP} (s : Sat w (OSl E td.elem a c xs :: F)) (hr : RdW w E a2 ys) (hok : ∀ y ∈ ys, E.ok y)
    (hb : (xs.length + ys.length) * te.bytes ≤ 140737488355328) (hb0 : 0 < te.bytes) :
    ∃ a' c' w', (Builtin.append_ #[t, t] ty #[.slice a xs.length c, .slice a2 ys.length c2]).run P w = .ok (.slice a' (xs ++ ys).length c') w' ∧ Ext w w' ∧ Sat w' (OSl E td.elem a' c' (xs ++ ys) :: F) := by
  obtain ⟨i, u, h1, h2, h3, h4, h5, h6, h7⟩ := tab_info (P := P) ht
  obtain ⟨j, u', j1, j2, j3, j4, j5, j6, z, hzz, hzc⟩ := tab_info (P := P) he
  have hu := slice_kind h6 hk
  subst hu
  have hzs : z.cells.size = E.sz := by rw [← hs, ← hzl, ← hzc]; simp
  have hjs : j.size = E.sz := j3.trans hs
  have hle : xs.length + ys.length ≤ 140737488355328 := Nat.le_trans (Nat.le_mul_of_pos_right _ hb0) hb
  by_cases hy : ys = []
  · subst hy
    obtain ⟨hok1, hxc, _⟩ := OSl.rd s
    refine ⟨a, c, w, ?_, Ext.refl w, by simpa using s⟩
    have hxc' : xs.length ≤ c := hxc
    cases a <;> cases a2 <;> simp [Builtin.append_, run_under h2, sizeOf, typeInfo, j1, Builtin.lenOf, Builtin.firstCells, loadCells, loadCellsFrom, hxc', storeCells]
  · obtain ⟨b2, off2, ha2, hcell⟩ := RdW.cells hz hr hy
    subst ha2
    have hylen : (ys.flatMap E.f).length = ys.length * j.size := by rw [flat_len, hjs]
    have hypos : 0 < ys.length := List.length_pos_iff.2 hy
    have hgrowS : ∀ cap, xs.length + ys.length ≤ cap → Sat (w.drew.alloc (.cells ⟨xs.flatMap E.f ++ ys.flatMap E.f ++ (Builtin.zeroCells z.cells (cap - (xs.length + ys.length))).toList⟩ td.elem)) (OSl E td.elem (some ⟨w.heap.size, 0, none⟩) cap (xs ++ ys) :: F) := by
      intro cap hcap
      obtain ⟨hok1, hxc, _⟩ := OSl.rd s
      have s1 : Sat w.drew F := s.imp fun _ h => h.drop
      have s2 := Sat.alloc s1 (.cells ⟨xs.flatMap E.f ++ ys.flatMap E.f ++ (Builtin.zeroCells z.cells (cap - (xs.length + ys.length))).toList⟩ td.elem)
      have s3 : Sat _ (Blk w.heap.size td.elem (xs.flatMap E.f ++ ys.flatMap E.f ++ (Builtin.zeroCells z.cells (cap - (xs.length + ys.length))).toList) :: F) := s2.imp fun r hr => hr.imp_head Blk.of_own
      refine osl_of_blk ?_ ?_ (by intro x hx; simp at hx; exact hx.elim (hok1 x) (hok x)) (by simp; omega) s3
      · simp only [List.length_append, flat_len, Array.length_toList, size_zeroCells, hzs, ← Nat.add_mul]
        congr 1; omega
      · have := lies_flat E (xs ++ ys) [] (Builtin.zeroCells z.cells (cap - (xs.length + ys.length))).toList (off := 0) rfl
        simpa [List.flatMap_append] using this
    obtain ⟨hok1, hxc, hrd⟩ := OSl.rd s
    have hcases : (a = none ∧ c = 0) ∨ ∃ b, a = some ⟨b, 0, none⟩ := by
      obtain ⟨p, _, _, _, h3⟩ := Sat.head s
      exact h3.imp id fun ⟨b, cs, ha, _⟩ => ⟨b, ha⟩
    rcases hcases with ⟨rfl, rfl⟩ | ⟨b, rfl⟩
    · have hx : xs = [] := List.length_eq_zero_iff.1 (by omega)
      subst hx
      have hr1 := run_append_nil (P := P) w t ty td.elem j z h2 j1 hzz ⟨b2, off2, none⟩ ys.length c2 (ys.flatMap E.f) hylen hcell hypos (by simp at hle; omega)
        (by rw [j4]; simp at hb; omega)
      have hge := grownCap_ge w ys.length 0 td.elem
      refine ⟨_, _, _, ?_, ?_, hgrowS (grownCap w ys.length 0 td.elem) (by simpa using hge)⟩
      · rw [show ([] : List α).length = 0 from rfl, List.nil_append, hr1]
        congr 2
        simp
      · exact ⟨rfl, rfl, rfl, by show w.heap.size ≤ (w.heap.push _).size; simp⟩
    · by_cases hroom : xs.length + ys.length ≤ c
      · obtain ⟨cs, hcl, hl, _, _, sb⟩ := blk_of_osl s
        have hfit : xs.length * E.sz + 0 + (ys.flatMap E.f).length ≤ cs.length := by
          rw [flat_len, hcl, Nat.add_zero, ← Nat.add_mul]; exact Nat.mul_le_mul_right _ hroom
        obtain ⟨w', g1, g2, g3⟩ := run_storeCells (P := P) (b := b) (T := td.elem) (F := F) (xs.length * E.sz) (ys.flatMap E.f) 0 cs w (flat_one E ys) hfit sb
        refine ⟨some ⟨b, 0, none⟩, c, w', ?_, g2, ?_⟩
        · have hf := run_firstCells_some (P := P) w j.size ys.length ⟨b2, off2, none⟩ ys.length c2 (ys.flatMap E.f) hylen hcell
          rw [hjs] at hf
          have g1' : (storeCells ((⟨b, 0, none⟩ : Addr).add (xs.length * E.sz)) (ys.flatMap E.f)).run P w = .ok () w' := by
            rw [Addr.add_mk, Nat.zero_add]; exact g1
          simp [Builtin.append_, run_under h2, sizeOf, typeInfo, j1, Builtin.lenOf, hroom, hjs, hf, g1']
        · refine osl_of_blk ?_ ?_ (by intro x hx; simp at hx; exact hx.elim (hok1 x) (hok x)) (by simp; omega) g3
          · unfold overlay
            rw [flat_len]
            simp only [List.length_append, List.length_take, List.length_drop, flat_len, hcl]
            have : xs.length * E.sz + ys.length * E.sz ≤ c * E.sz := by rw [← Nat.add_mul]; exact Nat.mul_le_mul_right _ hroom
            omega
          · rw [Nat.add_zero]
            exact lies_overlay hcl hl hroom
      · have holds : ∀ (j : Nat) u, (xs.flatMap E.f)[j]? = some u → w.cell? ((⟨b, 0, none⟩ : Addr).add j) = some u := by
          by_cases hx : xs = []
          · subst hx; intro j u h; simp at h
          · obtain ⟨b', off', hab, hc⟩ := RdW.cells hz hrd hx
            cases hab
            exact hc
        have hr1 := run_append_grow (P := P) w t ty td.elem j z h2 j1 hzz ⟨b, 0, none⟩ xs.length c (xs.flatMap E.f) (by rw [flat_len, hjs]) holds ⟨b2, off2, none⟩ ys.length c2 (ys.flatMap E.f) hylen hcell
          (by omega) (by omega) (growslice_fits (by omega) (by rw [j4]; exact hb))
        have hge := grownCap_ge w (xs.length + ys.length) c td.elem
        refine ⟨_, _, _, ?_, ?_, hgrowS (grownCap w (xs.length + ys.length) c td.elem) hge⟩
        · rw [hr1, List.length_append]
          congr 2
          simp
        · exact ⟨rfl, rfl, rfl, by show w.heap.size ≤ (w.heap.push _).size; simp⟩
end
end
end Go.Proofs.Ytidmolpkcfhkaaa
