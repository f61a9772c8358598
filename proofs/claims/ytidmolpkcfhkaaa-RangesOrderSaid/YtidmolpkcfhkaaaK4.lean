/- Operations on memory: blocks whose cells are known one by one. -/
import Derived.Test.YtidmolpkcfhkaaaK3
namespace Go.Proofs.Ytidmolpkcfhkaaa
set_option linter.unusedSectionVars false
set_option linter.unusedVariables false
set_option linter.unusedSimpArgs false
open Go

/- Lists of cells that are read or written. -/
theorem Addr.add_zero (a : Addr) : a.add 0 = a := rfl
theorem Addr.add_mk (b o n : Nat) : (⟨b, o, none⟩ : Addr).add n = ⟨b, o + n, none⟩ := by
  unfold Addr.add
  split
  · rename_i h; rw [h]; rfl
  · rfl

section
variable {P : Program}
theorem run_load1 {w : World} {a : Addr} {v : Value} (h : w.cell? a = some v) : (load a).run P w = .ok v w := by
  simp [h]
theorem run_loadFrom {w : World} {a : Addr} : ∀ (vs : List Value) (i : Nat) (acc : Array Value), (∀ j v, vs[j]? = some v → w.cell? (a.add (i + j)) = some v) →
    (loadCellsFrom a i vs.length acc).run P w = .ok (acc ++ ⟨vs⟩) w
  | [], i, acc, _ => by simp [loadCellsFrom]
  | v :: vs, i, acc, h => by
    simp only [List.length_cons, loadCellsFrom]
    have h0 := h 0 v rfl
    rw [Nat.add_zero] at h0
    rw [run_bind_ok (run_load1 h0), run_loadFrom vs (i + 1) (acc.push v) (fun j u hu => by rw [show i + 1 + j = i + (j + 1) from by omega]; exact h (j + 1) u (by simpa using hu))]
    congr 1
    apply Array.ext'
    simp
theorem run_loadCells {w : World} {a : Addr} {vs : List Value} (h : ∀ j v, vs[j]? = some v → w.cell? (a.add j) = some v) : (loadCells a vs.length).run P w = .ok ⟨vs⟩ w := by
  unfold loadCells
  rw [run_loadFrom vs 0 #[] (fun j v hv => by rw [Nat.zero_add]; exact h j v hv)]
  simp

/-- A variable is read, in cells that are known from place 'off' on. -/
theorem run_loadVarAt {w : World} {t : TypeId} {i : TypeInfo} {u : TypeDesc} (h : P.info? t = some i) (hu : P.underlying t = some u) {b off o : Nat} {cs : List Value} {v : Value}
    (hc : ∀ (j : Nat) v, cs[j]? = some v → w.cell? ⟨b, off + j, none⟩ = some v) (hv : partOf (isAggD u) i.size o cs = some v) : (loadVar t ⟨b, off + o, none⟩).run P w = .ok v w := by
  unfold loadVar
  rw [run_bind_ok (run_agg hu)]
  cases ha : isAggD u
  · rw [ha] at hv
    simp only [partOf, lnth_eq] at hv
    simp only [Bool.false_eq_true, if_false]
    exact run_load1 (hc o v hv)
  · rw [ha] at hv
    simp only [partOf] at hv
    obtain ⟨h1, h2⟩ := ltake_eq hv
    rw [ldrop_eq] at h1 h2
    simp only [if_true]
    rw [run_bind_ok (run_size h)]
    have hl : ((cs.drop o).take i.size).length = i.size := by simp only [List.length_take]; omega
    have hL : (loadCells ⟨b, off + o, none⟩ i.size).run P w = .ok ⟨(cs.drop o).take i.size⟩ w := by
      have := run_loadCells (P := P) (w := w) (a := ⟨b, off + o, none⟩) (vs := (cs.drop o).take i.size) (by
        intro j u hj
        rw [Addr.add_mk, Nat.add_assoc]
        refine hc _ _ ?_
        rw [List.getElem?_take] at hj
        split at hj
        · simpa using hj
        · simp at hj)
      rwa [hl] at this
    rw [run_bind_ok hL]
    have : v = .agg ⟨(cs.drop o).take i.size⟩ := by simpa using h2.symm
    rw [this]; rfl
/-- A variable is read. -/
theorem run_loadVar {w : World} {t : TypeId} {i : TypeInfo} {u : TypeDesc} (h : P.info? t = some i) (hu : P.underlying t = some u) {b o : Nat} {cs : List Value} {v : Value}
    (hc : ∀ (j : Nat) v, cs[j]? = some v → w.cell? ⟨b, j, none⟩ = some v) (hv : partOf (isAggD u) i.size o cs = some v) : (loadVar t ⟨b, o, none⟩).run P w = .ok v w := by
  have := run_loadVarAt (P := P) (w := w) h hu (b := b) (off := 0) (o := o) (cs := cs) (v := v) (fun j v hj => by rw [Nat.zero_add]; exact hc j v hj) hv
  rwa [Nat.zero_add] at this

theorem SatH.pick {w : World} {A : HP} {H H' F : List HP} (hk : Pick A H H') (s : Sat w (H ++ F)) : Sat w (A :: (H' ++ F)) :=
  (Ent.of hk) F w s
theorem SatH.unpick {w : World} {A : HP} {H' F : List HP} (s : Sat w (A :: (H' ++ F))) : Sat w ((A :: H') ++ F) := s
end

section
variable {P : Program} [IsP P] {e : Env} {H H' : List HP} {K : Value → List HP → Prop} {d : Option Tmp} {ty : TypeId} {pos : String} {after : Array Edge} {g : Option (Nat × Bool)}

theorem OpT.calc {op : Op} {v : Value} {c : Prop} (hv : evalOp e op = some (v, c)) (hc : c) (hk : K v H) : OpT P e H ⟨d, op, ty, pos, after, g⟩ K := by
  intro ρ hρ F w s
  rw [evalOp_run (o := ⟨d, op, ty, pos, after, g⟩) hv hc hρ w]
  exact ⟨H, s, Ext.refl w, hk⟩

theorem OpT.load {t : TypeId} {x : Operand} {b o : Nat} {td : TD} {T : TypeId} {cs : List Value} {v : Value} (hx : ev e x = some (.pointer (some ⟨b, o, none⟩)))
    (ht : tab t = some td) (hp : Pick (Blk b T cs) H H') (hv : partOf td.agg td.size o cs = some v) (hk : K v H) : OpT P e H ⟨d, .load t x, ty, pos, after, g⟩ K := by
  intro ρ hρ F w s
  obtain ⟨i, u, h1, h2, h3, h4, h5, h6, h7⟩ := tab_info (P := P) ht
  have hx' := hρ x (by simp [Op.operands]) _ hx
  have s' := SatH.pick hp s
  have hr : (execOp ρ ⟨d, .load t x, ty, pos, after, g⟩).run P w = .ok (.value v) w := by
    refine run_value ?_
    unfold Instr.loadAt
    rw [hx']
    refine (run_bind_ok (a := ⟨b, o, none⟩) (w' := w) rfl).trans ?_
    exact run_loadVar h1 h2 (fun j v hv => (Blk.cell s' hv).1) (by rw [h3, h5]; exact hv)
  rw [hr]
  exact ⟨H, s, Ext.refl w, hk⟩

theorem OpT.loadI {t : TypeId} {x : Operand} {b o : Nat} {td : TD} {T : TypeId} {cs : List Value} {v : Value} (hx : ev e x = some (.pointer (some ⟨b, o, none⟩)))
    (ht : tab t = some td) (hp : Pick (IBlk b T cs) H H') (hv : partOf td.agg td.size o cs = some v) (hk : K v H) : OpT P e H ⟨d, .load t x, ty, pos, after, g⟩ K := by
  intro ρ hρ F w s
  obtain ⟨i, u, h1, h2, h3, h4, h5, h6, h7⟩ := tab_info (P := P) ht
  have hx' := hρ x (by simp [Op.operands]) _ hx
  have s' := SatH.pick hp s
  have hr : (execOp ρ ⟨d, .load t x, ty, pos, after, g⟩).run P w = .ok (.value v) w := by
    refine run_value ?_
    unfold Instr.loadAt
    rw [hx']
    refine (run_bind_ok (a := ⟨b, o, none⟩) (w' := w) rfl).trans ?_
    exact run_loadVar h1 h2 (fun j v hv => IBlk.cell s' hv) (by rw [h3, h5]; exact hv)
  rw [hr]
  exact ⟨H, s, Ext.refl w, hk⟩
end

/-- The cells of a value that is stored: each of one cell. -/
def cellOne : Value → Bool
  | .agg _ => false
  | .tuple _ => false
  | _ => true
def allOne : List Value → Bool
  | [] => true
  | v :: vs => cellOne v && allOne vs
def cellsOfV (agg : Bool) (sz : Nat) (v : Value) : Option (List Value) :=
  match agg with
  | true => match v with
    | .agg ⟨vs⟩ => bif Nat.beq vs.length sz && allOne vs then some vs else none
    | _ => none
  | false => bif Nat.beq sz 1 && cellOne v then some [v] else none
def storeOf (agg : Bool) (sz o : Nat) (cs : List Value) (v : Value) : Option (List Value) :=
  match cellsOfV agg sz v with
  | some vs => lput cs o vs some
  | none => none

theorem cellsOfV_eq {agg : Bool} {sz : Nat} {v : Value} {vs : List Value} (h : cellsOfV agg sz v = some vs) : v.cells = ⟨vs⟩ ∧ vs.length = sz ∧ allOne vs = true := by
  unfold cellsOfV at h
  split at h
  · split at h
    · rename_i us
      cases hb : (Nat.beq us.length sz && allOne us)
      · rw [hb] at h; simp at h
      · rw [hb] at h
        simp at h
        subst h
        simp only [Bool.and_eq_true] at hb
        exact ⟨rfl, Nat.eq_of_beq_eq_true hb.1, hb.2⟩
    · simp at h
  · cases hb : (Nat.beq sz 1 && cellOne v)
    · rw [hb] at h; simp at h
    · rw [hb] at h
      simp at h
      subst h
      simp only [Bool.and_eq_true] at hb
      refine ⟨?_, by rw [Nat.eq_of_beq_eq_true hb.1]; rfl, by simp [allOne, hb.2]⟩
      cases v <;> first | rfl | simp [cellOne] at hb

theorem overlay_nil {α : Type} (xs : List α) (n : Nat) : overlay xs n [] = xs := by simp [overlay]

theorem run_storeCells {P : Program} {b : Nat} {T : TypeId} {F : List HP} (o : Nat) : ∀ (vs : List Value) (i : Nat) (cs : List Value) (w : World), allOne vs = true → o + i + vs.length ≤ cs.length →
    Sat w (Blk b T cs :: F) → ∃ w', (storeCells ⟨b, o, none⟩ vs i).run P w = .ok () w' ∧ Ext w w' ∧ Sat w' (Blk b T (overlay cs (o + i) vs) :: F)
  | [], i, cs, w, _, _, s => ⟨w, by simp [storeCells], Ext.refl w, by rw [overlay_nil]; exact s⟩
  | v :: vs, i, cs, w, h1, h2, s => by
    simp only [allOne, Bool.and_eq_true] at h1
    have hlt : o + i < cs.length := by simp at h2; omega
    obtain ⟨c1, c2⟩ := Blk.cell s (List.getElem?_eq_getElem hlt)
    obtain ⟨w', g1, g2, g3⟩ := run_storeCells (P := P) o vs (i + 1) (cs.set (o + i) v) (w.setCell ⟨b, o + i, none⟩ v) h1.2 (by simp at h2 ⊢; omega) (Blk.set s v)
    refine ⟨w', ?_, (show Ext w (w.setCell ⟨b, o + i, none⟩ v) from ⟨rfl, rfl, rfl, by simp [World.setCell]⟩).trans g2, ?_⟩
    · simp only [storeCells]
      have hs : (store ((⟨b, o, none⟩ : Addr).add i) v).run P w = .ok () (w.setCell ⟨b, o + i, none⟩ v) := by
        rw [Addr.add_mk]
        simp only [store]
        cases v <;> first | (simp [cellOne] at h1; done) | (simp only [Sem.run, c1, c2]; rfl)
      rw [run_bind_ok hs]
      exact g1
    · rw [overlay_set cs (o + i) v vs hlt]
      exact g3

theorem ext_alloc (w : World) (o : Obj) : Ext w (w.alloc o) := ⟨rfl, rfl, rfl, by show w.heap.size ≤ (w.heap.push o).size; simp⟩

section
variable {P : Program} [IsP P] {e : Env} {H H' : List HP} {K : Value → List HP → Prop} {d : Option Tmp} {ty : TypeId} {pos : String} {after : Array Edge} {g : Option (Nat × Bool)}

theorem OpT.store {t : TypeId} {x y : Operand} {b o : Nat} {td : TD} {T : TypeId} {cs cs' : List Value} {v : Value} (hx : ev e x = some (.pointer (some ⟨b, o, none⟩))) (hy : ev e y = some v)
    (ht : tab t = some td) (hp : Pick (Blk b T cs) H H') (hv : storeOf td.agg td.size o cs v = some cs') (hk : K undef (Blk b T cs' :: H')) :
    OpT P e H ⟨d, .store t x y, ty, pos, after, g⟩ K := by
  intro ρ hρ F w s
  obtain ⟨i, u, h1, h2, h3, h4, h5, h6, h7⟩ := tab_info (P := P) ht
  have hx' := hρ x (by simp [Op.operands]) _ hx
  have hy' := hρ y (by simp [Op.operands]) _ hy
  have s' := SatH.pick hp s
  unfold storeOf at hv
  split at hv
  · rename_i vs hvs
    obtain ⟨c1, c2, c3⟩ := cellsOfV_eq hvs
    obtain ⟨l1, l2⟩ := lput_eq hv
    obtain ⟨w', g1, g2, g3⟩ := run_storeCells (P := P) o vs 0 cs w c3 (by omega) s'
    have hr : (execOp ρ ⟨d, .store t x y, ty, pos, after, g⟩).run P w = .ok .skip w' := by
      refine (run_bind_ok (a := ()) (w' := w') ?_).trans rfl
      unfold Instr.storeAt
      rw [hx', hy']
      refine (run_bind_ok (a := ⟨b, o, none⟩) (w' := w) rfl).trans ?_
      unfold storeVar
      rw [run_bind_ok (run_size h1)]
      rw [if_neg (by rw [c1, h3]; simp [c2])]
      rw [c1]
      exact g1
    rw [hr]
    refine ⟨_, ?_, g2, hk⟩
    simp at l2
    subst l2
    exact g3
  · simp at hv

theorem OpT.alloc {t : TypeId} {td : TD} (ht : tab t = some td) (hk : ∀ b, K (.pointer (some ⟨b, 0, none⟩)) (Blk b t td.zero :: H)) : OpT P e H ⟨d, .alloc t, ty, pos, after, g⟩ K := by
  intro ρ hρ F w s
  obtain ⟨i, u, h1, h2, h3, h4, h5, h6, z, hz, hzc⟩ := tab_info (P := P) ht
  have hr : (execOp ρ ⟨d, .alloc t, ty, pos, after, g⟩).run P w = .ok (.value (.pointer (some ⟨w.heap.size, 0, none⟩))) (w.alloc (.cells z.cells t)) := by
    refine (run_bind_ok (a := .pointer (some ⟨w.heap.size, 0, none⟩)) (w' := w.alloc (.cells z.cells t)) ?_).trans rfl
    unfold Instr.alloc
    rw [run_bind_ok (run_zero h1 hz)]
    rfl
  rw [hr]
  refine ⟨_, ?_, ext_alloc w _, hk w.heap.size⟩
  have := Sat.alloc s (.cells z.cells t)
  rw [show z.cells = ⟨td.zero⟩ from Array.toList_inj.1 hzc] at this ⊢
  exact this.imp fun r hr => hr.imp_head Blk.of_own

def boxOf : Value → Option (List Value)
  | .agg ⟨vs⟩ => some vs
  | .tuple _ => none
  | v => some [v]
theorem boxOf_eq {v : Value} {vs : List Value} (h : boxOf v = some vs) : v.cells = ⟨vs⟩ := by
  unfold boxOf at h
  split at h
  · simp at h; subst h; rfl
  · simp at h
  · rename_i hn _
    simp at h; subst h
    cases v <;> first | rfl | exact absurd rfl (hn _)

omit [IsP P] in
theorem OpT.box {t : TypeId} {x : Operand} {v : Value} {vs : List Value} (hx : ev e x = some v) (hv : boxOf v = some vs) (hk : ∀ b, K (.pointer (some ⟨b, 0, none⟩)) (Blk b t vs :: H)) :
    OpT P e H ⟨d, .box t x, ty, pos, after, g⟩ K := by
  intro ρ hρ F w s
  have hx' := hρ x (by simp [Op.operands]) _ hx
  have hr : (execOp ρ ⟨d, .box t x, ty, pos, after, g⟩).run P w = .ok (.value (.pointer (some ⟨w.heap.size, 0, none⟩))) (w.alloc (.cells ⟨vs⟩ t)) := by
    refine (run_bind_ok (a := .pointer (some ⟨w.heap.size, 0, none⟩)) (w' := w.alloc (.cells ⟨vs⟩ t)) ?_).trans rfl
    unfold Instr.box
    rw [hx']
    rw [← boxOf_eq hv]
    rfl
  rw [hr]
  refine ⟨_, ?_, ext_alloc w _, hk w.heap.size⟩
  exact (Sat.alloc s (.cells ⟨vs⟩ t)).imp fun r hr => hr.imp_head Blk.of_own
end

/-- A row of elements, out of zeros and its parts. -/
def rowOf (e : Env) (agg : Bool) (sz : Nat) : List (Nat × Operand) → List Value → Option (List Value)
  | [], cs => some cs
  | (i, x) :: ps, cs =>
    match ev e x with
    | some v => match cellsOfV agg sz v with
      | some vs => lput cs (i * sz) vs fun ds => rowOf e agg sz ps ds
      | none => none
    | none => none
def zeros (z : List Value) : Nat → List Value
  | 0 => []
  | n + 1 => z ++ zeros z n

theorem zeros_length (z : List Value) (n : Nat) : (zeros z n).length = n * z.length := by
  induction n with
  | zero => simp [zeros]
  | succ n ih => simp [zeros, ih, Nat.succ_mul]; omega
theorem zeros_get (z : List Value) (n : Nat) : ∀ i, i < n * z.length → (zeros z n)[i]? = z[i % z.length]? := by
  induction n with
  | zero => intro i h; simp at h
  | succ n ih =>
    intro i h
    simp only [zeros]
    by_cases hi : i < z.length
    · rw [List.getElem?_append_left hi, Nat.mod_eq_of_lt hi]
    · rw [List.getElem?_append_right (by omega), ih (i - z.length) (by rw [Nat.succ_mul] at h; omega)]
      rw [Nat.mod_eq_sub_mod (a := i) (by omega)]

theorem rowOf_fill {e : Env} {ρ : Operand → Value} {agg : Bool} {sz : Nat} :
    ∀ (ps : List (Nat × Operand)) (cs ds : List Value), (∀ x ∈ ps.map (·.2), ∀ v, ev e x = some v → ρ x = v) → rowOf e agg sz ps cs = some ds →
      Instr.fill (fun i => some (i * sz, sz)) ⟨cs⟩ (ps.map fun p => (p.1, ρ p.2)) = some ⟨ds⟩ := by
  intro ps
  induction ps with
  | nil =>
    intro cs ds _ h
    simp only [rowOf, Option.some.injEq] at h
    rw [h]; rfl
  | cons p ps ih =>
    obtain ⟨i, x⟩ := p
    intro cs ds hρ h
    have hx : ∀ v, ev e x = some v → ρ x = v := hρ x (by simp)
    have hρ' : ∀ x ∈ ps.map (·.2), ∀ v, ev e x = some v → ρ x = v := fun y hy => hρ y (by simp at hy ⊢; exact Or.inr hy)
    simp only [rowOf] at h
    split at h
    · rename_i v hv
      split at h
      · rename_i vs hvs
        obtain ⟨c1, c2, c3⟩ := cellsOfV_eq hvs
        obtain ⟨g1, g2⟩ := lput_eq h
        have hf := ih _ ds hρ' g2
        simp only [List.map_cons, Instr.fill, hx v hv, c1]
        rw [if_neg (by simp [c2]; omega)]
        have hset : (⟨vs⟩ : Array Value).zipIdx.foldl (fun (a : Array Value) (x : Value × Nat) => a.setIfInBounds (i * sz + x.2) x.1) ⟨cs⟩ = ⟨overlay cs (i * sz) vs⟩ := by
          rw [← Array.foldl_toList]
          rw [show ((⟨vs⟩ : Array Value).zipIdx).toList = vs.zipIdx 0 from by simp]
          exact foldl_set vs 0 (i * sz) cs (by omega)
        rw [hset]
        exact hf
      · simp at h
    · simp at h

section
variable {P : Program} [IsP P] {e : Env} {H H' : List HP} {K : Value → List HP → Prop} {d : Option Tmp} {ty : TypeId} {pos : String} {after : Array Edge} {g : Option (Nat × Bool)}

theorem OpT.buildSlice {t : TypeId} {n : Nat} {ps : List (Nat × Operand)} {td te : TD} {cs : List Value} (ht : tab t = some td) (hk : td.kind = .slice) (he : tab td.elem = some te)
    (hn : Nat.ble (n * te.size) 1000 = true) (hz : Nat.beq te.zero.length te.size = true) (hc : rowOf e te.agg te.size ps (zeros te.zero n) = some cs)
    (h : ∀ b, K (.slice (some ⟨b, 0, none⟩) n n) (Blk b td.elem cs :: H)) : OpT P e H ⟨d, .buildSlice t n ⟨ps⟩, ty, pos, after, g⟩ K := by
  intro ρ hρ F w s
  obtain ⟨i, u, h1, h2, h3, h4, h5, h6, h7⟩ := tab_info (P := P) ht
  obtain ⟨j, v, j1, j2, j3, j4, j5, j6, z, hzz, hzc⟩ := tab_info (P := P) he
  have hu : u = .slice td.elem := by
    cases u <;> simp [kindOk, hk] at h6
    rw [h6]
  subst hu
  have hz' : te.zero.length = te.size := Nat.eq_of_beq_eq_true hz
  have hzl : z.cells.size = te.size := by rw [← hz', ← hzc]; simp
  have hn' : n * te.size ≤ 1000 := by simpa using hn
  have hrow : (Array.range (n * te.size)).map (fun k => z.cells[k % z.cells.size]!) = ⟨zeros te.zero n⟩ := by
    apply Array.ext'
    apply List.ext_getElem?
    intro k
    by_cases hk : k < n * te.size
    · have hpos : 0 < te.size := by
        rcases Nat.eq_zero_or_pos te.size with h | h
        · rw [h] at hk; simp at hk
        · exact h
      have hm : k % te.size < te.size := Nat.mod_lt _ hpos
      rw [zeros_get _ _ _ (by rw [hz']; exact hk)]
      rw [← hzc]
      simp only [Array.toList_map, Array.toList_range, List.getElem?_map, List.getElem?_range hk, Option.map_some, hzl, Array.length_toList]
      rw [getElem!_pos z.cells (k % te.size) (by rw [hzl]; exact hm)]
      rw [Array.getElem?_toList, Array.getElem?_eq_getElem]
    · rw [List.getElem?_eq_none (by simp; omega), List.getElem?_eq_none (by rw [zeros_length, hz']; omega)]
  have hfill := rowOf_fill (ρ := ρ) ps (zeros te.zero n) cs (fun x hx => hρ x (by simpa [Op.operands] using hx)) hc
  have hm : ((⟨ps⟩ : Array (Nat × Operand)).map fun (i, x) => (i, ρ x)).toList = ps.map fun p => (p.1, ρ p.2) := by simp
  have hr : (execOp ρ ⟨d, .buildSlice t n ⟨ps⟩, ty, pos, after, g⟩).run P w = .ok (.value (.slice (some ⟨w.heap.size, 0, none⟩) n n)) (w.alloc (.cells ⟨cs⟩ td.elem)) := by
    refine (run_bind_ok (a := .slice (some ⟨w.heap.size, 0, none⟩) n n) (w' := w.alloc (.cells ⟨cs⟩ td.elem)) ?_).trans rfl
    unfold Instr.buildSlice
    rw [run_bind_ok (run_under h2)]
    simp only []
    rw [run_bind_ok (run_size j1), j3, if_neg (by omega)]
    by_cases h0 : n * te.size = 0
    · have hnil : zeros te.zero n = [] := List.length_eq_zero_iff.1 (by rw [zeros_length, hz', h0])
      rw [if_pos h0]
      refine (run_bind_ok (a := #[]) (w' := w) rfl).trans ?_
      rw [h0, hm, show (Array.range 0).map (fun k => (#[] : Array Value)[k % (#[] : Array Value).size]!) = ⟨zeros te.zero n⟩ from by rw [hnil]; simp, hfill]
      rfl
    · rw [if_neg h0, run_bind_ok (run_zero j1 hzz)]
      refine (run_bind_ok (a := z.cells) (w' := w) rfl).trans ?_
      rw [hrow, hm, hfill]
      rfl
  rw [hr]
  refine ⟨_, ?_, ext_alloc w _, h w.heap.size⟩
  exact (Sat.alloc s (.cells ⟨cs⟩ td.elem)).imp fun r hr => hr.imp_head Blk.of_own
end
end Go.Proofs.Ytidmolpkcfhkaaa
