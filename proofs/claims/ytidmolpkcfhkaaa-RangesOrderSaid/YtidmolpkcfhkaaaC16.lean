/- Contracts: ranges sorted, and added. -/
import Derived.Test.YtidmolpkcfhkaaaC15
import Derived.Test.YtidmolpkcfhkaaaS1
import Derived.WalkKit
namespace Go.Proofs.Ytidmolpkcfhkaaa
set_option linter.unusedSectionVars false
set_option linter.unusedVariables false
set_option linter.unusedSimpArgs false
open Go Go.Shelf Go.RowKit Go.Lib Go.Sort
def encRg (x : Int × Int) : List Value := [.int .i64 x.1, .int .i64 x.2]
theorem ltRg (x y : Int × Int) : ltOf (fun x y : Int × Int => Lib.compareInt x.1 y.1) x y = decide (x.1 < y.1) := by
  unfold ltOf Lib.compareInt
  by_cases h1 : x.1 < y.1
  · simp [h1]
  · by_cases h2 : y.1 < x.1 <;> simp [h1, h2]
theorem swoRg : SWO (ltOf fun x y : Int × Int => Lib.compareInt x.1 y.1) where
  irrefl x := by rw [ltRg]; simp
  trans x y z h1 h2 := by rw [ltRg] at *; simp at *; omega
  ntrans x y z h1 h2 := by rw [ltRg] at *; simp at *; omega
set_option maxHeartbeats 1000000 in
theorem cmpRg (x y : Int × Int) (W : World) : Calls Try.prog 98 #[.agg #[.int .i64 x.1, .int .i64 x.2], .agg #[.int .i64 y.1, .int .i64 y.2]] W fun e w' => e = .returned (.int .i64 (Lib.compareInt x.1 y.1)) ∧ ∃ q os', w' = grow (W.drewN q) os' := by
  have hcon := fun W' => AnyG.cmp_Compare_int Try.cmpInt x.1 y.1 W'
  change ∀ W', Calls Try.prog 99 _ _ _ at hcon
  generalize Lib.compareInt x.1 y.1 = r at hcon ⊢
  go_enter Try.func98, Try.ntmps98
  go_wp2_with (go_at_call 99; refine (hcon _).mono ?_; rintro e w' ⟨rfl, rfl⟩)
  go_ret
  exact ⟨rfl, 0, _, by rw [alloc_eq_grow, alloc_eq_grow, grow_grow]; rfl⟩
theorem cmpLaysRg (blk off size : Nat) (w : World) : CmpLays Try.prog 98 #[] encRg 2 (fun x y => Lib.compareInt x.1 y.1) blk off size w :=
  fun _ _ _ _ x y => cmpRg x y _
theorem sort_calls (blk off cap : Nat) (d : Array (Int × Int)) (w : World) (hH : HoldsK encRg 2 w blk off d) (hblk : blk < w.heap.size) (hsz : d.size < 4611686018427387904) :
    Calls Try.prog 97 #[.slice (some ⟨blk, off, none⟩) d.size cap, .func (.func 98) #[] #[]] w fun e w' => e = .returned (.tuple #[]) ∧ ∃ d' n os, PermIn 0 d.size d d' ∧ SortedIn (ltOf fun x y : Int × Int => Lib.compareInt x.1 y.1) 0 d.size d' ∧ w' = sortWorldK encRg 2 w blk off n d' os := by
  have eg : ∀ args w, (callFunc 98 args).run Try.prog w = .ok (.enter 98 args) w := enters_of Try.func98 (by kernel_rfl) rfl
  exact AnyQ.slices_SortFunc Try.sortR 2 Try.isAgg87 Try.sizeOf87 encRg (fun _ => rfl) (fun x v hv => by simp [encRg] at hv; rcases hv with rfl | rfl <;> rfl) (fun x y => Lib.compareInt x.1 y.1) swoRg 98 #[] blk off cap d w eg (cmpLaysRg blk off d.size w) hH hblk hsz
theorem Blk.put {w w' : World} {b : Nat} {T : TypeId} {cs cs' : List Value} {H : List HP} (h : Sat w (Blk b T cs :: H)) (hl : cs'.length = cs.length) (hw : ∀ c o, c ≠ b → w.heap[c]? = some o → w'.heap[c]? = some o)
    (hb : ∀ fr, w.heap[b]? = some (.cells ⟨cs⟩ T fr) → w'.heap[b]? = some (.cells ⟨cs'⟩ T fr)) : Sat w' (Blk b T cs' :: H) := by
  obtain ⟨r, hf, p, q, hj, ⟨fr, hfr, hp⟩, h2⟩ := h
  have hr : r b = some (.cells ⟨cs⟩ T fr, false) := by
    have := hj b
    rw [hp] at this
    rcases hx : q b with _ | ⟨o', k'⟩
    · rw [hx] at this; exact this
    · rw [hx] at this; simp [J1] at this
  have hq : q b = none := by
    have := hj b
    rw [hp] at this
    rcases hx : q b with _ | ⟨o', k'⟩
    · rfl
    · rw [hx] at this; simp [J1] at this
  refine ⟨Go.Proofs.Ytidmolpkcfhkaaa.upd r b (.cells ⟨cs'⟩ T fr, false), ?_, Go.Proofs.Ytidmolpkcfhkaaa.upd p b (.cells ⟨cs'⟩ T fr, false), q, ?_, ⟨fr, ?_, ?_⟩, h2⟩
  · intro c o' k' hx
    unfold Go.Proofs.Ytidmolpkcfhkaaa.upd at hx
    split at hx
    · subst c
      have := (Prod.mk.inj (Option.some.inj hx)).1
      subst this
      exact hb fr (hf _ _ _ hr)
    · rename_i hc
      exact hw c o' hc (hf _ _ _ hx)
  · intro c
    unfold Go.Proofs.Ytidmolpkcfhkaaa.upd
    split
    · subst c; rw [hq]; simp [J1]
    · exact hj c
  · rw [hl]; exact hfr
  · simp [Go.Proofs.Ytidmolpkcfhkaaa.upd]
variable {P : Program} [hP : IsP P]
theorem sort_spec {b c : Nat} {l : List Rg} (hl : l.length ≤ 1000000) : Spec P 97 [.slice (some ⟨b, 0, none⟩) l.length c, .func (.func 98) ⟨[]⟩ ⟨[]⟩] [OSl ER 87 (some ⟨b, 0, none⟩) c l]
    fun r R => r = .tuple ⟨[]⟩ ∧ ∃ ys : List Rg, (ys.Perm l ∧ ys.Pairwise fun a b => ¬ b.1 < a.1) ∧ R = [OSl ER 87 (some ⟨b, 0, none⟩) c ys] := by
  refine ⟨fn_ok (fn := Try.f97) (by rw [hP.eq]; exact Try.func97) (by kernel_rfl) rfl, fun F w s => ?_⟩
  obtain ⟨cs, hcl, hlies, hok, hxc, sb⟩ := blk_of_osl (F := F) s
  have hcl2 : cs.length = c * 2 := hcl
  have hsz : (flatK encRg 2 l.toArray).size = l.length * 2 := by simp
  have hget : ∀ (d : List Rg) (t : Nat) (y : Rg), d[t / 2]? = some y → (flatK encRg 2 d.toArray)[t]! = (encRg y)[t % 2]! := by
    intro d t y hy
    have hlt : t / 2 < d.length := (List.getElem?_eq_some_iff.1 hy).1
    rw [get_flatK _ _ _ _ (by simp; omega)]
    congr 2
    rw [getElem!_pos d.toArray (t / 2) (by simpa using hlt)]
    simpa using (List.getElem?_eq_some_iff.1 hy).2
  have henc : ∀ (y : Rg) (j : Nat), j < 2 → (ER.f y)[j]? = some (encRg y)[j]! := by
    intro y j hj
    rcases (show j = 0 ∨ j = 1 by omega) with rfl | rfl <;> rfl
  have hH : HoldsK encRg 2 w b 0 l.toArray := by
    intro t ht
    rw [hsz] at ht
    have hlt : t / 2 < l.length := by omega
    have hy := List.getElem?_eq_getElem hlt
    rw [hget l t _ hy]
    have h1 := hlies (t / 2) _ hy (t % 2) _ (henc _ _ (by omega))
    have hz : ER.sz = 2 := rfl
    rw [hz, show 0 + t / 2 * 2 + t % 2 = t by omega] at h1
    have h2 := Blk.cell sb h1
    rw [Nat.zero_add]
    exact h2
  have hblk : b < w.heap.size := by
    obtain ⟨o, k, h1, _⟩ := SatH.head_block (P := fun _ _ => True) (b := b) sb (fun p ⟨fr, _, hp⟩ => ⟨_, _, hp, trivial⟩)
    exact (Array.getElem?_eq_some_iff.1 h1).1
  have hc := sort_calls b 0 c l.toArray w hH hblk (by simp; omega)
  rw [List.size_toArray] at hc
  rw [hP.eq]
  refine hc.mono ?_
  rintro e w' ⟨rfl, d', n, os, hperm, hsort, rfl⟩
  obtain ⟨hds, _, hpm⟩ := hperm
  have hdl : d'.toList.length = l.length := by simpa using hds
  have e1 : d'.extract 0 l.length = d' := by rw [show l.length = d'.size by simpa using hdl.symm]; exact Array.extract_size
  rw [e1, show (l.toArray.extract 0 l.length) = l.toArray by rw [show l.length = l.toArray.size by simp]; exact Array.extract_size] at hpm
  have hds2 : (flatK encRg 2 d').size = l.length * 2 := by rw [size_flatK, hds]; simp
  refine ⟨_, [OSl ER 87 (some ⟨b, 0, none⟩) c d'.toList], rfl, ?_, ⟨rfl, rfl, rfl, by show w.heap.size ≤ (w.heap.modify b _ ++ os).size; simp⟩, rfl, d'.toList, ⟨by simpa using hpm, ?_⟩, rfl⟩
  · refine osl_of_blk (cs := (putCells id 0 (flatK encRg 2 d') ⟨cs⟩).toList) (by simp [putCells]; exact hcl) ?_ (fun _ _ => trivial) (by rw [hdl]; exact hxc) (Blk.put sb (by simp [putCells]) ?_ ?_)
    · intro i x hx j v hv
      have hj : j < 2 := by have := (List.getElem?_eq_some_iff.1 hv).1; exact this
      have hi : i < l.length := by rw [← hdl]; exact (List.getElem?_eq_some_iff.1 hx).1
      have hz : ER.sz = 2 := rfl
      have hxl : l.length ≤ c := hxc
      rw [hz, Nat.zero_add]
      have hlt : i * 2 + j < cs.length := by omega
      have h1 := hget d'.toList (i * 2 + j) x (by rw [show (i * 2 + j) / 2 = i by omega]; exact hx)
      rw [henc x j hj] at hv
      simp only [putCells, Array.toList_mapIdx, List.getElem?_mapIdx, List.getElem?_eq_getElem hlt, Option.map_some]
      rw [if_pos ⟨Nat.zero_le _, by rw [hds2]; omega⟩, Nat.sub_zero]
      rw [show d'.toList.toArray = d' by simp] at h1
      rw [id, h1, show (i * 2 + j) % 2 = j by omega]
      exact hv
    · intro q o hq ho
      have hqs : q < w.heap.size := (Array.getElem?_eq_some_iff.1 ho).1
      show ((w.heap.modify b _) ++ os)[q]? = _
      rw [Array.getElem?_append_left (by simpa using hqs), Array.getElem?_modify, if_neg (fun h => hq h.symm)]
      exact ho
    · intro fr hfr
      show ((w.heap.modify b _) ++ os)[b]? = _
      rw [Array.getElem?_append_left (by simpa using hblk), Array.getElem?_modify, if_pos rfl, hfr]
      rfl
  · rw [List.pairwise_iff_getElem]
    intro i j hi hj hij
    have h1 := hsort i j (Nat.zero_le _) hij (by simpa [hdl] using hj)
    rw [ltRg] at h1
    have h2 := of_decide_eq_false h1
    rw [getElem!_pos d' j (by simpa using hj), getElem!_pos d' i (by simpa using hi)] at h2
    simpa using h2
end Go.Proofs.Ytidmolpkcfhkaaa
