/- Operations that only compute: what they come to, reckoned from what the frame is known to hold. -/
import Derived.Test.YtidmolpkcfhkaaaK2
import Derived.Test.YtidmolpkcfhkaaaT
import Derived.IntWalk
namespace Go.Proofs.Ytidmolpkcfhkaaa
set_option linter.unusedSectionVars false
set_option linter.unusedVariables false
set_option linter.unusedSimpArgs false
open Go

/-- The program, under a name that nothing opens. -/
class IsP (P : Program) : Prop where
  eq : P = Try.prog

theorem tab_chk {P : Program} [hP : IsP P] {t : Nat} {d : TD} (h : tab t = some d) : chkT P t d = true := by
  rw [hP.eq]
  have hm := List.all_eq_true.1 tab_ok t (List.mem_range.2 (tab_lt h))
  rw [h] at hm
  exact hm

theorem tab_info {P : Program} [hP : IsP P] {t : Nat} {d : TD} (h : tab t = some d) :
    ∃ i u, P.info? t = some i ∧ P.underlying t = some u ∧ i.size = d.size ∧ i.bytes = d.bytes ∧ isAggD u = d.agg ∧ kindOk P d u = true ∧
      ∃ z, i.zero = some z ∧ z.cells.toList = d.zero := by
  have hc := tab_chk (P := P) h
  unfold chkT at hc
  split at hc
  · rename_i i u h1 h2
    simp only [Bool.and_eq_true, decide_eq_true_eq] at hc
    obtain ⟨⟨⟨⟨g1, g2⟩, g3⟩, g4⟩, g5⟩ := hc
    refine ⟨i, u, h1, h2, g1, g2, g3, g4, ?_⟩
    split at g5
    · rename_i z hz
      simp only [Bool.and_eq_true] at g5
      exact ⟨_, hz, beqVs_eq g5.1⟩
    · rename_i z hn hz
      simp only [Bool.and_eq_true] at g5
      refine ⟨_, hz, ?_⟩
      rw [← beqVs_eq g5.1]
      cases z <;> first | rfl | exact absurd rfl (hn _)
    · simp at g5
  · simp at hc

def inR : IntKind → Int → Prop
  | .i64, n => -9223372036854775808 ≤ n ∧ n ≤ 9223372036854775807
  | .i32, n => -2147483648 ≤ n ∧ n ≤ 2147483647
  | .i16, n => -32768 ≤ n ∧ n ≤ 32767
  | .i8, n => -128 ≤ n ∧ n ≤ 127
  | .u64, n => 0 ≤ n ∧ n ≤ 18446744073709551615
  | .u32, n => 0 ≤ n ∧ n ≤ 4294967295
  | .u16, n => 0 ≤ n ∧ n ≤ 65535
  | .u8, n => 0 ≤ n ∧ n ≤ 255

theorem inR.wrap {k : IntKind} {n : Int} (h : inR k n) : k.wrap n = n := by
  cases k <;> simp only [inR] at h
  · exact IntWalk.i8_in n h
  · exact IntWalk.i16_in n h
  · exact IntWalk.i32_in n h
  · exact IntWalk.i64_in n h
  · exact IntWalk.u8_in n h
  · exact IntWalk.u16_in n h
  · exact IntWalk.u32_in n h
  · exact IntWalk.u64_in n h

/- Lists, walked to their end before anything is told of them. -/
def ltake {α β : Type} : Nat → List α → (List α → Option β) → Option β
  | 0, _, k => k []
  | _ + 1, [], _ => none
  | n + 1, x :: xs, k => ltake n xs fun ys => k (x :: ys)
def ldrop {α : Type} : Nat → List α → List α
  | 0, xs => xs
  | _ + 1, [] => []
  | n + 1, _ :: xs => ldrop n xs
def lcopy {α β : Type} : List α → (List α → Option β) → Option β
  | [], k => k []
  | x :: xs, k => lcopy xs fun ys => k (x :: ys)
/-- The cells vs laid over the cells from place n on. -/
def lput {α β : Type} : List α → Nat → List α → (List α → Option β) → Option β
  | xs, 0, [], k => lcopy xs k
  | _ :: xs, 0, v :: vs, k => lput xs 0 vs fun ys => k (v :: ys)
  | x :: xs, n + 1, vs, k => lput xs n vs fun ys => k (x :: ys)
  | [], _, _, _ => none
def lnth {α : Type} : List α → Nat → Option α
  | [], _ => none
  | x :: _, 0 => some x
  | _ :: xs, n + 1 => lnth xs n

theorem ltake_eq {α β : Type} : ∀ {n : Nat} {xs : List α} {k : List α → Option β} {r : β}, ltake n xs k = some r → n ≤ xs.length ∧ k (xs.take n) = some r
  | 0, xs, k, r, h => by simpa [ltake] using h
  | n + 1, [], k, r, h => by simp [ltake] at h
  | n + 1, x :: xs, k, r, h => by
    simp only [ltake] at h
    obtain ⟨h1, h2⟩ := ltake_eq h
    exact ⟨by simp; omega, by simpa using h2⟩
theorem ldrop_eq {α : Type} : ∀ (n : Nat) (xs : List α), ldrop n xs = xs.drop n
  | 0, xs => by simp [ldrop]
  | n + 1, [] => by simp [ldrop]
  | n + 1, x :: xs => by simp [ldrop, ldrop_eq n xs]
theorem lcopy_eq {α β : Type} : ∀ {xs : List α} {k : List α → Option β}, lcopy xs k = k xs
  | [], k => rfl
  | x :: xs, k => by simp only [lcopy]; exact lcopy_eq
theorem lnth_eq {α : Type} : ∀ (xs : List α) (n : Nat), lnth xs n = xs[n]?
  | [], n => by simp [lnth]
  | x :: xs, 0 => by simp [lnth]
  | x :: xs, n + 1 => by simp [lnth, lnth_eq xs n]

def overlay {α : Type} (xs : List α) (n : Nat) (vs : List α) : List α := xs.take n ++ vs ++ xs.drop (n + vs.length)
theorem lput_eq {α β : Type} : ∀ {xs : List α} {n : Nat} {vs : List α} {k : List α → Option β} {r : β}, lput xs n vs k = some r →
    n + vs.length ≤ xs.length ∧ k (overlay xs n vs) = some r
  | xs, 0, [], k, r, h => by
    unfold lput at h
    rw [lcopy_eq] at h
    exact ⟨by simp, by simpa [overlay] using h⟩
  | x :: xs, 0, v :: vs, k, r, h => by
    simp only [lput] at h
    obtain ⟨h1, h2⟩ := lput_eq h
    refine ⟨by simp at h1 ⊢; omega, ?_⟩
    simpa [overlay] using h2
  | x :: xs, n + 1, vs, k, r, h => by
    unfold lput at h
    obtain ⟨h1, h2⟩ := lput_eq h
    refine ⟨by simp; omega, ?_⟩
    simpa [overlay, show n + 1 + vs.length = (n + vs.length) + 1 from by omega] using h2
  | [], 0, v :: vs, k, r, h => by simp [lput] at h
  | [], n + 1, vs, k, r, h => by unfold lput at h; simp at h

/-- The part of an aggregate. -/
def partOf (agg : Bool) (sz off : Nat) (cs : List Value) : Option Value :=
  match agg with
  | true => ltake sz (ldrop off cs) fun ys => some (.agg ⟨ys⟩)
  | false => lnth cs off

/-- A struct, out of its zero cells and its parts. -/
def buildOf (e : Env) (fs : List (Nat × Nat × Bool)) : List (Nat × Operand) → List Value → Option Value
  | [], cs => some (.agg ⟨cs⟩)
  | (i, x) :: ps, cs =>
    match lnth fs i with
    | some (off, sz, true) => match ev e x with
      | some (.agg ⟨vs⟩) => bif Nat.beq vs.length sz then lput cs off vs fun ds => buildOf e fs ps ds else none
      | _ => none
    | some (off, 1, false) => match ev e x with
      | some (.agg _) => none
      | some (.tuple _) => none
      | some v => lput cs off [v] fun ds => buildOf e fs ps ds
      | none => none
    | _ => none

def arith (op : BinOp) (k : IntKind) (a b : Int) : Option (Value × Prop) :=
  match op with
  | .add => some (.int k (a + b), inR k (a + b))
  | .sub => some (.int k (a - b), inR k (a - b))
  | .mul => some (.int k (a * b), inR k (a * b))
  | .quo => some (.int k (a / b), (0 ≤ a ∧ 0 < b) ∧ inR k a)
  | .rem => some (.int k (a % b), 0 ≤ a ∧ 0 < b)
  | .eql => some (.bool (decide (a = b)), True)
  | .neq => some (.bool (decide (a ≠ b)), True)
  | .lss => some (.bool (decide (a < b)), True)
  | .leq => some (.bool (decide (a ≤ b)), True)
  | .gtr => some (.bool (decide (b < a)), True)
  | .geq => some (.bool (decide (b ≤ a)), True)
  | _ => none

def kEq : IntKind → IntKind → Bool
  | .i64, .i64 => true
  | .i32, .i32 => true
  | .i16, .i16 => true
  | .i8, .i8 => true
  | .u64, .u64 => true
  | .u32, .u32 => true
  | .u16, .u16 => true
  | .u8, .u8 => true
  | _, _ => false
theorem kEq_eq (k k' : IntKind) : kEq k k' = decide (k = k') := by cases k <;> cases k' <;> rfl

def evalBin (op : BinOp) (t : TypeId) : Value → Value → Option (Value × Prop)
  | .int k a, .int k' b => bif kEq k k' then arith op k a b else none
  | .bool a, .bool b => match tab t with
    | some ⟨_, _, _, _, _, _, _, .bool⟩ => match op with
      | .eql => some (.bool (decide (a = b)), True)
      | .neq => some (.bool (!decide (a = b)), True)
      | _ => none
    | _ => none
  | .pointer a, .pointer none => match tab t with
    | some ⟨_, _, _, _, _, _, _, .pointer⟩ => match op with
      | .eql => some (.bool a.isNone, True)
      | .neq => some (.bool (!a.isNone), True)
      | _ => none
    | _ => none
  | .slice a _ _, .slice none _ _ => match tab t with
    | some ⟨_, _, _, _, _, _, _, .slice⟩ => match op with
      | .eql => some (.bool a.isNone, True)
      | .neq => some (.bool (!a.isNone), True)
      | _ => none
    | _ => none
  | .string a, .string b => match op with
    | .eql => some (.bool (decide (a = b)), True)
    | .neq => some (.bool (!decide (a = b)), True)
    | _ => none
  | _, _ => none

def minOf (k : IntKind) (a : Int) : List Value → Option Value
  | [] => some (.int k a)
  | .int _ b :: vs => minOf k (min a b) vs
  | _ => none
def maxOf (k : IntKind) (a : Int) : List Value → Option Value
  | [] => some (.int k a)
  | .int _ b :: vs => maxOf k (max a b) vs
  | _ => none

def sure : Option Value → Option (Value × Prop)
  | some v => some (v, True)
  | none => none

def evalCall (op : Builtin) (t : TypeId) (vs : List Value) : Option (Value × Prop) :=
  match op with
  | .len => match vs with
    | [.slice _ n _] => match tab t with
      | some ⟨_, _, _, _, _, _, _, .slice⟩ => some (.int .i64 (n : Int), True)
      | _ => none
    | [.string s] => match tab t with
      | some ⟨_, _, _, _, _, _, _, .string⟩ => some (.int .i64 (s.size : Int), True)
      | _ => none
    | _ => none
  | .cap => match vs with
    | [.slice _ _ n] => match tab t with
      | some ⟨_, _, _, _, _, _, _, .slice⟩ => some (.int .i64 (n : Int), True)
      | _ => none
    | _ => none
  | .min => match vs with
    | .int k a :: vs => sure (minOf k a vs)
    | _ => none
  | .max => match vs with
    | .int k a :: vs => sure (maxOf k a vs)
    | _ => none
  | _ => none

/-- What an operation that only computes comes to, and on what ground. -/
def evalOp (e : Env) : Op → Option (Value × Prop)
  | .move x => sure (ev e x)
  | .assign x => sure (ev e x)
  | .pick c a b => match ev e c with
    | some (.bool true) => sure (ev e a)
    | some (.bool false) => sure (ev e b)
    | _ => none
  | .extract x i => match ev e x with
    | some (.tuple ⟨vs⟩) => sure (lnth vs i)
    | _ => none
  | .fieldAddr t x f => match ev e x with
    | some (.pointer (some ⟨b, o, none⟩)) => match tab t with
      | some ⟨_, _, _, _, fs, _, _, .struct⟩ => match lnth fs f with
        | some (fo, _ + 1, _) => some (.pointer (some ⟨b, o + fo, none⟩), True)
        | _ => none
      | _ => none
    | _ => none
  | .nilCheck x => match ev e x with
    | some (.pointer (some a)) => some (.pointer (some a), True)
    | _ => none
  | .field t x f => match ev e x with
    | some (.agg ⟨cs⟩) => match tab t with
      | some ⟨_, _, _, _, fs, _, _, .struct⟩ => match lnth fs f with
        | some (fo, sz, ag) => sure (partOf ag sz fo cs)
        | _ => none
      | _ => none
    | _ => none
  | .build t ⟨ps⟩ => match tab t with
    | some ⟨_, _, _, z, fs, _, _, .struct⟩ => sure (buildOf e fs ps z)
    | _ => none
  | .binOp op t x y _ => match ev e x with
    | some a => match ev e y with
      | some b => evalBin op t a b
      | none => none
    | none => none
  | .unOp op _ x => match ev e x with
    | some (.bool b) => match op with
      | .not => some (.bool (!b), True)
      | _ => none
    | some (.int k a) => match op with
      | .neg => some (.int k (-a), inR k (-a))
      | _ => none
    | _ => none
  | .convert s t x => match ev e x with
    | some (.int _ a) => match tab s with
      | some _ => match tab t with
        | some ⟨_, _, _, _, _, _, _, .int k⟩ => some (.int k a, inR k a)
        | _ => none
      | none => none
    | _ => none
  | .makeFunc fn ⟨a⟩ ⟨b⟩ => match evs e a with
    | some vs => match evs e b with
      | some us => some (.func fn ⟨vs⟩ ⟨us⟩, True)
      | none => none
    | none => none
  | .call ⟨.builtin op, ⟨xs⟩, ⟨t :: _⟩⟩ => match evs e xs with
    | some vs => evalCall op t vs
    | none => none
  | _ => none


theorem sure_eq {x : Option Value} {v : Value} {c : Prop} (h : sure x = some (v, c)) : x = some v ∧ c = True := by
  cases x with
  | none => simp [sure] at h
  | some u =>
    simp only [sure, Option.some.injEq, Prod.mk.injEq] at h
    exact ⟨by rw [h.1], h.2.symm⟩

section
variable {P : Program} {w : World}
theorem run_under {t : TypeId} {u : TypeDesc} (h : P.underlying t = some u) : (underlying t).run P w = .ok u w := by
  simp [underlying, program, Bind.bind, Sem.bind, Sem.run, h, Pure.pure]
theorem run_info {t : TypeId} {i : TypeInfo} (h : P.info? t = some i) : (typeInfo t).run P w = .ok i w := by
  simp [typeInfo, program, Bind.bind, Sem.bind, Sem.run, h, Pure.pure]
theorem run_size {t : TypeId} {i : TypeInfo} (h : P.info? t = some i) : (sizeOf t).run P w = .ok i.size w := by
  unfold sizeOf
  rw [run_bind_ok (run_info h)]; rfl
theorem run_zero {t : TypeId} {i : TypeInfo} (h : P.info? t = some i) {z : Value} (hz : i.zero = some z) : (zeroValue t).run P w = .ok z w := by
  unfold zeroValue
  rw [run_bind_ok (run_info h), hz]; rfl
theorem run_agg {t : TypeId} {u : TypeDesc} (h : P.underlying t = some u) : (isAgg t).run P w = .ok (isAggD u) w := by
  unfold isAgg
  rw [run_bind_ok (run_under h)]
  cases u <;> rfl

theorem run_part {t : TypeId} {i : TypeInfo} {u : TypeDesc} (h : P.info? t = some i) (hu : P.underlying t = some u) {cs : List Value} {off : Nat} {v : Value}
    (hv : partOf (isAggD u) i.size off cs = some v) : (part t ⟨cs⟩ off).run P w = .ok v w := by
  unfold part
  rw [run_bind_ok (run_agg hu)]
  cases ha : isAggD u
  · rw [ha] at hv
    simp only [partOf, lnth_eq] at hv
    simp only [Bool.false_eq_true, if_false]
    rw [show (⟨cs⟩ : Array Value)[off]? = some v from by simpa using hv]
    rfl
  · rw [ha] at hv
    simp only [partOf] at hv
    obtain ⟨h1, h2⟩ := ltake_eq hv
    rw [ldrop_eq] at h1 h2
    simp only [if_true]
    rw [run_bind_ok (run_size h)]
    have : v = .agg ⟨(cs.drop off).take i.size⟩ := by simpa using h2.symm
    subst this
    have he : (⟨cs⟩ : Array Value).extract off (off + i.size) = ⟨(cs.drop off).take i.size⟩ := by
      rw [List.extract_toArray, List.extract_eq_take_drop, Nat.add_sub_cancel_left]
    rw [he]
    rfl
end

theorem overlay_set {α : Type} (xs : List α) (n : Nat) (v : α) (vs : List α) (h : n < xs.length) : overlay xs n (v :: vs) = overlay (xs.set n v) (n + 1) vs := by
  unfold overlay
  have h1 : (xs.set n v).take (n + 1) = xs.take n ++ [v] := by
    rw [List.take_set, List.take_succ_eq_append_getElem h, List.set_append_right]
    · simp [Nat.min_eq_left (Nat.le_of_lt h)]
    · simp; omega
  have h2 : (xs.set n v).drop (n + 1 + vs.length) = xs.drop (n + 1 + vs.length) := by
    rw [List.drop_set, if_pos (by omega)]
  rw [h1, h2]
  simp [Nat.add_assoc, Nat.add_comm 1]

theorem foldl_set (vs : List Value) : ∀ (k off : Nat) (cs : List Value), off + k + vs.length ≤ cs.length →
    (vs.zipIdx k).foldl (fun (a : Array Value) (x : Value × Nat) => a.setIfInBounds (off + x.2) x.1) ⟨cs⟩ = ⟨overlay cs (off + k) vs⟩ := by
  induction vs with
  | nil => intro k off cs h; simp [overlay]
  | cons v vs ih =>
    intro k off cs h
    simp only [List.zipIdx_cons, List.foldl_cons]
    have h0 : (⟨cs⟩ : Array Value).setIfInBounds (off + k) v = ⟨cs.set (off + k) v⟩ := by simp
    rw [h0, ih (k + 1) off (cs.set (off + k) v) (by simp at h ⊢; omega)]
    rw [overlay_set cs (off + k) v vs (by simp at h; omega)]
    rfl

theorem fields_at {P : Program} {d : TD} {fs : Array Field} (h : kindOk P d (.struct fs) = true) {f : Nat} {fo sz : Nat} {ag : Bool} (hf : lnth d.fs f = some (fo, sz, ag)) :
    ∃ fld i u, fs[f]? = some fld ∧ fld.offset = fo ∧ P.info? fld.type = some i ∧ i.size = sz ∧ P.underlying fld.type = some u ∧ isAggD u = ag := by
  simp only [kindOk, Bool.and_eq_true, decide_eq_true_eq] at h
  obtain ⟨⟨_, h2⟩, h3⟩ := h
  rw [lnth_eq, ← h2] at hf
  unfold fieldsOf at hf
  simp only [List.getElem?_map, Option.map_eq_some_iff] at hf
  obtain ⟨fld, hfld, heq⟩ := hf
  have hi := List.all_eq_true.1 h3 fld (List.mem_of_getElem? hfld)
  simp only [Bool.and_eq_true] at hi
  obtain ⟨hi, hu⟩ := hi
  obtain ⟨i, hi⟩ := Option.isSome_iff_exists.1 hi
  have hu := Option.isSome_iff_exists.1 hu
  simp only [Prod.mk.injEq] at heq
  obtain ⟨e1, e2, e3⟩ := heq
  obtain ⟨u, hu⟩ := hu
  refine ⟨fld, i, u, by simpa using hfld, e1, hi, ?_, hu, ?_⟩
  · simpa [Program.cellsOf, hi] using e2
  · simpa [hu] using e3


theorem fill_run {P : Program} [IsP P] {d : TD} {fs : Array Field} (hk : kindOk P d (.struct fs) = true) {e : Env} {ρ : Operand → Value} (places : Array (Nat × Nat))
    (hp : ∀ f : Nat, places[f]? = (fs[f]?).map fun fld : Field => (fld.offset, P.cellsOf fld.type)) :
    ∀ (ps : List (Nat × Operand)) (cs : List Value) (v : Value), (∀ x ∈ ps.map (·.2), ∀ v, ev e x = some v → ρ x = v) → buildOf e d.fs ps cs = some v →
      ∃ ds, v = .agg ⟨ds⟩ ∧ Instr.fill (places[·]?) ⟨cs⟩ (ps.map fun p => (p.1, ρ p.2)) = some ⟨ds⟩ := by
  intro ps
  induction ps with
  | nil =>
    intro cs v _ h
    simp only [buildOf, Option.some.injEq] at h
    exact ⟨cs, h.symm, rfl⟩
  | cons p ps ih =>
    obtain ⟨i, x⟩ := p
    intro cs v hρ h
    have hx : ∀ v, ev e x = some v → ρ x = v := hρ x (by simp)
    have hρ' : ∀ x ∈ ps.map (·.2), ∀ v, ev e x = some v → ρ x = v := fun y hy => hρ y (by simp at hy ⊢; exact Or.inr hy)
    have step : ∀ (off sz : Nat) (vs : List Value), places[i]? = some (off, sz) → (ρ x).cells = ⟨vs⟩ → vs.length = sz →
        (lput cs off vs fun ds => buildOf e d.fs ps ds) = some v →
        ∃ ds, v = .agg ⟨ds⟩ ∧ Instr.fill (places[·]?) ⟨cs⟩ (((i, x) :: ps).map fun p => (p.1, ρ p.2)) = some ⟨ds⟩ := by
      intro off sz vs h1 h2 h3 h4
      obtain ⟨g1, g2⟩ := lput_eq h4
      obtain ⟨ds, e1, e2⟩ := ih _ v hρ' g2
      refine ⟨ds, e1, ?_⟩
      simp only [List.map_cons, Instr.fill, h1, h2]
      rw [if_neg]
      · have hset : (⟨vs⟩ : Array Value).zipIdx.foldl (fun (a : Array Value) (x : Value × Nat) => a.setIfInBounds (off + x.2) x.1) ⟨cs⟩ = ⟨overlay cs off vs⟩ := by
          rw [← Array.foldl_toList]
          rw [show ((⟨vs⟩ : Array Value).zipIdx).toList = vs.zipIdx 0 from by simp]
          exact foldl_set vs 0 off cs (by omega)
        rw [hset]
        exact e2
      · simp [h3]
        omega
    simp only [buildOf] at h
    split at h
    · rename_i off sz hf
      obtain ⟨fld, inf, u, h1, h2, h3, h4, h5, h6⟩ := fields_at hk hf
      have hpl : places[i]? = some (off, sz) := by
        rw [hp, h1]
        simp [h2, Program.cellsOf, h3, h4]
      split at h
      · rename_i vs hev
        cases hb : Nat.beq vs.length sz
        · rw [hb] at h; simp at h
        · rw [hb] at h
          exact step off sz vs hpl (by rw [hx _ hev]; rfl) (Nat.eq_of_beq_eq_true hb) (by simpa using h)
      · simp at h
    · rename_i off hf
      obtain ⟨fld, inf, u, h1, h2, h3, h4, h5, h6⟩ := fields_at hk hf
      have hpl : places[i]? = some (off, 1) := by
        rw [hp, h1]
        simp [h2, Program.cellsOf, h3, h4]
      split at h
      · simp at h
      · simp at h
      · rename_i u hn1 hn2 hev
        refine step off 1 [u] hpl ?_ rfl h
        rw [hx _ hev]
        cases u <;> first | rfl | exact absurd rfl (hn1 _)
      · simp at h
    · simp at h


theorem arith_run {op : BinOp} {k : IntKind} {a b : Int} {v : Value} {c : Prop} (h : arith op k a b = some (v, c)) (hc : c) {P : Program} {t : TypeId} {w : World} :
    (binOp op t (.int k a) (.int k b)).run P w = .ok v w := by
  have hk : (k ≠ k) = False := by simp
  cases op <;> simp only [arith] at h <;> first | (simp at h; done) | skip
  all_goals (simp only [Option.some.injEq, Prod.mk.injEq] at h; obtain ⟨rfl, rfl⟩ := h)
  · simp only [binOp, ne_eq, not_true_eq_false, if_false, Op.intArith, hc.wrap]; rfl
  · simp only [binOp, ne_eq, not_true_eq_false, if_false, Op.intArith, hc.wrap]; rfl
  · simp only [binOp, ne_eq, not_true_eq_false, if_false, Op.intArith, hc.wrap]; rfl
  · obtain ⟨⟨h1, h2⟩, h3⟩ := hc
    have hb : b ≠ 0 := by omega
    have hq : inR k (a / b) := by
      have h4 : a / b ≤ a := Int.ediv_le_self b h1
      have h5 : 0 ≤ a / b := Int.ediv_nonneg h1 (by omega)
      cases k <;> simp only [inR] at h3 ⊢ <;> omega
    simp only [binOp, ne_eq, not_true_eq_false, if_false, Op.intDiv, hb, Int.tdiv_eq_ediv_of_nonneg h1, hq.wrap]; rfl
  · obtain ⟨h1, h2⟩ := hc
    have hb : b ≠ 0 := by omega
    simp only [binOp, ne_eq, not_true_eq_false, if_false, Op.intDiv, hb, Int.tmod_eq_emod_of_nonneg h1]; rfl
  · simp only [binOp, ne_eq, not_true_eq_false, if_false, Op.intCmp]
    rw [show (a == b) = decide (a = b) from rfl]; rfl
  · simp only [binOp, ne_eq, not_true_eq_false, if_false, Op.intCmp]
    rw [show (a != b) = decide (a ≠ b) from by by_cases hab : a = b <;> simp [hab]]; rfl
  all_goals (simp only [binOp, ne_eq, not_true_eq_false, if_false, Op.intCmp]; rfl)

theorem string_beq (a b : ByteArray) : (a.toList == b.toList) = decide (a = b) := by
  rw [ByteArray.toList_eq, ByteArray.toList_eq]
  obtain ⟨a⟩ := a
  obtain ⟨b⟩ := b
  simp only [ByteArray.mk.injEq]
  by_cases h : a = b
  · simp [h]
  · have : ¬ a.toList = b.toList := fun e => h (Array.toList_inj.1 e)
    simp [h]

section
variable {P : Program} {w : World} {t : TypeId}
theorem equalIn_bool (d : Nat) (h : P.underlying t = some .bool) (a b : Bool) : (Op.equalIn (d + 1) t (.bool a) (.bool b)).run P w = .ok (a == b) w := by
  simp only [Op.equalIn]
  rw [run_bind_ok (run_under h)]; rfl
theorem equalIn_int (d : Nat) {k : IntKind} (h : P.underlying t = some (.int k)) (a b : Int) : (Op.equalIn (d + 1) t (.int k a) (.int k b)).run P w = .ok (a == b) w := by
  simp only [Op.equalIn]
  rw [run_bind_ok (run_under h)]
  simp
theorem equalIn_ptr (d : Nat) {e : TypeId} (h : P.underlying t = some (.pointer e)) (a : Option Addr) : (Op.equalIn (d + 1) t (.pointer a) (.pointer none)).run P w = .ok a.isNone w := by
  simp only [Op.equalIn]
  rw [run_bind_ok (run_under h)]
  cases a <;> rfl
theorem equalIn_slice (d : Nat) {e : TypeId} (h : P.underlying t = some (.slice e)) (a : Option Addr) (l c l' c' : Nat) : (Op.equalIn (d + 1) t (.slice a l c) (.slice none l' c')).run P w = .ok a.isNone w := by
  simp only [Op.equalIn]
  rw [run_bind_ok (run_under h)]
  cases a <;> rfl
theorem binOp_eql {a b : Value} {r : Bool} (h : (Op.equal t a b).run P w = .ok r w) (hb : binOp .eql t a b = (do Pure.pure (.bool (← Op.equal t a b)))) : (binOp .eql t a b).run P w = .ok (.bool r) w := by
  rw [hb, run_bind_ok h]; rfl
theorem binOp_neq {a b : Value} {r : Bool} (h : (Op.equal t a b).run P w = .ok r w) (hb : binOp .neq t a b = (do Pure.pure (.bool (!(← Op.equal t a b))))) : (binOp .neq t a b).run P w = .ok (.bool !r) w := by
  rw [hb, run_bind_ok h]; rfl
end

theorem evalBin_run {P : Program} [IsP P] {op : BinOp} {t : TypeId} {a b : Value} {v : Value} {c : Prop} (h : evalBin op t a b = some (v, c)) (hc : c) {w : World} :
    (binOp op t a b).run P w = .ok v w := by
  unfold evalBin at h
  split at h
  · rename_i k a k' b
    rw [kEq_eq] at h
    by_cases hk : k = k'
    · subst hk
      simp at h
      exact arith_run h hc
    · simp [hk] at h
  · split at h
    · rename_i ht
      obtain ⟨i, u, h1, h2, h3, h4, h5, h6, h7⟩ := tab_info (P := P) ht
      have hu : u = .bool := by cases u <;> simp [kindOk] at h6 <;> rfl
      subst hu
      split at h
      all_goals first | (simp at h; done) | skip
      all_goals (simp only [Option.some.injEq, Prod.mk.injEq] at h; obtain ⟨rfl, rfl⟩ := h)
      · exact binOp_eql (equalIn_bool 9999 h2 _ _) rfl
      · exact binOp_neq (equalIn_bool 9999 h2 _ _) rfl
    · simp at h
  · split at h
    · rename_i ht
      obtain ⟨i, u, h1, h2, h3, h4, h5, h6, h7⟩ := tab_info (P := P) ht
      have hu : ∃ e, u = .pointer e := by cases u <;> simp [kindOk] at h6; exact ⟨_, rfl⟩
      obtain ⟨e, rfl⟩ := hu
      split at h
      all_goals first | (simp at h; done) | skip
      all_goals (simp only [Option.some.injEq, Prod.mk.injEq] at h; obtain ⟨rfl, rfl⟩ := h)
      · exact binOp_eql (equalIn_ptr 9999 h2 _) rfl
      · exact binOp_neq (equalIn_ptr 9999 h2 _) rfl
    · simp at h
  · split at h
    · rename_i ht
      obtain ⟨i, u, h1, h2, h3, h4, h5, h6, h7⟩ := tab_info (P := P) ht
      have hu : ∃ e, u = .slice e := by cases u <;> simp [kindOk] at h6; exact ⟨_, rfl⟩
      obtain ⟨e, rfl⟩ := hu
      split at h
      all_goals first | (simp at h; done) | skip
      all_goals (simp only [Option.some.injEq, Prod.mk.injEq] at h; obtain ⟨rfl, rfl⟩ := h)
      · exact binOp_eql (equalIn_slice 9999 h2 _ _ _ _ _) rfl
      · exact binOp_neq (equalIn_slice 9999 h2 _ _ _ _ _) rfl
    · simp at h
  · split at h
    all_goals first | (simp at h; done) | skip
    all_goals (simp only [Option.some.injEq, Prod.mk.injEq] at h; obtain ⟨rfl, rfl⟩ := h)
    · simp only [binOp, Op.stringOp, string_beq]; rfl
    · simp only [binOp, Op.stringOp, string_beq]; rfl
  · simp at h

theorem eqGuard_run {P : Program} {op : BinOp} {t : TypeId} {x y : Operand} {a b : Value} {w : World} (h : ∀ cs ds, ¬ (a = .agg cs ∧ b = .agg ds)) (h' : ¬ (a = .nilIface ∧ b = .nilIface)) :
    (eqGuard op t x y a b).run P w = .ok () w := by
  cases op
  all_goals first | rfl | skip
  all_goals
    unfold eqGuard
    simp only [Bool.not_true, Bool.false_eq_true, if_false]
    split
    · exact absurd ⟨rfl, rfl⟩ h'
    · exact absurd ⟨rfl, rfl⟩ (h _ _)
    · rfl

theorem minOf_run {P : Program} {w : World} : ∀ {vs : List Value} {k : IntKind} {a : Int} {v : Value}, minOf k a vs = some v → (vs.foldlM Builtin.min2 (.int k a)).run P w = .ok v w
  | [], k, a, v, h => by simp only [minOf, Option.some.injEq] at h; subst h; rfl
  | x :: vs, k, a, v, h => by
    cases x <;> simp only [minOf] at h <;> first | (simp at h; done) | skip
    rename_i k' b
    rw [List.foldlM_cons]
    have hm : (Builtin.min2 (.int k a) (.int k' b)).run P w = .ok (.int k (min a b)) w := by
      simp only [Builtin.min2]
      rw [show (if b < a then b else a) = min a b from by simp only [Int.min_def]; split <;> split <;> omega]
      rfl
    rw [run_bind_ok hm]
    exact minOf_run h
theorem maxOf_run {P : Program} {w : World} : ∀ {vs : List Value} {k : IntKind} {a : Int} {v : Value}, maxOf k a vs = some v → (vs.foldlM Builtin.max2 (.int k a)).run P w = .ok v w
  | [], k, a, v, h => by simp only [maxOf, Option.some.injEq] at h; subst h; rfl
  | x :: vs, k, a, v, h => by
    cases x <;> simp only [maxOf] at h <;> first | (simp at h; done) | skip
    rename_i k' b
    rw [List.foldlM_cons]
    have hm : (Builtin.max2 (.int k a) (.int k' b)).run P w = .ok (.int k (max a b)) w := by
      simp only [Builtin.max2]
      rw [show (if b > a then b else a) = max a b from by simp only [Int.max_def]; split <;> split <;> omega]
      rfl
    rw [run_bind_ok hm]
    exact maxOf_run h

theorem evs_eq {e : Env} {ρ : Operand → Value} : ∀ {xs : List Operand} {vs : List Value}, (∀ x ∈ xs, ∀ v, ev e x = some v → ρ x = v) → evs e xs = some vs → xs.map ρ = vs
  | [], vs, _, h => by simp [evs] at h; simp [h]
  | x :: xs, vs, hρ, h => by
    simp only [evs] at h
    split at h
    · rename_i v hv
      split at h
      · rename_i us hu
        simp at h; subst h
        simp only [List.map_cons]
        rw [hρ x (by simp) v hv, evs_eq (fun y hy => hρ y (by simp [hy])) hu]
      · simp at h
    · simp at h


theorem pair_eq {a v : Value} {b c : Prop} (h : some (a, b) = some (v, c)) : a = v ∧ b = c := by
  simp only [Option.some.injEq, Prod.mk.injEq] at h; exact h

theorem evalCall_run {P : Program} [IsP P] {op : Builtin} {t : TypeId} {ts : List TypeId} {rt : TypeId} {vs : List Value} {v : Value} {c : Prop} (h : evalCall op t vs = some (v, c)) {consts : Array Bool} {w : World} :
    (builtin op ⟨t :: ts⟩ rt consts ⟨vs⟩).run P w = .ok (.value v) w := by
  unfold evalCall at h
  split at h
  · split at h
    · split at h
      · rename_i ht
        obtain ⟨i, u, h1, h2, h3, h4, h5, h6, h7⟩ := tab_info (P := P) ht
        have hu : ∃ e, u = .slice e := by cases u <;> simp [kindOk] at h6; exact ⟨_, rfl⟩
        obtain ⟨e, rfl⟩ := hu
        obtain ⟨rfl, rfl⟩ := pair_eq h
        refine run_bind_ok (f := fun x => (Pure.pure (Next.value x) : Sem Next)) ?_
        simp only [Builtin.len_]
        refine (run_bind_ok (run_under h2)).trans ?_
        rfl
      · simp at h
    · split at h
      · rename_i ht
        obtain ⟨i, u, h1, h2, h3, h4, h5, h6, h7⟩ := tab_info (P := P) ht
        have hu : u = .string := by cases u <;> simp [kindOk] at h6; rfl
        subst hu
        obtain ⟨rfl, rfl⟩ := pair_eq h
        refine run_bind_ok (f := fun x => (Pure.pure (Next.value x) : Sem Next)) ?_
        simp only [Builtin.len_]
        refine (run_bind_ok (run_under h2)).trans ?_
        rfl
      · simp at h
    · simp at h
  · split at h
    · split at h
      · rename_i ht
        obtain ⟨i, u, h1, h2, h3, h4, h5, h6, h7⟩ := tab_info (P := P) ht
        have hu : ∃ e, u = .slice e := by cases u <;> simp [kindOk] at h6; exact ⟨_, rfl⟩
        obtain ⟨e, rfl⟩ := hu
        obtain ⟨rfl, rfl⟩ := pair_eq h
        refine run_bind_ok (f := fun x => (Pure.pure (Next.value x) : Sem Next)) ?_
        simp only [Builtin.cap_]
        refine (run_bind_ok (run_under h2)).trans ?_
        rfl
      · simp at h
    · simp at h
  · split at h
    · obtain ⟨h, _⟩ := sure_eq h
      exact run_bind_ok (f := fun x => (Pure.pure (Next.value x) : Sem Next)) (minOf_run h)
    · simp at h
  · split at h
    · obtain ⟨h, _⟩ := sure_eq h
      exact run_bind_ok (f := fun x => (Pure.pure (Next.value x) : Sem Next)) (maxOf_run h)
    · simp at h
  · simp at h

theorem evalBin_guard {op : BinOp} {t : TypeId} {a b : Value} {r : Value × Prop} (h : evalBin op t a b = some r) : (∀ cs ds, ¬ (a = .agg cs ∧ b = .agg ds)) ∧ ¬ (a = .nilIface ∧ b = .nilIface) := by
  refine ⟨?_, ?_⟩
  · rintro cs ds ⟨rfl, rfl⟩; simp [evalBin] at h
  · rintro ⟨rfl, rfl⟩; simp [evalBin] at h

theorem run_value {P : Program} {w : World} {x : Sem Value} {v : Value} (h : x.run P w = .ok v w) : (do Pure.pure (Next.value (← x)) : Sem Next).run P w = .ok (.value v) w := by
  rw [run_bind_ok h]; rfl

theorem mapM_places {P : Program} {w : World} (fs : List Field) (h : ∀ f ∈ fs, ∃ i, P.info? f.type = some i) :
    (List.mapM (fun f : Field => (do Pure.pure (f.offset, ← sizeOf f.type) : Sem (Nat × Nat))) fs).run P w = .ok (fs.map fun f => (f.offset, P.cellsOf f.type)) w := by
  induction fs with
  | nil => rfl
  | cons f fs ih =>
    obtain ⟨i, hi⟩ := h f (by simp)
    rw [List.mapM_cons]
    have h1 : (do Pure.pure (f.offset, ← sizeOf f.type) : Sem (Nat × Nat)).run P w = .ok (f.offset, P.cellsOf f.type) w := by
      rw [run_bind_ok (run_size hi)]
      simp [Program.cellsOf, hi]
    rw [run_bind_ok h1, run_bind_ok (ih fun g hg => h g (by simp [hg]))]
    rfl

theorem build_run {P : Program} [IsP P] {t : TypeId} {d1 d2 : Nat} {d3 : Bool} {z : List Value} {fs : List (Nat × Nat × Bool)} {d6 d7 : Nat} (ht : tab t = some ⟨d1, d2, d3, z, fs, d6, d7, .struct⟩)
    {e : Env} {ρ : Operand → Value} {ps : List (Nat × Operand)} {v : Value} (hρ : ∀ x ∈ ps.map (·.2), ∀ v, ev e x = some v → ρ x = v) (h : buildOf e fs ps z = some v) {w : World} :
    (Instr.build t ⟨ps.map fun p => (p.1, ρ p.2)⟩).run P w = .ok v w := by
  obtain ⟨i, u, h1, h2, h3, h4, h5, h6, zz, hz, hzc⟩ := tab_info (P := P) ht
  have hu : ∃ e, u = .struct e := by cases u <;> simp [kindOk] at h6; exact ⟨_, rfl⟩
  obtain ⟨flds, rfl⟩ := hu
  have hall : ∀ f ∈ flds.toList, ∃ i, P.info? f.type = some i := by
    intro f hf
    simp only [kindOk, Bool.and_eq_true, decide_eq_true_eq] at h6
    have := List.all_eq_true.1 h6.2 f hf
    simp only [Bool.and_eq_true] at this
    exact Option.isSome_iff_exists.1 this.1
  obtain ⟨ds, hv, hfill⟩ := fill_run (P := P) h6 ⟨flds.toList.map fun f => (f.offset, P.cellsOf f.type)⟩ (by intro f; simp) ps z v hρ h
  have hcs : zz.cells = ⟨z⟩ := Array.toList_inj.1 hzc
  unfold Instr.build
  rw [run_bind_ok (run_zero h1 hz), run_bind_ok (run_under h2)]
  have hm : (flds.mapM fun f : Field => (do Pure.pure (f.offset, ← sizeOf f.type) : Sem (Nat × Nat))).run P w = .ok ⟨flds.toList.map fun f => (f.offset, P.cellsOf f.type)⟩ w := by
    rw [Array.mapM_eq_mapM_toList, Sem.run_map, mapM_places flds.toList hall]; rfl
  simp only []
  rw [run_bind_ok hm, hcs]
  simp only [hfill, hv]
  rfl

theorem evalOp_run {P : Program} [IsP P] {e : Env} {o : Oper} {v : Value} {c : Prop} (h : evalOp e o.op = some (v, c)) (hc : c) {ρ : Operand → Value} (hρ : Agr e ρ o.op) (w : World) :
    (execOp ρ o).run P w = .ok (.value v) w := by
  obtain ⟨d, op, ty, pos, after, g⟩ := o
  cases op <;> simp only [evalOp] at h <;> first | (simp at h; done) | skip
  · rename_i x
    obtain ⟨h, _⟩ := sure_eq h
    rw [← hρ x (by simp [Op.operands]) v h]; rfl
  · rename_i x
    obtain ⟨h, _⟩ := sure_eq h
    rw [← hρ x (by simp [Op.operands]) v h]; rfl
  · rename_i cc a b
    split at h
    · rename_i hcc
      obtain ⟨h, _⟩ := sure_eq h
      have h1 := hρ cc (by simp [Op.operands]) _ hcc
      have h2 := hρ a (by simp [Op.operands]) _ h
      simp only [execOp, h1, h2]; rfl
    · rename_i hcc
      obtain ⟨h, _⟩ := sure_eq h
      have h1 := hρ cc (by simp [Op.operands]) _ hcc
      have h2 := hρ b (by simp [Op.operands]) _ h
      simp only [execOp, h1, h2]; rfl
    · simp at h
  · -- build
    rename_i t ps
    obtain ⟨ps⟩ := ps
    simp only at h
    split at h
    · rename_i ht
      obtain ⟨h, _⟩ := sure_eq h
      have hb := build_run (P := P) (w := w) ht (ρ := ρ) (fun x hx => hρ x (by simpa [Op.operands] using hx)) h
      have hm : (ps.toArray.map fun (i, x) => (i, ρ x)) = ⟨ps.map fun p => (p.1, ρ p.2)⟩ := by simp
      exact run_value (by rw [show (⟨ps⟩ : Array (Nat × Operand)) = ps.toArray from rfl, hm]; exact hb)
    · simp at h
  · -- nilCheck
    rename_i x
    split at h
    · rename_i hx
      obtain ⟨rfl, rfl⟩ := pair_eq h
      have h1 := hρ x (by simp [Op.operands]) _ hx
      simp only [execOp, h1]; rfl
    · simp at h
  · -- binOp
    rename_i op t x y t'
    split at h
    · rename_i a ha
      split at h
      · rename_i b hb
        have h1 := hρ x (by simp [Op.operands]) _ ha
        have h2 := hρ y (by simp [Op.operands]) _ hb
        obtain ⟨g1, g2⟩ := evalBin_guard h
        refine run_value ?_
        rw [h1, h2, run_bind_ok (eqGuard_run g1 g2)]
        exact evalBin_run h hc
      · simp at h
    · simp at h
  · -- unOp
    rename_i op t x
    split at h
    · rename_i b hb
      have h1 := hρ x (by simp [Op.operands]) _ hb
      split at h
      · obtain ⟨rfl, rfl⟩ := pair_eq h
        refine run_value ?_
        rw [h1]; rfl
      · simp at h
    · rename_i k a ha
      have h1 := hρ x (by simp [Op.operands]) _ ha
      split at h
      · obtain ⟨rfl, rfl⟩ := pair_eq h
        refine run_value ?_
        rw [h1]
        simp only [Op.unary, Op.intArith, Int.zero_sub, hc.wrap]; rfl
      · simp at h
    · simp at h
  · -- convert
    rename_i s t x
    split at h
    · rename_i k a ha
      have h1 := hρ x (by simp [Op.operands]) _ ha
      split at h
      · rename_i ds hs
        obtain ⟨i, u, a1, a2, a3, a4, a5, a6, a7⟩ := tab_info (P := P) hs
        split at h
        · rename_i k' ht
          obtain ⟨i', u', b1, b2, b3, b4, b5, b6, b7⟩ := tab_info (P := P) ht
          have hu : u' = .int k' := by cases u' <;> simp [kindOk] at b6; rw [b6]
          subst hu
          obtain ⟨rfl, rfl⟩ := pair_eq h
          refine run_value ?_
          unfold convert
          rw [run_bind_ok (run_under a2), run_bind_ok (run_under b2), h1]
          simp only [Conv.intToInt, hc.wrap]; rfl
        · simp at h
      · simp at h
    · simp at h
  · -- makeFunc
    rename_i fn a b
    obtain ⟨a⟩ := a
    obtain ⟨b⟩ := b
    simp only at h
    split at h
    · rename_i vs hvs
      split at h
      · rename_i us hus
        obtain ⟨rfl, rfl⟩ := pair_eq h
        have h1 := evs_eq (fun x hx => hρ x (by simp [Op.operands, hx])) hvs
        have h2 := evs_eq (fun x hx => hρ x (by simp [Op.operands, hx])) hus
        refine run_value ?_
        simp only [Instr.makeFunc]
        rw [show (⟨a⟩ : Array Operand).map ρ = ⟨vs⟩ from by rw [← h1]; simp, show (⟨b⟩ : Array Operand).map ρ = ⟨us⟩ from by rw [← h2]; simp]
        rfl
      · simp at h
    · simp at h
  · -- fieldAddr
    rename_i t x f
    split at h
    · rename_i b o ho
      have h1 := hρ x (by simp [Op.operands]) _ ho
      split at h
      · rename_i ht
        obtain ⟨i, u, a1, a2, a3, a4, a5, a6, a7⟩ := tab_info (P := P) ht
        have hu : ∃ e, u = .struct e := by cases u <;> simp [kindOk] at a6; exact ⟨_, rfl⟩
        obtain ⟨flds, rfl⟩ := hu
        split at h
        · rename_i fo sz ag hf
          obtain ⟨fld, inf, u, b1, b2, b3, b4, b5, b6⟩ := fields_at a6 hf
          obtain ⟨rfl, rfl⟩ := pair_eq h
          refine run_value ?_
          unfold Instr.fieldAt
          rw [run_bind_ok (run_under a2)]
          simp only [b1, h1]
          refine (run_bind_ok (a := ⟨b, o, none⟩) (w' := w) rfl).trans ?_
          have hpl : (fieldPlace ⟨b, o, none⟩ fld).run P w = .ok ⟨b, o + fo, none⟩ w := by
            unfold fieldPlace
            rw [run_bind_ok (run_size b3), if_neg (by omega), b2]
            simp only [Addr.add]
            split
            · rename_i h0; rw [h0]; rfl
            · rfl
          rw [run_bind_ok hpl]; rfl
        · simp at h
      · simp at h
    · simp at h
  · -- field
    rename_i t x f
    split at h
    · rename_i cs hcs
      have h1 := hρ x (by simp [Op.operands]) _ hcs
      split at h
      · rename_i ht
        obtain ⟨i, u, a1, a2, a3, a4, a5, a6, a7⟩ := tab_info (P := P) ht
        have hu : ∃ e, u = .struct e := by cases u <;> simp [kindOk] at a6; exact ⟨_, rfl⟩
        obtain ⟨flds, rfl⟩ := hu
        split at h
        · rename_i fo sz ag hf
          obtain ⟨fld, inf, u, b1, b2, b3, b4, b5, b6⟩ := fields_at a6 hf
          obtain ⟨h, _⟩ := sure_eq h
          refine run_value ?_
          unfold Instr.field
          rw [run_bind_ok (run_under a2)]
          simp only [b1, h1]
          refine (run_bind_ok (a := ⟨cs⟩) (w' := w) rfl).trans ?_
          rw [b2]
          exact run_part b3 b5 (by rw [b4, b6]; exact h)
        · simp at h
      · simp at h
    · simp at h
  · -- extract
    rename_i x i
    split at h
    · rename_i vs hvs
      obtain ⟨h, _⟩ := sure_eq h
      rw [lnth_eq] at h
      have h1 := hρ x (by simp [Op.operands]) _ hvs
      refine run_value ?_
      rw [h1]
      simp only [Instr.extract]
      rw [show (⟨vs⟩ : Array Value)[i]? = some v from by simpa using h]
      rfl
    · simp at h
  · -- call
    rename_i cl
    obtain ⟨callee, args, argTypes⟩ := cl
    obtain ⟨args⟩ := args
    obtain ⟨argTypes⟩ := argTypes
    cases callee with
    | builtin b =>
      cases argTypes with
      | nil => simp at h
      | cons t ts =>
        simp only at h
        split at h
        · rename_i vs hvs
          have h1 := evs_eq (fun x hx => hρ x (by simp [Op.operands, Call.operands, hx])) hvs
          have h2 := evalCall_run (P := P) (ts := ts) (rt := ty) (w := w) (consts := (⟨args⟩ : Array Operand).map fun | .const _ => true | _ => false) h
          rw [← h1] at h2
          simp only [execOp, resolve]
          refine (run_bind_ok (a := _) (w' := w) rfl).trans ?_
          simp only [invoke]
          rw [show (⟨args⟩ : Array Operand).map ρ = ⟨args.map ρ⟩ from by simp]
          exact h2
        · simp at h
    | value f => simp at h
    | invoke r m => simp at h

end Go.Proofs.Ytidmolpkcfhkaaa
