/- Regions in which several operations may come next; maps of whole numbers. -/
import Derived.Test.YtidmolpkcfhkaaaK16
namespace Go.Proofs.Ytidmolpkcfhkaaa
set_option linter.unusedSectionVars false
set_option linter.unusedVariables false
set_option linter.unusedSimpArgs false
open Go
theorem Qmx.hitE {Q : QT} {e : Env} {H : List HP} {i : Nat} {M : Env → List HP → Prop} {e0 d : Env} {D G : List HP} (hM : M d D) (hs : EnvSub (d ++ e0) e) (hE : Ent H (D ++ G)) : Qmx i (UM M e0 G) Q (.exit i) e H :=
  Qmx.hit hs hE ⟨d, D, hM, rfl, rfl⟩
theorem Qmn.hitE {Q : QT} {e : Env} {H : List HP} {M : Env → List HP → Prop} {e0 d : Env} {D G : List HP} (hM : M d D) (hs : EnvSub (d ++ e0) e) (hE : Ent H (D ++ G)) : Qmn (UM M e0 G) Q .normal e H :=
  Qmn.hit hs hE ⟨d, D, hM, rfl, rfl⟩
theorem Qloop.againE {Q : QT} {e : Env} {H : List HP} {J : Nat → Env → List HP → Prop} {e0 : Env} {G : List HP} {k : Nat} (k' : Nat) {d' : Env} {D' : List HP} (hk : k' < k) (hI : J k' d' D') (hs : EnvSub (d' ++ e0) e) (hE : Ent H (D' ++ G)) :
    Qloop (UI J e0 G) k Q .normal e H := ⟨k', _, _, hk, hs, hE, d', D', hI, rfl, rfl⟩
def readyK {β : Type} (lst : List Bool) : List Oper → List Bool → Nat → (List Nat → Option β) → Option β
  | o :: os, l :: ls, i, k => match l with
    | true => readyK lst os ls (i + 1) k
    | false => match o.after with
        | ⟨es⟩ => match allDone lst es with
          | true => readyK lst os ls (i + 1) fun ys => k (i :: ys)
          | false => readyK lst os ls (i + 1) k
  | _, _, _, k => k []
def allP : List Nat → (Nat → Prop) → Prop
  | [], _ => True
  | [i], p => p i
  | i :: is, p => p i ∧ allP is p
theorem allP_mem : ∀ {is : List Nat} {p : Nat → Prop}, allP is p → ∀ i ∈ is, p i
  | [], _, _, i, h => by cases h
  | [j], p, h, i, hi => by rw [List.mem_singleton] at hi; subst hi; exact h
  | j :: k :: is, p, h, i, hi => by
    rcases List.mem_cons.1 hi with rfl | hi
    · exact h.1
    · exact allP_mem (is := k :: is) h.2 i hi
def chkR (ops : List Oper) (lst : List Bool) (rs : List Nat) : Bool := decide (Region.ready .any ⟨ops⟩ ⟨lst⟩ = rs)
section
variable {P : Program} {n : Nat} {Q : QT} {e : Env} {H Fz : List HP} {l : List Oper} {g m f i : Nat} {lst lst' : List Bool} {d : Tmp} {op : Op} {ty : TypeId} {pos : String} {after : Array Edge} {v : Value}
/-- This operation now, then the others. -/
def WA1 (P : Program) (n : Nat) (l : List Oper) (Q : QT) (g m f : Nat) (lst : List Bool) (e : Env) (Fz H : List HP) (i : Nat) : Prop :=
  ∀ w0 F a w, EnvOK n e a → Sat w (Fz ++ (H ++ F)) → Ext w0 w →
    wpOp P ⟨l⟩ (lift n w0 F Q) i (fun a' w' => Sat w' Fz ∧ wpAC P ⟨l⟩ (fun w => Sat w Fz) m (lift n w0 F Q) (fun listed a w => wpAny P .any ⟨l⟩ (lift n w0 F Q) g listed a w) f ((⟨lst⟩ : Array Bool).setIfInBounds i true) a' w') a w
theorem wa_fork {rs : List Nat} (hr : readyK lst l lst 0 some = some rs) (hc : chkR l lst rs = true) (h : allP rs (WA1 P n l Q g m f lst e Fz H)) : WA P n ⟨l⟩ Q g m (f + 1) ⟨lst⟩ e Fz H := by
  intro w0 F a w h1 h2 h3 j hj hjm
  have hrr : Region.ready .any ⟨l⟩ ⟨lst⟩ = rs := by simpa [chkR] using hc
  rw [show rdy ⟨l⟩ ⟨lst⟩ = rs from hrr] at hj
  exact allP_mem h j hj w0 F a w h1 h2 h3
theorem wa1_act {dd : Option Tmp} {gd : Option (Nat × Bool)} (hi : lnth l i = some ⟨dd, op, ty, pos, after, gd⟩) (hl : setK lst i some = some lst') (hg : GOK n ⟨l⟩ e gd true) (hd : dstB n dd = true)
    (h : OpT P e (Fz ++ H) ⟨dd, op, ty, pos, after, gd⟩ fun v H1 => ∃ H', Ent H1 (Fz ++ H') ∧ WA P n ⟨l⟩ Q g m f ⟨lst'⟩ (putE e dd v) Fz H') : WA1 P n l Q g m f lst e Fz H i := by
  intro w0 F a w h1 h2 h3
  refine OpT.wpOp (F := F) (lnth_arr hi) hg h h1 (by simpa using h2) h3 ?_
  rintro v H1 w' g1 g2 ⟨H', g3, g4⟩
  have g5 : Sat w' (Fz ++ (H' ++ F)) := by
    have := g3 F w' g1
    simpa using this
  rw [setK_some hl]
  exact ⟨SatL g5, g4 w0 F _ w' (h1.putE hd v) g5 g2⟩
theorem wa1_call {gd : Option (Nat × Bool)} {x : Operand} {xs : List Operand} {ts : Array TypeId} {fid : FuncId} {first cap vs : List Value} {Pre G : List HP} {Post : Value → List HP → Prop}
    (hi : lnth l i = some ⟨some d, .call ⟨.value x, ⟨xs⟩, ts⟩, ty, pos, after, gd⟩) (hl : setK lst i some = some lst') (hg : GOK n ⟨l⟩ e gd true) (hd : Nat.blt d n = true)
    (hx : ev e x = some (.func (.func fid) ⟨first⟩ ⟨cap⟩)) (hv : evs e xs = some vs) (hs : Spec P fid (first ++ vs ++ cap) Pre Post) (hE : Take Pre (Fz ++ H) G)
    (h : ∀ v R, Post v R → ∃ H', Ent (R ++ G) (Fz ++ H') ∧ WA P n ⟨l⟩ Q g m f ⟨lst'⟩ ((d, v) :: e) Fz H') : WA1 P n l Q g m f lst e Fz H i :=
  wa1_act (dd := some d) hi hl hg hd (OpT.call hx hv hs hE h)
/-- One element's row is made. -/
theorem wa1_row [IsP P] {gd : Option (Nat × Bool)} {t : TypeId} {k : Nat} {ps : List (Nat × Operand)} {td te : TD} {cs : List Value} (hi : lnth l i = some ⟨some d, .buildSlice t k ⟨ps⟩, ty, pos, after, gd⟩) (hl : setK lst i some = some lst') (hg : GOK n ⟨l⟩ e gd true) (hd : Nat.blt d n = true)
    (ht : tab t = some td) (hk : td.kind = .slice) (he : tab td.elem = some te) (hn : Nat.ble (k * te.size) 1000 = true) (hz : Nat.beq te.zero.length te.size = true) (hc : rowOf e te.agg te.size ps (zeros te.zero k) = some cs)
    (h : ∀ b, ∃ H', Ent (Blk b td.elem cs :: (Fz ++ H)) (Fz ++ H') ∧ WA P n ⟨l⟩ Q g m f ⟨lst'⟩ ((d, .slice (some ⟨b, 0, none⟩) k k) :: e) Fz H') : WA1 P n l Q g m f lst e Fz H i :=
  wa1_act (dd := some d) hi hl hg hd (OpT.buildSlice ht hk he hn hz hc fun b => h b)
end

theorem wpL_mono {P : Program} {ops : Array Oper} {Qa Qb : Exit → Act → World → Prop} (hn : ∀ a w, Qa .normal a w → Qb .normal a w) (hp : ∀ c a w, ¬ Qa (.panic c) a w) (ho : ∀ a w, ¬ Qa .outgrown a w) :
    ∀ (l : List Oper) (a : Act) (w : World), wpList P ops Qa l a w → wpList P ops Qb l a w
  | [], a, w, h => hn a w h
  | o :: l, a, w, h => by
    have hlet : ¬ LetsOut Qa := fun ⟨a, w, hq⟩ => ho a w hq
    have ih := wpL_mono (P := P) (ops := ops) hn hp ho l
    unfold wpList at h ⊢
    split
    · rename_i hw
      rw [if_pos hw] at h
      have h := h.resolve_right (fun hh => hlet hh.2)
      left
      unfold Oper.wp at h ⊢
      generalize (execOp a.eval o).run P w = r at h ⊢
      cases r with
      | halt x w' =>
        cases x <;> simp only [Oper.upon] at h ⊢
        exact (hp _ _ _ h).elim
      | ok nx w' =>
        cases nx <;> simp only [Oper.upon] at h ⊢
        case value u => exact ih _ _ h
        case skip => exact ih _ _ h
        case defer d => exact ih _ _ h
        case enter f args =>
          refine Calls.mono h fun e w'' he => ?_
          cases e with
          | returned u => exact ih _ _ he
          | panicked c => exact (hp _ _ _ he).elim
          | outgrown => exact (hlet he).elim
        case row row args => exact Rows.mono h fun u w'' he => ih _ _ he
    · rename_i hw
      rw [if_neg hw] at h
      exact ih _ _ h
/-- Ways that meet behind a list of operations. -/
theorem WL.midnU {P : Program} {n : Nat} {Q : QT} {e : Env} {H : List HP} {ops : Array Oper} {l : List Oper} (D0 : List HP) (M : Env → List HP → Prop) {e0 : Env} {G : List HP} (hs : stripK (opsDst l []) e some = some e0) (hh : Take D0 H G) (h1 : WL P n ops (Qmn (UM M e0 G) Q) l e (D0 ++ G))
    (h2 : ∀ d D, M d D → Q .normal (d ++ e0) (D ++ G)) : WL P n ops Q l e H := by
  refine WL.ent hh.ent ?_
  intro w0 F a w g1 g2 g3
  refine wpL_mono ?_ lift_nopanic lift_noout l a w (h1 w0 F a w g1 g2 g3)
  intro a' w' hx
  simp only [lift] at hx ⊢
  obtain ⟨e', H', k1, k2, k3, k4⟩ := hx
  obtain ⟨e2, H2, m1, m2, d, D, hM, rfl, rfl⟩ := k4
  exact ⟨_, _, k1.sub m1, m2 F w' k2, k3, h2 _ _ hM⟩
/- Maps of whole numbers. -/
def kvV (x : Int × Int) : Value × Value := (.int .i64 x.1, .int .i64 x.2)
def MpI (b : Nat) (kvs : List (Int × Int)) : HP := fun p => ∃ (es : List MapEntry) (clock : Nat), p b = some (.map ⟨es⟩ clock, false) ∧ es.map (fun e => (e.key, e.val)) = kvs.map kvV
theorem findNow_i {k : Int} : ∀ {es : List MapEntry} {kvs : List (Int × Int)} (i : Nat), es.map (fun e => (e.key, e.val)) = kvs.map kvV →
    Instr.findNow (.int .i64) (.int .i64 k) es i = some (match kvs.find? (fun q => q.1 == k) with
      | some q => (match Instr.findNow (.int .i64) (.int .i64 k) es i with | some (some (j, _)) => some (j, .int .i64 q.2) | _ => none)
      | none => none) ∧ (∀ q, kvs.find? (fun q => q.1 == k) = some q → ∃ j, Instr.findNow (.int .i64) (.int .i64 k) es i = some (some (j, .int .i64 q.2)))
  | [], kvs, i, h => by
    cases kvs with
    | nil => simp [Instr.findNow]
    | cons q kvs => simp at h
  | e :: es, kvs, i, h => by
    cases kvs with
    | nil => simp at h
    | cons q kvs =>
      simp only [List.map_cons, List.cons.injEq, kvV, Prod.mk.injEq] at h
      obtain ⟨⟨h1, h2⟩, h3⟩ := h
      by_cases hq : q.1 = k
      · have hb : (k == q.1) = true := by simp [hq]
        simp [Instr.findNow, h1, h2, Instr.sameNow, hq]
      · have hb : (k == q.1) = false := by simp; exact fun h => hq h.symm
        have ih := findNow_i (k := k) (i + 1) h3
        simp only [Instr.findNow, h1, Instr.sameNow, if_true, hb, List.find?_cons, show (q.1 == k) = false by simp [hq]]
        exact ih
theorem checkKey_int {P : Program} {K : TypeId} {k : IntKind} (huk : P.underlying K = some (.int k)) (b : Bool) (n : Nat) (v : Value) {w : World} : (Instr.checkKey b (n + 1) K v).run P w = .ok () w := by
  unfold Instr.checkKey
  rw [run_bind_ok (run_under huk)]
  rfl
theorem MpI.get {w : World} {b : Nat} {kvs : List (Int × Int)} {H : List HP} (h : Sat w (MpI b kvs :: H)) : ∃ (es : List MapEntry) (clock : Nat), w.heap[b]? = some (.map ⟨es⟩ clock) ∧ es.map (fun e => (e.key, e.val)) = kvs.map kvV := by
  obtain ⟨o, k, h1, es, clock, rfl, h2⟩ := SatH.head_block (P := fun o _ => ∃ (es : List MapEntry) (clock : Nat), o = .map ⟨es⟩ clock ∧ es.map (fun e => (e.key, e.val)) = kvs.map kvV) (b := b) h (fun p ⟨es, clock, h1, h2⟩ => ⟨_, _, h1, es, clock, rfl, h2⟩)
  exact ⟨es, clock, h1, h2⟩
theorem run_getObj {P : Program} {w : World} {b : Nat} {es : Array MapEntry} {c : Nat} (h : w.heap[b]? = some (.map es c)) : (getObj b).run P w = .ok (.map es c) w := by
  unfold getObj
  simp only [Sem.run, h]
section
variable {P : Program} [IsP P] {e : Env} {H H1 : List HP} {K' : Value → List HP → Prop} {d : Option Tmp} {ty : TypeId} {pos : String} {after : Array Edge} {g : Option (Nat × Bool)}
omit [IsP P] in
theorem OpT.makeMap {t : TypeId} (hK : ∀ b, K' (.map (some b)) (MpI b [] :: H)) : OpT P e H ⟨d, .makeMap t none, ty, pos, after, g⟩ K' := by
  intro ρ hρ F w s
  have hr : (execOp ρ ⟨d, .makeMap t none, ty, pos, after, g⟩).run P w = .ok (.value (.map (some w.heap.size))) (w.alloc (.map #[] 0)) := rfl
  rw [hr]
  refine ⟨_, ?_, ext_alloc w _, hK w.heap.size⟩
  refine (Sat.alloc s (.map #[] 0)).imp fun r hr => hr.imp_head fun p hp => ⟨[], 0, hp, rfl⟩
omit [IsP P] in
theorem OpT.insertI {t K E : TypeId} {m k x : Operand} {b : Nat} {kvs : List (Int × Int)} {kk vv : Int} (hm : ev e m = some (.map (some b))) (hk : ev e k = some (.int .i64 kk)) (hx : ev e x = some (.int .i64 vv)) (hu : P.underlying t = some (.map K E)) (huk : P.underlying K = some (.int .i64))
    (hp : Pick (MpI b kvs) H H1) (hn : kvs.find? (fun q => q.1 == kk) = none) (hK : K' undef (MpI b (kvs ++ [(kk, vv)]) :: H1)) : OpT P e H ⟨d, .insert t m k x, ty, pos, after, g⟩ K' := by
  intro ρ hρ F w s
  have hm' := hρ m (by simp [Op.operands]) _ hm
  have hk' := hρ k (by simp [Op.operands]) _ hk
  have hx' := hρ x (by simp [Op.operands]) _ hx
  have s1 := SatH.pick hp s
  obtain ⟨es, clock, hb, he⟩ := MpI.get s1
  have hf := (findNow_i (k := kk) 0 he).1
  rw [hn] at hf
  have hbs : b < w.heap.size := (Array.getElem?_eq_some_iff.1 hb).1
  have hr : (execOp ρ ⟨d, .insert t m k x, ty, pos, after, g⟩).run P w = .ok .skip { w with heap := w.heap.setIfInBounds b (.map ((⟨es⟩ : Array MapEntry).push { key := .int .i64 kk, val := .int .i64 vv, born := clock }) (clock + 1)) } := by
    refine (run_bind_ok (a := ()) (w' := { w with heap := w.heap.setIfInBounds b (.map ((⟨es⟩ : Array MapEntry).push { key := .int .i64 kk, val := .int .i64 vv, born := clock }) (clock + 1)) }) ?_).trans rfl
    rw [hm', hk', hx']
    unfold Instr.mapUpdate
    rw [run_bind_ok (run_under hu)]
    simp only []
    rw [run_bind_ok (run_getObj hb)]
    simp only []
    rw [run_bind_ok (checkKey_int huk false 9999 _)]
    unfold Instr.findKey
    simp only [Sem.run_bind, run_under huk, Result.andThen_ok, hf, Sem.run_pure]
    unfold setObj
    simp only [Sem.run, hb]
  rw [hr]
  refine ⟨_, ?_, ⟨rfl, rfl, rfl, by simp⟩, hK⟩
  refine Sat.upd (b := b) (o := .map ((⟨es⟩ : Array MapEntry).push { key := .int .i64 kk, val := .int .i64 vv, born := clock }) (clock + 1)) (k := false) s1 (fun p ⟨es, c, h1, _⟩ => ⟨_, h1⟩) (fun p _ => ⟨es ++ [{ key := .int .i64 kk, val := .int .i64 vv, born := clock }], clock + 1, by simp [upd], by simp [he, kvV]⟩) ?_ ?_
  · intro c hc
    simp only [Array.getElem?_setIfInBounds]
    rw [if_neg (fun h => hc h.symm)]
  · simp [hbs]
omit [IsP P] in
theorem OpT.lookupI {t K E : TypeId} {m k : Operand} {b : Nat} {kvs : List (Int × Int)} {kk vv : Int} (hm : ev e m = some (.map (some b))) (hk : ev e k = some (.int .i64 kk)) (hu : P.underlying t = some (.map K E)) (huk : P.underlying K = some (.int .i64))
    (hp : Pick (MpI b kvs) H H1) (hn : kvs.find? (fun q => q.1 == kk) = some (kk, vv)) (hK : K' (.int .i64 vv) H) : OpT P e H ⟨d, .lookup t m k false, ty, pos, after, g⟩ K' := by
  intro ρ hρ F w s
  have hm' := hρ m (by simp [Op.operands]) _ hm
  have hk' := hρ k (by simp [Op.operands]) _ hk
  have s1 := SatH.pick hp s
  obtain ⟨es, clock, hb, he⟩ := MpI.get s1
  obtain ⟨j, hf⟩ := (findNow_i (k := kk) 0 he).2 _ hn
  have hr : (execOp ρ ⟨d, .lookup t m k false, ty, pos, after, g⟩).run P w = .ok (.value (.int .i64 vv)) w := by
    refine run_value ?_
    rw [hm', hk']
    unfold Instr.lookup
    rw [run_bind_ok (run_under hu)]
    simp only [Sem.run_bind, run_getObj hb, Result.andThen_ok, Sem.run_pure]
    rw [checkKey_int huk _ 9999 _]
    unfold Instr.findKey
    simp only [Sem.run_bind, run_under huk, Result.andThen_ok, hf, Sem.run_pure]
    rfl
  rw [hr]
  exact ⟨H, s, Ext.refl w, hK⟩
end
end Go.Proofs.Ytidmolpkcfhkaaa
