/- Contracts: numbers as bytes. -/
import Derived.Test.YtidmolpkcfhkaaaC1
import Derived.Test.YtidmolpkcfhkaaaM1
namespace Go.Proofs.Ytidmolpkcfhkaaa
set_option linter.unusedSectionVars false
set_option linter.unusedVariables false
set_option linter.unusedSimpArgs false
open Go
section
variable {P : Program} [hP : IsP P]
theorem QuietT.quo {e : Env} {H : List HP} {d : Option Tmp} {ty : TypeId} {pos : String} {after : Array Edge} {g : Option (Nat × Bool)} {t t' : TypeId} {x y : Operand} {k : IntKind} {a b : Int} (hx : ev e x = some (.int k a)) (hy : ev e y = some (.int k b)) (hb : b ≠ 0) :
    QuietT P e H ⟨d, .binOp .quo t x y t', ty, pos, after, g⟩ (.int k (k.wrap (a.tdiv b))) := by
  intro ρ hρ F w s
  have hx' := hρ x (by simp [Op.operands]) _ hx
  have hy' := hρ y (by simp [Op.operands]) _ hy
  refine run_value ?_
  rw [hx', hy', run_bind_ok (eqGuard_run (by simp) (by simp))]
  simp only [binOp, ne_eq, not_true_eq_false, if_false, Op.intDiv, hb]; rfl
theorem QuietT.bitsE {op : BinOp} {e : Env} {H : List HP} {d : Option Tmp} {ty : TypeId} {pos : String} {after : Array Edge} {g : Option (Nat × Bool)} {t t' : TypeId} {x y : Operand} {k : IntKind} {a b : Int} (z : Int) (ho : op = .and ∨ op = .or ∨ op = .xor) (hx : ev e x = some (.int k a)) (hy : ev e y = some (.int k b)) (hz : bitsOf op k a b = z) :
    QuietT P e H ⟨d, .binOp op t x y t', ty, pos, after, g⟩ (.int k z) := by subst hz; exact QuietT.bits ho hx hy
theorem bits_or_comm (k : IntKind) (a b : Int) : bitsOf .or k a b = bitsOf .or k b a := by unfold bitsOf; simp only [BitVec.or_comm]
theorem mark_or {b : Int} {n : Nat} (hb : 0 ≤ b ∧ b < 64) : bitsOf .or .u8 b (markM n) = b + markM n := by
  obtain ⟨q, hq, h0, h3⟩ : ∃ q, markM n = 2 ^ 6 * q ∧ 0 ≤ q ∧ q ≤ 3 := by
    unfold markM
    split
    · exact ⟨1, by omega, by omega, by omega⟩
    · split
      · exact ⟨2, by omega, by omega, by omega⟩
      · split
        · exact ⟨3, by omega, by omega, by omega⟩
        · exact ⟨0, by omega, by omega, by omega⟩
  rw [hq, bits_or_comm, bits_or 6 h0 (by omega) (by simp only [inR]; omega) (by simp only [inR]; omega) (by simp only [inR]; omega)]
  omega
end
attribute [local irreducible] Decidable.decide Qfn Qseq Qblock Qloop Qmx Qmn WL WC OpT Pick Ent QuietT WT WA ISl OSl Blk IBlk
section
variable {P : Program} [IsP P] {n : Nat} {Q : QT} {e : Env} {H : List HP} {ops : Array Oper} {l : List Oper} {d : Tmp} {ty : TypeId} {pos : String} {after : Array Edge}
theorem wl_shr {t t' : TypeId} {x y : Operand} {k k' : IntKind} {a b : Int} (z : Int) (hx : ev e x = some (.int k a)) (hy : ev e y = some (.int k' b)) (hb : 0 ≤ b ∧ b < k.bits) (hz : a / 2 ^ b.toNat = z) (hd : Nat.blt d n = true)
    (h : WL P n ops Q l ((d, .int k z) :: e) H) : WL P n ops Q (⟨some d, .binOp .shr t x y t', ty, pos, after, none⟩ :: l) e H := by
  subst hz; exact wl_quiet (QuietT.shr hx hy hb) hd h
theorem wl_shl {t t' : TypeId} {x y : Operand} {k k' : IntKind} {a b : Int} (z : Int) (hx : ev e x = some (.int k a)) (hy : ev e y = some (.int k' b)) (hb : 0 ≤ b ∧ b < k.bits) (hz : k.wrap (a * 2 ^ b.toNat) = z) (hd : Nat.blt d n = true)
    (h : WL P n ops Q l ((d, .int k z) :: e) H) : WL P n ops Q (⟨some d, .binOp .shl t x y t', ty, pos, after, none⟩ :: l) e H := by
  subst hz; exact wl_quiet (QuietT.shl hx hy hb) hd h
theorem wl_bits {op : BinOp} {t t' : TypeId} {x y : Operand} {k : IntKind} {a b : Int} (z : Int) (ho : op = .and ∨ op = .or ∨ op = .xor) (hx : ev e x = some (.int k a)) (hy : ev e y = some (.int k b)) (hz : bitsOf op k a b = z) (hd : Nat.blt d n = true)
    (h : WL P n ops Q l ((d, .int k z) :: e) H) : WL P n ops Q (⟨some d, .binOp op t x y t', ty, pos, after, none⟩ :: l) e H := by
  subst hz; exact wl_quiet (QuietT.bits ho hx hy) hd h
theorem wl_conv {s t : TypeId} {x : Operand} {k k' : IntKind} {a : Int} {ts tt : TD} (z : Int) (hx : ev e x = some (.int k a)) (hs : tab s = some ts) (ht : tab t = some tt) (hk : tt.kind = .int k') (hz : k'.wrap a = z) (hd : Nat.blt d n = true)
    (h : WL P n ops Q l ((d, .int k' z) :: e) H) : WL P n ops Q (⟨some d, .convert s t x, ty, pos, after, none⟩ :: l) e H := by
  subst hz; exact wl_quiet (QuietT.conv hx hs ht hk) hd h
end
variable {P : Program} [hP : IsP P]
theorem wl_quo {n : Nat} {Q : QT} {e : Env} {H : List HP} {ops : Array Oper} {l : List Oper} {d : Tmp} {ty : TypeId} {pos : String} {after : Array Edge} {t t' : TypeId} {x y : Operand} {k : IntKind} {a b : Int} (z : Int) (hx : ev e x = some (.int k a)) (hy : ev e y = some (.int k b)) (hb : b ≠ 0) (hz : k.wrap (a.tdiv b) = z) (hd : Nat.blt d n = true)
    (h : WL P n ops Q l ((d, .int k z) :: e) H) : WL P n ops Q (⟨some d, .binOp .quo t x y t', ty, pos, after, none⟩ :: l) e H := by
  subst hz; exact wl_quiet (QuietT.quo hx hy hb) hd h
theorem u8wrap (a : Int) : IntKind.u8.wrap a = a % 256 := by
  have : IntKind.u8.wrap a = a % (2 ^ 8 : Nat) := rfl
  rw [this]; rfl
theorem inR64 {x : Int} (h : -9223372036854775808 ≤ x ∧ x ≤ 9223372036854775807) : inR .i64 x := h

theorem size_spec (x : Int) : Spec P 19 [.int .i64 x] [] fun v R => v = .int .i64 (sizeM x) ∧ R = [] := by
  refine Spec.of (fn := Try.f19) (by rw [hP.eq]; exact Try.func19) (by kernel_rfl) rfl Try.ntmps19 rfl rfl ?_
  repeat' (first
    | (show WL _ _ _ _ _ _ _; first
      | (apply wl_calc; exact rfl; exact True.intro; exact rfl)
      | refine WL.nil ?_
      | (apply wl_ld; exact rfl; exact rfl; ((repeat (first | exact Pick.here | apply Pick.there))); exact rfl; exact rfl)
      | (apply wl_calc; exact rfl; ((try simp only [inR]); omega); exact rfl)
      | (apply wl_store; exact rfl; exact rfl; exact rfl; ((repeat (first | exact Pick.here | apply Pick.there))); exact rfl)
      | (apply wl_ixI; exact rfl; exact rfl; exact rfl; exact rfl; exact rfl; ((repeat (first | exact Pick.here | apply Pick.there))); exact rfl; exact rfl; omega; exact rfl)
      | (apply wl_ldEI; exact rfl; exact rfl; ((repeat (first | exact Pick.here | apply Pick.there))); exact rfl; assumption; exact rfl; exact rfl)
      | (apply wl_fldE; exact rfl; exact rfl; exact rfl; exact rfl; exact rfl)
      | (apply wl_ixO; exact rfl; exact rfl; exact rfl; exact rfl; exact rfl; ((repeat (first | exact Pick.here | apply Pick.there))); exact rfl; exact rfl; omega; exact rfl)
      | (apply wl_ldEO; exact rfl; exact rfl; ((repeat (first | exact Pick.here | apply Pick.there))); exact rfl; assumption; exact rfl; exact rfl)
      | (apply wl_guard; exact rfl; exact rfl; exact rfl; exact rfl)
      | (apply wl_gno; exact rfl; exact rfl; exact rfl; exact rfl; exact rfl)
      | (apply wl_gsplit; exact rfl; exact rfl; exact rfl; exact rfl; all_goals (intro h; (try simp only [reduceCtorEq, not_true_eq_false, not_false_eq_true, decide_eq_true_eq, decide_eq_false_iff_not, Bool.not_eq_true', Bool.not_eq_false', Bool.not_true, Bool.not_false, Int.not_lt, Int.not_le, ne_eq, Decidable.not_not] at h); (try (exfalso; omega))))
      | (apply wl_rem; exact rfl; exact rfl; omega; exact rfl)
      | (apply wl_row; (iterate 7 (exact rfl)); intro b1)
      | (apply wl_box; exact rfl; exact rfl; exact rfl; intro b1))
    | (show WC _ _ _ _ _ _; first
      | refine WC.seq ?_
      | (apply WC.region; exact rfl)
      | (apply WC.condT; exact rfl)
      | (apply WC.condF; exact rfl)
      | (apply WC.cond; exact rfl; all_goals (intro h; (try simp only [reduceCtorEq, not_true_eq_false, not_false_eq_true, decide_eq_true_eq, decide_eq_false_iff_not, Bool.not_eq_true', Bool.not_eq_false', Bool.not_true, Bool.not_false, Int.not_lt, Int.not_le, ne_eq, Decidable.not_not] at h); (try (exfalso; omega))))
      | refine WC.block ?_
      | refine WC.skip ?_
      | refine WC.ret ?_
      | refine WC.exit ?_)
    | refine Qseq.nm ?_
    | refine Qseq.r ?_
    | refine Qseq.x ?_
    | refine Qblock.nm ?_
    | refine Qblock.r ?_
    | (apply Qblock.t; exact rfl)
    | (apply Qblock.f; exact rfl)
    | refine Qmx.r ?_
    | refine Qmx.nm ?_
    | (apply Qmx.f; exact rfl)
    | refine Qmn.r ?_
    | refine Qmn.x ?_
    | refine Qloop.r ?_
    | refine Qloop.x ?_
    | (apply Qfn.one; exact rfl)
    | (apply Qfn.two; exact rfl; exact rfl)
    | (apply Qfn.three; exact rfl; exact rfl; exact rfl)
    | refine Qfn.zero ?_
    | refine Qfn.zeroN ?_)
  all_goals ((refine ⟨_, ?_, ?_, rfl⟩; exact Take.fin (by repeat (first | exact Take.nil | (apply Take.keepI; focus ((repeat (first | exact Pick.here | apply Pick.there)); done)) | (apply Take.cons; focus ((repeat (first | exact Pick.here | apply Pick.there)); done)) | (apply Take.pure; (first | assumption | omega)))); try rfl); simp only [Value.int.injEq, true_and]; unfold sizeM)
  all_goals (repeat' split)
  all_goals first | rfl | (exfalso; omega)
theorem rsize_spec (x : Int) : Spec P 33 [.int .i64 x] [] fun v R => v = .int .i64 (sizeM x) ∧ R = [] := by
  refine Spec.of (fn := Try.f33) (by rw [hP.eq]; exact Try.func33) (by kernel_rfl) rfl Try.ntmps33 rfl rfl ?_
  repeat' (first
    | (show WL _ _ _ _ _ _ _; first
      | (apply wl_calc; exact rfl; exact True.intro; exact rfl)
      | refine WL.nil ?_
      | (apply wl_ld; exact rfl; exact rfl; ((repeat (first | exact Pick.here | apply Pick.there))); exact rfl; exact rfl)
      | (apply wl_calc; exact rfl; ((try simp only [inR]); omega); exact rfl)
      | (apply wl_store; exact rfl; exact rfl; exact rfl; ((repeat (first | exact Pick.here | apply Pick.there))); exact rfl)
      | (apply wl_ixI; exact rfl; exact rfl; exact rfl; exact rfl; exact rfl; ((repeat (first | exact Pick.here | apply Pick.there))); exact rfl; exact rfl; omega; exact rfl)
      | (apply wl_ldEI; exact rfl; exact rfl; ((repeat (first | exact Pick.here | apply Pick.there))); exact rfl; assumption; exact rfl; exact rfl)
      | (apply wl_fldE; exact rfl; exact rfl; exact rfl; exact rfl; exact rfl)
      | (apply wl_ixO; exact rfl; exact rfl; exact rfl; exact rfl; exact rfl; ((repeat (first | exact Pick.here | apply Pick.there))); exact rfl; exact rfl; omega; exact rfl)
      | (apply wl_ldEO; exact rfl; exact rfl; ((repeat (first | exact Pick.here | apply Pick.there))); exact rfl; assumption; exact rfl; exact rfl)
      | (apply wl_guard; exact rfl; exact rfl; exact rfl; exact rfl)
      | (apply wl_gno; exact rfl; exact rfl; exact rfl; exact rfl; exact rfl)
      | (apply wl_gsplit; exact rfl; exact rfl; exact rfl; exact rfl; all_goals (intro h; (try simp only [reduceCtorEq, not_true_eq_false, not_false_eq_true, decide_eq_true_eq, decide_eq_false_iff_not, Bool.not_eq_true', Bool.not_eq_false', Bool.not_true, Bool.not_false, Int.not_lt, Int.not_le, ne_eq, Decidable.not_not] at h); (try (exfalso; omega))))
      | (apply wl_rem; exact rfl; exact rfl; omega; exact rfl)
      | (apply wl_row; (iterate 7 (exact rfl)); intro b1)
      | (apply wl_box; exact rfl; exact rfl; exact rfl; intro b1))
    | (show WC _ _ _ _ _ _; first
      | refine WC.seq ?_
      | (apply WC.region; exact rfl)
      | (apply WC.condT; exact rfl)
      | (apply WC.condF; exact rfl)
      | (apply WC.cond; exact rfl; all_goals (intro h; (try simp only [reduceCtorEq, not_true_eq_false, not_false_eq_true, decide_eq_true_eq, decide_eq_false_iff_not, Bool.not_eq_true', Bool.not_eq_false', Bool.not_true, Bool.not_false, Int.not_lt, Int.not_le, ne_eq, Decidable.not_not] at h); (try (exfalso; omega))))
      | refine WC.block ?_
      | refine WC.skip ?_
      | refine WC.ret ?_
      | refine WC.exit ?_)
    | refine Qseq.nm ?_
    | refine Qseq.r ?_
    | refine Qseq.x ?_
    | refine Qblock.nm ?_
    | refine Qblock.r ?_
    | (apply Qblock.t; exact rfl)
    | (apply Qblock.f; exact rfl)
    | refine Qmx.r ?_
    | refine Qmx.nm ?_
    | (apply Qmx.f; exact rfl)
    | refine Qmn.r ?_
    | refine Qmn.x ?_
    | refine Qloop.r ?_
    | refine Qloop.x ?_
    | (apply Qfn.one; exact rfl)
    | (apply Qfn.two; exact rfl; exact rfl)
    | (apply Qfn.three; exact rfl; exact rfl; exact rfl)
    | refine Qfn.zero ?_
    | refine Qfn.zeroN ?_)
  all_goals ((refine ⟨_, ?_, ?_, rfl⟩; exact Take.fin (by repeat (first | exact Take.nil | (apply Take.keepI; focus ((repeat (first | exact Pick.here | apply Pick.there)); done)) | (apply Take.cons; focus ((repeat (first | exact Pick.here | apply Pick.there)); done)) | (apply Take.pure; (first | assumption | omega)))); try rfl); simp only [Value.int.injEq, true_and]; unfold sizeM)
  all_goals (repeat' split)
  all_goals first | rfl | (exfalso; omega)
theorem mark_spec (x : Nat) : Spec P 77 [.int .i64 x] [] fun v R => v = .int .u8 (markM x) ∧ R = [] := by
  refine Spec.of (fn := Try.f77) (by rw [hP.eq]; exact Try.func77) (by kernel_rfl) rfl Try.ntmps77 rfl rfl ?_
  repeat' (first
    | (show WL _ _ _ _ _ _ _; first
      | (apply wl_calc; exact rfl; exact True.intro; exact rfl)
      | refine WL.nil ?_
      | (apply wl_ld; exact rfl; exact rfl; ((repeat (first | exact Pick.here | apply Pick.there))); exact rfl; exact rfl)
      | (apply wl_calc; exact rfl; ((try simp only [inR]); omega); exact rfl)
      | (apply wl_store; exact rfl; exact rfl; exact rfl; ((repeat (first | exact Pick.here | apply Pick.there))); exact rfl)
      | (apply wl_ixI; exact rfl; exact rfl; exact rfl; exact rfl; exact rfl; ((repeat (first | exact Pick.here | apply Pick.there))); exact rfl; exact rfl; omega; exact rfl)
      | (apply wl_ldEI; exact rfl; exact rfl; ((repeat (first | exact Pick.here | apply Pick.there))); exact rfl; assumption; exact rfl; exact rfl)
      | (apply wl_fldE; exact rfl; exact rfl; exact rfl; exact rfl; exact rfl)
      | (apply wl_ixO; exact rfl; exact rfl; exact rfl; exact rfl; exact rfl; ((repeat (first | exact Pick.here | apply Pick.there))); exact rfl; exact rfl; omega; exact rfl)
      | (apply wl_ldEO; exact rfl; exact rfl; ((repeat (first | exact Pick.here | apply Pick.there))); exact rfl; assumption; exact rfl; exact rfl)
      | (apply wl_guard; exact rfl; exact rfl; exact rfl; exact rfl)
      | (apply wl_gno; exact rfl; exact rfl; exact rfl; exact rfl; exact rfl)
      | (apply wl_gsplit; exact rfl; exact rfl; exact rfl; exact rfl; all_goals (intro h; (try simp only [reduceCtorEq, not_true_eq_false, not_false_eq_true, decide_eq_true_eq, decide_eq_false_iff_not, Bool.not_eq_true', Bool.not_eq_false', Bool.not_true, Bool.not_false, Int.not_lt, Int.not_le, ne_eq, Decidable.not_not] at h); (try (exfalso; omega))))
      | (apply wl_rem; exact rfl; exact rfl; omega; exact rfl)
      | (apply wl_row; (iterate 7 (exact rfl)); intro b1)
      | (apply wl_box; exact rfl; exact rfl; exact rfl; intro b1))
    | (show WC _ _ _ _ _ _; first
      | refine WC.seq ?_
      | (apply WC.region; exact rfl)
      | (apply WC.condT; exact rfl)
      | (apply WC.condF; exact rfl)
      | (apply WC.cond; exact rfl; all_goals (intro h; (try simp only [reduceCtorEq, not_true_eq_false, not_false_eq_true, decide_eq_true_eq, decide_eq_false_iff_not, Bool.not_eq_true', Bool.not_eq_false', Bool.not_true, Bool.not_false, Int.not_lt, Int.not_le, ne_eq, Decidable.not_not] at h); (try (exfalso; omega))))
      | refine WC.block ?_
      | refine WC.skip ?_
      | refine WC.ret ?_
      | refine WC.exit ?_)
    | refine Qseq.nm ?_
    | refine Qseq.r ?_
    | refine Qseq.x ?_
    | refine Qblock.nm ?_
    | refine Qblock.r ?_
    | (apply Qblock.t; exact rfl)
    | (apply Qblock.f; exact rfl)
    | refine Qmx.r ?_
    | refine Qmx.nm ?_
    | (apply Qmx.f; exact rfl)
    | refine Qmn.r ?_
    | refine Qmn.x ?_
    | refine Qloop.r ?_
    | refine Qloop.x ?_
    | (apply Qfn.one; exact rfl)
    | (apply Qfn.two; exact rfl; exact rfl)
    | (apply Qfn.three; exact rfl; exact rfl; exact rfl)
    | refine Qfn.zero ?_
    | refine Qfn.zeroN ?_)
  all_goals ((refine ⟨_, ?_, ?_, rfl⟩; exact Take.fin (by repeat (first | exact Take.nil | (apply Take.keepI; focus ((repeat (first | exact Pick.here | apply Pick.there)); done)) | (apply Take.cons; focus ((repeat (first | exact Pick.here | apply Pick.there)); done)) | (apply Take.pure; (first | assumption | omega)))); try rfl); simp only [Value.int.injEq, true_and]; unfold markM)
  all_goals (repeat' split)
  all_goals first | rfl | (exfalso; omega)
def zigM (x : Int) : Int := if x < -2305843009213693952 ∨ 2305843009213693952 ≤ x then -1 else if x < 0 then -2 * x - 1 else 2 * x
def zagM (x : Int) : Int := if x < 0 ∨ 4611686018427387903 < x then 0 else if x % 2 = 1 then -((x + 1) / 2) else x / 2
theorem zig_spec (x : Int) : Spec P 34 [.int .i64 x] [] fun v R => v = .int .i64 (zigM x) ∧ R = [] := by
  refine Spec.of (fn := Try.f34) (by rw [hP.eq]; exact Try.func34) (by kernel_rfl) rfl Try.ntmps34 rfl rfl ?_
  repeat' (first
    | (show WL _ _ _ _ _ _ _; first
      | (apply wl_calc; exact rfl; exact True.intro; exact rfl)
      | refine WL.nil ?_
      | (apply wl_ld; exact rfl; exact rfl; ((repeat (first | exact Pick.here | apply Pick.there))); exact rfl; exact rfl)
      | (apply wl_calc; exact rfl; ((try simp only [inR]); omega); exact rfl)
      | (apply wl_store; exact rfl; exact rfl; exact rfl; ((repeat (first | exact Pick.here | apply Pick.there))); exact rfl)
      | (apply wl_ixI; exact rfl; exact rfl; exact rfl; exact rfl; exact rfl; ((repeat (first | exact Pick.here | apply Pick.there))); exact rfl; exact rfl; omega; exact rfl)
      | (apply wl_ldEI; exact rfl; exact rfl; ((repeat (first | exact Pick.here | apply Pick.there))); exact rfl; assumption; exact rfl; exact rfl)
      | (apply wl_fldE; exact rfl; exact rfl; exact rfl; exact rfl; exact rfl)
      | (apply wl_ixO; exact rfl; exact rfl; exact rfl; exact rfl; exact rfl; ((repeat (first | exact Pick.here | apply Pick.there))); exact rfl; exact rfl; omega; exact rfl)
      | (apply wl_ldEO; exact rfl; exact rfl; ((repeat (first | exact Pick.here | apply Pick.there))); exact rfl; assumption; exact rfl; exact rfl)
      | (apply wl_guard; exact rfl; exact rfl; exact rfl; exact rfl)
      | (apply wl_gno; exact rfl; exact rfl; exact rfl; exact rfl; exact rfl)
      | (apply wl_gsplit; exact rfl; exact rfl; exact rfl; exact rfl; all_goals (intro h; (try simp only [reduceCtorEq, not_true_eq_false, not_false_eq_true, decide_eq_true_eq, decide_eq_false_iff_not, Bool.not_eq_true', Bool.not_eq_false', Bool.not_true, Bool.not_false, Int.not_lt, Int.not_le, ne_eq, Decidable.not_not] at h); (try (exfalso; omega))))
      | (apply wl_rem; exact rfl; exact rfl; omega; exact rfl)
      | (apply wl_row; (iterate 7 (exact rfl)); intro b1)
      | (apply wl_box; exact rfl; exact rfl; exact rfl; intro b1))
    | (show WC _ _ _ _ _ _; first
      | refine WC.seq ?_
      | (apply WC.region; exact rfl)
      | (apply WC.condT; exact rfl)
      | (apply WC.condF; exact rfl)
      | (apply WC.cond; exact rfl; all_goals (intro h; (try simp only [reduceCtorEq, not_true_eq_false, not_false_eq_true, decide_eq_true_eq, decide_eq_false_iff_not, Bool.not_eq_true', Bool.not_eq_false', Bool.not_true, Bool.not_false, Int.not_lt, Int.not_le, ne_eq, Decidable.not_not] at h); (try (exfalso; omega))))
      | refine WC.block ?_
      | refine WC.skip ?_
      | refine WC.ret ?_
      | refine WC.exit ?_)
    | refine Qseq.nm ?_
    | refine Qseq.r ?_
    | refine Qseq.x ?_
    | refine Qblock.nm ?_
    | refine Qblock.r ?_
    | (apply Qblock.t; exact rfl)
    | (apply Qblock.f; exact rfl)
    | refine Qmx.r ?_
    | refine Qmx.nm ?_
    | (apply Qmx.f; exact rfl)
    | refine Qmn.r ?_
    | refine Qmn.x ?_
    | refine Qloop.r ?_
    | refine Qloop.x ?_
    | (apply Qfn.one; exact rfl)
    | (apply Qfn.two; exact rfl; exact rfl)
    | (apply Qfn.three; exact rfl; exact rfl; exact rfl)
    | refine Qfn.zero ?_
    | refine Qfn.zeroN ?_)
  all_goals ((refine ⟨_, ?_, ?_, rfl⟩; exact Take.fin (by repeat (first | exact Take.nil | (apply Take.keepI; focus ((repeat (first | exact Pick.here | apply Pick.there)); done)) | (apply Take.cons; focus ((repeat (first | exact Pick.here | apply Pick.there)); done)) | (apply Take.pure; (first | assumption | omega)))); try rfl); simp only [Value.int.injEq, true_and]; unfold zigM)
  all_goals (repeat' split)
  all_goals omega
theorem rzig_spec (x : Int) : Spec P 35 [.int .i64 x] [] fun v R => v = .int .i64 (zigM x) ∧ R = [] := by
  refine Spec.of (fn := Try.f35) (by rw [hP.eq]; exact Try.func35) (by kernel_rfl) rfl Try.ntmps35 rfl rfl ?_
  repeat' (first
    | (show WL _ _ _ _ _ _ _; first
      | (apply wl_calc; exact rfl; exact True.intro; exact rfl)
      | refine WL.nil ?_
      | (apply wl_ld; exact rfl; exact rfl; ((repeat (first | exact Pick.here | apply Pick.there))); exact rfl; exact rfl)
      | (apply wl_calc; exact rfl; ((try simp only [inR]); omega); exact rfl)
      | (apply wl_store; exact rfl; exact rfl; exact rfl; ((repeat (first | exact Pick.here | apply Pick.there))); exact rfl)
      | (apply wl_ixI; exact rfl; exact rfl; exact rfl; exact rfl; exact rfl; ((repeat (first | exact Pick.here | apply Pick.there))); exact rfl; exact rfl; omega; exact rfl)
      | (apply wl_ldEI; exact rfl; exact rfl; ((repeat (first | exact Pick.here | apply Pick.there))); exact rfl; assumption; exact rfl; exact rfl)
      | (apply wl_fldE; exact rfl; exact rfl; exact rfl; exact rfl; exact rfl)
      | (apply wl_ixO; exact rfl; exact rfl; exact rfl; exact rfl; exact rfl; ((repeat (first | exact Pick.here | apply Pick.there))); exact rfl; exact rfl; omega; exact rfl)
      | (apply wl_ldEO; exact rfl; exact rfl; ((repeat (first | exact Pick.here | apply Pick.there))); exact rfl; assumption; exact rfl; exact rfl)
      | (apply wl_guard; exact rfl; exact rfl; exact rfl; exact rfl)
      | (apply wl_gno; exact rfl; exact rfl; exact rfl; exact rfl; exact rfl)
      | (apply wl_gsplit; exact rfl; exact rfl; exact rfl; exact rfl; all_goals (intro h; (try simp only [reduceCtorEq, not_true_eq_false, not_false_eq_true, decide_eq_true_eq, decide_eq_false_iff_not, Bool.not_eq_true', Bool.not_eq_false', Bool.not_true, Bool.not_false, Int.not_lt, Int.not_le, ne_eq, Decidable.not_not] at h); (try (exfalso; omega))))
      | (apply wl_rem; exact rfl; exact rfl; omega; exact rfl)
      | (apply wl_row; (iterate 7 (exact rfl)); intro b1)
      | (apply wl_box; exact rfl; exact rfl; exact rfl; intro b1))
    | (show WC _ _ _ _ _ _; first
      | refine WC.seq ?_
      | (apply WC.region; exact rfl)
      | (apply WC.condT; exact rfl)
      | (apply WC.condF; exact rfl)
      | (apply WC.cond; exact rfl; all_goals (intro h; (try simp only [reduceCtorEq, not_true_eq_false, not_false_eq_true, decide_eq_true_eq, decide_eq_false_iff_not, Bool.not_eq_true', Bool.not_eq_false', Bool.not_true, Bool.not_false, Int.not_lt, Int.not_le, ne_eq, Decidable.not_not] at h); (try (exfalso; omega))))
      | refine WC.block ?_
      | refine WC.skip ?_
      | refine WC.ret ?_
      | refine WC.exit ?_)
    | refine Qseq.nm ?_
    | refine Qseq.r ?_
    | refine Qseq.x ?_
    | refine Qblock.nm ?_
    | refine Qblock.r ?_
    | (apply Qblock.t; exact rfl)
    | (apply Qblock.f; exact rfl)
    | refine Qmx.r ?_
    | refine Qmx.nm ?_
    | (apply Qmx.f; exact rfl)
    | refine Qmn.r ?_
    | refine Qmn.x ?_
    | refine Qloop.r ?_
    | refine Qloop.x ?_
    | (apply Qfn.one; exact rfl)
    | (apply Qfn.two; exact rfl; exact rfl)
    | (apply Qfn.three; exact rfl; exact rfl; exact rfl)
    | refine Qfn.zero ?_
    | refine Qfn.zeroN ?_)
  all_goals ((refine ⟨_, ?_, ?_, rfl⟩; exact Take.fin (by repeat (first | exact Take.nil | (apply Take.keepI; focus ((repeat (first | exact Pick.here | apply Pick.there)); done)) | (apply Take.cons; focus ((repeat (first | exact Pick.here | apply Pick.there)); done)) | (apply Take.pure; (first | assumption | omega)))); try rfl); simp only [Value.int.injEq, true_and]; unfold zigM)
  all_goals (repeat' split)
  all_goals omega
theorem zag_spec (x : Int) : Spec P 36 [.int .i64 x] [] fun v R => v = .int .i64 (zagM x) ∧ R = [] := by
  refine Spec.of (fn := Try.f36) (by rw [hP.eq]; exact Try.func36) (by kernel_rfl) rfl Try.ntmps36 rfl rfl ?_
  repeat' (first
    | (show WL _ _ _ _ _ _ _; first
      | (apply wl_calc; exact rfl; exact True.intro; exact rfl)
      | refine WL.nil ?_
      | (apply wl_ld; exact rfl; exact rfl; ((repeat (first | exact Pick.here | apply Pick.there))); exact rfl; exact rfl)
      | (apply wl_calc; exact rfl; ((try simp only [inR]); omega); exact rfl)
      | (apply wl_store; exact rfl; exact rfl; exact rfl; ((repeat (first | exact Pick.here | apply Pick.there))); exact rfl)
      | (apply wl_ixI; exact rfl; exact rfl; exact rfl; exact rfl; exact rfl; ((repeat (first | exact Pick.here | apply Pick.there))); exact rfl; exact rfl; omega; exact rfl)
      | (apply wl_ldEI; exact rfl; exact rfl; ((repeat (first | exact Pick.here | apply Pick.there))); exact rfl; assumption; exact rfl; exact rfl)
      | (apply wl_fldE; exact rfl; exact rfl; exact rfl; exact rfl; exact rfl)
      | (apply wl_ixO; exact rfl; exact rfl; exact rfl; exact rfl; exact rfl; ((repeat (first | exact Pick.here | apply Pick.there))); exact rfl; exact rfl; omega; exact rfl)
      | (apply wl_ldEO; exact rfl; exact rfl; ((repeat (first | exact Pick.here | apply Pick.there))); exact rfl; assumption; exact rfl; exact rfl)
      | (apply wl_guard; exact rfl; exact rfl; exact rfl; exact rfl)
      | (apply wl_gno; exact rfl; exact rfl; exact rfl; exact rfl; exact rfl)
      | (apply wl_gsplit; exact rfl; exact rfl; exact rfl; exact rfl; all_goals (intro h; (try simp only [reduceCtorEq, not_true_eq_false, not_false_eq_true, decide_eq_true_eq, decide_eq_false_iff_not, Bool.not_eq_true', Bool.not_eq_false', Bool.not_true, Bool.not_false, Int.not_lt, Int.not_le, ne_eq, Decidable.not_not] at h); (try (exfalso; omega))))
      | (apply wl_rem; exact rfl; exact rfl; omega; exact rfl)
      | (apply wl_row; (iterate 7 (exact rfl)); intro b1)
      | (apply wl_box; exact rfl; exact rfl; exact rfl; intro b1))
    | (show WC _ _ _ _ _ _; first
      | refine WC.seq ?_
      | (apply WC.region; exact rfl)
      | (apply WC.condT; exact rfl)
      | (apply WC.condF; exact rfl)
      | (apply WC.cond; exact rfl; all_goals (intro h; (try simp only [reduceCtorEq, not_true_eq_false, not_false_eq_true, decide_eq_true_eq, decide_eq_false_iff_not, Bool.not_eq_true', Bool.not_eq_false', Bool.not_true, Bool.not_false, Int.not_lt, Int.not_le, ne_eq, Decidable.not_not] at h); (try (exfalso; omega))))
      | refine WC.block ?_
      | refine WC.skip ?_
      | refine WC.ret ?_
      | refine WC.exit ?_)
    | refine Qseq.nm ?_
    | refine Qseq.r ?_
    | refine Qseq.x ?_
    | refine Qblock.nm ?_
    | refine Qblock.r ?_
    | (apply Qblock.t; exact rfl)
    | (apply Qblock.f; exact rfl)
    | refine Qmx.r ?_
    | refine Qmx.nm ?_
    | (apply Qmx.f; exact rfl)
    | refine Qmn.r ?_
    | refine Qmn.x ?_
    | refine Qloop.r ?_
    | refine Qloop.x ?_
    | (apply Qfn.one; exact rfl)
    | (apply Qfn.two; exact rfl; exact rfl)
    | (apply Qfn.three; exact rfl; exact rfl; exact rfl)
    | refine Qfn.zero ?_
    | refine Qfn.zeroN ?_)
  · (refine ⟨_, ?_, ?_, rfl⟩; exact Take.fin (by repeat (first | exact Take.nil | (apply Take.keepI; focus ((repeat (first | exact Pick.here | apply Pick.there)); done)) | (apply Take.cons; focus ((repeat (first | exact Pick.here | apply Pick.there)); done)) | (apply Take.pure; (first | assumption | omega)))); try rfl)
    simp only [Value.int.injEq, true_and]; unfold zagM
    rw [if_pos (by omega)]
  · refine wl_quo (-((x + 1) / 2)) rfl rfl (by omega) ?_ rfl ?_
    · rw [Int.neg_tdiv, Int.tdiv_eq_ediv_of_nonneg (by omega)]
      exact inR.wrap (by simp only [inR]; omega)
    repeat' (first
      | (show WL _ _ _ _ _ _ _; first
        | (apply wl_calc; exact rfl; exact True.intro; exact rfl)
        | refine WL.nil ?_
        | (apply wl_ld; exact rfl; exact rfl; ((repeat (first | exact Pick.here | apply Pick.there))); exact rfl; exact rfl)
        | (apply wl_calc; exact rfl; ((try simp only [inR]); omega); exact rfl)
        | (apply wl_store; exact rfl; exact rfl; exact rfl; ((repeat (first | exact Pick.here | apply Pick.there))); exact rfl)
        | (apply wl_ixI; exact rfl; exact rfl; exact rfl; exact rfl; exact rfl; ((repeat (first | exact Pick.here | apply Pick.there))); exact rfl; exact rfl; omega; exact rfl)
        | (apply wl_ldEI; exact rfl; exact rfl; ((repeat (first | exact Pick.here | apply Pick.there))); exact rfl; assumption; exact rfl; exact rfl)
        | (apply wl_fldE; exact rfl; exact rfl; exact rfl; exact rfl; exact rfl)
        | (apply wl_ixO; exact rfl; exact rfl; exact rfl; exact rfl; exact rfl; ((repeat (first | exact Pick.here | apply Pick.there))); exact rfl; exact rfl; omega; exact rfl)
        | (apply wl_ldEO; exact rfl; exact rfl; ((repeat (first | exact Pick.here | apply Pick.there))); exact rfl; assumption; exact rfl; exact rfl)
        | (apply wl_guard; exact rfl; exact rfl; exact rfl; exact rfl)
        | (apply wl_gno; exact rfl; exact rfl; exact rfl; exact rfl; exact rfl)
        | (apply wl_gsplit; exact rfl; exact rfl; exact rfl; exact rfl; all_goals (intro h; (try simp only [reduceCtorEq, not_true_eq_false, not_false_eq_true, decide_eq_true_eq, decide_eq_false_iff_not, Bool.not_eq_true', Bool.not_eq_false', Bool.not_true, Bool.not_false, Int.not_lt, Int.not_le, ne_eq, Decidable.not_not] at h); (try (exfalso; omega))))
        | (apply wl_rem; exact rfl; exact rfl; omega; exact rfl)
        | (apply wl_row; (iterate 7 (exact rfl)); intro b1)
        | (apply wl_box; exact rfl; exact rfl; exact rfl; intro b1))
      | (show WC _ _ _ _ _ _; first
        | refine WC.seq ?_
        | (apply WC.region; exact rfl)
        | (apply WC.condT; exact rfl)
        | (apply WC.condF; exact rfl)
        | (apply WC.cond; exact rfl; all_goals (intro h; (try simp only [reduceCtorEq, not_true_eq_false, not_false_eq_true, decide_eq_true_eq, decide_eq_false_iff_not, Bool.not_eq_true', Bool.not_eq_false', Bool.not_true, Bool.not_false, Int.not_lt, Int.not_le, ne_eq, Decidable.not_not] at h); (try (exfalso; omega))))
        | refine WC.block ?_
        | refine WC.skip ?_
        | refine WC.ret ?_
        | refine WC.exit ?_)
      | refine Qseq.nm ?_
      | refine Qseq.r ?_
      | refine Qseq.x ?_
      | refine Qblock.nm ?_
      | refine Qblock.r ?_
      | (apply Qblock.t; exact rfl)
      | (apply Qblock.f; exact rfl)
      | refine Qmx.r ?_
      | refine Qmx.nm ?_
      | (apply Qmx.f; exact rfl)
      | refine Qmn.r ?_
      | refine Qmn.x ?_
      | refine Qloop.r ?_
      | refine Qloop.x ?_
      | (apply Qfn.one; exact rfl)
      | (apply Qfn.two; exact rfl; exact rfl)
      | (apply Qfn.three; exact rfl; exact rfl; exact rfl)
      | refine Qfn.zero ?_
      | refine Qfn.zeroN ?_)
    (refine ⟨_, ?_, ?_, rfl⟩; exact Take.fin (by repeat (first | exact Take.nil | (apply Take.keepI; focus ((repeat (first | exact Pick.here | apply Pick.there)); done)) | (apply Take.cons; focus ((repeat (first | exact Pick.here | apply Pick.there)); done)) | (apply Take.pure; (first | assumption | omega)))); try rfl)
    simp only [Value.int.injEq, true_and]; unfold zagM
    rw [if_neg (by omega), if_pos (by omega)]
  · (refine ⟨_, ?_, ?_, rfl⟩; exact Take.fin (by repeat (first | exact Take.nil | (apply Take.keepI; focus ((repeat (first | exact Pick.here | apply Pick.there)); done)) | (apply Take.cons; focus ((repeat (first | exact Pick.here | apply Pick.there)); done)) | (apply Take.pure; (first | assumption | omega)))); try rfl)
    simp only [Value.int.injEq, true_and]; unfold zagM
    rw [if_neg (by omega), if_neg (by omega)]
  · (refine ⟨_, ?_, ?_, rfl⟩; exact Take.fin (by repeat (first | exact Take.nil | (apply Take.keepI; focus ((repeat (first | exact Pick.here | apply Pick.there)); done)) | (apply Take.cons; focus ((repeat (first | exact Pick.here | apply Pick.there)); done)) | (apply Take.pure; (first | assumption | omega)))); try rfl)
    simp only [Value.int.injEq, true_and]; unfold zagM
    rw [if_pos (by omega)]
theorem rzag_spec (x : Int) : Spec P 37 [.int .i64 x] [] fun v R => v = .int .i64 (zagM x) ∧ R = [] := by
  refine Spec.of (fn := Try.f37) (by rw [hP.eq]; exact Try.func37) (by kernel_rfl) rfl Try.ntmps37 rfl rfl ?_
  repeat' (first
    | (show WL _ _ _ _ _ _ _; first
      | (apply wl_calc; exact rfl; exact True.intro; exact rfl)
      | refine WL.nil ?_
      | (apply wl_ld; exact rfl; exact rfl; ((repeat (first | exact Pick.here | apply Pick.there))); exact rfl; exact rfl)
      | (apply wl_calc; exact rfl; ((try simp only [inR]); omega); exact rfl)
      | (apply wl_store; exact rfl; exact rfl; exact rfl; ((repeat (first | exact Pick.here | apply Pick.there))); exact rfl)
      | (apply wl_ixI; exact rfl; exact rfl; exact rfl; exact rfl; exact rfl; ((repeat (first | exact Pick.here | apply Pick.there))); exact rfl; exact rfl; omega; exact rfl)
      | (apply wl_ldEI; exact rfl; exact rfl; ((repeat (first | exact Pick.here | apply Pick.there))); exact rfl; assumption; exact rfl; exact rfl)
      | (apply wl_fldE; exact rfl; exact rfl; exact rfl; exact rfl; exact rfl)
      | (apply wl_ixO; exact rfl; exact rfl; exact rfl; exact rfl; exact rfl; ((repeat (first | exact Pick.here | apply Pick.there))); exact rfl; exact rfl; omega; exact rfl)
      | (apply wl_ldEO; exact rfl; exact rfl; ((repeat (first | exact Pick.here | apply Pick.there))); exact rfl; assumption; exact rfl; exact rfl)
      | (apply wl_guard; exact rfl; exact rfl; exact rfl; exact rfl)
      | (apply wl_gno; exact rfl; exact rfl; exact rfl; exact rfl; exact rfl)
      | (apply wl_gsplit; exact rfl; exact rfl; exact rfl; exact rfl; all_goals (intro h; (try simp only [reduceCtorEq, not_true_eq_false, not_false_eq_true, decide_eq_true_eq, decide_eq_false_iff_not, Bool.not_eq_true', Bool.not_eq_false', Bool.not_true, Bool.not_false, Int.not_lt, Int.not_le, ne_eq, Decidable.not_not] at h); (try (exfalso; omega))))
      | (apply wl_rem; exact rfl; exact rfl; omega; exact rfl)
      | (apply wl_row; (iterate 7 (exact rfl)); intro b1)
      | (apply wl_box; exact rfl; exact rfl; exact rfl; intro b1))
    | (show WC _ _ _ _ _ _; first
      | refine WC.seq ?_
      | (apply WC.region; exact rfl)
      | (apply WC.condT; exact rfl)
      | (apply WC.condF; exact rfl)
      | (apply WC.cond; exact rfl; all_goals (intro h; (try simp only [reduceCtorEq, not_true_eq_false, not_false_eq_true, decide_eq_true_eq, decide_eq_false_iff_not, Bool.not_eq_true', Bool.not_eq_false', Bool.not_true, Bool.not_false, Int.not_lt, Int.not_le, ne_eq, Decidable.not_not] at h); (try (exfalso; omega))))
      | refine WC.block ?_
      | refine WC.skip ?_
      | refine WC.ret ?_
      | refine WC.exit ?_)
    | refine Qseq.nm ?_
    | refine Qseq.r ?_
    | refine Qseq.x ?_
    | refine Qblock.nm ?_
    | refine Qblock.r ?_
    | (apply Qblock.t; exact rfl)
    | (apply Qblock.f; exact rfl)
    | refine Qmx.r ?_
    | refine Qmx.nm ?_
    | (apply Qmx.f; exact rfl)
    | refine Qmn.r ?_
    | refine Qmn.x ?_
    | refine Qloop.r ?_
    | refine Qloop.x ?_
    | (apply Qfn.one; exact rfl)
    | (apply Qfn.two; exact rfl; exact rfl)
    | (apply Qfn.three; exact rfl; exact rfl; exact rfl)
    | refine Qfn.zero ?_
    | refine Qfn.zeroN ?_)
  · (refine ⟨_, ?_, ?_, rfl⟩; exact Take.fin (by repeat (first | exact Take.nil | (apply Take.keepI; focus ((repeat (first | exact Pick.here | apply Pick.there)); done)) | (apply Take.cons; focus ((repeat (first | exact Pick.here | apply Pick.there)); done)) | (apply Take.pure; (first | assumption | omega)))); try rfl)
    simp only [Value.int.injEq, true_and]; unfold zagM
    rw [if_pos (by omega)]
  · refine wl_quo (-((x + 1) / 2)) rfl rfl (by omega) ?_ rfl ?_
    · rw [Int.neg_tdiv, Int.tdiv_eq_ediv_of_nonneg (by omega)]
      exact inR.wrap (by simp only [inR]; omega)
    repeat' (first
      | (show WL _ _ _ _ _ _ _; first
        | (apply wl_calc; exact rfl; exact True.intro; exact rfl)
        | refine WL.nil ?_
        | (apply wl_ld; exact rfl; exact rfl; ((repeat (first | exact Pick.here | apply Pick.there))); exact rfl; exact rfl)
        | (apply wl_calc; exact rfl; ((try simp only [inR]); omega); exact rfl)
        | (apply wl_store; exact rfl; exact rfl; exact rfl; ((repeat (first | exact Pick.here | apply Pick.there))); exact rfl)
        | (apply wl_ixI; exact rfl; exact rfl; exact rfl; exact rfl; exact rfl; ((repeat (first | exact Pick.here | apply Pick.there))); exact rfl; exact rfl; omega; exact rfl)
        | (apply wl_ldEI; exact rfl; exact rfl; ((repeat (first | exact Pick.here | apply Pick.there))); exact rfl; assumption; exact rfl; exact rfl)
        | (apply wl_fldE; exact rfl; exact rfl; exact rfl; exact rfl; exact rfl)
        | (apply wl_ixO; exact rfl; exact rfl; exact rfl; exact rfl; exact rfl; ((repeat (first | exact Pick.here | apply Pick.there))); exact rfl; exact rfl; omega; exact rfl)
        | (apply wl_ldEO; exact rfl; exact rfl; ((repeat (first | exact Pick.here | apply Pick.there))); exact rfl; assumption; exact rfl; exact rfl)
        | (apply wl_guard; exact rfl; exact rfl; exact rfl; exact rfl)
        | (apply wl_gno; exact rfl; exact rfl; exact rfl; exact rfl; exact rfl)
        | (apply wl_gsplit; exact rfl; exact rfl; exact rfl; exact rfl; all_goals (intro h; (try simp only [reduceCtorEq, not_true_eq_false, not_false_eq_true, decide_eq_true_eq, decide_eq_false_iff_not, Bool.not_eq_true', Bool.not_eq_false', Bool.not_true, Bool.not_false, Int.not_lt, Int.not_le, ne_eq, Decidable.not_not] at h); (try (exfalso; omega))))
        | (apply wl_rem; exact rfl; exact rfl; omega; exact rfl)
        | (apply wl_row; (iterate 7 (exact rfl)); intro b1)
        | (apply wl_box; exact rfl; exact rfl; exact rfl; intro b1))
      | (show WC _ _ _ _ _ _; first
        | refine WC.seq ?_
        | (apply WC.region; exact rfl)
        | (apply WC.condT; exact rfl)
        | (apply WC.condF; exact rfl)
        | (apply WC.cond; exact rfl; all_goals (intro h; (try simp only [reduceCtorEq, not_true_eq_false, not_false_eq_true, decide_eq_true_eq, decide_eq_false_iff_not, Bool.not_eq_true', Bool.not_eq_false', Bool.not_true, Bool.not_false, Int.not_lt, Int.not_le, ne_eq, Decidable.not_not] at h); (try (exfalso; omega))))
        | refine WC.block ?_
        | refine WC.skip ?_
        | refine WC.ret ?_
        | refine WC.exit ?_)
      | refine Qseq.nm ?_
      | refine Qseq.r ?_
      | refine Qseq.x ?_
      | refine Qblock.nm ?_
      | refine Qblock.r ?_
      | (apply Qblock.t; exact rfl)
      | (apply Qblock.f; exact rfl)
      | refine Qmx.r ?_
      | refine Qmx.nm ?_
      | (apply Qmx.f; exact rfl)
      | refine Qmn.r ?_
      | refine Qmn.x ?_
      | refine Qloop.r ?_
      | refine Qloop.x ?_
      | (apply Qfn.one; exact rfl)
      | (apply Qfn.two; exact rfl; exact rfl)
      | (apply Qfn.three; exact rfl; exact rfl; exact rfl)
      | refine Qfn.zero ?_
      | refine Qfn.zeroN ?_)
    (refine ⟨_, ?_, ?_, rfl⟩; exact Take.fin (by repeat (first | exact Take.nil | (apply Take.keepI; focus ((repeat (first | exact Pick.here | apply Pick.there)); done)) | (apply Take.cons; focus ((repeat (first | exact Pick.here | apply Pick.there)); done)) | (apply Take.pure; (first | assumption | omega)))); try rfl)
    simp only [Value.int.injEq, true_and]; unfold zagM
    rw [if_neg (by omega), if_pos (by omega)]
  · (refine ⟨_, ?_, ?_, rfl⟩; exact Take.fin (by repeat (first | exact Take.nil | (apply Take.keepI; focus ((repeat (first | exact Pick.here | apply Pick.there)); done)) | (apply Take.cons; focus ((repeat (first | exact Pick.here | apply Pick.there)); done)) | (apply Take.pure; (first | assumption | omega)))); try rfl)
    simp only [Value.int.injEq, true_and]; unfold zagM
    rw [if_neg (by omega), if_neg (by omega)]
  · (refine ⟨_, ?_, ?_, rfl⟩; exact Take.fin (by repeat (first | exact Take.nil | (apply Take.keepI; focus ((repeat (first | exact Pick.here | apply Pick.there)); done)) | (apply Take.cons; focus ((repeat (first | exact Pick.here | apply Pick.there)); done)) | (apply Take.pure; (first | assumption | omega)))); try rfl)
    simp only [Value.int.injEq, true_and]; unfold zagM
    rw [if_pos (by omega)]

theorem pow_shift (r : Nat) : (2 : Int) ^ (8 * (r : Int)).toNat = 256 ^ r := by
  rw [show (8 * (r : Int)).toNat = 8 * r from by omega, Int.pow_mul]; rfl
theorem size_le (x : Int) : sizeM x ≤ 8 := by rcases size_cases x with h | h | h | h | h <;> omega
theorem put_spec (x : Int) (hx : -9223372036854775808 ≤ x ∧ x ≤ 9223372036854775807) : Spec P 16 [.int .i64 x] [] fun v R => ∃ a c, v = .slice a (putM x).length c ∧ R = [OSl EB 5 a c (putM x)] := by
  have hs8 := size_le x
  refine Spec.of (fn := Try.f16) (by rw [hP.eq]; exact Try.func16) (by kernel_rfl) rfl Try.ntmps16 rfl rfl ?_
  repeat' (first
    | (show WL _ _ _ _ _ _ _; first
      | (apply wl_calc; exact rfl; exact True.intro; exact rfl)
      | refine WL.nil ?_
      | (apply wl_ld; exact rfl; exact rfl; ((repeat (first | exact Pick.here | apply Pick.there))); exact rfl; exact rfl)
      | (apply wl_calc; exact rfl; ((try simp only [inR]); omega); exact rfl)
      | (apply wl_store; exact rfl; exact rfl; exact rfl; ((repeat (first | exact Pick.here | apply Pick.there))); exact rfl)
      | (apply wl_ixI; exact rfl; exact rfl; exact rfl; exact rfl; exact rfl; ((repeat (first | exact Pick.here | apply Pick.there))); exact rfl; exact rfl; omega; exact rfl)
      | (apply wl_ldEI; exact rfl; exact rfl; ((repeat (first | exact Pick.here | apply Pick.there))); exact rfl; assumption; exact rfl; exact rfl)
      | (apply wl_fldE; exact rfl; exact rfl; exact rfl; exact rfl; exact rfl)
      | (apply wl_ixO; exact rfl; exact rfl; exact rfl; exact rfl; exact rfl; ((repeat (first | exact Pick.here | apply Pick.there))); exact rfl; exact rfl; omega; exact rfl)
      | (apply wl_ldEO; exact rfl; exact rfl; ((repeat (first | exact Pick.here | apply Pick.there))); exact rfl; assumption; exact rfl; exact rfl)
      | (apply wl_guard; exact rfl; exact rfl; exact rfl; exact rfl)
      | (apply wl_gno; exact rfl; exact rfl; exact rfl; exact rfl; exact rfl)
      | (apply wl_gsplit; exact rfl; exact rfl; exact rfl; exact rfl; all_goals (intro h; (try simp only [reduceCtorEq, not_true_eq_false, not_false_eq_true, decide_eq_true_eq, decide_eq_false_iff_not, Bool.not_eq_true', Bool.not_eq_false', Bool.not_true, Bool.not_false, Int.not_lt, Int.not_le, ne_eq, Decidable.not_not] at h); (try (exfalso; omega))))
      | (apply wl_rem; exact rfl; exact rfl; omega; exact rfl)
      | (apply wl_row; (iterate 7 (exact rfl)); intro b1)
      | (apply wl_box; exact rfl; exact rfl; exact rfl; intro b1))
    | (show WC _ _ _ _ _ _; first
      | refine WC.seq ?_
      | (apply WC.region; exact rfl)
      | (apply WC.condT; exact rfl)
      | (apply WC.condF; exact rfl)
      | (apply WC.cond; exact rfl; all_goals (intro h; (try simp only [reduceCtorEq, not_true_eq_false, not_false_eq_true, decide_eq_true_eq, decide_eq_false_iff_not, Bool.not_eq_true', Bool.not_eq_false', Bool.not_true, Bool.not_false, Int.not_lt, Int.not_le, ne_eq, Decidable.not_not] at h); (try (exfalso; omega))))
      | refine WC.block ?_
      | refine WC.skip ?_
      | refine WC.ret ?_
      | refine WC.exit ?_)
    | refine Qseq.nm ?_
    | refine Qseq.r ?_
    | refine Qseq.x ?_
    | refine Qblock.nm ?_
    | refine Qblock.r ?_
    | (apply Qblock.t; exact rfl)
    | (apply Qblock.f; exact rfl)
    | refine Qmx.r ?_
    | refine Qmx.nm ?_
    | (apply Qmx.f; exact rfl)
    | refine Qmn.r ?_
    | refine Qmn.x ?_
    | refine Qloop.r ?_
    | refine Qloop.x ?_
    | (apply Qfn.one; exact rfl)
    | (apply Qfn.two; exact rfl; exact rfl)
    | (apply Qfn.three; exact rfl; exact rfl; exact rfl)
    | refine Qfn.zero ?_
    | refine Qfn.zeroN ?_)
  refine wl_call rfl rfl rfl (size_spec x) (by repeat (first | exact Take.nil | (apply Take.keepI; focus ((repeat (first | exact Pick.here | apply Pick.there)); done)) | (apply Take.cons; focus ((repeat (first | exact Pick.here | apply Pick.there)); done)) | (apply Take.pure; (first | assumption | omega)))) ?_
  rintro _ _ ⟨rfl, rfl⟩
  repeat' (first
    | (show WL _ _ _ _ _ _ _; first
      | (apply wl_calc; exact rfl; exact True.intro; exact rfl)
      | refine WL.nil ?_
      | (apply wl_ld; exact rfl; exact rfl; ((repeat (first | exact Pick.here | apply Pick.there))); exact rfl; exact rfl)
      | (apply wl_calc; exact rfl; ((try simp only [inR]); omega); exact rfl)
      | (apply wl_store; exact rfl; exact rfl; exact rfl; ((repeat (first | exact Pick.here | apply Pick.there))); exact rfl)
      | (apply wl_ixI; exact rfl; exact rfl; exact rfl; exact rfl; exact rfl; ((repeat (first | exact Pick.here | apply Pick.there))); exact rfl; exact rfl; omega; exact rfl)
      | (apply wl_ldEI; exact rfl; exact rfl; ((repeat (first | exact Pick.here | apply Pick.there))); exact rfl; assumption; exact rfl; exact rfl)
      | (apply wl_fldE; exact rfl; exact rfl; exact rfl; exact rfl; exact rfl)
      | (apply wl_ixO; exact rfl; exact rfl; exact rfl; exact rfl; exact rfl; ((repeat (first | exact Pick.here | apply Pick.there))); exact rfl; exact rfl; omega; exact rfl)
      | (apply wl_ldEO; exact rfl; exact rfl; ((repeat (first | exact Pick.here | apply Pick.there))); exact rfl; assumption; exact rfl; exact rfl)
      | (apply wl_guard; exact rfl; exact rfl; exact rfl; exact rfl)
      | (apply wl_gno; exact rfl; exact rfl; exact rfl; exact rfl; exact rfl)
      | (apply wl_gsplit; exact rfl; exact rfl; exact rfl; exact rfl; all_goals (intro h; (try simp only [reduceCtorEq, not_true_eq_false, not_false_eq_true, decide_eq_true_eq, decide_eq_false_iff_not, Bool.not_eq_true', Bool.not_eq_false', Bool.not_true, Bool.not_false, Int.not_lt, Int.not_le, ne_eq, Decidable.not_not] at h); (try (exfalso; omega))))
      | (apply wl_rem; exact rfl; exact rfl; omega; exact rfl)
      | (apply wl_row; (iterate 7 (exact rfl)); intro b1)
      | (apply wl_box; exact rfl; exact rfl; exact rfl; intro b1))
    | (show WC _ _ _ _ _ _; first
      | refine WC.seq ?_
      | (apply WC.region; exact rfl)
      | (apply WC.condT; exact rfl)
      | (apply WC.condF; exact rfl)
      | (apply WC.cond; exact rfl; all_goals (intro h; (try simp only [reduceCtorEq, not_true_eq_false, not_false_eq_true, decide_eq_true_eq, decide_eq_false_iff_not, Bool.not_eq_true', Bool.not_eq_false', Bool.not_true, Bool.not_false, Int.not_lt, Int.not_le, ne_eq, Decidable.not_not] at h); (try (exfalso; omega))))
      | refine WC.block ?_
      | refine WC.skip ?_
      | refine WC.ret ?_
      | refine WC.exit ?_)
    | refine Qseq.nm ?_
    | refine Qseq.r ?_
    | refine Qseq.x ?_
    | refine Qblock.nm ?_
    | refine Qblock.r ?_
    | (apply Qblock.t; exact rfl)
    | (apply Qblock.f; exact rfl)
    | refine Qmx.r ?_
    | refine Qmx.nm ?_
    | (apply Qmx.f; exact rfl)
    | refine Qmn.r ?_
    | refine Qmn.x ?_
    | refine Qloop.r ?_
    | refine Qloop.x ?_
    | (apply Qfn.one; exact rfl)
    | (apply Qfn.two; exact rfl; exact rfl)
    | (apply Qfn.three; exact rfl; exact rfl; exact rfl)
    | refine Qfn.zero ?_
    | refine Qfn.zeroN ?_)
  refine WC.loop (fun k e H => ∃ (r : Nat) (i : Int) (a : Option Addr) (c : Nat) (ds : List Int), (r ≤ sizeM x ∧ i = (r : Int) - 1 ∧ ds ++ be r x = be (sizeM x) x) ∧ k = r ∧
    e = [(0, .int .i64 x), (3, .int .i64 (sizeM x)), (4, .slice a ds.length c), (5, .int .i64 i)] ∧ H = [OSl EB 5 a c ds]) (k := sizeM x) (by repeat (first | exact trivial | refine ⟨rfl, ?_⟩)) (OSl.nilE _ 5 _) ⟨sizeM x, (sizeM x : Int) - 1, none, 0, [], ⟨Nat.le_refl _, rfl, rfl⟩, rfl, rfl, rfl⟩ ?_
  rintro r _ _ ⟨_, i, a, c, ds, ⟨h1, h2, h3⟩, rfl, rfl, rfl⟩
  have hdl : ds.length + r = sizeM x := by have := congrArg List.length h3; simpa [be_len] using this
  repeat' (first
    | (show WL _ _ _ _ _ _ _; first
      | (apply wl_calc; exact rfl; exact True.intro; exact rfl)
      | refine WL.nil ?_
      | (apply wl_ld; exact rfl; exact rfl; ((repeat (first | exact Pick.here | apply Pick.there))); exact rfl; exact rfl)
      | (apply wl_calc; exact rfl; ((try simp only [inR]); omega); exact rfl)
      | (apply wl_store; exact rfl; exact rfl; exact rfl; ((repeat (first | exact Pick.here | apply Pick.there))); exact rfl)
      | (apply wl_ixI; exact rfl; exact rfl; exact rfl; exact rfl; exact rfl; ((repeat (first | exact Pick.here | apply Pick.there))); exact rfl; exact rfl; omega; exact rfl)
      | (apply wl_ldEI; exact rfl; exact rfl; ((repeat (first | exact Pick.here | apply Pick.there))); exact rfl; assumption; exact rfl; exact rfl)
      | (apply wl_fldE; exact rfl; exact rfl; exact rfl; exact rfl; exact rfl)
      | (apply wl_ixO; exact rfl; exact rfl; exact rfl; exact rfl; exact rfl; ((repeat (first | exact Pick.here | apply Pick.there))); exact rfl; exact rfl; omega; exact rfl)
      | (apply wl_ldEO; exact rfl; exact rfl; ((repeat (first | exact Pick.here | apply Pick.there))); exact rfl; assumption; exact rfl; exact rfl)
      | (apply wl_guard; exact rfl; exact rfl; exact rfl; exact rfl)
      | (apply wl_gno; exact rfl; exact rfl; exact rfl; exact rfl; exact rfl)
      | (apply wl_gsplit; exact rfl; exact rfl; exact rfl; exact rfl; all_goals (intro h; (try simp only [reduceCtorEq, not_true_eq_false, not_false_eq_true, decide_eq_true_eq, decide_eq_false_iff_not, Bool.not_eq_true', Bool.not_eq_false', Bool.not_true, Bool.not_false, Int.not_lt, Int.not_le, ne_eq, Decidable.not_not] at h); (try (exfalso; omega))))
      | (apply wl_rem; exact rfl; exact rfl; omega; exact rfl)
      | (apply wl_row; (iterate 7 (exact rfl)); intro b1)
      | (apply wl_box; exact rfl; exact rfl; exact rfl; intro b1))
    | (show WC _ _ _ _ _ _; first
      | refine WC.seq ?_
      | (apply WC.region; exact rfl)
      | (apply WC.condT; exact rfl)
      | (apply WC.condF; exact rfl)
      | (apply WC.cond; exact rfl; all_goals (intro h; (try simp only [reduceCtorEq, not_true_eq_false, not_false_eq_true, decide_eq_true_eq, decide_eq_false_iff_not, Bool.not_eq_true', Bool.not_eq_false', Bool.not_true, Bool.not_false, Int.not_lt, Int.not_le, ne_eq, Decidable.not_not] at h); (try (exfalso; omega))))
      | refine WC.block ?_
      | refine WC.skip ?_
      | refine WC.ret ?_
      | refine WC.exit ?_)
    | refine Qseq.nm ?_
    | refine Qseq.r ?_
    | refine Qseq.x ?_
    | refine Qblock.nm ?_
    | refine Qblock.r ?_
    | (apply Qblock.t; exact rfl)
    | (apply Qblock.f; exact rfl)
    | refine Qmx.r ?_
    | refine Qmx.nm ?_
    | (apply Qmx.f; exact rfl)
    | refine Qmn.r ?_
    | refine Qmn.x ?_
    | refine Qloop.r ?_
    | refine Qloop.x ?_
    | (apply Qfn.one; exact rfl)
    | (apply Qfn.two; exact rfl; exact rfl)
    | (apply Qfn.three; exact rfl; exact rfl; exact rfl)
    | refine Qfn.zero ?_
    | refine Qfn.zeroN ?_)
  · obtain ⟨r, rfl⟩ : ∃ r', r = r' + 1 := ⟨r - 1, by omega⟩
    have h2' : i = (r : Int) := by omega
    refine wl_shr (x / 256 ^ r) rfl rfl (by simp only [IntKind.bits]; omega) (by rw [h2', pow_shift]) rfl ?_
    refine wl_conv (x / 256 ^ r % 256) rfl rfl rfl rfl (u8wrap _) rfl ?_
    repeat' (first
      | (show WL _ _ _ _ _ _ _; first
        | (apply wl_calc; exact rfl; exact True.intro; exact rfl)
        | refine WL.nil ?_
        | (apply wl_ld; exact rfl; exact rfl; ((repeat (first | exact Pick.here | apply Pick.there))); exact rfl; exact rfl)
        | (apply wl_calc; exact rfl; ((try simp only [inR]); omega); exact rfl)
        | (apply wl_store; exact rfl; exact rfl; exact rfl; ((repeat (first | exact Pick.here | apply Pick.there))); exact rfl)
        | (apply wl_ixI; exact rfl; exact rfl; exact rfl; exact rfl; exact rfl; ((repeat (first | exact Pick.here | apply Pick.there))); exact rfl; exact rfl; omega; exact rfl)
        | (apply wl_ldEI; exact rfl; exact rfl; ((repeat (first | exact Pick.here | apply Pick.there))); exact rfl; assumption; exact rfl; exact rfl)
        | (apply wl_fldE; exact rfl; exact rfl; exact rfl; exact rfl; exact rfl)
        | (apply wl_ixO; exact rfl; exact rfl; exact rfl; exact rfl; exact rfl; ((repeat (first | exact Pick.here | apply Pick.there))); exact rfl; exact rfl; omega; exact rfl)
        | (apply wl_ldEO; exact rfl; exact rfl; ((repeat (first | exact Pick.here | apply Pick.there))); exact rfl; assumption; exact rfl; exact rfl)
        | (apply wl_guard; exact rfl; exact rfl; exact rfl; exact rfl)
        | (apply wl_gno; exact rfl; exact rfl; exact rfl; exact rfl; exact rfl)
        | (apply wl_gsplit; exact rfl; exact rfl; exact rfl; exact rfl; all_goals (intro h; (try simp only [reduceCtorEq, not_true_eq_false, not_false_eq_true, decide_eq_true_eq, decide_eq_false_iff_not, Bool.not_eq_true', Bool.not_eq_false', Bool.not_true, Bool.not_false, Int.not_lt, Int.not_le, ne_eq, Decidable.not_not] at h); (try (exfalso; omega))))
        | (apply wl_rem; exact rfl; exact rfl; omega; exact rfl)
        | (apply wl_row; (iterate 7 (exact rfl)); intro b1)
        | (apply wl_box; exact rfl; exact rfl; exact rfl; intro b1))
      | (show WC _ _ _ _ _ _; first
        | refine WC.seq ?_
        | (apply WC.region; exact rfl)
        | (apply WC.condT; exact rfl)
        | (apply WC.condF; exact rfl)
        | (apply WC.cond; exact rfl; all_goals (intro h; (try simp only [reduceCtorEq, not_true_eq_false, not_false_eq_true, decide_eq_true_eq, decide_eq_false_iff_not, Bool.not_eq_true', Bool.not_eq_false', Bool.not_true, Bool.not_false, Int.not_lt, Int.not_le, ne_eq, Decidable.not_not] at h); (try (exfalso; omega))))
        | refine WC.block ?_
        | refine WC.skip ?_
        | refine WC.ret ?_
        | refine WC.exit ?_)
      | refine Qseq.nm ?_
      | refine Qseq.r ?_
      | refine Qseq.x ?_
      | refine Qblock.nm ?_
      | refine Qblock.r ?_
      | (apply Qblock.t; exact rfl)
      | (apply Qblock.f; exact rfl)
      | refine Qmx.r ?_
      | refine Qmx.nm ?_
      | (apply Qmx.f; exact rfl)
      | refine Qmn.r ?_
      | refine Qmn.x ?_
      | refine Qloop.r ?_
      | refine Qloop.x ?_
      | (apply Qfn.one; exact rfl)
      | (apply Qfn.two; exact rfl; exact rfl)
      | (apply Qfn.three; exact rfl; exact rfl; exact rfl)
      | refine Qfn.zero ?_
      | refine Qfn.zeroN ?_)
    (apply wl_append1 (x / 256 ^ r % 256); exact rfl; exact rfl; exact rfl; exact rfl; exact rfl; exact rfl; (apply Ent.pick; ((repeat (first | exact Pick.here | apply Pick.there))); exact Ent.refl _); ((repeat (first | exact Pick.here | apply Pick.there))); exact rfl; (have := be_bytes (r + 1) x _ (List.mem_cons_self); exact this); exact rfl; exact rfl; exact rfl; exact rfl; exact rfl; exact rfl; (show (ds.length + 1) * 1 ≤ _; omega); exact rfl; intro a1 c1)
    repeat' (first
      | (show WL _ _ _ _ _ _ _; first
        | (apply wl_calc; exact rfl; exact True.intro; exact rfl)
        | refine WL.nil ?_
        | (apply wl_ld; exact rfl; exact rfl; ((repeat (first | exact Pick.here | apply Pick.there))); exact rfl; exact rfl)
        | (apply wl_calc; exact rfl; ((try simp only [inR]); omega); exact rfl)
        | (apply wl_store; exact rfl; exact rfl; exact rfl; ((repeat (first | exact Pick.here | apply Pick.there))); exact rfl)
        | (apply wl_ixI; exact rfl; exact rfl; exact rfl; exact rfl; exact rfl; ((repeat (first | exact Pick.here | apply Pick.there))); exact rfl; exact rfl; omega; exact rfl)
        | (apply wl_ldEI; exact rfl; exact rfl; ((repeat (first | exact Pick.here | apply Pick.there))); exact rfl; assumption; exact rfl; exact rfl)
        | (apply wl_fldE; exact rfl; exact rfl; exact rfl; exact rfl; exact rfl)
        | (apply wl_ixO; exact rfl; exact rfl; exact rfl; exact rfl; exact rfl; ((repeat (first | exact Pick.here | apply Pick.there))); exact rfl; exact rfl; omega; exact rfl)
        | (apply wl_ldEO; exact rfl; exact rfl; ((repeat (first | exact Pick.here | apply Pick.there))); exact rfl; assumption; exact rfl; exact rfl)
        | (apply wl_guard; exact rfl; exact rfl; exact rfl; exact rfl)
        | (apply wl_gno; exact rfl; exact rfl; exact rfl; exact rfl; exact rfl)
        | (apply wl_gsplit; exact rfl; exact rfl; exact rfl; exact rfl; all_goals (intro h; (try simp only [reduceCtorEq, not_true_eq_false, not_false_eq_true, decide_eq_true_eq, decide_eq_false_iff_not, Bool.not_eq_true', Bool.not_eq_false', Bool.not_true, Bool.not_false, Int.not_lt, Int.not_le, ne_eq, Decidable.not_not] at h); (try (exfalso; omega))))
        | (apply wl_rem; exact rfl; exact rfl; omega; exact rfl)
        | (apply wl_row; (iterate 7 (exact rfl)); intro b1)
        | (apply wl_box; exact rfl; exact rfl; exact rfl; intro b1))
      | (show WC _ _ _ _ _ _; first
        | refine WC.seq ?_
        | (apply WC.region; exact rfl)
        | (apply WC.condT; exact rfl)
        | (apply WC.condF; exact rfl)
        | (apply WC.cond; exact rfl; all_goals (intro h; (try simp only [reduceCtorEq, not_true_eq_false, not_false_eq_true, decide_eq_true_eq, decide_eq_false_iff_not, Bool.not_eq_true', Bool.not_eq_false', Bool.not_true, Bool.not_false, Int.not_lt, Int.not_le, ne_eq, Decidable.not_not] at h); (try (exfalso; omega))))
        | refine WC.block ?_
        | refine WC.skip ?_
        | refine WC.ret ?_
        | refine WC.exit ?_)
      | refine Qseq.nm ?_
      | refine Qseq.r ?_
      | refine Qseq.x ?_
      | refine Qblock.nm ?_
      | refine Qblock.r ?_
      | (apply Qblock.t; exact rfl)
      | (apply Qblock.f; exact rfl)
      | refine Qmx.r ?_
      | refine Qmx.nm ?_
      | (apply Qmx.f; exact rfl)
      | refine Qmn.r ?_
      | refine Qmn.x ?_
      | refine Qloop.r ?_
      | refine Qloop.x ?_
      | (apply Qfn.one; exact rfl)
      | (apply Qfn.two; exact rfl; exact rfl)
      | (apply Qfn.three; exact rfl; exact rfl; exact rfl)
      | refine Qfn.zero ?_
      | refine Qfn.zeroN ?_)
    refine Qloop.again r (by omega) (by repeat (first | exact trivial | refine ⟨rfl, ?_⟩)) (Ent.refl _) ⟨r, i - 1, _, _, _, ⟨by omega, by omega, ?_⟩, rfl, rfl, rfl⟩
    rw [← h3]; simp [be]
  · obtain rfl : r = 0 := by omega
    have hds : ds = be (sizeM x) x := by simpa [be] using h3
    obtain ⟨s, hs⟩ : ∃ s, sizeM x = s + 1 := ⟨sizeM x - 1, by omega⟩
    have hf := first hs
    have h0 : ds[(0 : Int).toNat]? = some (x / 256 ^ s % 256) := by rw [hds, hs]; rfl
    (apply wc_drawH 7 ([OSl EB 5 a c ds]) (H' := []); (first | exact Ent.refl _ | exact Take.fin (by repeat (first | exact Take.nil | (apply Take.keepI; focus ((repeat (first | exact Pick.here | apply Pick.there)); done)) | (apply Take.cons; focus ((repeat (first | exact Pick.here | apply Pick.there)); done)) | (apply Take.pure; (first | assumption | omega))))); exact rfl; (focus (simp only [List.length_cons, List.length_nil, Nat.zero_add, Nat.reduceAdd]; exact rfl)); kernel_rfl; kernel_rfl; kernel_rfl; kernel_rfl)
    repeat' (first
      | (show WA _ _ _ _ _ _ _ _ _ _ _; first
        | (apply wa_seq; exact rfl; (first | exact QuietT.calc rfl True.intro | (apply QuietT.load; exact rfl; exact rfl; ((repeat (first | exact Pick.here | apply Pick.there))); exact rfl) | (apply QuietT.calc; exact rfl; ((try simp only [inR]); omega)) | (apply QuietT.indexI; (iterate 5 (exact rfl)); ((repeat (first | exact Pick.here | apply Pick.there))); exact rfl; (first | exact rfl | omega); omega) | (apply QuietT.loadEI; exact rfl; exact rfl; ((repeat (first | exact Pick.here | apply Pick.there))); exact rfl; assumption; exact rfl) | (apply QuietT.fieldE; exact rfl; exact rfl; exact rfl; exact rfl) | (apply QuietT.indexO; (iterate 5 (exact rfl)); ((repeat (first | exact Pick.here | apply Pick.there))); exact rfl; (first | exact rfl | omega); omega) | (apply QuietT.loadEO; exact rfl; exact rfl; ((repeat (first | exact Pick.here | apply Pick.there))); exact rfl; assumption; exact rfl) | (apply QuietT.loadI; exact rfl; exact rfl; ((repeat (first | exact Pick.here | apply Pick.there))); exact rfl)); exact rfl; (iterate 4 (focus (kernel_rfl))); exact rfl)
        | (apply wa_seqN; exact rfl; exact rfl; exact rfl; exact rfl; exact rfl; exact rfl; (iterate 4 (focus (kernel_rfl))); exact rfl)
        | (apply wa_seqG; exact rfl; exact rfl; exact rfl; exact rfl; (first | exact QuietT.calc rfl True.intro | (apply QuietT.load; exact rfl; exact rfl; ((repeat (first | exact Pick.here | apply Pick.there))); exact rfl) | (apply QuietT.calc; exact rfl; ((try simp only [inR]); omega)) | (apply QuietT.indexI; (iterate 5 (exact rfl)); ((repeat (first | exact Pick.here | apply Pick.there))); exact rfl; (first | exact rfl | omega); omega) | (apply QuietT.loadEI; exact rfl; exact rfl; ((repeat (first | exact Pick.here | apply Pick.there))); exact rfl; assumption; exact rfl) | (apply QuietT.fieldE; exact rfl; exact rfl; exact rfl; exact rfl) | (apply QuietT.indexO; (iterate 5 (exact rfl)); ((repeat (first | exact Pick.here | apply Pick.there))); exact rfl; (first | exact rfl | omega); omega) | (apply QuietT.loadEO; exact rfl; exact rfl; ((repeat (first | exact Pick.here | apply Pick.there))); exact rfl; assumption; exact rfl) | (apply QuietT.loadI; exact rfl; exact rfl; ((repeat (first | exact Pick.here | apply Pick.there))); exact rfl)); exact rfl; (iterate 4 (focus (kernel_rfl))); exact rfl)
        | (apply wa_splitD; exact rfl; exact rfl; exact rfl; all_goals (intro h; (try simp only [reduceCtorEq, not_true_eq_false, not_false_eq_true, decide_eq_true_eq, decide_eq_false_iff_not, Bool.not_eq_true', Bool.not_eq_false', Bool.not_true, Bool.not_false, Int.not_lt, Int.not_le, ne_eq, Decidable.not_not] at h); (try (exfalso; omega))))
        | (apply wa_splitE; exact rfl; exact rfl; exact rfl; all_goals (intro h; (try simp only [reduceCtorEq, not_true_eq_false, not_false_eq_true, decide_eq_true_eq, decide_eq_false_iff_not, Bool.not_eq_true', Bool.not_eq_false', Bool.not_true, Bool.not_false, Int.not_lt, Int.not_le, ne_eq, Decidable.not_not] at h); (try (exfalso; omega))))
        | refine WA.end_ ?_)
      | (show WT _ _ _ _ 0 _ _ _; (refine wt_done ?_ ?_; kernel_rfl)))
    refine wa_call 4 rfl (by kernel_rfl) rfl rfl rfl (mark_spec _) (by repeat (first | exact Take.nil | (apply Take.keepI; focus ((repeat (first | exact Pick.here | apply Pick.there)); done)) | (apply Take.cons; focus ((repeat (first | exact Pick.here | apply Pick.there)); done)) | (apply Take.pure; (first | assumption | omega)))) ?_
    rintro _ _ ⟨rfl, rfl⟩
    refine ⟨[], Ent.refl _, ?_⟩
    repeat' (first
      | (show WA _ _ _ _ _ _ _ _ _ _ _; first
        | (apply wa_seq; exact rfl; (first | exact QuietT.calc rfl True.intro | (apply QuietT.load; exact rfl; exact rfl; ((repeat (first | exact Pick.here | apply Pick.there))); exact rfl) | (apply QuietT.calc; exact rfl; ((try simp only [inR]); omega)) | (apply QuietT.indexI; (iterate 5 (exact rfl)); ((repeat (first | exact Pick.here | apply Pick.there))); exact rfl; (first | exact rfl | omega); omega) | (apply QuietT.loadEI; exact rfl; exact rfl; ((repeat (first | exact Pick.here | apply Pick.there))); exact rfl; assumption; exact rfl) | (apply QuietT.fieldE; exact rfl; exact rfl; exact rfl; exact rfl) | (apply QuietT.indexO; (iterate 5 (exact rfl)); ((repeat (first | exact Pick.here | apply Pick.there))); exact rfl; (first | exact rfl | omega); omega) | (apply QuietT.loadEO; exact rfl; exact rfl; ((repeat (first | exact Pick.here | apply Pick.there))); exact rfl; assumption; exact rfl) | (apply QuietT.loadI; exact rfl; exact rfl; ((repeat (first | exact Pick.here | apply Pick.there))); exact rfl)); exact rfl; (iterate 4 (focus (kernel_rfl))); exact rfl)
        | (apply wa_seqN; exact rfl; exact rfl; exact rfl; exact rfl; exact rfl; exact rfl; (iterate 4 (focus (kernel_rfl))); exact rfl)
        | (apply wa_seqG; exact rfl; exact rfl; exact rfl; exact rfl; (first | exact QuietT.calc rfl True.intro | (apply QuietT.load; exact rfl; exact rfl; ((repeat (first | exact Pick.here | apply Pick.there))); exact rfl) | (apply QuietT.calc; exact rfl; ((try simp only [inR]); omega)) | (apply QuietT.indexI; (iterate 5 (exact rfl)); ((repeat (first | exact Pick.here | apply Pick.there))); exact rfl; (first | exact rfl | omega); omega) | (apply QuietT.loadEI; exact rfl; exact rfl; ((repeat (first | exact Pick.here | apply Pick.there))); exact rfl; assumption; exact rfl) | (apply QuietT.fieldE; exact rfl; exact rfl; exact rfl; exact rfl) | (apply QuietT.indexO; (iterate 5 (exact rfl)); ((repeat (first | exact Pick.here | apply Pick.there))); exact rfl; (first | exact rfl | omega); omega) | (apply QuietT.loadEO; exact rfl; exact rfl; ((repeat (first | exact Pick.here | apply Pick.there))); exact rfl; assumption; exact rfl) | (apply QuietT.loadI; exact rfl; exact rfl; ((repeat (first | exact Pick.here | apply Pick.there))); exact rfl)); exact rfl; (iterate 4 (focus (kernel_rfl))); exact rfl)
        | (apply wa_splitD; exact rfl; exact rfl; exact rfl; all_goals (intro h; (try simp only [reduceCtorEq, not_true_eq_false, not_false_eq_true, decide_eq_true_eq, decide_eq_false_iff_not, Bool.not_eq_true', Bool.not_eq_false', Bool.not_true, Bool.not_false, Int.not_lt, Int.not_le, ne_eq, Decidable.not_not] at h); (try (exfalso; omega))))
        | (apply wa_splitE; exact rfl; exact rfl; exact rfl; all_goals (intro h; (try simp only [reduceCtorEq, not_true_eq_false, not_false_eq_true, decide_eq_true_eq, decide_eq_false_iff_not, Bool.not_eq_true', Bool.not_eq_false', Bool.not_true, Bool.not_false, Int.not_lt, Int.not_le, ne_eq, Decidable.not_not] at h); (try (exfalso; omega))))
        | refine WA.end_ ?_)
      | (show WT _ _ _ _ 0 _ _ _; (refine wt_done ?_ ?_; kernel_rfl)))
    refine wa_seq rfl (QuietT.bitsE _ (.inr (.inl rfl)) rfl rfl (mark_or ⟨hf.1, hf.2.1⟩)) rfl (by kernel_rfl) (by kernel_rfl) (by kernel_rfl) (by kernel_rfl) rfl ?_
    repeat' (first
      | (show WA _ _ _ _ _ _ _ _ _ _ _; first
        | (apply wa_seq; exact rfl; (first | exact QuietT.calc rfl True.intro | (apply QuietT.load; exact rfl; exact rfl; ((repeat (first | exact Pick.here | apply Pick.there))); exact rfl) | (apply QuietT.calc; exact rfl; ((try simp only [inR]); omega)) | (apply QuietT.indexI; (iterate 5 (exact rfl)); ((repeat (first | exact Pick.here | apply Pick.there))); exact rfl; (first | exact rfl | omega); omega) | (apply QuietT.loadEI; exact rfl; exact rfl; ((repeat (first | exact Pick.here | apply Pick.there))); exact rfl; assumption; exact rfl) | (apply QuietT.fieldE; exact rfl; exact rfl; exact rfl; exact rfl) | (apply QuietT.indexO; (iterate 5 (exact rfl)); ((repeat (first | exact Pick.here | apply Pick.there))); exact rfl; (first | exact rfl | omega); omega) | (apply QuietT.loadEO; exact rfl; exact rfl; ((repeat (first | exact Pick.here | apply Pick.there))); exact rfl; assumption; exact rfl) | (apply QuietT.loadI; exact rfl; exact rfl; ((repeat (first | exact Pick.here | apply Pick.there))); exact rfl)); exact rfl; (iterate 4 (focus (kernel_rfl))); exact rfl)
        | (apply wa_seqN; exact rfl; exact rfl; exact rfl; exact rfl; exact rfl; exact rfl; (iterate 4 (focus (kernel_rfl))); exact rfl)
        | (apply wa_seqG; exact rfl; exact rfl; exact rfl; exact rfl; (first | exact QuietT.calc rfl True.intro | (apply QuietT.load; exact rfl; exact rfl; ((repeat (first | exact Pick.here | apply Pick.there))); exact rfl) | (apply QuietT.calc; exact rfl; ((try simp only [inR]); omega)) | (apply QuietT.indexI; (iterate 5 (exact rfl)); ((repeat (first | exact Pick.here | apply Pick.there))); exact rfl; (first | exact rfl | omega); omega) | (apply QuietT.loadEI; exact rfl; exact rfl; ((repeat (first | exact Pick.here | apply Pick.there))); exact rfl; assumption; exact rfl) | (apply QuietT.fieldE; exact rfl; exact rfl; exact rfl; exact rfl) | (apply QuietT.indexO; (iterate 5 (exact rfl)); ((repeat (first | exact Pick.here | apply Pick.there))); exact rfl; (first | exact rfl | omega); omega) | (apply QuietT.loadEO; exact rfl; exact rfl; ((repeat (first | exact Pick.here | apply Pick.there))); exact rfl; assumption; exact rfl) | (apply QuietT.loadI; exact rfl; exact rfl; ((repeat (first | exact Pick.here | apply Pick.there))); exact rfl)); exact rfl; (iterate 4 (focus (kernel_rfl))); exact rfl)
        | (apply wa_splitD; exact rfl; exact rfl; exact rfl; all_goals (intro h; (try simp only [reduceCtorEq, not_true_eq_false, not_false_eq_true, decide_eq_true_eq, decide_eq_false_iff_not, Bool.not_eq_true', Bool.not_eq_false', Bool.not_true, Bool.not_false, Int.not_lt, Int.not_le, ne_eq, Decidable.not_not] at h); (try (exfalso; omega))))
        | (apply wa_splitE; exact rfl; exact rfl; exact rfl; all_goals (intro h; (try simp only [reduceCtorEq, not_true_eq_false, not_false_eq_true, decide_eq_true_eq, decide_eq_false_iff_not, Bool.not_eq_true', Bool.not_eq_false', Bool.not_true, Bool.not_false, Int.not_lt, Int.not_le, ne_eq, Decidable.not_not] at h); (try (exfalso; omega))))
        | refine WA.end_ ?_)
      | (show WT _ _ _ _ 0 _ _ _; (refine wt_done ?_ ?_; kernel_rfl)))
    refine wt_act 7 rfl (by kernel_rfl) rfl ?_
    refine OpT.storeE (x / 256 ^ s % 256 + markM (sizeM x)) rfl rfl rfl (by (repeat (first | exact Pick.here | apply Pick.there))) rfl h0 rfl ?_ ?_
    · have := put_bytes x _ (by rw [put_cons hs]; exact List.mem_cons_self)
      rw [hs]; exact this
    repeat' (first
      | (show WA _ _ _ _ _ _ _ _ _ _ _; first
        | (apply wa_seq; exact rfl; (first | exact QuietT.calc rfl True.intro | (apply QuietT.load; exact rfl; exact rfl; ((repeat (first | exact Pick.here | apply Pick.there))); exact rfl) | (apply QuietT.calc; exact rfl; ((try simp only [inR]); omega)) | (apply QuietT.indexI; (iterate 5 (exact rfl)); ((repeat (first | exact Pick.here | apply Pick.there))); exact rfl; (first | exact rfl | omega); omega) | (apply QuietT.loadEI; exact rfl; exact rfl; ((repeat (first | exact Pick.here | apply Pick.there))); exact rfl; assumption; exact rfl) | (apply QuietT.fieldE; exact rfl; exact rfl; exact rfl; exact rfl) | (apply QuietT.indexO; (iterate 5 (exact rfl)); ((repeat (first | exact Pick.here | apply Pick.there))); exact rfl; (first | exact rfl | omega); omega) | (apply QuietT.loadEO; exact rfl; exact rfl; ((repeat (first | exact Pick.here | apply Pick.there))); exact rfl; assumption; exact rfl) | (apply QuietT.loadI; exact rfl; exact rfl; ((repeat (first | exact Pick.here | apply Pick.there))); exact rfl)); exact rfl; (iterate 4 (focus (kernel_rfl))); exact rfl)
        | (apply wa_seqN; exact rfl; exact rfl; exact rfl; exact rfl; exact rfl; exact rfl; (iterate 4 (focus (kernel_rfl))); exact rfl)
        | (apply wa_seqG; exact rfl; exact rfl; exact rfl; exact rfl; (first | exact QuietT.calc rfl True.intro | (apply QuietT.load; exact rfl; exact rfl; ((repeat (first | exact Pick.here | apply Pick.there))); exact rfl) | (apply QuietT.calc; exact rfl; ((try simp only [inR]); omega)) | (apply QuietT.indexI; (iterate 5 (exact rfl)); ((repeat (first | exact Pick.here | apply Pick.there))); exact rfl; (first | exact rfl | omega); omega) | (apply QuietT.loadEI; exact rfl; exact rfl; ((repeat (first | exact Pick.here | apply Pick.there))); exact rfl; assumption; exact rfl) | (apply QuietT.fieldE; exact rfl; exact rfl; exact rfl; exact rfl) | (apply QuietT.indexO; (iterate 5 (exact rfl)); ((repeat (first | exact Pick.here | apply Pick.there))); exact rfl; (first | exact rfl | omega); omega) | (apply QuietT.loadEO; exact rfl; exact rfl; ((repeat (first | exact Pick.here | apply Pick.there))); exact rfl; assumption; exact rfl) | (apply QuietT.loadI; exact rfl; exact rfl; ((repeat (first | exact Pick.here | apply Pick.there))); exact rfl)); exact rfl; (iterate 4 (focus (kernel_rfl))); exact rfl)
        | (apply wa_splitD; exact rfl; exact rfl; exact rfl; all_goals (intro h; (try simp only [reduceCtorEq, not_true_eq_false, not_false_eq_true, decide_eq_true_eq, decide_eq_false_iff_not, Bool.not_eq_true', Bool.not_eq_false', Bool.not_true, Bool.not_false, Int.not_lt, Int.not_le, ne_eq, Decidable.not_not] at h); (try (exfalso; omega))))
        | (apply wa_splitE; exact rfl; exact rfl; exact rfl; all_goals (intro h; (try simp only [reduceCtorEq, not_true_eq_false, not_false_eq_true, decide_eq_true_eq, decide_eq_false_iff_not, Bool.not_eq_true', Bool.not_eq_false', Bool.not_true, Bool.not_false, Int.not_lt, Int.not_le, ne_eq, Decidable.not_not] at h); (try (exfalso; omega))))
        | refine WA.end_ ?_)
      | (show WT _ _ _ _ 0 _ _ _; (refine wt_done ?_ ?_; kernel_rfl)))
    repeat' (first
      | (show WL _ _ _ _ _ _ _; first
        | (apply wl_calc; exact rfl; exact True.intro; exact rfl)
        | refine WL.nil ?_
        | (apply wl_ld; exact rfl; exact rfl; ((repeat (first | exact Pick.here | apply Pick.there))); exact rfl; exact rfl)
        | (apply wl_calc; exact rfl; ((try simp only [inR]); omega); exact rfl)
        | (apply wl_store; exact rfl; exact rfl; exact rfl; ((repeat (first | exact Pick.here | apply Pick.there))); exact rfl)
        | (apply wl_ixI; exact rfl; exact rfl; exact rfl; exact rfl; exact rfl; ((repeat (first | exact Pick.here | apply Pick.there))); exact rfl; exact rfl; omega; exact rfl)
        | (apply wl_ldEI; exact rfl; exact rfl; ((repeat (first | exact Pick.here | apply Pick.there))); exact rfl; assumption; exact rfl; exact rfl)
        | (apply wl_fldE; exact rfl; exact rfl; exact rfl; exact rfl; exact rfl)
        | (apply wl_ixO; exact rfl; exact rfl; exact rfl; exact rfl; exact rfl; ((repeat (first | exact Pick.here | apply Pick.there))); exact rfl; exact rfl; omega; exact rfl)
        | (apply wl_ldEO; exact rfl; exact rfl; ((repeat (first | exact Pick.here | apply Pick.there))); exact rfl; assumption; exact rfl; exact rfl)
        | (apply wl_guard; exact rfl; exact rfl; exact rfl; exact rfl)
        | (apply wl_gno; exact rfl; exact rfl; exact rfl; exact rfl; exact rfl)
        | (apply wl_gsplit; exact rfl; exact rfl; exact rfl; exact rfl; all_goals (intro h; (try simp only [reduceCtorEq, not_true_eq_false, not_false_eq_true, decide_eq_true_eq, decide_eq_false_iff_not, Bool.not_eq_true', Bool.not_eq_false', Bool.not_true, Bool.not_false, Int.not_lt, Int.not_le, ne_eq, Decidable.not_not] at h); (try (exfalso; omega))))
        | (apply wl_rem; exact rfl; exact rfl; omega; exact rfl)
        | (apply wl_row; (iterate 7 (exact rfl)); intro b1)
        | (apply wl_box; exact rfl; exact rfl; exact rfl; intro b1))
      | (show WC _ _ _ _ _ _; first
        | refine WC.seq ?_
        | (apply WC.region; exact rfl)
        | (apply WC.condT; exact rfl)
        | (apply WC.condF; exact rfl)
        | (apply WC.cond; exact rfl; all_goals (intro h; (try simp only [reduceCtorEq, not_true_eq_false, not_false_eq_true, decide_eq_true_eq, decide_eq_false_iff_not, Bool.not_eq_true', Bool.not_eq_false', Bool.not_true, Bool.not_false, Int.not_lt, Int.not_le, ne_eq, Decidable.not_not] at h); (try (exfalso; omega))))
        | refine WC.block ?_
        | refine WC.skip ?_
        | refine WC.ret ?_
        | refine WC.exit ?_)
      | refine Qseq.nm ?_
      | refine Qseq.r ?_
      | refine Qseq.x ?_
      | refine Qblock.nm ?_
      | refine Qblock.r ?_
      | (apply Qblock.t; exact rfl)
      | (apply Qblock.f; exact rfl)
      | refine Qmx.r ?_
      | refine Qmx.nm ?_
      | (apply Qmx.f; exact rfl)
      | refine Qmn.r ?_
      | refine Qmn.x ?_
      | refine Qloop.r ?_
      | refine Qloop.x ?_
      | (apply Qfn.one; exact rfl)
      | (apply Qfn.two; exact rfl; exact rfl)
      | (apply Qfn.three; exact rfl; exact rfl; exact rfl)
      | refine Qfn.zero ?_
      | refine Qfn.zeroN ?_)
    have hp : ds.set (0 : Int).toNat (x / 256 ^ s % 256 + markM (sizeM x)) = putM x := by rw [put_cons hs, hds, hs]; rfl
    rw [hp]
    refine ⟨_, Ent.refl _, a, c, ?_, rfl⟩
    rw [put_len, hds, be_len]
  · obtain rfl : r = 0 := by omega
    have hds : ds = be (sizeM x) x := by simpa [be] using h3
    have h0 : sizeM x = 0 := by omega
    have : ds = putM x := by rw [put_zero h0, hds, h0]; rfl
    subst this
    exact ⟨_, Ent.refl _, a, c, rfl, rfl⟩
end Go.Proofs.Ytidmolpkcfhkaaa
