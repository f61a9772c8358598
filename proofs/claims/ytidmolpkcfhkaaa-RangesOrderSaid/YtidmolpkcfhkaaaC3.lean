/- Contracts: a number is taken. -/
import Derived.Test.YtidmolpkcfhkaaaC2
namespace Go.Proofs.Ytidmolpkcfhkaaa
set_option linter.unusedSectionVars false
set_option linter.unusedVariables false
set_option linter.unusedSimpArgs false
open Go
attribute [local irreducible] Decidable.decide Qfn Qseq Qblock Qloop Qmx Qmn WL WC OpT Pick Ent QuietT WT WA ISl OSl Blk IBlk
variable {P : Program} [hP : IsP P]

theorem equal_spec {a b : Option Addr} {c d : Nat} {xs ys : List Int} :
    Spec P 78 [.slice a xs.length c, .slice b ys.length d] [ISl EB a c xs, ISl EB b d ys] fun r R => r = .bool (decide (xs = ys)) ∧ R = [] := by
  refine Spec.fact (fn_ok (fn := Try.f78) (by rw [hP.eq]; exact Try.func78) (by kernel_rfl) rfl) (by (repeat (first | exact Pick.here | apply Pick.there))) ISl.facts ?_
  rintro ⟨hx, -, -⟩
  refine Spec.fact (fn_ok (fn := Try.f78) (by rw [hP.eq]; exact Try.func78) (by kernel_rfl) rfl) (.there .here) ISl.facts ?_
  rintro ⟨hy, -, -⟩
  refine Spec.of (fn := Try.f78) (by rw [hP.eq]; exact Try.func78) (by kernel_rfl) rfl Try.ntmps78 rfl rfl ?_
  repeat' (first
    | (show WL _ _ _ _ _ _ _; first
      | (apply wl_calc; exact rfl; exact True.intro; exact rfl)
      | refine WL.nil ?_
      | (apply wl_ld; exact rfl; exact rfl; ((repeat (first | exact Pick.here | apply Pick.there))); exact rfl; exact rfl)
      | (apply wl_calc; exact rfl; ((try simp only [inR]); omega); exact rfl)
      | (apply wl_store; exact rfl; exact rfl; exact rfl; ((repeat (first | exact Pick.here | apply Pick.there))); exact rfl)
      | (apply wl_ixI; exact rfl; exact rfl; exact rfl; exact rfl; exact rfl; ((repeat (first | exact Pick.here | apply Pick.there))); exact rfl; exact rfl; omega; exact rfl)
      | (apply wl_ldEI; exact rfl; exact rfl; ((repeat (first | exact Pick.here | apply Pick.there))); exact rfl; assumption; exact rfl; exact rfl)
      | (apply wl_fldE; exact rfl; exact rfl; exact rfl; exact rfl; exact rfl)
      | (apply wl_ixO; exact rfl; exact rfl; exact rfl; exact rfl; exact rfl; ((repeat (first | exact Pick.here | apply Pick.there))); exact rfl; exact rfl; omega; exact rfl)
      | (apply wl_ldEO; exact rfl; exact rfl; ((repeat (first | exact Pick.here | apply Pick.there))); exact rfl; assumption; exact rfl; exact rfl)
      | (apply wl_guard; exact rfl; exact rfl; exact rfl; exact rfl)
      | (apply wl_gno; exact rfl; exact rfl; exact rfl; exact rfl; exact rfl)
      | (apply wl_gsplit; exact rfl; exact rfl; exact rfl; exact rfl; all_goals (intro h; (try simp only [reduceCtorEq, not_true_eq_false, not_false_eq_true, decide_eq_true_eq, decide_eq_false_iff_not, Bool.not_eq_true', Bool.not_eq_false', Bool.not_true, Bool.not_false, Int.not_lt, Int.not_le, ne_eq, Decidable.not_not] at h); (try (exfalso; omega))))
      | (apply wl_rem; exact rfl; exact rfl; omega; exact rfl)
      | (apply wl_row; (iterate 7 (exact rfl)); intro b1)
      | (apply wl_box; exact rfl; exact rfl; exact rfl; intro b1))
    | (show WC _ _ _ _ _ _; first
      | refine WC.seq ?_
      | (apply WC.region; exact rfl)
      | (apply WC.condT; exact rfl)
      | (apply WC.condF; exact rfl)
      | (apply WC.cond; exact rfl; all_goals (intro h; (try simp only [reduceCtorEq, not_true_eq_false, not_false_eq_true, decide_eq_true_eq, decide_eq_false_iff_not, Bool.not_eq_true', Bool.not_eq_false', Bool.not_true, Bool.not_false, Int.not_lt, Int.not_le, ne_eq, Decidable.not_not] at h); (try (exfalso; omega))))
      | refine WC.block ?_
      | refine WC.skip ?_
      | refine WC.ret ?_
      | refine WC.exit ?_)
    | refine Qseq.nm ?_
    | refine Qseq.r ?_
    | refine Qseq.x ?_
    | refine Qblock.nm ?_
    | refine Qblock.r ?_
    | (apply Qblock.t; exact rfl)
    | (apply Qblock.f; exact rfl)
    | refine Qmx.r ?_
    | refine Qmx.nm ?_
    | (apply Qmx.f; exact rfl)
    | refine Qmn.r ?_
    | refine Qmn.x ?_
    | refine Qloop.r ?_
    | refine Qloop.x ?_
    | (apply Qfn.one; exact rfl)
    | (apply Qfn.two; exact rfl; exact rfl)
    | (apply Qfn.three; exact rfl; exact rfl; exact rfl)
    | refine Qfn.zero ?_
    | refine Qfn.zeroN ?_)
  refine wl_quiet (QuietT.strI rfl rfl rfl rfl rfl rfl rfl (by (repeat (first | exact Pick.here | apply Pick.there))) rfl) rfl ?_
  repeat' (first
    | (show WL _ _ _ _ _ _ _; first
      | (apply wl_calc; exact rfl; exact True.intro; exact rfl)
      | refine WL.nil ?_
      | (apply wl_ld; exact rfl; exact rfl; ((repeat (first | exact Pick.here | apply Pick.there))); exact rfl; exact rfl)
      | (apply wl_calc; exact rfl; ((try simp only [inR]); omega); exact rfl)
      | (apply wl_store; exact rfl; exact rfl; exact rfl; ((repeat (first | exact Pick.here | apply Pick.there))); exact rfl)
      | (apply wl_ixI; exact rfl; exact rfl; exact rfl; exact rfl; exact rfl; ((repeat (first | exact Pick.here | apply Pick.there))); exact rfl; exact rfl; omega; exact rfl)
      | (apply wl_ldEI; exact rfl; exact rfl; ((repeat (first | exact Pick.here | apply Pick.there))); exact rfl; assumption; exact rfl; exact rfl)
      | (apply wl_fldE; exact rfl; exact rfl; exact rfl; exact rfl; exact rfl)
      | (apply wl_ixO; exact rfl; exact rfl; exact rfl; exact rfl; exact rfl; ((repeat (first | exact Pick.here | apply Pick.there))); exact rfl; exact rfl; omega; exact rfl)
      | (apply wl_ldEO; exact rfl; exact rfl; ((repeat (first | exact Pick.here | apply Pick.there))); exact rfl; assumption; exact rfl; exact rfl)
      | (apply wl_guard; exact rfl; exact rfl; exact rfl; exact rfl)
      | (apply wl_gno; exact rfl; exact rfl; exact rfl; exact rfl; exact rfl)
      | (apply wl_gsplit; exact rfl; exact rfl; exact rfl; exact rfl; all_goals (intro h; (try simp only [reduceCtorEq, not_true_eq_false, not_false_eq_true, decide_eq_true_eq, decide_eq_false_iff_not, Bool.not_eq_true', Bool.not_eq_false', Bool.not_true, Bool.not_false, Int.not_lt, Int.not_le, ne_eq, Decidable.not_not] at h); (try (exfalso; omega))))
      | (apply wl_rem; exact rfl; exact rfl; omega; exact rfl)
      | (apply wl_row; (iterate 7 (exact rfl)); intro b1)
      | (apply wl_box; exact rfl; exact rfl; exact rfl; intro b1))
    | (show WC _ _ _ _ _ _; first
      | refine WC.seq ?_
      | (apply WC.region; exact rfl)
      | (apply WC.condT; exact rfl)
      | (apply WC.condF; exact rfl)
      | (apply WC.cond; exact rfl; all_goals (intro h; (try simp only [reduceCtorEq, not_true_eq_false, not_false_eq_true, decide_eq_true_eq, decide_eq_false_iff_not, Bool.not_eq_true', Bool.not_eq_false', Bool.not_true, Bool.not_false, Int.not_lt, Int.not_le, ne_eq, Decidable.not_not] at h); (try (exfalso; omega))))
      | refine WC.block ?_
      | refine WC.skip ?_
      | refine WC.ret ?_
      | refine WC.exit ?_)
    | refine Qseq.nm ?_
    | refine Qseq.r ?_
    | refine Qseq.x ?_
    | refine Qblock.nm ?_
    | refine Qblock.r ?_
    | (apply Qblock.t; exact rfl)
    | (apply Qblock.f; exact rfl)
    | refine Qmx.r ?_
    | refine Qmx.nm ?_
    | (apply Qmx.f; exact rfl)
    | refine Qmn.r ?_
    | refine Qmn.x ?_
    | refine Qloop.r ?_
    | refine Qloop.x ?_
    | (apply Qfn.one; exact rfl)
    | (apply Qfn.two; exact rfl; exact rfl)
    | (apply Qfn.three; exact rfl; exact rfl; exact rfl)
    | refine Qfn.zero ?_
    | refine Qfn.zeroN ?_)
  refine wl_quiet (QuietT.strI rfl rfl rfl rfl rfl rfl rfl (by (repeat (first | exact Pick.here | apply Pick.there))) rfl) rfl ?_
  repeat' (first
    | (show WL _ _ _ _ _ _ _; first
      | (apply wl_calc; exact rfl; exact True.intro; exact rfl)
      | refine WL.nil ?_
      | (apply wl_ld; exact rfl; exact rfl; ((repeat (first | exact Pick.here | apply Pick.there))); exact rfl; exact rfl)
      | (apply wl_calc; exact rfl; ((try simp only [inR]); omega); exact rfl)
      | (apply wl_store; exact rfl; exact rfl; exact rfl; ((repeat (first | exact Pick.here | apply Pick.there))); exact rfl)
      | (apply wl_ixI; exact rfl; exact rfl; exact rfl; exact rfl; exact rfl; ((repeat (first | exact Pick.here | apply Pick.there))); exact rfl; exact rfl; omega; exact rfl)
      | (apply wl_ldEI; exact rfl; exact rfl; ((repeat (first | exact Pick.here | apply Pick.there))); exact rfl; assumption; exact rfl; exact rfl)
      | (apply wl_fldE; exact rfl; exact rfl; exact rfl; exact rfl; exact rfl)
      | (apply wl_ixO; exact rfl; exact rfl; exact rfl; exact rfl; exact rfl; ((repeat (first | exact Pick.here | apply Pick.there))); exact rfl; exact rfl; omega; exact rfl)
      | (apply wl_ldEO; exact rfl; exact rfl; ((repeat (first | exact Pick.here | apply Pick.there))); exact rfl; assumption; exact rfl; exact rfl)
      | (apply wl_guard; exact rfl; exact rfl; exact rfl; exact rfl)
      | (apply wl_gno; exact rfl; exact rfl; exact rfl; exact rfl; exact rfl)
      | (apply wl_gsplit; exact rfl; exact rfl; exact rfl; exact rfl; all_goals (intro h; (try simp only [reduceCtorEq, not_true_eq_false, not_false_eq_true, decide_eq_true_eq, decide_eq_false_iff_not, Bool.not_eq_true', Bool.not_eq_false', Bool.not_true, Bool.not_false, Int.not_lt, Int.not_le, ne_eq, Decidable.not_not] at h); (try (exfalso; omega))))
      | (apply wl_rem; exact rfl; exact rfl; omega; exact rfl)
      | (apply wl_row; (iterate 7 (exact rfl)); intro b1)
      | (apply wl_box; exact rfl; exact rfl; exact rfl; intro b1))
    | (show WC _ _ _ _ _ _; first
      | refine WC.seq ?_
      | (apply WC.region; exact rfl)
      | (apply WC.condT; exact rfl)
      | (apply WC.condF; exact rfl)
      | (apply WC.cond; exact rfl; all_goals (intro h; (try simp only [reduceCtorEq, not_true_eq_false, not_false_eq_true, decide_eq_true_eq, decide_eq_false_iff_not, Bool.not_eq_true', Bool.not_eq_false', Bool.not_true, Bool.not_false, Int.not_lt, Int.not_le, ne_eq, Decidable.not_not] at h); (try (exfalso; omega))))
      | refine WC.block ?_
      | refine WC.skip ?_
      | refine WC.ret ?_
      | refine WC.exit ?_)
    | refine Qseq.nm ?_
    | refine Qseq.r ?_
    | refine Qseq.x ?_
    | refine Qblock.nm ?_
    | refine Qblock.r ?_
    | (apply Qblock.t; exact rfl)
    | (apply Qblock.f; exact rfl)
    | refine Qmx.r ?_
    | refine Qmx.nm ?_
    | (apply Qmx.f; exact rfl)
    | refine Qmn.r ?_
    | refine Qmn.x ?_
    | refine Qloop.r ?_
    | refine Qloop.x ?_
    | (apply Qfn.one; exact rfl)
    | (apply Qfn.two; exact rfl; exact rfl)
    | (apply Qfn.three; exact rfl; exact rfl; exact rfl)
    | refine Qfn.zero ?_
    | refine Qfn.zeroN ?_)
  (refine ⟨_, ?_, ?_, rfl⟩; exact Take.fin (by repeat (first | exact Take.nil | (apply Take.keepI; focus ((repeat (first | exact Pick.here | apply Pick.there)); done)) | (apply Take.cons; focus ((repeat (first | exact Pick.here | apply Pick.there)); done)) | (apply Take.pure; (first | assumption | omega)))); try rfl)
  simp only [Value.bool.injEq, true_and]
  rw [decide_eq_decide]
  exact bstr_inj hx hy

theorem shl_sz {b : Int} (hb : 0 ≤ b ∧ b ≤ 255) : IntKind.i64.wrap (1 * 2 ^ (b / 64).toNat) = szOf b := by
  unfold szOf
  split
  · rw [show b / 64 = 0 from by omega]; exact inR.wrap (k := .i64) (n := 1) (by simp only [inR]; omega)
  · split
    · rw [show b / 64 = 1 from by omega]; exact inR.wrap (k := .i64) (n := 2) (by simp only [inR]; omega)
    · split
      · rw [show b / 64 = 2 from by omega]; exact inR.wrap (k := .i64) (n := 4) (by simp only [inR]; omega)
      · rw [show b / 64 = 3 from by omega]; exact inR.wrap (k := .i64) (n := 8) (by simp only [inR]; omega)
theorem and63 {b : Int} (hb : 0 ≤ b ∧ b ≤ 255) : bitsOf .and .u8 b 63 = b % 64 :=
  bits_and 6 hb.1 (by simp only [inR]; omega) (by simp only [inR]; omega)
theorem num_take_bd {b : Int} {zs : List Int} (hz : Bytes zs) : 0 ≤ num (b % 64) zs ∧ num (b % 64) zs < 64 * 256 ^ zs.length := by
  have h := num_bd hz
  rw [num_lin]
  have hp := pow_pos' zs.length
  have h1 : 0 ≤ b % 64 * 256 ^ zs.length := Int.mul_nonneg (by omega) (by omega)
  have h2 : b % 64 * 256 ^ zs.length ≤ 63 * 256 ^ zs.length := Int.mul_le_mul_of_nonneg_right (by omega) (by omega)
  omega
theorem pow_le8 {n m : Nat} (h : n ≤ m) : (256 : Int) ^ n ≤ 256 ^ m := by
  have := Nat.pow_le_pow_right (show 0 < 256 by omega) h
  have h2 : ((256 ^ n : Nat) : Int) ≤ ((256 ^ m : Nat) : Int) := by exact_mod_cast this
  simpa using h2

def takeV (xs : List Int) : Value := .tuple ⟨[.int .i64 (takeM xs).1, .int .i64 ((takeM xs).2.1 : Nat), .bool (takeM xs).2.2]⟩

theorem take_spec {a : Option Addr} {c : Nat} {xs : List Int} (hl : xs.length ≤ 9223372036854775807) :
    Spec P 17 [.slice a xs.length c] [ISl EB a c xs] fun r R => r = takeV xs ∧ R = [] := by
  refine Spec.fact (fn_ok (fn := Try.f17) (by rw [hP.eq]; exact Try.func17) (by kernel_rfl) rfl) (by (repeat (first | exact Pick.here | apply Pick.there))) ISl.facts ?_
  rintro ⟨hx, hc, -⟩
  refine Spec.of (fn := Try.f17) (by rw [hP.eq]; exact Try.func17) (by kernel_rfl) rfl Try.ntmps17 rfl rfl ?_
  repeat' (first
    | (show WL _ _ _ _ _ _ _; first
      | (apply wl_calc; exact rfl; exact True.intro; exact rfl)
      | refine WL.nil ?_
      | (apply wl_ld; exact rfl; exact rfl; ((repeat (first | exact Pick.here | apply Pick.there))); exact rfl; exact rfl)
      | (apply wl_calc; exact rfl; ((try simp only [inR]); omega); exact rfl)
      | (apply wl_store; exact rfl; exact rfl; exact rfl; ((repeat (first | exact Pick.here | apply Pick.there))); exact rfl)
      | (apply wl_ixI; exact rfl; exact rfl; exact rfl; exact rfl; exact rfl; ((repeat (first | exact Pick.here | apply Pick.there))); exact rfl; exact rfl; omega; exact rfl)
      | (apply wl_ldEI; exact rfl; exact rfl; ((repeat (first | exact Pick.here | apply Pick.there))); exact rfl; assumption; exact rfl; exact rfl)
      | (apply wl_fldE; exact rfl; exact rfl; exact rfl; exact rfl; exact rfl)
      | (apply wl_ixO; exact rfl; exact rfl; exact rfl; exact rfl; exact rfl; ((repeat (first | exact Pick.here | apply Pick.there))); exact rfl; exact rfl; omega; exact rfl)
      | (apply wl_ldEO; exact rfl; exact rfl; ((repeat (first | exact Pick.here | apply Pick.there))); exact rfl; assumption; exact rfl; exact rfl)
      | (apply wl_guard; exact rfl; exact rfl; exact rfl; exact rfl)
      | (apply wl_gno; exact rfl; exact rfl; exact rfl; exact rfl; exact rfl)
      | (apply wl_gsplit; exact rfl; exact rfl; exact rfl; exact rfl; all_goals (intro h; (try simp only [reduceCtorEq, not_true_eq_false, not_false_eq_true, decide_eq_true_eq, decide_eq_false_iff_not, Bool.not_eq_true', Bool.not_eq_false', Bool.not_true, Bool.not_false, Int.not_lt, Int.not_le, ne_eq, Decidable.not_not] at h); (try (exfalso; omega))))
      | (apply wl_rem; exact rfl; exact rfl; omega; exact rfl)
      | (apply wl_row; (iterate 7 (exact rfl)); intro b1)
      | (apply wl_box; exact rfl; exact rfl; exact rfl; intro b1))
    | (show WC _ _ _ _ _ _; first
      | refine WC.seq ?_
      | (apply WC.region; exact rfl)
      | (apply WC.condT; exact rfl)
      | (apply WC.condF; exact rfl)
      | (apply WC.cond; exact rfl; all_goals (intro h; (try simp only [reduceCtorEq, not_true_eq_false, not_false_eq_true, decide_eq_true_eq, decide_eq_false_iff_not, Bool.not_eq_true', Bool.not_eq_false', Bool.not_true, Bool.not_false, Int.not_lt, Int.not_le, ne_eq, Decidable.not_not] at h); (try (exfalso; omega))))
      | refine WC.block ?_
      | refine WC.skip ?_
      | refine WC.ret ?_
      | refine WC.exit ?_)
    | refine Qseq.nm ?_
    | refine Qseq.r ?_
    | refine Qseq.x ?_
    | refine Qblock.nm ?_
    | refine Qblock.r ?_
    | (apply Qblock.t; exact rfl)
    | (apply Qblock.f; exact rfl)
    | refine Qmx.r ?_
    | refine Qmx.nm ?_
    | (apply Qmx.f; exact rfl)
    | refine Qmn.r ?_
    | refine Qmn.x ?_
    | refine Qloop.r ?_
    | refine Qloop.x ?_
    | (apply Qfn.one; exact rfl)
    | (apply Qfn.two; exact rfl; exact rfl)
    | (apply Qfn.three; exact rfl; exact rfl; exact rfl)
    | refine Qfn.zero ?_
    | refine Qfn.zeroN ?_)
  · (refine ⟨_, ?_, ?_, rfl⟩; exact Take.fin (by repeat (first | exact Take.nil | (apply Take.keepI; focus ((repeat (first | exact Pick.here | apply Pick.there)); done)) | (apply Take.cons; focus ((repeat (first | exact Pick.here | apply Pick.there)); done)) | (apply Take.pure; (first | assumption | omega)))); try rfl)
    obtain rfl : xs = [] := List.eq_nil_of_length_eq_zero (by omega)
    rfl
  obtain ⟨b, r, rfl⟩ : ∃ b r, xs = b :: r := by cases xs with | nil => exact absurd rfl h | cons b r => exact ⟨b, r, rfl⟩
  have h0 : (b :: r)[(0 : Int).toNat]? = some b := rfl
  have hb : 0 ≤ b ∧ b ≤ 255 := hx b (by simp)
  have hsz := szOf_pos b
  have hlen : (b :: r).length = r.length + 1 := rfl
  repeat' (first
    | (show WL _ _ _ _ _ _ _; first
      | (apply wl_calc; exact rfl; exact True.intro; exact rfl)
      | refine WL.nil ?_
      | (apply wl_ld; exact rfl; exact rfl; ((repeat (first | exact Pick.here | apply Pick.there))); exact rfl; exact rfl)
      | (apply wl_calc; exact rfl; ((try simp only [inR]); omega); exact rfl)
      | (apply wl_store; exact rfl; exact rfl; exact rfl; ((repeat (first | exact Pick.here | apply Pick.there))); exact rfl)
      | (apply wl_ixI; exact rfl; exact rfl; exact rfl; exact rfl; exact rfl; ((repeat (first | exact Pick.here | apply Pick.there))); exact rfl; exact rfl; omega; exact rfl)
      | (apply wl_ldEI; exact rfl; exact rfl; ((repeat (first | exact Pick.here | apply Pick.there))); exact rfl; assumption; exact rfl; exact rfl)
      | (apply wl_fldE; exact rfl; exact rfl; exact rfl; exact rfl; exact rfl)
      | (apply wl_ixO; exact rfl; exact rfl; exact rfl; exact rfl; exact rfl; ((repeat (first | exact Pick.here | apply Pick.there))); exact rfl; exact rfl; omega; exact rfl)
      | (apply wl_ldEO; exact rfl; exact rfl; ((repeat (first | exact Pick.here | apply Pick.there))); exact rfl; assumption; exact rfl; exact rfl)
      | (apply wl_guard; exact rfl; exact rfl; exact rfl; exact rfl)
      | (apply wl_gno; exact rfl; exact rfl; exact rfl; exact rfl; exact rfl)
      | (apply wl_gsplit; exact rfl; exact rfl; exact rfl; exact rfl; all_goals (intro h; (try simp only [reduceCtorEq, not_true_eq_false, not_false_eq_true, decide_eq_true_eq, decide_eq_false_iff_not, Bool.not_eq_true', Bool.not_eq_false', Bool.not_true, Bool.not_false, Int.not_lt, Int.not_le, ne_eq, Decidable.not_not] at h); (try (exfalso; omega))))
      | (apply wl_rem; exact rfl; exact rfl; omega; exact rfl)
      | (apply wl_row; (iterate 7 (exact rfl)); intro b1)
      | (apply wl_box; exact rfl; exact rfl; exact rfl; intro b1))
    | (show WC _ _ _ _ _ _; first
      | refine WC.seq ?_
      | (apply WC.region; exact rfl)
      | (apply WC.condT; exact rfl)
      | (apply WC.condF; exact rfl)
      | (apply WC.cond; exact rfl; all_goals (intro h; (try simp only [reduceCtorEq, not_true_eq_false, not_false_eq_true, decide_eq_true_eq, decide_eq_false_iff_not, Bool.not_eq_true', Bool.not_eq_false', Bool.not_true, Bool.not_false, Int.not_lt, Int.not_le, ne_eq, Decidable.not_not] at h); (try (exfalso; omega))))
      | refine WC.block ?_
      | refine WC.skip ?_
      | refine WC.ret ?_
      | refine WC.exit ?_)
    | refine Qseq.nm ?_
    | refine Qseq.r ?_
    | refine Qseq.x ?_
    | refine Qblock.nm ?_
    | refine Qblock.r ?_
    | (apply Qblock.t; exact rfl)
    | (apply Qblock.f; exact rfl)
    | refine Qmx.r ?_
    | refine Qmx.nm ?_
    | (apply Qmx.f; exact rfl)
    | refine Qmn.r ?_
    | refine Qmn.x ?_
    | refine Qloop.r ?_
    | refine Qloop.x ?_
    | (apply Qfn.one; exact rfl)
    | (apply Qfn.two; exact rfl; exact rfl)
    | (apply Qfn.three; exact rfl; exact rfl; exact rfl)
    | refine Qfn.zero ?_
    | refine Qfn.zeroN ?_)
  refine wl_shr (b / 64) rfl rfl (by simp only [IntKind.bits]; omega) rfl rfl ?_
  refine wl_shl (szOf b) rfl rfl (by simp only [IntKind.bits]; omega) (shl_sz hb) rfl ?_
  repeat' (first
    | (show WL _ _ _ _ _ _ _; first
      | (apply wl_calc; exact rfl; exact True.intro; exact rfl)
      | refine WL.nil ?_
      | (apply wl_ld; exact rfl; exact rfl; ((repeat (first | exact Pick.here | apply Pick.there))); exact rfl; exact rfl)
      | (apply wl_calc; exact rfl; ((try simp only [inR]); omega); exact rfl)
      | (apply wl_store; exact rfl; exact rfl; exact rfl; ((repeat (first | exact Pick.here | apply Pick.there))); exact rfl)
      | (apply wl_ixI; exact rfl; exact rfl; exact rfl; exact rfl; exact rfl; ((repeat (first | exact Pick.here | apply Pick.there))); exact rfl; exact rfl; omega; exact rfl)
      | (apply wl_ldEI; exact rfl; exact rfl; ((repeat (first | exact Pick.here | apply Pick.there))); exact rfl; assumption; exact rfl; exact rfl)
      | (apply wl_fldE; exact rfl; exact rfl; exact rfl; exact rfl; exact rfl)
      | (apply wl_ixO; exact rfl; exact rfl; exact rfl; exact rfl; exact rfl; ((repeat (first | exact Pick.here | apply Pick.there))); exact rfl; exact rfl; omega; exact rfl)
      | (apply wl_ldEO; exact rfl; exact rfl; ((repeat (first | exact Pick.here | apply Pick.there))); exact rfl; assumption; exact rfl; exact rfl)
      | (apply wl_guard; exact rfl; exact rfl; exact rfl; exact rfl)
      | (apply wl_gno; exact rfl; exact rfl; exact rfl; exact rfl; exact rfl)
      | (apply wl_gsplit; exact rfl; exact rfl; exact rfl; exact rfl; all_goals (intro h; (try simp only [reduceCtorEq, not_true_eq_false, not_false_eq_true, decide_eq_true_eq, decide_eq_false_iff_not, Bool.not_eq_true', Bool.not_eq_false', Bool.not_true, Bool.not_false, Int.not_lt, Int.not_le, ne_eq, Decidable.not_not] at h); (try (exfalso; omega))))
      | (apply wl_rem; exact rfl; exact rfl; omega; exact rfl)
      | (apply wl_row; (iterate 7 (exact rfl)); intro b1)
      | (apply wl_box; exact rfl; exact rfl; exact rfl; intro b1))
    | (show WC _ _ _ _ _ _; first
      | refine WC.seq ?_
      | (apply WC.region; exact rfl)
      | (apply WC.condT; exact rfl)
      | (apply WC.condF; exact rfl)
      | (apply WC.cond; exact rfl; all_goals (intro h; (try simp only [reduceCtorEq, not_true_eq_false, not_false_eq_true, decide_eq_true_eq, decide_eq_false_iff_not, Bool.not_eq_true', Bool.not_eq_false', Bool.not_true, Bool.not_false, Int.not_lt, Int.not_le, ne_eq, Decidable.not_not] at h); (try (exfalso; omega))))
      | refine WC.block ?_
      | refine WC.skip ?_
      | refine WC.ret ?_
      | refine WC.exit ?_)
    | refine Qseq.nm ?_
    | refine Qseq.r ?_
    | refine Qseq.x ?_
    | refine Qblock.nm ?_
    | refine Qblock.r ?_
    | (apply Qblock.t; exact rfl)
    | (apply Qblock.f; exact rfl)
    | refine Qmx.r ?_
    | refine Qmx.nm ?_
    | (apply Qmx.f; exact rfl)
    | refine Qmn.r ?_
    | refine Qmn.x ?_
    | refine Qloop.r ?_
    | refine Qloop.x ?_
    | (apply Qfn.one; exact rfl)
    | (apply Qfn.two; exact rfl; exact rfl)
    | (apply Qfn.three; exact rfl; exact rfl; exact rfl)
    | refine Qfn.zero ?_
    | refine Qfn.zeroN ?_)
  · (refine ⟨_, ?_, ?_, rfl⟩; exact Take.fin (by repeat (first | exact Take.nil | (apply Take.keepI; focus ((repeat (first | exact Pick.here | apply Pick.there)); done)) | (apply Take.cons; focus ((repeat (first | exact Pick.here | apply Pick.there)); done)) | (apply Take.pure; (first | assumption | omega)))); try rfl)
    simp only [and_true, takeV, takeM]
    rw [if_pos (by omega)]; rfl
  refine wl_bits (b % 64) (.inl rfl) rfl rfl (and63 hb) rfl ?_
  repeat' (first
    | (show WL _ _ _ _ _ _ _; first
      | (apply wl_calc; exact rfl; exact True.intro; exact rfl)
      | refine WL.nil ?_
      | (apply wl_ld; exact rfl; exact rfl; ((repeat (first | exact Pick.here | apply Pick.there))); exact rfl; exact rfl)
      | (apply wl_calc; exact rfl; ((try simp only [inR]); omega); exact rfl)
      | (apply wl_store; exact rfl; exact rfl; exact rfl; ((repeat (first | exact Pick.here | apply Pick.there))); exact rfl)
      | (apply wl_ixI; exact rfl; exact rfl; exact rfl; exact rfl; exact rfl; ((repeat (first | exact Pick.here | apply Pick.there))); exact rfl; exact rfl; omega; exact rfl)
      | (apply wl_ldEI; exact rfl; exact rfl; ((repeat (first | exact Pick.here | apply Pick.there))); exact rfl; assumption; exact rfl; exact rfl)
      | (apply wl_fldE; exact rfl; exact rfl; exact rfl; exact rfl; exact rfl)
      | (apply wl_ixO; exact rfl; exact rfl; exact rfl; exact rfl; exact rfl; ((repeat (first | exact Pick.here | apply Pick.there))); exact rfl; exact rfl; omega; exact rfl)
      | (apply wl_ldEO; exact rfl; exact rfl; ((repeat (first | exact Pick.here | apply Pick.there))); exact rfl; assumption; exact rfl; exact rfl)
      | (apply wl_guard; exact rfl; exact rfl; exact rfl; exact rfl)
      | (apply wl_gno; exact rfl; exact rfl; exact rfl; exact rfl; exact rfl)
      | (apply wl_gsplit; exact rfl; exact rfl; exact rfl; exact rfl; all_goals (intro h; (try simp only [reduceCtorEq, not_true_eq_false, not_false_eq_true, decide_eq_true_eq, decide_eq_false_iff_not, Bool.not_eq_true', Bool.not_eq_false', Bool.not_true, Bool.not_false, Int.not_lt, Int.not_le, ne_eq, Decidable.not_not] at h); (try (exfalso; omega))))
      | (apply wl_rem; exact rfl; exact rfl; omega; exact rfl)
      | (apply wl_row; (iterate 7 (exact rfl)); intro b1)
      | (apply wl_box; exact rfl; exact rfl; exact rfl; intro b1))
    | (show WC _ _ _ _ _ _; first
      | refine WC.seq ?_
      | (apply WC.region; exact rfl)
      | (apply WC.condT; exact rfl)
      | (apply WC.condF; exact rfl)
      | (apply WC.cond; exact rfl; all_goals (intro h; (try simp only [reduceCtorEq, not_true_eq_false, not_false_eq_true, decide_eq_true_eq, decide_eq_false_iff_not, Bool.not_eq_true', Bool.not_eq_false', Bool.not_true, Bool.not_false, Int.not_lt, Int.not_le, ne_eq, Decidable.not_not] at h); (try (exfalso; omega))))
      | refine WC.block ?_
      | refine WC.skip ?_
      | refine WC.ret ?_
      | refine WC.exit ?_)
    | refine Qseq.nm ?_
    | refine Qseq.r ?_
    | refine Qseq.x ?_
    | refine Qblock.nm ?_
    | refine Qblock.r ?_
    | (apply Qblock.t; exact rfl)
    | (apply Qblock.f; exact rfl)
    | refine Qmx.r ?_
    | refine Qmx.nm ?_
    | (apply Qmx.f; exact rfl)
    | refine Qmn.r ?_
    | refine Qmn.x ?_
    | refine Qloop.r ?_
    | refine Qloop.x ?_
    | (apply Qfn.one; exact rfl)
    | (apply Qfn.two; exact rfl; exact rfl)
    | (apply Qfn.three; exact rfl; exact rfl; exact rfl)
    | refine Qfn.zero ?_
    | refine Qfn.zeroN ?_)
  (apply wl_cut (zs := r.take (szOf b - 1)); exact rfl; exact rfl; exact rfl; exact rfl; exact rfl; exact rfl; exact rfl; ((repeat (first | exact Pick.here | apply Pick.there))); exact rfl; (omega); (simp only [Int.toNat_natCast]; show ((b :: r).take (szOf b)).drop 1 = _; obtain ⟨s, hs⟩ : ∃ s, szOf b = s + 1 := ⟨szOf b - 1, by omega⟩; rw [hs]; rfl); intro a2 c2)
  repeat' (first
    | (show WL _ _ _ _ _ _ _; first
      | (apply wl_calc; exact rfl; exact True.intro; exact rfl)
      | refine WL.nil ?_
      | (apply wl_ld; exact rfl; exact rfl; ((repeat (first | exact Pick.here | apply Pick.there))); exact rfl; exact rfl)
      | (apply wl_calc; exact rfl; ((try simp only [inR]); omega); exact rfl)
      | (apply wl_store; exact rfl; exact rfl; exact rfl; ((repeat (first | exact Pick.here | apply Pick.there))); exact rfl)
      | (apply wl_ixI; exact rfl; exact rfl; exact rfl; exact rfl; exact rfl; ((repeat (first | exact Pick.here | apply Pick.there))); exact rfl; exact rfl; omega; exact rfl)
      | (apply wl_ldEI; exact rfl; exact rfl; ((repeat (first | exact Pick.here | apply Pick.there))); exact rfl; assumption; exact rfl; exact rfl)
      | (apply wl_fldE; exact rfl; exact rfl; exact rfl; exact rfl; exact rfl)
      | (apply wl_ixO; exact rfl; exact rfl; exact rfl; exact rfl; exact rfl; ((repeat (first | exact Pick.here | apply Pick.there))); exact rfl; exact rfl; omega; exact rfl)
      | (apply wl_ldEO; exact rfl; exact rfl; ((repeat (first | exact Pick.here | apply Pick.there))); exact rfl; assumption; exact rfl; exact rfl)
      | (apply wl_guard; exact rfl; exact rfl; exact rfl; exact rfl)
      | (apply wl_gno; exact rfl; exact rfl; exact rfl; exact rfl; exact rfl)
      | (apply wl_gsplit; exact rfl; exact rfl; exact rfl; exact rfl; all_goals (intro h; (try simp only [reduceCtorEq, not_true_eq_false, not_false_eq_true, decide_eq_true_eq, decide_eq_false_iff_not, Bool.not_eq_true', Bool.not_eq_false', Bool.not_true, Bool.not_false, Int.not_lt, Int.not_le, ne_eq, Decidable.not_not] at h); (try (exfalso; omega))))
      | (apply wl_rem; exact rfl; exact rfl; omega; exact rfl)
      | (apply wl_row; (iterate 7 (exact rfl)); intro b1)
      | (apply wl_box; exact rfl; exact rfl; exact rfl; intro b1))
    | (show WC _ _ _ _ _ _; first
      | refine WC.seq ?_
      | (apply WC.region; exact rfl)
      | (apply WC.condT; exact rfl)
      | (apply WC.condF; exact rfl)
      | (apply WC.cond; exact rfl; all_goals (intro h; (try simp only [reduceCtorEq, not_true_eq_false, not_false_eq_true, decide_eq_true_eq, decide_eq_false_iff_not, Bool.not_eq_true', Bool.not_eq_false', Bool.not_true, Bool.not_false, Int.not_lt, Int.not_le, ne_eq, Decidable.not_not] at h); (try (exfalso; omega))))
      | refine WC.block ?_
      | refine WC.skip ?_
      | refine WC.ret ?_
      | refine WC.exit ?_)
    | refine Qseq.nm ?_
    | refine Qseq.r ?_
    | refine Qseq.x ?_
    | refine Qblock.nm ?_
    | refine Qblock.r ?_
    | (apply Qblock.t; exact rfl)
    | (apply Qblock.f; exact rfl)
    | refine Qmx.r ?_
    | refine Qmx.nm ?_
    | (apply Qmx.f; exact rfl)
    | refine Qmn.r ?_
    | refine Qmn.x ?_
    | refine Qloop.r ?_
    | refine Qloop.x ?_
    | (apply Qfn.one; exact rfl)
    | (apply Qfn.two; exact rfl; exact rfl)
    | (apply Qfn.three; exact rfl; exact rfl; exact rfl)
    | refine Qfn.zero ?_
    | refine Qfn.zeroN ?_)
  have hr : Bytes (r.take (szOf b - 1)) := fun y hy => hx y (by simp [List.mem_of_mem_take hy])
  have hrl : (r.take (szOf b - 1)).length = szOf b - 1 := by simp; omega
  have htl : ∀ xs : List Int, xs = b :: r → takeM xs = if sizeM (num (b % 64) (r.take (szOf b - 1))) = szOf b then (num (b % 64) (r.take (szOf b - 1)), szOf b, true) else (0, 0, false) := by
    rintro _ rfl
    rw [takeM, if_neg (by omega)]
  have hpt := put_take (b := b) (r := r) hx (by omega)
  generalize hzs : r.take (szOf b - 1) = zs at *
  generalize hxs : b :: r = xs at *
  refine WC.loop (fun k e H => ∃ j : Nat, (j ≤ zs.length) ∧ k = zs.length - j ∧
    e = [(0, .slice a xs.length c), (2, .int .i64 (num (b % 64) (zs.take j))), (3, .int .i64 (szOf b)), (26, .slice a2 zs.length c2), (27, .int .i64 zs.length), (28, .int .i64 j)] ∧ H = [ISl EB a2 c2 zs, ISl EB a c xs]) (by repeat (first | exact trivial | refine ⟨rfl, ?_⟩)) (Ent.refl _) ⟨0, by omega, rfl, rfl, rfl⟩ ?_
  rintro _ _ _ ⟨j, hj, rfl, rfl, rfl⟩
  repeat' (first
    | (show WL _ _ _ _ _ _ _; first
      | (apply wl_calc; exact rfl; exact True.intro; exact rfl)
      | refine WL.nil ?_
      | (apply wl_ld; exact rfl; exact rfl; ((repeat (first | exact Pick.here | apply Pick.there))); exact rfl; exact rfl)
      | (apply wl_calc; exact rfl; ((try simp only [inR]); omega); exact rfl)
      | (apply wl_store; exact rfl; exact rfl; exact rfl; ((repeat (first | exact Pick.here | apply Pick.there))); exact rfl)
      | (apply wl_ixI; exact rfl; exact rfl; exact rfl; exact rfl; exact rfl; ((repeat (first | exact Pick.here | apply Pick.there))); exact rfl; exact rfl; omega; exact rfl)
      | (apply wl_ldEI; exact rfl; exact rfl; ((repeat (first | exact Pick.here | apply Pick.there))); exact rfl; assumption; exact rfl; exact rfl)
      | (apply wl_fldE; exact rfl; exact rfl; exact rfl; exact rfl; exact rfl)
      | (apply wl_ixO; exact rfl; exact rfl; exact rfl; exact rfl; exact rfl; ((repeat (first | exact Pick.here | apply Pick.there))); exact rfl; exact rfl; omega; exact rfl)
      | (apply wl_ldEO; exact rfl; exact rfl; ((repeat (first | exact Pick.here | apply Pick.there))); exact rfl; assumption; exact rfl; exact rfl)
      | (apply wl_guard; exact rfl; exact rfl; exact rfl; exact rfl)
      | (apply wl_gno; exact rfl; exact rfl; exact rfl; exact rfl; exact rfl)
      | (apply wl_gsplit; exact rfl; exact rfl; exact rfl; exact rfl; all_goals (intro h; (try simp only [reduceCtorEq, not_true_eq_false, not_false_eq_true, decide_eq_true_eq, decide_eq_false_iff_not, Bool.not_eq_true', Bool.not_eq_false', Bool.not_true, Bool.not_false, Int.not_lt, Int.not_le, ne_eq, Decidable.not_not] at h); (try (exfalso; omega))))
      | (apply wl_rem; exact rfl; exact rfl; omega; exact rfl)
      | (apply wl_row; (iterate 7 (exact rfl)); intro b1)
      | (apply wl_box; exact rfl; exact rfl; exact rfl; intro b1))
    | (show WC _ _ _ _ _ _; first
      | refine WC.seq ?_
      | (apply WC.region; exact rfl)
      | (apply WC.condT; exact rfl)
      | (apply WC.condF; exact rfl)
      | (apply WC.cond; exact rfl; all_goals (intro h; (try simp only [reduceCtorEq, not_true_eq_false, not_false_eq_true, decide_eq_true_eq, decide_eq_false_iff_not, Bool.not_eq_true', Bool.not_eq_false', Bool.not_true, Bool.not_false, Int.not_lt, Int.not_le, ne_eq, Decidable.not_not] at h); (try (exfalso; omega))))
      | refine WC.block ?_
      | refine WC.skip ?_
      | refine WC.ret ?_
      | refine WC.exit ?_)
    | refine Qseq.nm ?_
    | refine Qseq.r ?_
    | refine Qseq.x ?_
    | refine Qblock.nm ?_
    | refine Qblock.r ?_
    | (apply Qblock.t; exact rfl)
    | (apply Qblock.f; exact rfl)
    | refine Qmx.r ?_
    | refine Qmx.nm ?_
    | (apply Qmx.f; exact rfl)
    | refine Qmn.r ?_
    | refine Qmn.x ?_
    | refine Qloop.r ?_
    | refine Qloop.x ?_
    | (apply Qfn.one; exact rfl)
    | (apply Qfn.two; exact rfl; exact rfl)
    | (apply Qfn.three; exact rfl; exact rfl; exact rfl)
    | refine Qfn.zero ?_
    | refine Qfn.zeroN ?_)
  · obtain ⟨z, hz⟩ := getI (i := j) (xs := zs) (by omega)
    have hzb : 0 ≤ z ∧ z ≤ 255 := hr z (List.mem_of_getElem? hz)
    repeat' (first
      | (show WL _ _ _ _ _ _ _; first
        | (apply wl_calc; exact rfl; exact True.intro; exact rfl)
        | refine WL.nil ?_
        | (apply wl_ld; exact rfl; exact rfl; ((repeat (first | exact Pick.here | apply Pick.there))); exact rfl; exact rfl)
        | (apply wl_calc; exact rfl; ((try simp only [inR]); omega); exact rfl)
        | (apply wl_store; exact rfl; exact rfl; exact rfl; ((repeat (first | exact Pick.here | apply Pick.there))); exact rfl)
        | (apply wl_ixI; exact rfl; exact rfl; exact rfl; exact rfl; exact rfl; ((repeat (first | exact Pick.here | apply Pick.there))); exact rfl; exact rfl; omega; exact rfl)
        | (apply wl_ldEI; exact rfl; exact rfl; ((repeat (first | exact Pick.here | apply Pick.there))); exact rfl; assumption; exact rfl; exact rfl)
        | (apply wl_fldE; exact rfl; exact rfl; exact rfl; exact rfl; exact rfl)
        | (apply wl_ixO; exact rfl; exact rfl; exact rfl; exact rfl; exact rfl; ((repeat (first | exact Pick.here | apply Pick.there))); exact rfl; exact rfl; omega; exact rfl)
        | (apply wl_ldEO; exact rfl; exact rfl; ((repeat (first | exact Pick.here | apply Pick.there))); exact rfl; assumption; exact rfl; exact rfl)
        | (apply wl_guard; exact rfl; exact rfl; exact rfl; exact rfl)
        | (apply wl_gno; exact rfl; exact rfl; exact rfl; exact rfl; exact rfl)
        | (apply wl_gsplit; exact rfl; exact rfl; exact rfl; exact rfl; all_goals (intro h; (try simp only [reduceCtorEq, not_true_eq_false, not_false_eq_true, decide_eq_true_eq, decide_eq_false_iff_not, Bool.not_eq_true', Bool.not_eq_false', Bool.not_true, Bool.not_false, Int.not_lt, Int.not_le, ne_eq, Decidable.not_not] at h); (try (exfalso; omega))))
        | (apply wl_rem; exact rfl; exact rfl; omega; exact rfl)
        | (apply wl_row; (iterate 7 (exact rfl)); intro b1)
        | (apply wl_box; exact rfl; exact rfl; exact rfl; intro b1))
      | (show WC _ _ _ _ _ _; first
        | refine WC.seq ?_
        | (apply WC.region; exact rfl)
        | (apply WC.condT; exact rfl)
        | (apply WC.condF; exact rfl)
        | (apply WC.cond; exact rfl; all_goals (intro h; (try simp only [reduceCtorEq, not_true_eq_false, not_false_eq_true, decide_eq_true_eq, decide_eq_false_iff_not, Bool.not_eq_true', Bool.not_eq_false', Bool.not_true, Bool.not_false, Int.not_lt, Int.not_le, ne_eq, Decidable.not_not] at h); (try (exfalso; omega))))
        | refine WC.block ?_
        | refine WC.skip ?_
        | refine WC.ret ?_
        | refine WC.exit ?_)
      | refine Qseq.nm ?_
      | refine Qseq.r ?_
      | refine Qseq.x ?_
      | refine Qblock.nm ?_
      | refine Qblock.r ?_
      | (apply Qblock.t; exact rfl)
      | (apply Qblock.f; exact rfl)
      | refine Qmx.r ?_
      | refine Qmx.nm ?_
      | (apply Qmx.f; exact rfl)
      | refine Qmn.r ?_
      | refine Qmn.x ?_
      | refine Qloop.r ?_
      | refine Qloop.x ?_
      | (apply Qfn.one; exact rfl)
      | (apply Qfn.two; exact rfl; exact rfl)
      | (apply Qfn.three; exact rfl; exact rfl; exact rfl)
      | refine Qfn.zero ?_
      | refine Qfn.zeroN ?_)
    have hv := num_take_bd (b := b) (zs := zs.take j) (fun y hy => hr y (List.mem_of_mem_take hy))
    rw [List.length_take, Nat.min_eq_left hj] at hv
    have hp := pow_le8 (n := j) (m := 6) (by omega)
    refine wl_shl (2 ^ 8 * num (b % 64) (zs.take j)) rfl rfl (by simp only [IntKind.bits]; omega) ?_ rfl ?_
    · rw [show num (b % 64) (zs.take j) * 2 ^ (8 : Int).toNat = 2 ^ 8 * num (b % 64) (zs.take j) from Int.mul_comm _ _]
      exact inR.wrap (by simp only [inR]; omega)
    repeat' (first
      | (show WL _ _ _ _ _ _ _; first
        | (apply wl_calc; exact rfl; exact True.intro; exact rfl)
        | refine WL.nil ?_
        | (apply wl_ld; exact rfl; exact rfl; ((repeat (first | exact Pick.here | apply Pick.there))); exact rfl; exact rfl)
        | (apply wl_calc; exact rfl; ((try simp only [inR]); omega); exact rfl)
        | (apply wl_store; exact rfl; exact rfl; exact rfl; ((repeat (first | exact Pick.here | apply Pick.there))); exact rfl)
        | (apply wl_ixI; exact rfl; exact rfl; exact rfl; exact rfl; exact rfl; ((repeat (first | exact Pick.here | apply Pick.there))); exact rfl; exact rfl; omega; exact rfl)
        | (apply wl_ldEI; exact rfl; exact rfl; ((repeat (first | exact Pick.here | apply Pick.there))); exact rfl; assumption; exact rfl; exact rfl)
        | (apply wl_fldE; exact rfl; exact rfl; exact rfl; exact rfl; exact rfl)
        | (apply wl_ixO; exact rfl; exact rfl; exact rfl; exact rfl; exact rfl; ((repeat (first | exact Pick.here | apply Pick.there))); exact rfl; exact rfl; omega; exact rfl)
        | (apply wl_ldEO; exact rfl; exact rfl; ((repeat (first | exact Pick.here | apply Pick.there))); exact rfl; assumption; exact rfl; exact rfl)
        | (apply wl_guard; exact rfl; exact rfl; exact rfl; exact rfl)
        | (apply wl_gno; exact rfl; exact rfl; exact rfl; exact rfl; exact rfl)
        | (apply wl_gsplit; exact rfl; exact rfl; exact rfl; exact rfl; all_goals (intro h; (try simp only [reduceCtorEq, not_true_eq_false, not_false_eq_true, decide_eq_true_eq, decide_eq_false_iff_not, Bool.not_eq_true', Bool.not_eq_false', Bool.not_true, Bool.not_false, Int.not_lt, Int.not_le, ne_eq, Decidable.not_not] at h); (try (exfalso; omega))))
        | (apply wl_rem; exact rfl; exact rfl; omega; exact rfl)
        | (apply wl_row; (iterate 7 (exact rfl)); intro b1)
        | (apply wl_box; exact rfl; exact rfl; exact rfl; intro b1))
      | (show WC _ _ _ _ _ _; first
        | refine WC.seq ?_
        | (apply WC.region; exact rfl)
        | (apply WC.condT; exact rfl)
        | (apply WC.condF; exact rfl)
        | (apply WC.cond; exact rfl; all_goals (intro h; (try simp only [reduceCtorEq, not_true_eq_false, not_false_eq_true, decide_eq_true_eq, decide_eq_false_iff_not, Bool.not_eq_true', Bool.not_eq_false', Bool.not_true, Bool.not_false, Int.not_lt, Int.not_le, ne_eq, Decidable.not_not] at h); (try (exfalso; omega))))
        | refine WC.block ?_
        | refine WC.skip ?_
        | refine WC.ret ?_
        | refine WC.exit ?_)
      | refine Qseq.nm ?_
      | refine Qseq.r ?_
      | refine Qseq.x ?_
      | refine Qblock.nm ?_
      | refine Qblock.r ?_
      | (apply Qblock.t; exact rfl)
      | (apply Qblock.f; exact rfl)
      | refine Qmx.r ?_
      | refine Qmx.nm ?_
      | (apply Qmx.f; exact rfl)
      | refine Qmn.r ?_
      | refine Qmn.x ?_
      | refine Qloop.r ?_
      | refine Qloop.x ?_
      | (apply Qfn.one; exact rfl)
      | (apply Qfn.two; exact rfl; exact rfl)
      | (apply Qfn.three; exact rfl; exact rfl; exact rfl)
      | refine Qfn.zero ?_
      | refine Qfn.zeroN ?_)
    refine wl_bits (num (b % 64) (zs.take (j + 1))) (.inr (.inl rfl)) rfl rfl ?_ rfl ?_
    · rw [bits_or 8 hv.1 (by omega) (by simp only [inR]; omega) (by simp only [inR]; omega) (by simp only [inR]; omega), takeI hz, num_app]
      simp only [num]; omega
    repeat' (first
      | (show WL _ _ _ _ _ _ _; first
        | (apply wl_calc; exact rfl; exact True.intro; exact rfl)
        | refine WL.nil ?_
        | (apply wl_ld; exact rfl; exact rfl; ((repeat (first | exact Pick.here | apply Pick.there))); exact rfl; exact rfl)
        | (apply wl_calc; exact rfl; ((try simp only [inR]); omega); exact rfl)
        | (apply wl_store; exact rfl; exact rfl; exact rfl; ((repeat (first | exact Pick.here | apply Pick.there))); exact rfl)
        | (apply wl_ixI; exact rfl; exact rfl; exact rfl; exact rfl; exact rfl; ((repeat (first | exact Pick.here | apply Pick.there))); exact rfl; exact rfl; omega; exact rfl)
        | (apply wl_ldEI; exact rfl; exact rfl; ((repeat (first | exact Pick.here | apply Pick.there))); exact rfl; assumption; exact rfl; exact rfl)
        | (apply wl_fldE; exact rfl; exact rfl; exact rfl; exact rfl; exact rfl)
        | (apply wl_ixO; exact rfl; exact rfl; exact rfl; exact rfl; exact rfl; ((repeat (first | exact Pick.here | apply Pick.there))); exact rfl; exact rfl; omega; exact rfl)
        | (apply wl_ldEO; exact rfl; exact rfl; ((repeat (first | exact Pick.here | apply Pick.there))); exact rfl; assumption; exact rfl; exact rfl)
        | (apply wl_guard; exact rfl; exact rfl; exact rfl; exact rfl)
        | (apply wl_gno; exact rfl; exact rfl; exact rfl; exact rfl; exact rfl)
        | (apply wl_gsplit; exact rfl; exact rfl; exact rfl; exact rfl; all_goals (intro h; (try simp only [reduceCtorEq, not_true_eq_false, not_false_eq_true, decide_eq_true_eq, decide_eq_false_iff_not, Bool.not_eq_true', Bool.not_eq_false', Bool.not_true, Bool.not_false, Int.not_lt, Int.not_le, ne_eq, Decidable.not_not] at h); (try (exfalso; omega))))
        | (apply wl_rem; exact rfl; exact rfl; omega; exact rfl)
        | (apply wl_row; (iterate 7 (exact rfl)); intro b1)
        | (apply wl_box; exact rfl; exact rfl; exact rfl; intro b1))
      | (show WC _ _ _ _ _ _; first
        | refine WC.seq ?_
        | (apply WC.region; exact rfl)
        | (apply WC.condT; exact rfl)
        | (apply WC.condF; exact rfl)
        | (apply WC.cond; exact rfl; all_goals (intro h; (try simp only [reduceCtorEq, not_true_eq_false, not_false_eq_true, decide_eq_true_eq, decide_eq_false_iff_not, Bool.not_eq_true', Bool.not_eq_false', Bool.not_true, Bool.not_false, Int.not_lt, Int.not_le, ne_eq, Decidable.not_not] at h); (try (exfalso; omega))))
        | refine WC.block ?_
        | refine WC.skip ?_
        | refine WC.ret ?_
        | refine WC.exit ?_)
      | refine Qseq.nm ?_
      | refine Qseq.r ?_
      | refine Qseq.x ?_
      | refine Qblock.nm ?_
      | refine Qblock.r ?_
      | (apply Qblock.t; exact rfl)
      | (apply Qblock.f; exact rfl)
      | refine Qmx.r ?_
      | refine Qmx.nm ?_
      | (apply Qmx.f; exact rfl)
      | refine Qmn.r ?_
      | refine Qmn.x ?_
      | refine Qloop.r ?_
      | refine Qloop.x ?_
      | (apply Qfn.one; exact rfl)
      | (apply Qfn.two; exact rfl; exact rfl)
      | (apply Qfn.three; exact rfl; exact rfl; exact rfl)
      | refine Qfn.zero ?_
      | refine Qfn.zeroN ?_)
    refine Qloop.again (zs.length - (j + 1)) (by omega) (by repeat (first | exact trivial | refine ⟨rfl, ?_⟩)) (Ent.refl _) ⟨j + 1, by omega, rfl, rfl, rfl⟩
  obtain rfl : j = zs.length := by omega
  rw [List.take_length]
  refine WC.ent (Ent.addP (ISl.pers EB a c xs) (.there .here) (ISl.sub 0 (szOf b) (by omega) (by omega) (sz := 1) rfl)) ?_
  have hv := num_take_bd (b := b) hr
  have hp := pow_le8 (n := zs.length) (m := 7) (by omega)
  (apply wc_drawH 7 ([ISl EB (subA a 1 c 0) (c - 0) ((xs.take (szOf b)).drop 0), ISl EB a2 c2 zs, ISl EB a c xs]) (H' := []); (first | exact Ent.refl _ | exact Take.fin (by repeat (first | exact Take.nil | (apply Take.keepI; focus ((repeat (first | exact Pick.here | apply Pick.there)); done)) | (apply Take.cons; focus ((repeat (first | exact Pick.here | apply Pick.there)); done)) | (apply Take.pure; (first | assumption | omega))))); exact rfl; (focus (simp only [List.length_cons, List.length_nil, Nat.zero_add, Nat.reduceAdd]; exact rfl)); kernel_rfl; kernel_rfl; kernel_rfl; kernel_rfl)
  repeat' (first
    | (show WA _ _ _ _ _ _ _ _ _ _ _; first
      | (apply wa_seq; exact rfl; (first | exact QuietT.calc rfl True.intro | (apply QuietT.load; exact rfl; exact rfl; ((repeat (first | exact Pick.here | apply Pick.there))); exact rfl) | (apply QuietT.calc; exact rfl; ((try simp only [inR]); omega)) | (apply QuietT.indexI; (iterate 5 (exact rfl)); ((repeat (first | exact Pick.here | apply Pick.there))); exact rfl; (first | exact rfl | omega); omega) | (apply QuietT.loadEI; exact rfl; exact rfl; ((repeat (first | exact Pick.here | apply Pick.there))); exact rfl; assumption; exact rfl) | (apply QuietT.fieldE; exact rfl; exact rfl; exact rfl; exact rfl) | (apply QuietT.indexO; (iterate 5 (exact rfl)); ((repeat (first | exact Pick.here | apply Pick.there))); exact rfl; (first | exact rfl | omega); omega) | (apply QuietT.loadEO; exact rfl; exact rfl; ((repeat (first | exact Pick.here | apply Pick.there))); exact rfl; assumption; exact rfl) | (apply QuietT.loadI; exact rfl; exact rfl; ((repeat (first | exact Pick.here | apply Pick.there))); exact rfl)); exact rfl; (iterate 4 (focus (kernel_rfl))); exact rfl)
      | (apply wa_seqN; exact rfl; exact rfl; exact rfl; exact rfl; exact rfl; exact rfl; (iterate 4 (focus (kernel_rfl))); exact rfl)
      | (apply wa_seqG; exact rfl; exact rfl; exact rfl; exact rfl; (first | exact QuietT.calc rfl True.intro | (apply QuietT.load; exact rfl; exact rfl; ((repeat (first | exact Pick.here | apply Pick.there))); exact rfl) | (apply QuietT.calc; exact rfl; ((try simp only [inR]); omega)) | (apply QuietT.indexI; (iterate 5 (exact rfl)); ((repeat (first | exact Pick.here | apply Pick.there))); exact rfl; (first | exact rfl | omega); omega) | (apply QuietT.loadEI; exact rfl; exact rfl; ((repeat (first | exact Pick.here | apply Pick.there))); exact rfl; assumption; exact rfl) | (apply QuietT.fieldE; exact rfl; exact rfl; exact rfl; exact rfl) | (apply QuietT.indexO; (iterate 5 (exact rfl)); ((repeat (first | exact Pick.here | apply Pick.there))); exact rfl; (first | exact rfl | omega); omega) | (apply QuietT.loadEO; exact rfl; exact rfl; ((repeat (first | exact Pick.here | apply Pick.there))); exact rfl; assumption; exact rfl) | (apply QuietT.loadI; exact rfl; exact rfl; ((repeat (first | exact Pick.here | apply Pick.there))); exact rfl)); exact rfl; (iterate 4 (focus (kernel_rfl))); exact rfl)
      | (apply wa_splitD; exact rfl; exact rfl; exact rfl; all_goals (intro h; (try simp only [reduceCtorEq, not_true_eq_false, not_false_eq_true, decide_eq_true_eq, decide_eq_false_iff_not, Bool.not_eq_true', Bool.not_eq_false', Bool.not_true, Bool.not_false, Int.not_lt, Int.not_le, ne_eq, Decidable.not_not] at h); (try (exfalso; omega))))
      | (apply wa_splitE; exact rfl; exact rfl; exact rfl; all_goals (intro h; (try simp only [reduceCtorEq, not_true_eq_false, not_false_eq_true, decide_eq_true_eq, decide_eq_false_iff_not, Bool.not_eq_true', Bool.not_eq_false', Bool.not_true, Bool.not_false, Int.not_lt, Int.not_le, ne_eq, Decidable.not_not] at h); (try (exfalso; omega))))
      | refine WA.end_ ?_)
    | (show WT _ _ _ _ 0 _ _ _; (refine wt_done ?_ ?_; kernel_rfl)))
  refine wa_at 2 rfl (QuietT.calc rfl True.intro) rfl (by kernel_rfl) (by kernel_rfl) (by kernel_rfl) (by kernel_rfl) rfl ?_
  refine wa_at 3 rfl (QuietT.calc rfl True.intro) rfl (by kernel_rfl) (by kernel_rfl) (by kernel_rfl) (by kernel_rfl) rfl ?_
  refine wa_at 4 rfl (QuietT.slice (m := ((xs.take (szOf b)).drop 0).length) rfl rfl rfl rfl rfl rfl ?_ ?_) rfl (by kernel_rfl) (by kernel_rfl) (by kernel_rfl) (by kernel_rfl) rfl ?_
  · omega
  · simp; omega
  refine wa_call 1 rfl (by kernel_rfl) rfl rfl rfl (put_spec _ (by omega)) (by repeat (first | exact Take.nil | (apply Take.keepI; focus ((repeat (first | exact Pick.here | apply Pick.there)); done)) | (apply Take.cons; focus ((repeat (first | exact Pick.here | apply Pick.there)); done)) | (apply Take.pure; (first | assumption | omega)))) ?_
  rintro _ _ ⟨pa, pc, rfl, rfl⟩
  refine ⟨[ISl EB pa pc (putM (num (b % 64) zs))], ?_, ?_⟩
  · exact OSl.share.trans (Take.fin (by repeat (first | exact Take.nil | (apply Take.keepI; focus ((repeat (first | exact Pick.here | apply Pick.there)); done)) | (apply Take.cons; focus ((repeat (first | exact Pick.here | apply Pick.there)); done)) | (apply Take.pure; (first | assumption | omega)))))
  refine wa_call 5 rfl (by kernel_rfl) rfl rfl rfl equal_spec (by repeat (first | exact Take.nil | (apply Take.keepI; focus ((repeat (first | exact Pick.here | apply Pick.there)); done)) | (apply Take.cons; focus ((repeat (first | exact Pick.here | apply Pick.there)); done)) | (apply Take.pure; (first | assumption | omega)))) ?_
  rintro _ _ ⟨rfl, rfl⟩
  refine ⟨[], Take.fin (by repeat (first | exact Take.nil | (apply Take.keepI; focus ((repeat (first | exact Pick.here | apply Pick.there)); done)) | (apply Take.cons; focus ((repeat (first | exact Pick.here | apply Pick.there)); done)) | (apply Take.pure; (first | assumption | omega)))), ?_⟩
  refine wa_act 6 rfl (by kernel_rfl) rfl ((QuietT.calc rfl True.intro).opT ⟨_, Ent.refl _, ?_⟩)
  repeat' (first
    | (show WA _ _ _ _ _ _ _ _ _ _ _; first
      | (apply wa_seq; exact rfl; (first | exact QuietT.calc rfl True.intro | (apply QuietT.load; exact rfl; exact rfl; ((repeat (first | exact Pick.here | apply Pick.there))); exact rfl) | (apply QuietT.calc; exact rfl; ((try simp only [inR]); omega)) | (apply QuietT.indexI; (iterate 5 (exact rfl)); ((repeat (first | exact Pick.here | apply Pick.there))); exact rfl; (first | exact rfl | omega); omega) | (apply QuietT.loadEI; exact rfl; exact rfl; ((repeat (first | exact Pick.here | apply Pick.there))); exact rfl; assumption; exact rfl) | (apply QuietT.fieldE; exact rfl; exact rfl; exact rfl; exact rfl) | (apply QuietT.indexO; (iterate 5 (exact rfl)); ((repeat (first | exact Pick.here | apply Pick.there))); exact rfl; (first | exact rfl | omega); omega) | (apply QuietT.loadEO; exact rfl; exact rfl; ((repeat (first | exact Pick.here | apply Pick.there))); exact rfl; assumption; exact rfl) | (apply QuietT.loadI; exact rfl; exact rfl; ((repeat (first | exact Pick.here | apply Pick.there))); exact rfl)); exact rfl; (iterate 4 (focus (kernel_rfl))); exact rfl)
      | (apply wa_seqN; exact rfl; exact rfl; exact rfl; exact rfl; exact rfl; exact rfl; (iterate 4 (focus (kernel_rfl))); exact rfl)
      | (apply wa_seqG; exact rfl; exact rfl; exact rfl; exact rfl; (first | exact QuietT.calc rfl True.intro | (apply QuietT.load; exact rfl; exact rfl; ((repeat (first | exact Pick.here | apply Pick.there))); exact rfl) | (apply QuietT.calc; exact rfl; ((try simp only [inR]); omega)) | (apply QuietT.indexI; (iterate 5 (exact rfl)); ((repeat (first | exact Pick.here | apply Pick.there))); exact rfl; (first | exact rfl | omega); omega) | (apply QuietT.loadEI; exact rfl; exact rfl; ((repeat (first | exact Pick.here | apply Pick.there))); exact rfl; assumption; exact rfl) | (apply QuietT.fieldE; exact rfl; exact rfl; exact rfl; exact rfl) | (apply QuietT.indexO; (iterate 5 (exact rfl)); ((repeat (first | exact Pick.here | apply Pick.there))); exact rfl; (first | exact rfl | omega); omega) | (apply QuietT.loadEO; exact rfl; exact rfl; ((repeat (first | exact Pick.here | apply Pick.there))); exact rfl; assumption; exact rfl) | (apply QuietT.loadI; exact rfl; exact rfl; ((repeat (first | exact Pick.here | apply Pick.there))); exact rfl)); exact rfl; (iterate 4 (focus (kernel_rfl))); exact rfl)
      | (apply wa_splitD; exact rfl; exact rfl; exact rfl; all_goals (intro h; (try simp only [reduceCtorEq, not_true_eq_false, not_false_eq_true, decide_eq_true_eq, decide_eq_false_iff_not, Bool.not_eq_true', Bool.not_eq_false', Bool.not_true, Bool.not_false, Int.not_lt, Int.not_le, ne_eq, Decidable.not_not] at h); (try (exfalso; omega))))
      | (apply wa_splitE; exact rfl; exact rfl; exact rfl; all_goals (intro h; (try simp only [reduceCtorEq, not_true_eq_false, not_false_eq_true, decide_eq_true_eq, decide_eq_false_iff_not, Bool.not_eq_true', Bool.not_eq_false', Bool.not_true, Bool.not_false, Int.not_lt, Int.not_le, ne_eq, Decidable.not_not] at h); (try (exfalso; omega))))
      | refine WA.end_ ?_)
    | (show WT _ _ _ _ 0 _ _ _; (refine wt_done ?_ ?_; kernel_rfl)))
  rw [List.drop_zero]
  repeat' (first
    | (show WL _ _ _ _ _ _ _; first
      | (apply wl_calc; exact rfl; exact True.intro; exact rfl)
      | refine WL.nil ?_
      | (apply wl_ld; exact rfl; exact rfl; ((repeat (first | exact Pick.here | apply Pick.there))); exact rfl; exact rfl)
      | (apply wl_calc; exact rfl; ((try simp only [inR]); omega); exact rfl)
      | (apply wl_store; exact rfl; exact rfl; exact rfl; ((repeat (first | exact Pick.here | apply Pick.there))); exact rfl)
      | (apply wl_ixI; exact rfl; exact rfl; exact rfl; exact rfl; exact rfl; ((repeat (first | exact Pick.here | apply Pick.there))); exact rfl; exact rfl; omega; exact rfl)
      | (apply wl_ldEI; exact rfl; exact rfl; ((repeat (first | exact Pick.here | apply Pick.there))); exact rfl; assumption; exact rfl; exact rfl)
      | (apply wl_fldE; exact rfl; exact rfl; exact rfl; exact rfl; exact rfl)
      | (apply wl_ixO; exact rfl; exact rfl; exact rfl; exact rfl; exact rfl; ((repeat (first | exact Pick.here | apply Pick.there))); exact rfl; exact rfl; omega; exact rfl)
      | (apply wl_ldEO; exact rfl; exact rfl; ((repeat (first | exact Pick.here | apply Pick.there))); exact rfl; assumption; exact rfl; exact rfl)
      | (apply wl_guard; exact rfl; exact rfl; exact rfl; exact rfl)
      | (apply wl_gno; exact rfl; exact rfl; exact rfl; exact rfl; exact rfl)
      | (apply wl_gsplit; exact rfl; exact rfl; exact rfl; exact rfl; all_goals (intro h; (try simp only [reduceCtorEq, not_true_eq_false, not_false_eq_true, decide_eq_true_eq, decide_eq_false_iff_not, Bool.not_eq_true', Bool.not_eq_false', Bool.not_true, Bool.not_false, Int.not_lt, Int.not_le, ne_eq, Decidable.not_not] at h); (try (exfalso; omega))))
      | (apply wl_rem; exact rfl; exact rfl; omega; exact rfl)
      | (apply wl_row; (iterate 7 (exact rfl)); intro b1)
      | (apply wl_box; exact rfl; exact rfl; exact rfl; intro b1))
    | (show WC _ _ _ _ _ _; first
      | refine WC.seq ?_
      | (apply WC.region; exact rfl)
      | (apply WC.condT; exact rfl)
      | (apply WC.condF; exact rfl)
      | (apply WC.cond; exact rfl; all_goals (intro h; (try simp only [reduceCtorEq, not_true_eq_false, not_false_eq_true, decide_eq_true_eq, decide_eq_false_iff_not, Bool.not_eq_true', Bool.not_eq_false', Bool.not_true, Bool.not_false, Int.not_lt, Int.not_le, ne_eq, Decidable.not_not] at h); (try (exfalso; omega))))
      | refine WC.block ?_
      | refine WC.skip ?_
      | refine WC.ret ?_
      | refine WC.exit ?_)
    | refine Qseq.nm ?_
    | refine Qseq.r ?_
    | refine Qseq.x ?_
    | refine Qblock.nm ?_
    | refine Qblock.r ?_
    | (apply Qblock.t; exact rfl)
    | (apply Qblock.f; exact rfl)
    | refine Qmx.r ?_
    | refine Qmx.nm ?_
    | (apply Qmx.f; exact rfl)
    | refine Qmn.r ?_
    | refine Qmn.x ?_
    | refine Qloop.r ?_
    | refine Qloop.x ?_
    | (apply Qfn.one; exact rfl)
    | (apply Qfn.two; exact rfl; exact rfl)
    | (apply Qfn.three; exact rfl; exact rfl; exact rfl)
    | refine Qfn.zero ?_
    | refine Qfn.zeroN ?_)
  · (refine ⟨_, ?_, ?_, rfl⟩; exact Take.fin (by repeat (first | exact Take.nil | (apply Take.keepI; focus ((repeat (first | exact Pick.here | apply Pick.there)); done)) | (apply Take.cons; focus ((repeat (first | exact Pick.here | apply Pick.there)); done)) | (apply Take.pure; (first | assumption | omega)))); try rfl)
    simp only [takeV]
    rw [htl xs rfl, if_neg (by rw [← hpt]; exact h)]
    rfl
  · (refine ⟨_, ?_, ?_, rfl⟩; exact Take.fin (by repeat (first | exact Take.nil | (apply Take.keepI; focus ((repeat (first | exact Pick.here | apply Pick.there)); done)) | (apply Take.cons; focus ((repeat (first | exact Pick.here | apply Pick.there)); done)) | (apply Take.pure; (first | assumption | omega)))); try rfl)
    simp only [takeV]
    rw [htl xs rfl, if_pos (hpt.1 h)]
end Go.Proofs.Ytidmolpkcfhkaaa
