/- Contracts: bytes, read field by field. -/
import Derived.Test.YtidmolpkcfhkaaaC12
import Derived.Test.YtidmolpkcfhkaaaK16
namespace Go.Proofs.Ytidmolpkcfhkaaa
set_option linter.unusedSectionVars false
set_option linter.unusedVariables false
set_option linter.unusedSimpArgs false
open Go
/-- A reader: its bytes, its place, was there something that is none. -/
structure RD where
  b : List Int
  at_ : Nat
  bad : Bool
def RDc (a : Option Addr) (c : Nat) (r : RD) : List Value := [.slice a r.b.length c, .int .i64 r.at_, .bool r.bad]
def RD.tk (r : RD) : Int × Nat × Bool := takeM (r.b.drop r.at_)
def RD.number (r : RD) : Int × RD := if r.bad = true ∨ r.tk.2.2 = false then (0, { r with bad := true }) else (r.tk.1, { r with at_ := r.at_ + r.tk.2.1 })
def RD.noBytes (r : RD) (most : Int) : Prop := r.bad = true ∨ r.tk.2.2 = false ∨ most < r.tk.1 ∨ ((r.b.length : Int) - r.at_) - r.tk.2.1 < r.tk.1
instance (r : RD) (most : Int) : Decidable (r.noBytes most) := by unfold RD.noBytes; exact inferInstance
def RD.bytes (r : RD) (most : Int) : List Int × RD := if r.noBytes most then ([], { r with bad := true }) else ((r.b.drop (r.at_ + r.tk.2.1)).take r.tk.1.toNat, { r with at_ := r.at_ + r.tk.2.1 + r.tk.1.toNat })
def RD.byte (r : RD) : Int × RD := if r.bad = true ∨ r.b.length ≤ r.at_ then (0, { r with bad := true }) else ((r.b[r.at_]?).getD 0, { r with at_ := r.at_ + 1 })
theorem take_le {xs : List Int} : (takeM xs).2.1 ≤ xs.length := by
  cases xs with
  | nil => simp [takeM]
  | cons b r =>
    simp only [takeM]
    split
    · simp
    · split
      · simp; omega
      · simp
theorem take_n0 {xs : List Int} (h : (takeM xs).2.2 = true) : 0 ≤ (takeM xs).1 ∧ (takeM xs).1 ≤ 4611686018427387903 ∧ 1 ≤ (takeM xs).2.1 := by
  cases xs with
  | nil => simp [takeM] at h
  | cons b r =>
    simp only [takeM] at h ⊢
    split at h
    · simp at h
    · rename_i h1
      rw [if_neg h1]
      split at h
      · rename_i h2
        rw [if_pos h2]
        have h3 := szOf_pos b
        have h4 := size_cases (num (b % 64) (r.take (szOf b - 1)))
        simp only
        omega
      · simp at h
attribute [local irreducible] Decidable.decide Qfn Qseq Qblock Qloop Qmx Qmn WL WC OpT Pick Ent QuietT WT WA ISl OSl Blk IBlk
variable {P : Program} [hP : IsP P]
theorem number_spec {b : Nat} {T : TypeId} {a : Option Addr} {c : Nat} {r : RD} (hl : r.b.length ≤ 140737488355328) (hr : r.at_ ≤ r.b.length) : Spec P 43 [.pointer (some ⟨b, 0, none⟩)] [Blk b T (RDc a c r), ISl EB a c r.b]
    fun v R => v = .int .i64 r.number.1 ∧ R = [Blk b T (RDc a c r.number.2)] := by
  obtain ⟨n, s, ok, htk⟩ : ∃ n s ok, takeM (r.b.drop r.at_) = (n, s, ok) := ⟨_, _, _, rfl⟩
  have hs : s ≤ r.b.length := by have := take_le (xs := r.b.drop r.at_); rw [htk] at this; simp at this; omega
  have k1 : r.bad = true ∨ ok = false → r.number = (0, { r with bad := true }) := fun h => if_pos (by unfold RD.tk; rw [htk]; exact h)
  have k2 : r.bad = false → ok = true → r.number = (n, { r with at_ := r.at_ + s }) := fun h1 h2 => by unfold RD.number RD.tk; rw [htk, if_neg (by simp [h1, h2])]
  refine Spec.of (fn := Try.f43) (by rw [hP.eq]; exact Try.func43) (by kernel_rfl) rfl Try.ntmps43 rfl rfl ?_
  repeat' (first
    | (show WL _ _ _ _ _ _ _; first
      | (apply wl_calc; exact rfl; exact True.intro; exact rfl)
      | refine WL.nil ?_
      | (apply wl_ld; exact rfl; exact rfl; ((repeat (first | exact Pick.here | apply Pick.there))); exact rfl; exact rfl)
      | (apply wl_calc; exact rfl; ((try simp only [inR]); omega); exact rfl)
      | (apply wl_store; exact rfl; exact rfl; exact rfl; ((repeat (first | exact Pick.here | apply Pick.there))); exact rfl)
      | (apply wl_ixI; exact rfl; exact rfl; exact rfl; exact rfl; exact rfl; ((repeat (first | exact Pick.here | apply Pick.there))); exact rfl; (first | exact rfl | omega); omega; exact rfl)
      | (apply wl_ldEI; exact rfl; exact rfl; ((repeat (first | exact Pick.here | apply Pick.there))); exact rfl; assumption; exact rfl; exact rfl)
      | (apply wl_fldE; exact rfl; exact rfl; exact rfl; exact rfl; exact rfl)
      | (apply wl_ixO; exact rfl; exact rfl; exact rfl; exact rfl; exact rfl; ((repeat (first | exact Pick.here | apply Pick.there))); exact rfl; (first | exact rfl | omega); omega; exact rfl)
      | (apply wl_ldEO; exact rfl; exact rfl; ((repeat (first | exact Pick.here | apply Pick.there))); exact rfl; assumption; exact rfl; exact rfl)
      | (apply wl_guard; exact rfl; exact rfl; exact rfl; exact rfl)
      | (apply wl_gno; exact rfl; exact rfl; exact rfl; exact rfl; exact rfl)
      | (apply wl_gsplit; exact rfl; exact rfl; exact rfl; exact rfl; all_goals (intro h; (try simp only [reduceCtorEq, not_true_eq_false, not_false_eq_true, decide_eq_true_eq, decide_eq_false_iff_not, Bool.not_eq_true', Bool.not_eq_false', Bool.not_true, Bool.not_false, Int.not_lt, Int.not_le, ne_eq, Decidable.not_not] at h); (try (exfalso; omega))))
      | (apply wl_rem; exact rfl; exact rfl; omega; exact rfl)
      | (apply wl_row; (iterate 7 (exact rfl)); intro b1)
      | (apply wl_box; exact rfl; exact rfl; exact rfl; intro b1))
    | (show WC _ _ _ _ _ _; first
      | refine WC.seq ?_
      | (apply WC.region; exact rfl)
      | (apply WC.condT; exact rfl)
      | (apply WC.condF; exact rfl)
      | (apply WC.cond; exact rfl; all_goals (intro h; (try simp only [reduceCtorEq, not_true_eq_false, not_false_eq_true, decide_eq_true_eq, decide_eq_false_iff_not, Bool.not_eq_true', Bool.not_eq_false', Bool.not_true, Bool.not_false, Int.not_lt, Int.not_le, ne_eq, Decidable.not_not] at h); (try (exfalso; omega))))
      | refine WC.block ?_
      | refine WC.skip ?_
      | refine WC.ret ?_
      | refine WC.exit ?_)
    | refine Qseq.nm ?_
    | refine Qseq.r ?_
    | refine Qseq.x ?_
    | refine Qblock.nm ?_
    | refine Qblock.r ?_
    | (apply Qblock.t; exact rfl)
    | (apply Qblock.f; exact rfl)
    | refine Qmx.r ?_
    | refine Qmx.nm ?_
    | (apply Qmx.f; exact rfl)
    | refine Qmn.r ?_
    | refine Qmn.x ?_
    | refine Qloop.r ?_
    | refine Qloop.x ?_
    | (apply Qfn.one; exact rfl)
    | (apply Qfn.two; exact rfl; exact rfl)
    | (apply Qfn.three; exact rfl; exact rfl; exact rfl)
    | refine Qfn.zero ?_
    | refine Qfn.zeroN ?_)
  (apply wc_drawU; (focus (simp only [lenN, Nat.succ_eq_add_one, Nat.zero_add, Nat.reduceAdd]; exact rfl)); exact rfl; kernel_rfl)
  repeat' (first
    | (show WA _ _ _ _ _ _ _ _ _ _ _; first
      | (apply wa_pick; (iterate 4 (exact rfl)); (first | exact QuietT.calc rfl True.intro | (apply QuietT.load; exact rfl; exact rfl; ((repeat (first | exact Pick.here | apply Pick.there))); exact rfl) | (apply QuietT.calc; exact rfl; ((try simp only [inR]); omega)) | (apply QuietT.indexI; (iterate 5 (exact rfl)); ((repeat (first | exact Pick.here | apply Pick.there))); exact rfl; (first | exact rfl | omega); omega) | (apply QuietT.loadEI; exact rfl; exact rfl; ((repeat (first | exact Pick.here | apply Pick.there))); exact rfl; assumption; exact rfl) | (apply QuietT.fieldE; exact rfl; exact rfl; exact rfl; exact rfl) | (apply QuietT.indexO; (iterate 5 (exact rfl)); ((repeat (first | exact Pick.here | apply Pick.there))); exact rfl; (first | exact rfl | omega); omega) | (apply QuietT.loadEO; exact rfl; exact rfl; ((repeat (first | exact Pick.here | apply Pick.there))); exact rfl; assumption; exact rfl) | (apply QuietT.loadI; exact rfl; exact rfl; ((repeat (first | exact Pick.here | apply Pick.there))); exact rfl)); kernel_rfl)
      | (apply wa_pickN; (iterate 8 (exact rfl)); kernel_rfl)
      | (apply wa_pickG; (iterate 7 (exact rfl)); (first | exact QuietT.calc rfl True.intro | (apply QuietT.load; exact rfl; exact rfl; ((repeat (first | exact Pick.here | apply Pick.there))); exact rfl) | (apply QuietT.calc; exact rfl; ((try simp only [inR]); omega)) | (apply QuietT.indexI; (iterate 5 (exact rfl)); ((repeat (first | exact Pick.here | apply Pick.there))); exact rfl; (first | exact rfl | omega); omega) | (apply QuietT.loadEI; exact rfl; exact rfl; ((repeat (first | exact Pick.here | apply Pick.there))); exact rfl; assumption; exact rfl) | (apply QuietT.fieldE; exact rfl; exact rfl; exact rfl; exact rfl) | (apply QuietT.indexO; (iterate 5 (exact rfl)); ((repeat (first | exact Pick.here | apply Pick.there))); exact rfl; (first | exact rfl | omega); omega) | (apply QuietT.loadEO; exact rfl; exact rfl; ((repeat (first | exact Pick.here | apply Pick.there))); exact rfl; assumption; exact rfl) | (apply QuietT.loadI; exact rfl; exact rfl; ((repeat (first | exact Pick.here | apply Pick.there))); exact rfl)); kernel_rfl)
      | (apply wa_skipA; (iterate 8 (exact rfl)); kernel_rfl)
      | (apply wa_splitPD; (iterate 4 (exact rfl)); all_goals (intro h; (try simp only [reduceCtorEq, not_true_eq_false, not_false_eq_true, decide_eq_true_eq, decide_eq_false_iff_not, Bool.not_eq_true', Bool.not_eq_false', Bool.not_true, Bool.not_false, Int.not_lt, Int.not_le, ne_eq, Decidable.not_not] at h); (try (exfalso; omega))))
      | (apply wa_splitPE; (iterate 4 (exact rfl)); all_goals (intro h; (try simp only [reduceCtorEq, not_true_eq_false, not_false_eq_true, decide_eq_true_eq, decide_eq_false_iff_not, Bool.not_eq_true', Bool.not_eq_false', Bool.not_true, Bool.not_false, Int.not_lt, Int.not_le, ne_eq, Decidable.not_not] at h); (try (exfalso; omega))))
      | (apply wa_splitP; (iterate 4 (exact rfl)); (all_goals (intro h; (fail_if_success (have hh : h = rfl := rfl)); (fail_if_success (cases h; done)))); (all_goals (try simp only [reduceCtorEq, not_true_eq_false, not_false_eq_true, decide_eq_true_eq, decide_eq_false_iff_not, Bool.not_eq_true', Bool.not_eq_false', Bool.not_true, Bool.not_false, Int.not_lt, Int.not_le, ne_eq, Decidable.not_not] at h)))
      | refine WA.end_ ?_)
    | (show WT _ _ _ _ 0 _ _ _; (refine wt_done ?_ ?_; kernel_rfl))
    | (show WT _ _ _ _ _ _ _ _; (apply wt_pickQ; (iterate 3 (exact rfl)); (first | exact GOK.none | (apply GOK.runL; (iterate 3 (exact rfl)))); exact rfl; (first | exact QuietT.calc rfl True.intro | (apply QuietT.load; exact rfl; exact rfl; ((repeat (first | exact Pick.here | apply Pick.there))); exact rfl) | (apply QuietT.calc; exact rfl; ((try simp only [inR]); omega)) | (apply QuietT.indexI; (iterate 5 (exact rfl)); ((repeat (first | exact Pick.here | apply Pick.there))); exact rfl; (first | exact rfl | omega); omega) | (apply QuietT.loadEI; exact rfl; exact rfl; ((repeat (first | exact Pick.here | apply Pick.there))); exact rfl; assumption; exact rfl) | (apply QuietT.fieldE; exact rfl; exact rfl; exact rfl; exact rfl) | (apply QuietT.indexO; (iterate 5 (exact rfl)); ((repeat (first | exact Pick.here | apply Pick.there))); exact rfl; (first | exact rfl | omega); omega) | (apply QuietT.loadEO; exact rfl; exact rfl; ((repeat (first | exact Pick.here | apply Pick.there))); exact rfl; assumption; exact rfl) | (apply QuietT.loadI; exact rfl; exact rfl; ((repeat (first | exact Pick.here | apply Pick.there))); exact rfl)); kernel_rfl)))
  (apply wa_pickCut (zs := r.b.drop r.at_); (iterate 3 (exact rfl)); (first | exact GOK.none | (apply GOK.runL; (iterate 3 (exact rfl)))); (iterate 7 (exact rfl)); ((repeat (first | exact Pick.here | apply Pick.there))); exact rfl; kernel_rfl; (omega); (show (r.b.take r.b.length).drop r.at_ = _; rw [List.take_length]); intro a2 c2)
  repeat' (first
    | (show WA _ _ _ _ _ _ _ _ _ _ _; first
      | (apply wa_pick; (iterate 4 (exact rfl)); (first | exact QuietT.calc rfl True.intro | (apply QuietT.load; exact rfl; exact rfl; ((repeat (first | exact Pick.here | apply Pick.there))); exact rfl) | (apply QuietT.calc; exact rfl; ((try simp only [inR]); omega)) | (apply QuietT.indexI; (iterate 5 (exact rfl)); ((repeat (first | exact Pick.here | apply Pick.there))); exact rfl; (first | exact rfl | omega); omega) | (apply QuietT.loadEI; exact rfl; exact rfl; ((repeat (first | exact Pick.here | apply Pick.there))); exact rfl; assumption; exact rfl) | (apply QuietT.fieldE; exact rfl; exact rfl; exact rfl; exact rfl) | (apply QuietT.indexO; (iterate 5 (exact rfl)); ((repeat (first | exact Pick.here | apply Pick.there))); exact rfl; (first | exact rfl | omega); omega) | (apply QuietT.loadEO; exact rfl; exact rfl; ((repeat (first | exact Pick.here | apply Pick.there))); exact rfl; assumption; exact rfl) | (apply QuietT.loadI; exact rfl; exact rfl; ((repeat (first | exact Pick.here | apply Pick.there))); exact rfl)); kernel_rfl)
      | (apply wa_pickN; (iterate 8 (exact rfl)); kernel_rfl)
      | (apply wa_pickG; (iterate 7 (exact rfl)); (first | exact QuietT.calc rfl True.intro | (apply QuietT.load; exact rfl; exact rfl; ((repeat (first | exact Pick.here | apply Pick.there))); exact rfl) | (apply QuietT.calc; exact rfl; ((try simp only [inR]); omega)) | (apply QuietT.indexI; (iterate 5 (exact rfl)); ((repeat (first | exact Pick.here | apply Pick.there))); exact rfl; (first | exact rfl | omega); omega) | (apply QuietT.loadEI; exact rfl; exact rfl; ((repeat (first | exact Pick.here | apply Pick.there))); exact rfl; assumption; exact rfl) | (apply QuietT.fieldE; exact rfl; exact rfl; exact rfl; exact rfl) | (apply QuietT.indexO; (iterate 5 (exact rfl)); ((repeat (first | exact Pick.here | apply Pick.there))); exact rfl; (first | exact rfl | omega); omega) | (apply QuietT.loadEO; exact rfl; exact rfl; ((repeat (first | exact Pick.here | apply Pick.there))); exact rfl; assumption; exact rfl) | (apply QuietT.loadI; exact rfl; exact rfl; ((repeat (first | exact Pick.here | apply Pick.there))); exact rfl)); kernel_rfl)
      | (apply wa_skipA; (iterate 8 (exact rfl)); kernel_rfl)
      | (apply wa_splitPD; (iterate 4 (exact rfl)); all_goals (intro h; (try simp only [reduceCtorEq, not_true_eq_false, not_false_eq_true, decide_eq_true_eq, decide_eq_false_iff_not, Bool.not_eq_true', Bool.not_eq_false', Bool.not_true, Bool.not_false, Int.not_lt, Int.not_le, ne_eq, Decidable.not_not] at h); (try (exfalso; omega))))
      | (apply wa_splitPE; (iterate 4 (exact rfl)); all_goals (intro h; (try simp only [reduceCtorEq, not_true_eq_false, not_false_eq_true, decide_eq_true_eq, decide_eq_false_iff_not, Bool.not_eq_true', Bool.not_eq_false', Bool.not_true, Bool.not_false, Int.not_lt, Int.not_le, ne_eq, Decidable.not_not] at h); (try (exfalso; omega))))
      | (apply wa_splitP; (iterate 4 (exact rfl)); (all_goals (intro h; (fail_if_success (have hh : h = rfl := rfl)); (fail_if_success (cases h; done)))); (all_goals (try simp only [reduceCtorEq, not_true_eq_false, not_false_eq_true, decide_eq_true_eq, decide_eq_false_iff_not, Bool.not_eq_true', Bool.not_eq_false', Bool.not_true, Bool.not_false, Int.not_lt, Int.not_le, ne_eq, Decidable.not_not] at h)))
      | refine WA.end_ ?_)
    | (show WT _ _ _ _ 0 _ _ _; (refine wt_done ?_ ?_; kernel_rfl))
    | (show WT _ _ _ _ _ _ _ _; (apply wt_pickQ; (iterate 3 (exact rfl)); (first | exact GOK.none | (apply GOK.runL; (iterate 3 (exact rfl)))); exact rfl; (first | exact QuietT.calc rfl True.intro | (apply QuietT.load; exact rfl; exact rfl; ((repeat (first | exact Pick.here | apply Pick.there))); exact rfl) | (apply QuietT.calc; exact rfl; ((try simp only [inR]); omega)) | (apply QuietT.indexI; (iterate 5 (exact rfl)); ((repeat (first | exact Pick.here | apply Pick.there))); exact rfl; (first | exact rfl | omega); omega) | (apply QuietT.loadEI; exact rfl; exact rfl; ((repeat (first | exact Pick.here | apply Pick.there))); exact rfl; assumption; exact rfl) | (apply QuietT.fieldE; exact rfl; exact rfl; exact rfl; exact rfl) | (apply QuietT.indexO; (iterate 5 (exact rfl)); ((repeat (first | exact Pick.here | apply Pick.there))); exact rfl; (first | exact rfl | omega); omega) | (apply QuietT.loadEO; exact rfl; exact rfl; ((repeat (first | exact Pick.here | apply Pick.there))); exact rfl; assumption; exact rfl) | (apply QuietT.loadI; exact rfl; exact rfl; ((repeat (first | exact Pick.here | apply Pick.there))); exact rfl)); kernel_rfl)))
  (refine wa_callU rfl rfl rfl (by (first | exact GOK.none | (apply GOK.runL; (iterate 3 (exact rfl))))) rfl rfl rfl (by kernel_rfl) (take_spec (xs := r.b.drop r.at_) (by simp; omega)) (by repeat (first | exact Take.nil | (apply Take.keepI; focus ((repeat (first | exact Pick.here | apply Pick.there)); done)) | (apply Take.cons; focus ((repeat (first | exact Pick.here | apply Pick.there)); done)) | (apply Take.pure; (first | assumption | omega)))) ?_)
  rintro _ _ ⟨rfl, rfl⟩
  rw [show takeV (r.b.drop r.at_) = .tuple ⟨[.int .i64 n, .int .i64 (s : Nat), .bool ok]⟩ by unfold takeV; rw [htk]]
  refine ⟨_, Take.ent (by repeat (first | exact Take.nil | (apply Take.keepI; focus ((repeat (first | exact Pick.here | apply Pick.there)); done)) | (apply Take.cons; focus ((repeat (first | exact Pick.here | apply Pick.there)); done)) | (apply Take.pure; (first | assumption | omega)))), ?_⟩
  repeat' (first
    | (show WA _ _ _ _ _ _ _ _ _ _ _; first
      | (apply wa_pick; (iterate 4 (exact rfl)); (first | exact QuietT.calc rfl True.intro | (apply QuietT.load; exact rfl; exact rfl; ((repeat (first | exact Pick.here | apply Pick.there))); exact rfl) | (apply QuietT.calc; exact rfl; ((try simp only [inR]); omega)) | (apply QuietT.indexI; (iterate 5 (exact rfl)); ((repeat (first | exact Pick.here | apply Pick.there))); exact rfl; (first | exact rfl | omega); omega) | (apply QuietT.loadEI; exact rfl; exact rfl; ((repeat (first | exact Pick.here | apply Pick.there))); exact rfl; assumption; exact rfl) | (apply QuietT.fieldE; exact rfl; exact rfl; exact rfl; exact rfl) | (apply QuietT.indexO; (iterate 5 (exact rfl)); ((repeat (first | exact Pick.here | apply Pick.there))); exact rfl; (first | exact rfl | omega); omega) | (apply QuietT.loadEO; exact rfl; exact rfl; ((repeat (first | exact Pick.here | apply Pick.there))); exact rfl; assumption; exact rfl) | (apply QuietT.loadI; exact rfl; exact rfl; ((repeat (first | exact Pick.here | apply Pick.there))); exact rfl)); kernel_rfl)
      | (apply wa_pickN; (iterate 8 (exact rfl)); kernel_rfl)
      | (apply wa_pickG; (iterate 7 (exact rfl)); (first | exact QuietT.calc rfl True.intro | (apply QuietT.load; exact rfl; exact rfl; ((repeat (first | exact Pick.here | apply Pick.there))); exact rfl) | (apply QuietT.calc; exact rfl; ((try simp only [inR]); omega)) | (apply QuietT.indexI; (iterate 5 (exact rfl)); ((repeat (first | exact Pick.here | apply Pick.there))); exact rfl; (first | exact rfl | omega); omega) | (apply QuietT.loadEI; exact rfl; exact rfl; ((repeat (first | exact Pick.here | apply Pick.there))); exact rfl; assumption; exact rfl) | (apply QuietT.fieldE; exact rfl; exact rfl; exact rfl; exact rfl) | (apply QuietT.indexO; (iterate 5 (exact rfl)); ((repeat (first | exact Pick.here | apply Pick.there))); exact rfl; (first | exact rfl | omega); omega) | (apply QuietT.loadEO; exact rfl; exact rfl; ((repeat (first | exact Pick.here | apply Pick.there))); exact rfl; assumption; exact rfl) | (apply QuietT.loadI; exact rfl; exact rfl; ((repeat (first | exact Pick.here | apply Pick.there))); exact rfl)); kernel_rfl)
      | (apply wa_skipA; (iterate 8 (exact rfl)); kernel_rfl)
      | (apply wa_splitPD; (iterate 4 (exact rfl)); all_goals (intro h; (try simp only [reduceCtorEq, not_true_eq_false, not_false_eq_true, decide_eq_true_eq, decide_eq_false_iff_not, Bool.not_eq_true', Bool.not_eq_false', Bool.not_true, Bool.not_false, Int.not_lt, Int.not_le, ne_eq, Decidable.not_not] at h); (try (exfalso; omega))))
      | (apply wa_splitPE; (iterate 4 (exact rfl)); all_goals (intro h; (try simp only [reduceCtorEq, not_true_eq_false, not_false_eq_true, decide_eq_true_eq, decide_eq_false_iff_not, Bool.not_eq_true', Bool.not_eq_false', Bool.not_true, Bool.not_false, Int.not_lt, Int.not_le, ne_eq, Decidable.not_not] at h); (try (exfalso; omega))))
      | (apply wa_splitP; (iterate 4 (exact rfl)); (all_goals (intro h; (fail_if_success (have hh : h = rfl := rfl)); (fail_if_success (cases h; done)))); (all_goals (try simp only [reduceCtorEq, not_true_eq_false, not_false_eq_true, decide_eq_true_eq, decide_eq_false_iff_not, Bool.not_eq_true', Bool.not_eq_false', Bool.not_true, Bool.not_false, Int.not_lt, Int.not_le, ne_eq, Decidable.not_not] at h)))
      | refine WA.end_ ?_)
    | (show WT _ _ _ _ 0 _ _ _; (refine wt_done ?_ ?_; kernel_rfl))
    | (show WT _ _ _ _ _ _ _ _; (apply wt_pickQ; (iterate 3 (exact rfl)); (first | exact GOK.none | (apply GOK.runL; (iterate 3 (exact rfl)))); exact rfl; (first | exact QuietT.calc rfl True.intro | (apply QuietT.load; exact rfl; exact rfl; ((repeat (first | exact Pick.here | apply Pick.there))); exact rfl) | (apply QuietT.calc; exact rfl; ((try simp only [inR]); omega)) | (apply QuietT.indexI; (iterate 5 (exact rfl)); ((repeat (first | exact Pick.here | apply Pick.there))); exact rfl; (first | exact rfl | omega); omega) | (apply QuietT.loadEI; exact rfl; exact rfl; ((repeat (first | exact Pick.here | apply Pick.there))); exact rfl; assumption; exact rfl) | (apply QuietT.fieldE; exact rfl; exact rfl; exact rfl; exact rfl) | (apply QuietT.indexO; (iterate 5 (exact rfl)); ((repeat (first | exact Pick.here | apply Pick.there))); exact rfl; (first | exact rfl | omega); omega) | (apply QuietT.loadEO; exact rfl; exact rfl; ((repeat (first | exact Pick.here | apply Pick.there))); exact rfl; assumption; exact rfl) | (apply QuietT.loadI; exact rfl; exact rfl; ((repeat (first | exact Pick.here | apply Pick.there))); exact rfl)); kernel_rfl)))
  repeat' (first
    | (show WL _ _ _ _ _ _ _; first
      | (apply wl_calc; exact rfl; exact True.intro; exact rfl)
      | refine WL.nil ?_
      | (apply wl_ld; exact rfl; exact rfl; ((repeat (first | exact Pick.here | apply Pick.there))); exact rfl; exact rfl)
      | (apply wl_calc; exact rfl; ((try simp only [inR]); omega); exact rfl)
      | (apply wl_store; exact rfl; exact rfl; exact rfl; ((repeat (first | exact Pick.here | apply Pick.there))); exact rfl)
      | (apply wl_ixI; exact rfl; exact rfl; exact rfl; exact rfl; exact rfl; ((repeat (first | exact Pick.here | apply Pick.there))); exact rfl; (first | exact rfl | omega); omega; exact rfl)
      | (apply wl_ldEI; exact rfl; exact rfl; ((repeat (first | exact Pick.here | apply Pick.there))); exact rfl; assumption; exact rfl; exact rfl)
      | (apply wl_fldE; exact rfl; exact rfl; exact rfl; exact rfl; exact rfl)
      | (apply wl_ixO; exact rfl; exact rfl; exact rfl; exact rfl; exact rfl; ((repeat (first | exact Pick.here | apply Pick.there))); exact rfl; (first | exact rfl | omega); omega; exact rfl)
      | (apply wl_ldEO; exact rfl; exact rfl; ((repeat (first | exact Pick.here | apply Pick.there))); exact rfl; assumption; exact rfl; exact rfl)
      | (apply wl_guard; exact rfl; exact rfl; exact rfl; exact rfl)
      | (apply wl_gno; exact rfl; exact rfl; exact rfl; exact rfl; exact rfl)
      | (apply wl_gsplit; exact rfl; exact rfl; exact rfl; exact rfl; all_goals (intro h; (try simp only [reduceCtorEq, not_true_eq_false, not_false_eq_true, decide_eq_true_eq, decide_eq_false_iff_not, Bool.not_eq_true', Bool.not_eq_false', Bool.not_true, Bool.not_false, Int.not_lt, Int.not_le, ne_eq, Decidable.not_not] at h); (try (exfalso; omega))))
      | (apply wl_rem; exact rfl; exact rfl; omega; exact rfl)
      | (apply wl_row; (iterate 7 (exact rfl)); intro b1)
      | (apply wl_box; exact rfl; exact rfl; exact rfl; intro b1))
    | (show WC _ _ _ _ _ _; first
      | refine WC.seq ?_
      | (apply WC.region; exact rfl)
      | (apply WC.condT; exact rfl)
      | (apply WC.condF; exact rfl)
      | (apply WC.cond; exact rfl; all_goals (intro h; (try simp only [reduceCtorEq, not_true_eq_false, not_false_eq_true, decide_eq_true_eq, decide_eq_false_iff_not, Bool.not_eq_true', Bool.not_eq_false', Bool.not_true, Bool.not_false, Int.not_lt, Int.not_le, ne_eq, Decidable.not_not] at h); (try (exfalso; omega))))
      | refine WC.block ?_
      | refine WC.skip ?_
      | refine WC.ret ?_
      | refine WC.exit ?_)
    | refine Qseq.nm ?_
    | refine Qseq.r ?_
    | refine Qseq.x ?_
    | refine Qblock.nm ?_
    | refine Qblock.r ?_
    | (apply Qblock.t; exact rfl)
    | (apply Qblock.f; exact rfl)
    | refine Qmx.r ?_
    | refine Qmx.nm ?_
    | (apply Qmx.f; exact rfl)
    | refine Qmn.r ?_
    | refine Qmn.x ?_
    | refine Qloop.r ?_
    | refine Qloop.x ?_
    | (apply Qfn.one; exact rfl)
    | (apply Qfn.two; exact rfl; exact rfl)
    | (apply Qfn.three; exact rfl; exact rfl; exact rfl)
    | refine Qfn.zero ?_
    | refine Qfn.zeroN ?_)
  · rename_i h0
    rw [k1 (.inr h)]; exact ⟨_, Take.fin (by repeat (first | exact Take.nil | (apply Take.keepI; focus ((repeat (first | exact Pick.here | apply Pick.there)); done)) | (apply Take.cons; focus ((repeat (first | exact Pick.here | apply Pick.there)); done)) | (apply Take.pure; (first | assumption | omega)))), rfl, rfl⟩
  · rename_i h0
    rw [k2 h0 h]; exact ⟨_, Take.fin (by repeat (first | exact Take.nil | (apply Take.keepI; focus ((repeat (first | exact Pick.here | apply Pick.there)); done)) | (apply Take.cons; focus ((repeat (first | exact Pick.here | apply Pick.there)); done)) | (apply Take.pure; (first | assumption | omega)))), rfl, rfl⟩
  · rename_i h0
    rw [k1 (.inl h0)]; exact ⟨_, Take.fin (by repeat (first | exact Take.nil | (apply Take.keepI; focus ((repeat (first | exact Pick.here | apply Pick.there)); done)) | (apply Take.cons; focus ((repeat (first | exact Pick.here | apply Pick.there)); done)) | (apply Take.pure; (first | assumption | omega)))), rfl, rfl⟩
theorem rnumber_spec {b : Nat} {T : TypeId} {a : Option Addr} {c : Nat} {r : RD} (hl : r.b.length ≤ 140737488355328) (hr : r.at_ ≤ r.b.length) : Spec P 44 [.pointer (some ⟨b, 0, none⟩)] [Blk b T (RDc a c r), ISl EB a c r.b]
    fun v R => v = .int .i64 r.number.1 ∧ R = [Blk b T (RDc a c r.number.2)] := by
  obtain ⟨n, s, ok, htk⟩ : ∃ n s ok, takeM (r.b.drop r.at_) = (n, s, ok) := ⟨_, _, _, rfl⟩
  have hs : s ≤ r.b.length := by have := take_le (xs := r.b.drop r.at_); rw [htk] at this; simp at this; omega
  have k1 : r.bad = true ∨ ok = false → r.number = (0, { r with bad := true }) := fun h => if_pos (by unfold RD.tk; rw [htk]; exact h)
  have k2 : r.bad = false → ok = true → r.number = (n, { r with at_ := r.at_ + s }) := fun h1 h2 => by unfold RD.number RD.tk; rw [htk, if_neg (by simp [h1, h2])]
  refine Spec.of (fn := Try.f44) (by rw [hP.eq]; exact Try.func44) (by kernel_rfl) rfl Try.ntmps44 rfl rfl ?_
  repeat' (first
    | (show WL _ _ _ _ _ _ _; first
      | (apply wl_calc; exact rfl; exact True.intro; exact rfl)
      | refine WL.nil ?_
      | (apply wl_ld; exact rfl; exact rfl; ((repeat (first | exact Pick.here | apply Pick.there))); exact rfl; exact rfl)
      | (apply wl_calc; exact rfl; ((try simp only [inR]); omega); exact rfl)
      | (apply wl_store; exact rfl; exact rfl; exact rfl; ((repeat (first | exact Pick.here | apply Pick.there))); exact rfl)
      | (apply wl_ixI; exact rfl; exact rfl; exact rfl; exact rfl; exact rfl; ((repeat (first | exact Pick.here | apply Pick.there))); exact rfl; (first | exact rfl | omega); omega; exact rfl)
      | (apply wl_ldEI; exact rfl; exact rfl; ((repeat (first | exact Pick.here | apply Pick.there))); exact rfl; assumption; exact rfl; exact rfl)
      | (apply wl_fldE; exact rfl; exact rfl; exact rfl; exact rfl; exact rfl)
      | (apply wl_ixO; exact rfl; exact rfl; exact rfl; exact rfl; exact rfl; ((repeat (first | exact Pick.here | apply Pick.there))); exact rfl; (first | exact rfl | omega); omega; exact rfl)
      | (apply wl_ldEO; exact rfl; exact rfl; ((repeat (first | exact Pick.here | apply Pick.there))); exact rfl; assumption; exact rfl; exact rfl)
      | (apply wl_guard; exact rfl; exact rfl; exact rfl; exact rfl)
      | (apply wl_gno; exact rfl; exact rfl; exact rfl; exact rfl; exact rfl)
      | (apply wl_gsplit; exact rfl; exact rfl; exact rfl; exact rfl; all_goals (intro h; (try simp only [reduceCtorEq, not_true_eq_false, not_false_eq_true, decide_eq_true_eq, decide_eq_false_iff_not, Bool.not_eq_true', Bool.not_eq_false', Bool.not_true, Bool.not_false, Int.not_lt, Int.not_le, ne_eq, Decidable.not_not] at h); (try (exfalso; omega))))
      | (apply wl_rem; exact rfl; exact rfl; omega; exact rfl)
      | (apply wl_row; (iterate 7 (exact rfl)); intro b1)
      | (apply wl_box; exact rfl; exact rfl; exact rfl; intro b1))
    | (show WC _ _ _ _ _ _; first
      | refine WC.seq ?_
      | (apply WC.region; exact rfl)
      | (apply WC.condT; exact rfl)
      | (apply WC.condF; exact rfl)
      | (apply WC.cond; exact rfl; all_goals (intro h; (try simp only [reduceCtorEq, not_true_eq_false, not_false_eq_true, decide_eq_true_eq, decide_eq_false_iff_not, Bool.not_eq_true', Bool.not_eq_false', Bool.not_true, Bool.not_false, Int.not_lt, Int.not_le, ne_eq, Decidable.not_not] at h); (try (exfalso; omega))))
      | refine WC.block ?_
      | refine WC.skip ?_
      | refine WC.ret ?_
      | refine WC.exit ?_)
    | refine Qseq.nm ?_
    | refine Qseq.r ?_
    | refine Qseq.x ?_
    | refine Qblock.nm ?_
    | refine Qblock.r ?_
    | (apply Qblock.t; exact rfl)
    | (apply Qblock.f; exact rfl)
    | refine Qmx.r ?_
    | refine Qmx.nm ?_
    | (apply Qmx.f; exact rfl)
    | refine Qmn.r ?_
    | refine Qmn.x ?_
    | refine Qloop.r ?_
    | refine Qloop.x ?_
    | (apply Qfn.one; exact rfl)
    | (apply Qfn.two; exact rfl; exact rfl)
    | (apply Qfn.three; exact rfl; exact rfl; exact rfl)
    | refine Qfn.zero ?_
    | refine Qfn.zeroN ?_)
  (apply wc_drawU; (focus (simp only [lenN, Nat.succ_eq_add_one, Nat.zero_add, Nat.reduceAdd]; exact rfl)); exact rfl; kernel_rfl)
  repeat' (first
    | (show WA _ _ _ _ _ _ _ _ _ _ _; first
      | (apply wa_pick; (iterate 4 (exact rfl)); (first | exact QuietT.calc rfl True.intro | (apply QuietT.load; exact rfl; exact rfl; ((repeat (first | exact Pick.here | apply Pick.there))); exact rfl) | (apply QuietT.calc; exact rfl; ((try simp only [inR]); omega)) | (apply QuietT.indexI; (iterate 5 (exact rfl)); ((repeat (first | exact Pick.here | apply Pick.there))); exact rfl; (first | exact rfl | omega); omega) | (apply QuietT.loadEI; exact rfl; exact rfl; ((repeat (first | exact Pick.here | apply Pick.there))); exact rfl; assumption; exact rfl) | (apply QuietT.fieldE; exact rfl; exact rfl; exact rfl; exact rfl) | (apply QuietT.indexO; (iterate 5 (exact rfl)); ((repeat (first | exact Pick.here | apply Pick.there))); exact rfl; (first | exact rfl | omega); omega) | (apply QuietT.loadEO; exact rfl; exact rfl; ((repeat (first | exact Pick.here | apply Pick.there))); exact rfl; assumption; exact rfl) | (apply QuietT.loadI; exact rfl; exact rfl; ((repeat (first | exact Pick.here | apply Pick.there))); exact rfl)); kernel_rfl)
      | (apply wa_pickN; (iterate 8 (exact rfl)); kernel_rfl)
      | (apply wa_pickG; (iterate 7 (exact rfl)); (first | exact QuietT.calc rfl True.intro | (apply QuietT.load; exact rfl; exact rfl; ((repeat (first | exact Pick.here | apply Pick.there))); exact rfl) | (apply QuietT.calc; exact rfl; ((try simp only [inR]); omega)) | (apply QuietT.indexI; (iterate 5 (exact rfl)); ((repeat (first | exact Pick.here | apply Pick.there))); exact rfl; (first | exact rfl | omega); omega) | (apply QuietT.loadEI; exact rfl; exact rfl; ((repeat (first | exact Pick.here | apply Pick.there))); exact rfl; assumption; exact rfl) | (apply QuietT.fieldE; exact rfl; exact rfl; exact rfl; exact rfl) | (apply QuietT.indexO; (iterate 5 (exact rfl)); ((repeat (first | exact Pick.here | apply Pick.there))); exact rfl; (first | exact rfl | omega); omega) | (apply QuietT.loadEO; exact rfl; exact rfl; ((repeat (first | exact Pick.here | apply Pick.there))); exact rfl; assumption; exact rfl) | (apply QuietT.loadI; exact rfl; exact rfl; ((repeat (first | exact Pick.here | apply Pick.there))); exact rfl)); kernel_rfl)
      | (apply wa_skipA; (iterate 8 (exact rfl)); kernel_rfl)
      | (apply wa_splitPD; (iterate 4 (exact rfl)); all_goals (intro h; (try simp only [reduceCtorEq, not_true_eq_false, not_false_eq_true, decide_eq_true_eq, decide_eq_false_iff_not, Bool.not_eq_true', Bool.not_eq_false', Bool.not_true, Bool.not_false, Int.not_lt, Int.not_le, ne_eq, Decidable.not_not] at h); (try (exfalso; omega))))
      | (apply wa_splitPE; (iterate 4 (exact rfl)); all_goals (intro h; (try simp only [reduceCtorEq, not_true_eq_false, not_false_eq_true, decide_eq_true_eq, decide_eq_false_iff_not, Bool.not_eq_true', Bool.not_eq_false', Bool.not_true, Bool.not_false, Int.not_lt, Int.not_le, ne_eq, Decidable.not_not] at h); (try (exfalso; omega))))
      | (apply wa_splitP; (iterate 4 (exact rfl)); (all_goals (intro h; (fail_if_success (have hh : h = rfl := rfl)); (fail_if_success (cases h; done)))); (all_goals (try simp only [reduceCtorEq, not_true_eq_false, not_false_eq_true, decide_eq_true_eq, decide_eq_false_iff_not, Bool.not_eq_true', Bool.not_eq_false', Bool.not_true, Bool.not_false, Int.not_lt, Int.not_le, ne_eq, Decidable.not_not] at h)))
      | refine WA.end_ ?_)
    | (show WT _ _ _ _ 0 _ _ _; (refine wt_done ?_ ?_; kernel_rfl))
    | (show WT _ _ _ _ _ _ _ _; (apply wt_pickQ; (iterate 3 (exact rfl)); (first | exact GOK.none | (apply GOK.runL; (iterate 3 (exact rfl)))); exact rfl; (first | exact QuietT.calc rfl True.intro | (apply QuietT.load; exact rfl; exact rfl; ((repeat (first | exact Pick.here | apply Pick.there))); exact rfl) | (apply QuietT.calc; exact rfl; ((try simp only [inR]); omega)) | (apply QuietT.indexI; (iterate 5 (exact rfl)); ((repeat (first | exact Pick.here | apply Pick.there))); exact rfl; (first | exact rfl | omega); omega) | (apply QuietT.loadEI; exact rfl; exact rfl; ((repeat (first | exact Pick.here | apply Pick.there))); exact rfl; assumption; exact rfl) | (apply QuietT.fieldE; exact rfl; exact rfl; exact rfl; exact rfl) | (apply QuietT.indexO; (iterate 5 (exact rfl)); ((repeat (first | exact Pick.here | apply Pick.there))); exact rfl; (first | exact rfl | omega); omega) | (apply QuietT.loadEO; exact rfl; exact rfl; ((repeat (first | exact Pick.here | apply Pick.there))); exact rfl; assumption; exact rfl) | (apply QuietT.loadI; exact rfl; exact rfl; ((repeat (first | exact Pick.here | apply Pick.there))); exact rfl)); kernel_rfl)))
  (apply wa_pickCut (zs := r.b.drop r.at_); (iterate 3 (exact rfl)); (first | exact GOK.none | (apply GOK.runL; (iterate 3 (exact rfl)))); (iterate 7 (exact rfl)); ((repeat (first | exact Pick.here | apply Pick.there))); exact rfl; kernel_rfl; (omega); (show (r.b.take r.b.length).drop r.at_ = _; rw [List.take_length]); intro a2 c2)
  repeat' (first
    | (show WA _ _ _ _ _ _ _ _ _ _ _; first
      | (apply wa_pick; (iterate 4 (exact rfl)); (first | exact QuietT.calc rfl True.intro | (apply QuietT.load; exact rfl; exact rfl; ((repeat (first | exact Pick.here | apply Pick.there))); exact rfl) | (apply QuietT.calc; exact rfl; ((try simp only [inR]); omega)) | (apply QuietT.indexI; (iterate 5 (exact rfl)); ((repeat (first | exact Pick.here | apply Pick.there))); exact rfl; (first | exact rfl | omega); omega) | (apply QuietT.loadEI; exact rfl; exact rfl; ((repeat (first | exact Pick.here | apply Pick.there))); exact rfl; assumption; exact rfl) | (apply QuietT.fieldE; exact rfl; exact rfl; exact rfl; exact rfl) | (apply QuietT.indexO; (iterate 5 (exact rfl)); ((repeat (first | exact Pick.here | apply Pick.there))); exact rfl; (first | exact rfl | omega); omega) | (apply QuietT.loadEO; exact rfl; exact rfl; ((repeat (first | exact Pick.here | apply Pick.there))); exact rfl; assumption; exact rfl) | (apply QuietT.loadI; exact rfl; exact rfl; ((repeat (first | exact Pick.here | apply Pick.there))); exact rfl)); kernel_rfl)
      | (apply wa_pickN; (iterate 8 (exact rfl)); kernel_rfl)
      | (apply wa_pickG; (iterate 7 (exact rfl)); (first | exact QuietT.calc rfl True.intro | (apply QuietT.load; exact rfl; exact rfl; ((repeat (first | exact Pick.here | apply Pick.there))); exact rfl) | (apply QuietT.calc; exact rfl; ((try simp only [inR]); omega)) | (apply QuietT.indexI; (iterate 5 (exact rfl)); ((repeat (first | exact Pick.here | apply Pick.there))); exact rfl; (first | exact rfl | omega); omega) | (apply QuietT.loadEI; exact rfl; exact rfl; ((repeat (first | exact Pick.here | apply Pick.there))); exact rfl; assumption; exact rfl) | (apply QuietT.fieldE; exact rfl; exact rfl; exact rfl; exact rfl) | (apply QuietT.indexO; (iterate 5 (exact rfl)); ((repeat (first | exact Pick.here | apply Pick.there))); exact rfl; (first | exact rfl | omega); omega) | (apply QuietT.loadEO; exact rfl; exact rfl; ((repeat (first | exact Pick.here | apply Pick.there))); exact rfl; assumption; exact rfl) | (apply QuietT.loadI; exact rfl; exact rfl; ((repeat (first | exact Pick.here | apply Pick.there))); exact rfl)); kernel_rfl)
      | (apply wa_skipA; (iterate 8 (exact rfl)); kernel_rfl)
      | (apply wa_splitPD; (iterate 4 (exact rfl)); all_goals (intro h; (try simp only [reduceCtorEq, not_true_eq_false, not_false_eq_true, decide_eq_true_eq, decide_eq_false_iff_not, Bool.not_eq_true', Bool.not_eq_false', Bool.not_true, Bool.not_false, Int.not_lt, Int.not_le, ne_eq, Decidable.not_not] at h); (try (exfalso; omega))))
      | (apply wa_splitPE; (iterate 4 (exact rfl)); all_goals (intro h; (try simp only [reduceCtorEq, not_true_eq_false, not_false_eq_true, decide_eq_true_eq, decide_eq_false_iff_not, Bool.not_eq_true', Bool.not_eq_false', Bool.not_true, Bool.not_false, Int.not_lt, Int.not_le, ne_eq, Decidable.not_not] at h); (try (exfalso; omega))))
      | (apply wa_splitP; (iterate 4 (exact rfl)); (all_goals (intro h; (fail_if_success (have hh : h = rfl := rfl)); (fail_if_success (cases h; done)))); (all_goals (try simp only [reduceCtorEq, not_true_eq_false, not_false_eq_true, decide_eq_true_eq, decide_eq_false_iff_not, Bool.not_eq_true', Bool.not_eq_false', Bool.not_true, Bool.not_false, Int.not_lt, Int.not_le, ne_eq, Decidable.not_not] at h)))
      | refine WA.end_ ?_)
    | (show WT _ _ _ _ 0 _ _ _; (refine wt_done ?_ ?_; kernel_rfl))
    | (show WT _ _ _ _ _ _ _ _; (apply wt_pickQ; (iterate 3 (exact rfl)); (first | exact GOK.none | (apply GOK.runL; (iterate 3 (exact rfl)))); exact rfl; (first | exact QuietT.calc rfl True.intro | (apply QuietT.load; exact rfl; exact rfl; ((repeat (first | exact Pick.here | apply Pick.there))); exact rfl) | (apply QuietT.calc; exact rfl; ((try simp only [inR]); omega)) | (apply QuietT.indexI; (iterate 5 (exact rfl)); ((repeat (first | exact Pick.here | apply Pick.there))); exact rfl; (first | exact rfl | omega); omega) | (apply QuietT.loadEI; exact rfl; exact rfl; ((repeat (first | exact Pick.here | apply Pick.there))); exact rfl; assumption; exact rfl) | (apply QuietT.fieldE; exact rfl; exact rfl; exact rfl; exact rfl) | (apply QuietT.indexO; (iterate 5 (exact rfl)); ((repeat (first | exact Pick.here | apply Pick.there))); exact rfl; (first | exact rfl | omega); omega) | (apply QuietT.loadEO; exact rfl; exact rfl; ((repeat (first | exact Pick.here | apply Pick.there))); exact rfl; assumption; exact rfl) | (apply QuietT.loadI; exact rfl; exact rfl; ((repeat (first | exact Pick.here | apply Pick.there))); exact rfl)); kernel_rfl)))
  (refine wa_callU rfl rfl rfl (by (first | exact GOK.none | (apply GOK.runL; (iterate 3 (exact rfl))))) rfl rfl rfl (by kernel_rfl) (rtake_spec (xs := r.b.drop r.at_) (by simp; omega)) (by repeat (first | exact Take.nil | (apply Take.keepI; focus ((repeat (first | exact Pick.here | apply Pick.there)); done)) | (apply Take.cons; focus ((repeat (first | exact Pick.here | apply Pick.there)); done)) | (apply Take.pure; (first | assumption | omega)))) ?_)
  rintro _ _ ⟨rfl, rfl⟩
  rw [show takeV (r.b.drop r.at_) = .tuple ⟨[.int .i64 n, .int .i64 (s : Nat), .bool ok]⟩ by unfold takeV; rw [htk]]
  refine ⟨_, Take.ent (by repeat (first | exact Take.nil | (apply Take.keepI; focus ((repeat (first | exact Pick.here | apply Pick.there)); done)) | (apply Take.cons; focus ((repeat (first | exact Pick.here | apply Pick.there)); done)) | (apply Take.pure; (first | assumption | omega)))), ?_⟩
  repeat' (first
    | (show WA _ _ _ _ _ _ _ _ _ _ _; first
      | (apply wa_pick; (iterate 4 (exact rfl)); (first | exact QuietT.calc rfl True.intro | (apply QuietT.load; exact rfl; exact rfl; ((repeat (first | exact Pick.here | apply Pick.there))); exact rfl) | (apply QuietT.calc; exact rfl; ((try simp only [inR]); omega)) | (apply QuietT.indexI; (iterate 5 (exact rfl)); ((repeat (first | exact Pick.here | apply Pick.there))); exact rfl; (first | exact rfl | omega); omega) | (apply QuietT.loadEI; exact rfl; exact rfl; ((repeat (first | exact Pick.here | apply Pick.there))); exact rfl; assumption; exact rfl) | (apply QuietT.fieldE; exact rfl; exact rfl; exact rfl; exact rfl) | (apply QuietT.indexO; (iterate 5 (exact rfl)); ((repeat (first | exact Pick.here | apply Pick.there))); exact rfl; (first | exact rfl | omega); omega) | (apply QuietT.loadEO; exact rfl; exact rfl; ((repeat (first | exact Pick.here | apply Pick.there))); exact rfl; assumption; exact rfl) | (apply QuietT.loadI; exact rfl; exact rfl; ((repeat (first | exact Pick.here | apply Pick.there))); exact rfl)); kernel_rfl)
      | (apply wa_pickN; (iterate 8 (exact rfl)); kernel_rfl)
      | (apply wa_pickG; (iterate 7 (exact rfl)); (first | exact QuietT.calc rfl True.intro | (apply QuietT.load; exact rfl; exact rfl; ((repeat (first | exact Pick.here | apply Pick.there))); exact rfl) | (apply QuietT.calc; exact rfl; ((try simp only [inR]); omega)) | (apply QuietT.indexI; (iterate 5 (exact rfl)); ((repeat (first | exact Pick.here | apply Pick.there))); exact rfl; (first | exact rfl | omega); omega) | (apply QuietT.loadEI; exact rfl; exact rfl; ((repeat (first | exact Pick.here | apply Pick.there))); exact rfl; assumption; exact rfl) | (apply QuietT.fieldE; exact rfl; exact rfl; exact rfl; exact rfl) | (apply QuietT.indexO; (iterate 5 (exact rfl)); ((repeat (first | exact Pick.here | apply Pick.there))); exact rfl; (first | exact rfl | omega); omega) | (apply QuietT.loadEO; exact rfl; exact rfl; ((repeat (first | exact Pick.here | apply Pick.there))); exact rfl; assumption; exact rfl) | (apply QuietT.loadI; exact rfl; exact rfl; ((repeat (first | exact Pick.here | apply Pick.there))); exact rfl)); kernel_rfl)
      | (apply wa_skipA; (iterate 8 (exact rfl)); kernel_rfl)
      | (apply wa_splitPD; (iterate 4 (exact rfl)); all_goals (intro h; (try simp only [reduceCtorEq, not_true_eq_false, not_false_eq_true, decide_eq_true_eq, decide_eq_false_iff_not, Bool.not_eq_true', Bool.not_eq_false', Bool.not_true, Bool.not_false, Int.not_lt, Int.not_le, ne_eq, Decidable.not_not] at h); (try (exfalso; omega))))
      | (apply wa_splitPE; (iterate 4 (exact rfl)); all_goals (intro h; (try simp only [reduceCtorEq, not_true_eq_false, not_false_eq_true, decide_eq_true_eq, decide_eq_false_iff_not, Bool.not_eq_true', Bool.not_eq_false', Bool.not_true, Bool.not_false, Int.not_lt, Int.not_le, ne_eq, Decidable.not_not] at h); (try (exfalso; omega))))
      | (apply wa_splitP; (iterate 4 (exact rfl)); (all_goals (intro h; (fail_if_success (have hh : h = rfl := rfl)); (fail_if_success (cases h; done)))); (all_goals (try simp only [reduceCtorEq, not_true_eq_false, not_false_eq_true, decide_eq_true_eq, decide_eq_false_iff_not, Bool.not_eq_true', Bool.not_eq_false', Bool.not_true, Bool.not_false, Int.not_lt, Int.not_le, ne_eq, Decidable.not_not] at h)))
      | refine WA.end_ ?_)
    | (show WT _ _ _ _ 0 _ _ _; (refine wt_done ?_ ?_; kernel_rfl))
    | (show WT _ _ _ _ _ _ _ _; (apply wt_pickQ; (iterate 3 (exact rfl)); (first | exact GOK.none | (apply GOK.runL; (iterate 3 (exact rfl)))); exact rfl; (first | exact QuietT.calc rfl True.intro | (apply QuietT.load; exact rfl; exact rfl; ((repeat (first | exact Pick.here | apply Pick.there))); exact rfl) | (apply QuietT.calc; exact rfl; ((try simp only [inR]); omega)) | (apply QuietT.indexI; (iterate 5 (exact rfl)); ((repeat (first | exact Pick.here | apply Pick.there))); exact rfl; (first | exact rfl | omega); omega) | (apply QuietT.loadEI; exact rfl; exact rfl; ((repeat (first | exact Pick.here | apply Pick.there))); exact rfl; assumption; exact rfl) | (apply QuietT.fieldE; exact rfl; exact rfl; exact rfl; exact rfl) | (apply QuietT.indexO; (iterate 5 (exact rfl)); ((repeat (first | exact Pick.here | apply Pick.there))); exact rfl; (first | exact rfl | omega); omega) | (apply QuietT.loadEO; exact rfl; exact rfl; ((repeat (first | exact Pick.here | apply Pick.there))); exact rfl; assumption; exact rfl) | (apply QuietT.loadI; exact rfl; exact rfl; ((repeat (first | exact Pick.here | apply Pick.there))); exact rfl)); kernel_rfl)))
  repeat' (first
    | (show WL _ _ _ _ _ _ _; first
      | (apply wl_calc; exact rfl; exact True.intro; exact rfl)
      | refine WL.nil ?_
      | (apply wl_ld; exact rfl; exact rfl; ((repeat (first | exact Pick.here | apply Pick.there))); exact rfl; exact rfl)
      | (apply wl_calc; exact rfl; ((try simp only [inR]); omega); exact rfl)
      | (apply wl_store; exact rfl; exact rfl; exact rfl; ((repeat (first | exact Pick.here | apply Pick.there))); exact rfl)
      | (apply wl_ixI; exact rfl; exact rfl; exact rfl; exact rfl; exact rfl; ((repeat (first | exact Pick.here | apply Pick.there))); exact rfl; (first | exact rfl | omega); omega; exact rfl)
      | (apply wl_ldEI; exact rfl; exact rfl; ((repeat (first | exact Pick.here | apply Pick.there))); exact rfl; assumption; exact rfl; exact rfl)
      | (apply wl_fldE; exact rfl; exact rfl; exact rfl; exact rfl; exact rfl)
      | (apply wl_ixO; exact rfl; exact rfl; exact rfl; exact rfl; exact rfl; ((repeat (first | exact Pick.here | apply Pick.there))); exact rfl; (first | exact rfl | omega); omega; exact rfl)
      | (apply wl_ldEO; exact rfl; exact rfl; ((repeat (first | exact Pick.here | apply Pick.there))); exact rfl; assumption; exact rfl; exact rfl)
      | (apply wl_guard; exact rfl; exact rfl; exact rfl; exact rfl)
      | (apply wl_gno; exact rfl; exact rfl; exact rfl; exact rfl; exact rfl)
      | (apply wl_gsplit; exact rfl; exact rfl; exact rfl; exact rfl; all_goals (intro h; (try simp only [reduceCtorEq, not_true_eq_false, not_false_eq_true, decide_eq_true_eq, decide_eq_false_iff_not, Bool.not_eq_true', Bool.not_eq_false', Bool.not_true, Bool.not_false, Int.not_lt, Int.not_le, ne_eq, Decidable.not_not] at h); (try (exfalso; omega))))
      | (apply wl_rem; exact rfl; exact rfl; omega; exact rfl)
      | (apply wl_row; (iterate 7 (exact rfl)); intro b1)
      | (apply wl_box; exact rfl; exact rfl; exact rfl; intro b1))
    | (show WC _ _ _ _ _ _; first
      | refine WC.seq ?_
      | (apply WC.region; exact rfl)
      | (apply WC.condT; exact rfl)
      | (apply WC.condF; exact rfl)
      | (apply WC.cond; exact rfl; all_goals (intro h; (try simp only [reduceCtorEq, not_true_eq_false, not_false_eq_true, decide_eq_true_eq, decide_eq_false_iff_not, Bool.not_eq_true', Bool.not_eq_false', Bool.not_true, Bool.not_false, Int.not_lt, Int.not_le, ne_eq, Decidable.not_not] at h); (try (exfalso; omega))))
      | refine WC.block ?_
      | refine WC.skip ?_
      | refine WC.ret ?_
      | refine WC.exit ?_)
    | refine Qseq.nm ?_
    | refine Qseq.r ?_
    | refine Qseq.x ?_
    | refine Qblock.nm ?_
    | refine Qblock.r ?_
    | (apply Qblock.t; exact rfl)
    | (apply Qblock.f; exact rfl)
    | refine Qmx.r ?_
    | refine Qmx.nm ?_
    | (apply Qmx.f; exact rfl)
    | refine Qmn.r ?_
    | refine Qmn.x ?_
    | refine Qloop.r ?_
    | refine Qloop.x ?_
    | (apply Qfn.one; exact rfl)
    | (apply Qfn.two; exact rfl; exact rfl)
    | (apply Qfn.three; exact rfl; exact rfl; exact rfl)
    | refine Qfn.zero ?_
    | refine Qfn.zeroN ?_)
  · rename_i h0
    rw [k1 (.inr h)]; exact ⟨_, Take.fin (by repeat (first | exact Take.nil | (apply Take.keepI; focus ((repeat (first | exact Pick.here | apply Pick.there)); done)) | (apply Take.cons; focus ((repeat (first | exact Pick.here | apply Pick.there)); done)) | (apply Take.pure; (first | assumption | omega)))), rfl, rfl⟩
  · rename_i h0
    rw [k2 h0 h]; exact ⟨_, Take.fin (by repeat (first | exact Take.nil | (apply Take.keepI; focus ((repeat (first | exact Pick.here | apply Pick.there)); done)) | (apply Take.cons; focus ((repeat (first | exact Pick.here | apply Pick.there)); done)) | (apply Take.pure; (first | assumption | omega)))), rfl, rfl⟩
  · rename_i h0
    rw [k1 (.inl h0)]; exact ⟨_, Take.fin (by repeat (first | exact Take.nil | (apply Take.keepI; focus ((repeat (first | exact Pick.here | apply Pick.there)); done)) | (apply Take.cons; focus ((repeat (first | exact Pick.here | apply Pick.there)); done)) | (apply Take.pure; (first | assumption | omega)))), rfl, rfl⟩
theorem rdat_spec {b : Nat} {T : TypeId} {a : Option Addr} {c : Nat} {r : RD} : Spec P 49 [.pointer (some ⟨b, 0, none⟩)] [Blk b T (RDc a c r)] fun v R => v = .int .i64 r.at_ ∧ R = [Blk b T (RDc a c r)] := by
  refine Spec.of (fn := Try.f49) (by rw [hP.eq]; exact Try.func49) (by kernel_rfl) rfl Try.ntmps49 rfl rfl ?_
  repeat' (first
    | (show WL _ _ _ _ _ _ _; first
      | (apply wl_calc; exact rfl; exact True.intro; exact rfl)
      | refine WL.nil ?_
      | (apply wl_ld; exact rfl; exact rfl; ((repeat (first | exact Pick.here | apply Pick.there))); exact rfl; exact rfl)
      | (apply wl_calc; exact rfl; ((try simp only [inR]); omega); exact rfl)
      | (apply wl_store; exact rfl; exact rfl; exact rfl; ((repeat (first | exact Pick.here | apply Pick.there))); exact rfl)
      | (apply wl_ixI; exact rfl; exact rfl; exact rfl; exact rfl; exact rfl; ((repeat (first | exact Pick.here | apply Pick.there))); exact rfl; (first | exact rfl | omega); omega; exact rfl)
      | (apply wl_ldEI; exact rfl; exact rfl; ((repeat (first | exact Pick.here | apply Pick.there))); exact rfl; assumption; exact rfl; exact rfl)
      | (apply wl_fldE; exact rfl; exact rfl; exact rfl; exact rfl; exact rfl)
      | (apply wl_ixO; exact rfl; exact rfl; exact rfl; exact rfl; exact rfl; ((repeat (first | exact Pick.here | apply Pick.there))); exact rfl; (first | exact rfl | omega); omega; exact rfl)
      | (apply wl_ldEO; exact rfl; exact rfl; ((repeat (first | exact Pick.here | apply Pick.there))); exact rfl; assumption; exact rfl; exact rfl)
      | (apply wl_guard; exact rfl; exact rfl; exact rfl; exact rfl)
      | (apply wl_gno; exact rfl; exact rfl; exact rfl; exact rfl; exact rfl)
      | (apply wl_gsplit; exact rfl; exact rfl; exact rfl; exact rfl; all_goals (intro h; (try simp only [reduceCtorEq, not_true_eq_false, not_false_eq_true, decide_eq_true_eq, decide_eq_false_iff_not, Bool.not_eq_true', Bool.not_eq_false', Bool.not_true, Bool.not_false, Int.not_lt, Int.not_le, ne_eq, Decidable.not_not] at h); (try (exfalso; omega))))
      | (apply wl_rem; exact rfl; exact rfl; omega; exact rfl)
      | (apply wl_row; (iterate 7 (exact rfl)); intro b1)
      | (apply wl_box; exact rfl; exact rfl; exact rfl; intro b1))
    | (show WC _ _ _ _ _ _; first
      | refine WC.seq ?_
      | (apply WC.region; exact rfl)
      | (apply WC.condT; exact rfl)
      | (apply WC.condF; exact rfl)
      | (apply WC.cond; exact rfl; all_goals (intro h; (try simp only [reduceCtorEq, not_true_eq_false, not_false_eq_true, decide_eq_true_eq, decide_eq_false_iff_not, Bool.not_eq_true', Bool.not_eq_false', Bool.not_true, Bool.not_false, Int.not_lt, Int.not_le, ne_eq, Decidable.not_not] at h); (try (exfalso; omega))))
      | refine WC.block ?_
      | refine WC.skip ?_
      | refine WC.ret ?_
      | refine WC.exit ?_)
    | refine Qseq.nm ?_
    | refine Qseq.r ?_
    | refine Qseq.x ?_
    | refine Qblock.nm ?_
    | refine Qblock.r ?_
    | (apply Qblock.t; exact rfl)
    | (apply Qblock.f; exact rfl)
    | refine Qmx.r ?_
    | refine Qmx.nm ?_
    | (apply Qmx.f; exact rfl)
    | refine Qmn.r ?_
    | refine Qmn.x ?_
    | refine Qloop.r ?_
    | refine Qloop.x ?_
    | (apply Qfn.one; exact rfl)
    | (apply Qfn.two; exact rfl; exact rfl)
    | (apply Qfn.three; exact rfl; exact rfl; exact rfl)
    | refine Qfn.zero ?_
    | refine Qfn.zeroN ?_)
  exact ⟨_, Ent.refl _, rfl, rfl⟩
theorem rdbad_spec {b : Nat} {T : TypeId} {a : Option Addr} {c : Nat} {r : RD} : Spec P 51 [.pointer (some ⟨b, 0, none⟩)] [Blk b T (RDc a c r)] fun v R => v = .bool r.bad ∧ R = [Blk b T (RDc a c r)] := by
  refine Spec.of (fn := Try.f51) (by rw [hP.eq]; exact Try.func51) (by kernel_rfl) rfl Try.ntmps51 rfl rfl ?_
  repeat' (first
    | (show WL _ _ _ _ _ _ _; first
      | (apply wl_calc; exact rfl; exact True.intro; exact rfl)
      | refine WL.nil ?_
      | (apply wl_ld; exact rfl; exact rfl; ((repeat (first | exact Pick.here | apply Pick.there))); exact rfl; exact rfl)
      | (apply wl_calc; exact rfl; ((try simp only [inR]); omega); exact rfl)
      | (apply wl_store; exact rfl; exact rfl; exact rfl; ((repeat (first | exact Pick.here | apply Pick.there))); exact rfl)
      | (apply wl_ixI; exact rfl; exact rfl; exact rfl; exact rfl; exact rfl; ((repeat (first | exact Pick.here | apply Pick.there))); exact rfl; (first | exact rfl | omega); omega; exact rfl)
      | (apply wl_ldEI; exact rfl; exact rfl; ((repeat (first | exact Pick.here | apply Pick.there))); exact rfl; assumption; exact rfl; exact rfl)
      | (apply wl_fldE; exact rfl; exact rfl; exact rfl; exact rfl; exact rfl)
      | (apply wl_ixO; exact rfl; exact rfl; exact rfl; exact rfl; exact rfl; ((repeat (first | exact Pick.here | apply Pick.there))); exact rfl; (first | exact rfl | omega); omega; exact rfl)
      | (apply wl_ldEO; exact rfl; exact rfl; ((repeat (first | exact Pick.here | apply Pick.there))); exact rfl; assumption; exact rfl; exact rfl)
      | (apply wl_guard; exact rfl; exact rfl; exact rfl; exact rfl)
      | (apply wl_gno; exact rfl; exact rfl; exact rfl; exact rfl; exact rfl)
      | (apply wl_gsplit; exact rfl; exact rfl; exact rfl; exact rfl; all_goals (intro h; (try simp only [reduceCtorEq, not_true_eq_false, not_false_eq_true, decide_eq_true_eq, decide_eq_false_iff_not, Bool.not_eq_true', Bool.not_eq_false', Bool.not_true, Bool.not_false, Int.not_lt, Int.not_le, ne_eq, Decidable.not_not] at h); (try (exfalso; omega))))
      | (apply wl_rem; exact rfl; exact rfl; omega; exact rfl)
      | (apply wl_row; (iterate 7 (exact rfl)); intro b1)
      | (apply wl_box; exact rfl; exact rfl; exact rfl; intro b1))
    | (show WC _ _ _ _ _ _; first
      | refine WC.seq ?_
      | (apply WC.region; exact rfl)
      | (apply WC.condT; exact rfl)
      | (apply WC.condF; exact rfl)
      | (apply WC.cond; exact rfl; all_goals (intro h; (try simp only [reduceCtorEq, not_true_eq_false, not_false_eq_true, decide_eq_true_eq, decide_eq_false_iff_not, Bool.not_eq_true', Bool.not_eq_false', Bool.not_true, Bool.not_false, Int.not_lt, Int.not_le, ne_eq, Decidable.not_not] at h); (try (exfalso; omega))))
      | refine WC.block ?_
      | refine WC.skip ?_
      | refine WC.ret ?_
      | refine WC.exit ?_)
    | refine Qseq.nm ?_
    | refine Qseq.r ?_
    | refine Qseq.x ?_
    | refine Qblock.nm ?_
    | refine Qblock.r ?_
    | (apply Qblock.t; exact rfl)
    | (apply Qblock.f; exact rfl)
    | refine Qmx.r ?_
    | refine Qmx.nm ?_
    | (apply Qmx.f; exact rfl)
    | refine Qmn.r ?_
    | refine Qmn.x ?_
    | refine Qloop.r ?_
    | refine Qloop.x ?_
    | (apply Qfn.one; exact rfl)
    | (apply Qfn.two; exact rfl; exact rfl)
    | (apply Qfn.three; exact rfl; exact rfl; exact rfl)
    | refine Qfn.zero ?_
    | refine Qfn.zeroN ?_)
  exact ⟨_, Ent.refl _, rfl, rfl⟩
theorem rdleft_spec {b : Nat} {T : TypeId} {a : Option Addr} {c : Nat} {r : RD} (hl : r.b.length ≤ 140737488355328) (hr : r.at_ ≤ r.b.length) : Spec P 50 [.pointer (some ⟨b, 0, none⟩)] [Blk b T (RDc a c r)] fun v R => v = .int .i64 ((r.b.length : Int) - r.at_) ∧ R = [Blk b T (RDc a c r)] := by
  refine Spec.of (fn := Try.f50) (by rw [hP.eq]; exact Try.func50) (by kernel_rfl) rfl Try.ntmps50 rfl rfl ?_
  repeat' (first
    | (show WL _ _ _ _ _ _ _; first
      | (apply wl_calc; exact rfl; exact True.intro; exact rfl)
      | refine WL.nil ?_
      | (apply wl_ld; exact rfl; exact rfl; ((repeat (first | exact Pick.here | apply Pick.there))); exact rfl; exact rfl)
      | (apply wl_calc; exact rfl; ((try simp only [inR]); omega); exact rfl)
      | (apply wl_store; exact rfl; exact rfl; exact rfl; ((repeat (first | exact Pick.here | apply Pick.there))); exact rfl)
      | (apply wl_ixI; exact rfl; exact rfl; exact rfl; exact rfl; exact rfl; ((repeat (first | exact Pick.here | apply Pick.there))); exact rfl; (first | exact rfl | omega); omega; exact rfl)
      | (apply wl_ldEI; exact rfl; exact rfl; ((repeat (first | exact Pick.here | apply Pick.there))); exact rfl; assumption; exact rfl; exact rfl)
      | (apply wl_fldE; exact rfl; exact rfl; exact rfl; exact rfl; exact rfl)
      | (apply wl_ixO; exact rfl; exact rfl; exact rfl; exact rfl; exact rfl; ((repeat (first | exact Pick.here | apply Pick.there))); exact rfl; (first | exact rfl | omega); omega; exact rfl)
      | (apply wl_ldEO; exact rfl; exact rfl; ((repeat (first | exact Pick.here | apply Pick.there))); exact rfl; assumption; exact rfl; exact rfl)
      | (apply wl_guard; exact rfl; exact rfl; exact rfl; exact rfl)
      | (apply wl_gno; exact rfl; exact rfl; exact rfl; exact rfl; exact rfl)
      | (apply wl_gsplit; exact rfl; exact rfl; exact rfl; exact rfl; all_goals (intro h; (try simp only [reduceCtorEq, not_true_eq_false, not_false_eq_true, decide_eq_true_eq, decide_eq_false_iff_not, Bool.not_eq_true', Bool.not_eq_false', Bool.not_true, Bool.not_false, Int.not_lt, Int.not_le, ne_eq, Decidable.not_not] at h); (try (exfalso; omega))))
      | (apply wl_rem; exact rfl; exact rfl; omega; exact rfl)
      | (apply wl_row; (iterate 7 (exact rfl)); intro b1)
      | (apply wl_box; exact rfl; exact rfl; exact rfl; intro b1))
    | (show WC _ _ _ _ _ _; first
      | refine WC.seq ?_
      | (apply WC.region; exact rfl)
      | (apply WC.condT; exact rfl)
      | (apply WC.condF; exact rfl)
      | (apply WC.cond; exact rfl; all_goals (intro h; (try simp only [reduceCtorEq, not_true_eq_false, not_false_eq_true, decide_eq_true_eq, decide_eq_false_iff_not, Bool.not_eq_true', Bool.not_eq_false', Bool.not_true, Bool.not_false, Int.not_lt, Int.not_le, ne_eq, Decidable.not_not] at h); (try (exfalso; omega))))
      | refine WC.block ?_
      | refine WC.skip ?_
      | refine WC.ret ?_
      | refine WC.exit ?_)
    | refine Qseq.nm ?_
    | refine Qseq.r ?_
    | refine Qseq.x ?_
    | refine Qblock.nm ?_
    | refine Qblock.r ?_
    | (apply Qblock.t; exact rfl)
    | (apply Qblock.f; exact rfl)
    | refine Qmx.r ?_
    | refine Qmx.nm ?_
    | (apply Qmx.f; exact rfl)
    | refine Qmn.r ?_
    | refine Qmn.x ?_
    | refine Qloop.r ?_
    | refine Qloop.x ?_
    | (apply Qfn.one; exact rfl)
    | (apply Qfn.two; exact rfl; exact rfl)
    | (apply Qfn.three; exact rfl; exact rfl; exact rfl)
    | refine Qfn.zero ?_
    | refine Qfn.zeroN ?_)
  (apply wc_drawU; (focus (simp only [lenN, Nat.succ_eq_add_one, Nat.zero_add, Nat.reduceAdd]; exact rfl)); exact rfl; kernel_rfl)
  repeat' (first
    | (show WA _ _ _ _ _ _ _ _ _ _ _; first
      | (apply wa_pick; (iterate 4 (exact rfl)); (first | exact QuietT.calc rfl True.intro | (apply QuietT.load; exact rfl; exact rfl; ((repeat (first | exact Pick.here | apply Pick.there))); exact rfl) | (apply QuietT.calc; exact rfl; ((try simp only [inR]); omega)) | (apply QuietT.indexI; (iterate 5 (exact rfl)); ((repeat (first | exact Pick.here | apply Pick.there))); exact rfl; (first | exact rfl | omega); omega) | (apply QuietT.loadEI; exact rfl; exact rfl; ((repeat (first | exact Pick.here | apply Pick.there))); exact rfl; assumption; exact rfl) | (apply QuietT.fieldE; exact rfl; exact rfl; exact rfl; exact rfl) | (apply QuietT.indexO; (iterate 5 (exact rfl)); ((repeat (first | exact Pick.here | apply Pick.there))); exact rfl; (first | exact rfl | omega); omega) | (apply QuietT.loadEO; exact rfl; exact rfl; ((repeat (first | exact Pick.here | apply Pick.there))); exact rfl; assumption; exact rfl) | (apply QuietT.loadI; exact rfl; exact rfl; ((repeat (first | exact Pick.here | apply Pick.there))); exact rfl)); kernel_rfl)
      | (apply wa_pickN; (iterate 8 (exact rfl)); kernel_rfl)
      | (apply wa_pickG; (iterate 7 (exact rfl)); (first | exact QuietT.calc rfl True.intro | (apply QuietT.load; exact rfl; exact rfl; ((repeat (first | exact Pick.here | apply Pick.there))); exact rfl) | (apply QuietT.calc; exact rfl; ((try simp only [inR]); omega)) | (apply QuietT.indexI; (iterate 5 (exact rfl)); ((repeat (first | exact Pick.here | apply Pick.there))); exact rfl; (first | exact rfl | omega); omega) | (apply QuietT.loadEI; exact rfl; exact rfl; ((repeat (first | exact Pick.here | apply Pick.there))); exact rfl; assumption; exact rfl) | (apply QuietT.fieldE; exact rfl; exact rfl; exact rfl; exact rfl) | (apply QuietT.indexO; (iterate 5 (exact rfl)); ((repeat (first | exact Pick.here | apply Pick.there))); exact rfl; (first | exact rfl | omega); omega) | (apply QuietT.loadEO; exact rfl; exact rfl; ((repeat (first | exact Pick.here | apply Pick.there))); exact rfl; assumption; exact rfl) | (apply QuietT.loadI; exact rfl; exact rfl; ((repeat (first | exact Pick.here | apply Pick.there))); exact rfl)); kernel_rfl)
      | (apply wa_skipA; (iterate 8 (exact rfl)); kernel_rfl)
      | (apply wa_splitPD; (iterate 4 (exact rfl)); all_goals (intro h; (try simp only [reduceCtorEq, not_true_eq_false, not_false_eq_true, decide_eq_true_eq, decide_eq_false_iff_not, Bool.not_eq_true', Bool.not_eq_false', Bool.not_true, Bool.not_false, Int.not_lt, Int.not_le, ne_eq, Decidable.not_not] at h); (try (exfalso; omega))))
      | (apply wa_splitPE; (iterate 4 (exact rfl)); all_goals (intro h; (try simp only [reduceCtorEq, not_true_eq_false, not_false_eq_true, decide_eq_true_eq, decide_eq_false_iff_not, Bool.not_eq_true', Bool.not_eq_false', Bool.not_true, Bool.not_false, Int.not_lt, Int.not_le, ne_eq, Decidable.not_not] at h); (try (exfalso; omega))))
      | (apply wa_splitP; (iterate 4 (exact rfl)); (all_goals (intro h; (fail_if_success (have hh : h = rfl := rfl)); (fail_if_success (cases h; done)))); (all_goals (try simp only [reduceCtorEq, not_true_eq_false, not_false_eq_true, decide_eq_true_eq, decide_eq_false_iff_not, Bool.not_eq_true', Bool.not_eq_false', Bool.not_true, Bool.not_false, Int.not_lt, Int.not_le, ne_eq, Decidable.not_not] at h)))
      | refine WA.end_ ?_)
    | (show WT _ _ _ _ 0 _ _ _; (refine wt_done ?_ ?_; kernel_rfl))
    | (show WT _ _ _ _ _ _ _ _; (apply wt_pickQ; (iterate 3 (exact rfl)); (first | exact GOK.none | (apply GOK.runL; (iterate 3 (exact rfl)))); exact rfl; (first | exact QuietT.calc rfl True.intro | (apply QuietT.load; exact rfl; exact rfl; ((repeat (first | exact Pick.here | apply Pick.there))); exact rfl) | (apply QuietT.calc; exact rfl; ((try simp only [inR]); omega)) | (apply QuietT.indexI; (iterate 5 (exact rfl)); ((repeat (first | exact Pick.here | apply Pick.there))); exact rfl; (first | exact rfl | omega); omega) | (apply QuietT.loadEI; exact rfl; exact rfl; ((repeat (first | exact Pick.here | apply Pick.there))); exact rfl; assumption; exact rfl) | (apply QuietT.fieldE; exact rfl; exact rfl; exact rfl; exact rfl) | (apply QuietT.indexO; (iterate 5 (exact rfl)); ((repeat (first | exact Pick.here | apply Pick.there))); exact rfl; (first | exact rfl | omega); omega) | (apply QuietT.loadEO; exact rfl; exact rfl; ((repeat (first | exact Pick.here | apply Pick.there))); exact rfl; assumption; exact rfl) | (apply QuietT.loadI; exact rfl; exact rfl; ((repeat (first | exact Pick.here | apply Pick.there))); exact rfl)); kernel_rfl)))
  repeat' (first
    | (show WL _ _ _ _ _ _ _; first
      | (apply wl_calc; exact rfl; exact True.intro; exact rfl)
      | refine WL.nil ?_
      | (apply wl_ld; exact rfl; exact rfl; ((repeat (first | exact Pick.here | apply Pick.there))); exact rfl; exact rfl)
      | (apply wl_calc; exact rfl; ((try simp only [inR]); omega); exact rfl)
      | (apply wl_store; exact rfl; exact rfl; exact rfl; ((repeat (first | exact Pick.here | apply Pick.there))); exact rfl)
      | (apply wl_ixI; exact rfl; exact rfl; exact rfl; exact rfl; exact rfl; ((repeat (first | exact Pick.here | apply Pick.there))); exact rfl; (first | exact rfl | omega); omega; exact rfl)
      | (apply wl_ldEI; exact rfl; exact rfl; ((repeat (first | exact Pick.here | apply Pick.there))); exact rfl; assumption; exact rfl; exact rfl)
      | (apply wl_fldE; exact rfl; exact rfl; exact rfl; exact rfl; exact rfl)
      | (apply wl_ixO; exact rfl; exact rfl; exact rfl; exact rfl; exact rfl; ((repeat (first | exact Pick.here | apply Pick.there))); exact rfl; (first | exact rfl | omega); omega; exact rfl)
      | (apply wl_ldEO; exact rfl; exact rfl; ((repeat (first | exact Pick.here | apply Pick.there))); exact rfl; assumption; exact rfl; exact rfl)
      | (apply wl_guard; exact rfl; exact rfl; exact rfl; exact rfl)
      | (apply wl_gno; exact rfl; exact rfl; exact rfl; exact rfl; exact rfl)
      | (apply wl_gsplit; exact rfl; exact rfl; exact rfl; exact rfl; all_goals (intro h; (try simp only [reduceCtorEq, not_true_eq_false, not_false_eq_true, decide_eq_true_eq, decide_eq_false_iff_not, Bool.not_eq_true', Bool.not_eq_false', Bool.not_true, Bool.not_false, Int.not_lt, Int.not_le, ne_eq, Decidable.not_not] at h); (try (exfalso; omega))))
      | (apply wl_rem; exact rfl; exact rfl; omega; exact rfl)
      | (apply wl_row; (iterate 7 (exact rfl)); intro b1)
      | (apply wl_box; exact rfl; exact rfl; exact rfl; intro b1))
    | (show WC _ _ _ _ _ _; first
      | refine WC.seq ?_
      | (apply WC.region; exact rfl)
      | (apply WC.condT; exact rfl)
      | (apply WC.condF; exact rfl)
      | (apply WC.cond; exact rfl; all_goals (intro h; (try simp only [reduceCtorEq, not_true_eq_false, not_false_eq_true, decide_eq_true_eq, decide_eq_false_iff_not, Bool.not_eq_true', Bool.not_eq_false', Bool.not_true, Bool.not_false, Int.not_lt, Int.not_le, ne_eq, Decidable.not_not] at h); (try (exfalso; omega))))
      | refine WC.block ?_
      | refine WC.skip ?_
      | refine WC.ret ?_
      | refine WC.exit ?_)
    | refine Qseq.nm ?_
    | refine Qseq.r ?_
    | refine Qseq.x ?_
    | refine Qblock.nm ?_
    | refine Qblock.r ?_
    | (apply Qblock.t; exact rfl)
    | (apply Qblock.f; exact rfl)
    | refine Qmx.r ?_
    | refine Qmx.nm ?_
    | (apply Qmx.f; exact rfl)
    | refine Qmn.r ?_
    | refine Qmn.x ?_
    | refine Qloop.r ?_
    | refine Qloop.x ?_
    | (apply Qfn.one; exact rfl)
    | (apply Qfn.two; exact rfl; exact rfl)
    | (apply Qfn.three; exact rfl; exact rfl; exact rfl)
    | refine Qfn.zero ?_
    | refine Qfn.zeroN ?_)
  exact ⟨_, Take.fin (by repeat (first | exact Take.nil | (apply Take.keepI; focus ((repeat (first | exact Pick.here | apply Pick.there)); done)) | (apply Take.cons; focus ((repeat (first | exact Pick.here | apply Pick.there)); done)) | (apply Take.pure; (first | assumption | omega)))), rfl, rfl⟩
theorem byte_spec {b : Nat} {T : TypeId} {a : Option Addr} {c : Nat} {r : RD} (hl : r.b.length ≤ 140737488355328) (hr : r.at_ ≤ r.b.length) : Spec P 47 [.pointer (some ⟨b, 0, none⟩)] [Blk b T (RDc a c r), ISl EB a c r.b]
    fun v R => v = .int .u8 r.byte.1 ∧ R = [Blk b T (RDc a c r.byte.2)] := by
  have k1 : r.bad = true ∨ r.b.length ≤ r.at_ → r.byte = (0, { r with bad := true }) := fun h => if_pos h
  refine Spec.of (fn := Try.f47) (by rw [hP.eq]; exact Try.func47) (by kernel_rfl) rfl Try.ntmps47 rfl rfl ?_
  repeat' (first
    | (show WL _ _ _ _ _ _ _; first
      | (apply wl_calc; exact rfl; exact True.intro; exact rfl)
      | refine WL.nil ?_
      | (apply wl_ld; exact rfl; exact rfl; ((repeat (first | exact Pick.here | apply Pick.there))); exact rfl; exact rfl)
      | (apply wl_calc; exact rfl; ((try simp only [inR]); omega); exact rfl)
      | (apply wl_store; exact rfl; exact rfl; exact rfl; ((repeat (first | exact Pick.here | apply Pick.there))); exact rfl)
      | (apply wl_ixI; exact rfl; exact rfl; exact rfl; exact rfl; exact rfl; ((repeat (first | exact Pick.here | apply Pick.there))); exact rfl; (first | exact rfl | omega); omega; exact rfl)
      | (apply wl_ldEI; exact rfl; exact rfl; ((repeat (first | exact Pick.here | apply Pick.there))); exact rfl; assumption; exact rfl; exact rfl)
      | (apply wl_fldE; exact rfl; exact rfl; exact rfl; exact rfl; exact rfl)
      | (apply wl_ixO; exact rfl; exact rfl; exact rfl; exact rfl; exact rfl; ((repeat (first | exact Pick.here | apply Pick.there))); exact rfl; (first | exact rfl | omega); omega; exact rfl)
      | (apply wl_ldEO; exact rfl; exact rfl; ((repeat (first | exact Pick.here | apply Pick.there))); exact rfl; assumption; exact rfl; exact rfl)
      | (apply wl_guard; exact rfl; exact rfl; exact rfl; exact rfl)
      | (apply wl_gno; exact rfl; exact rfl; exact rfl; exact rfl; exact rfl)
      | (apply wl_gsplit; exact rfl; exact rfl; exact rfl; exact rfl; all_goals (intro h; (try simp only [reduceCtorEq, not_true_eq_false, not_false_eq_true, decide_eq_true_eq, decide_eq_false_iff_not, Bool.not_eq_true', Bool.not_eq_false', Bool.not_true, Bool.not_false, Int.not_lt, Int.not_le, ne_eq, Decidable.not_not] at h); (try (exfalso; omega))))
      | (apply wl_rem; exact rfl; exact rfl; omega; exact rfl)
      | (apply wl_row; (iterate 7 (exact rfl)); intro b1)
      | (apply wl_box; exact rfl; exact rfl; exact rfl; intro b1))
    | (show WC _ _ _ _ _ _; first
      | refine WC.seq ?_
      | (apply WC.region; exact rfl)
      | (apply WC.condT; exact rfl)
      | (apply WC.condF; exact rfl)
      | (apply WC.cond; exact rfl; all_goals (intro h; (try simp only [reduceCtorEq, not_true_eq_false, not_false_eq_true, decide_eq_true_eq, decide_eq_false_iff_not, Bool.not_eq_true', Bool.not_eq_false', Bool.not_true, Bool.not_false, Int.not_lt, Int.not_le, ne_eq, Decidable.not_not] at h); (try (exfalso; omega))))
      | refine WC.block ?_
      | refine WC.skip ?_
      | refine WC.ret ?_
      | refine WC.exit ?_)
    | refine Qseq.nm ?_
    | refine Qseq.r ?_
    | refine Qseq.x ?_
    | refine Qblock.nm ?_
    | refine Qblock.r ?_
    | (apply Qblock.t; exact rfl)
    | (apply Qblock.f; exact rfl)
    | refine Qmx.r ?_
    | refine Qmx.nm ?_
    | (apply Qmx.f; exact rfl)
    | refine Qmn.r ?_
    | refine Qmn.x ?_
    | refine Qloop.r ?_
    | refine Qloop.x ?_
    | (apply Qfn.one; exact rfl)
    | (apply Qfn.two; exact rfl; exact rfl)
    | (apply Qfn.three; exact rfl; exact rfl; exact rfl)
    | refine Qfn.zero ?_
    | refine Qfn.zeroN ?_)
  · (refine wl_call rfl rfl rfl (rdleft_spec hl hr) (by repeat (first | exact Take.nil | (apply Take.keepI; focus ((repeat (first | exact Pick.here | apply Pick.there)); done)) | (apply Take.cons; focus ((repeat (first | exact Pick.here | apply Pick.there)); done)) | (apply Take.pure; (first | assumption | omega)))) ?_)
    rintro _ _ ⟨rfl, rfl⟩
    repeat' (first
      | (show WL _ _ _ _ _ _ _; first
        | (apply wl_calc; exact rfl; exact True.intro; exact rfl)
        | refine WL.nil ?_
        | (apply wl_ld; exact rfl; exact rfl; ((repeat (first | exact Pick.here | apply Pick.there))); exact rfl; exact rfl)
        | (apply wl_calc; exact rfl; ((try simp only [inR]); omega); exact rfl)
        | (apply wl_store; exact rfl; exact rfl; exact rfl; ((repeat (first | exact Pick.here | apply Pick.there))); exact rfl)
        | (apply wl_ixI; exact rfl; exact rfl; exact rfl; exact rfl; exact rfl; ((repeat (first | exact Pick.here | apply Pick.there))); exact rfl; (first | exact rfl | omega); omega; exact rfl)
        | (apply wl_ldEI; exact rfl; exact rfl; ((repeat (first | exact Pick.here | apply Pick.there))); exact rfl; assumption; exact rfl; exact rfl)
        | (apply wl_fldE; exact rfl; exact rfl; exact rfl; exact rfl; exact rfl)
        | (apply wl_ixO; exact rfl; exact rfl; exact rfl; exact rfl; exact rfl; ((repeat (first | exact Pick.here | apply Pick.there))); exact rfl; (first | exact rfl | omega); omega; exact rfl)
        | (apply wl_ldEO; exact rfl; exact rfl; ((repeat (first | exact Pick.here | apply Pick.there))); exact rfl; assumption; exact rfl; exact rfl)
        | (apply wl_guard; exact rfl; exact rfl; exact rfl; exact rfl)
        | (apply wl_gno; exact rfl; exact rfl; exact rfl; exact rfl; exact rfl)
        | (apply wl_gsplit; exact rfl; exact rfl; exact rfl; exact rfl; all_goals (intro h; (try simp only [reduceCtorEq, not_true_eq_false, not_false_eq_true, decide_eq_true_eq, decide_eq_false_iff_not, Bool.not_eq_true', Bool.not_eq_false', Bool.not_true, Bool.not_false, Int.not_lt, Int.not_le, ne_eq, Decidable.not_not] at h); (try (exfalso; omega))))
        | (apply wl_rem; exact rfl; exact rfl; omega; exact rfl)
        | (apply wl_row; (iterate 7 (exact rfl)); intro b1)
        | (apply wl_box; exact rfl; exact rfl; exact rfl; intro b1))
      | (show WC _ _ _ _ _ _; first
        | refine WC.seq ?_
        | (apply WC.region; exact rfl)
        | (apply WC.condT; exact rfl)
        | (apply WC.condF; exact rfl)
        | (apply WC.cond; exact rfl; all_goals (intro h; (try simp only [reduceCtorEq, not_true_eq_false, not_false_eq_true, decide_eq_true_eq, decide_eq_false_iff_not, Bool.not_eq_true', Bool.not_eq_false', Bool.not_true, Bool.not_false, Int.not_lt, Int.not_le, ne_eq, Decidable.not_not] at h); (try (exfalso; omega))))
        | refine WC.block ?_
        | refine WC.skip ?_
        | refine WC.ret ?_
        | refine WC.exit ?_)
      | refine Qseq.nm ?_
      | refine Qseq.r ?_
      | refine Qseq.x ?_
      | refine Qblock.nm ?_
      | refine Qblock.r ?_
      | (apply Qblock.t; exact rfl)
      | (apply Qblock.f; exact rfl)
      | refine Qmx.r ?_
      | refine Qmx.nm ?_
      | (apply Qmx.f; exact rfl)
      | refine Qmn.r ?_
      | refine Qmn.x ?_
      | refine Qloop.r ?_
      | refine Qloop.x ?_
      | (apply Qfn.one; exact rfl)
      | (apply Qfn.two; exact rfl; exact rfl)
      | (apply Qfn.three; exact rfl; exact rfl; exact rfl)
      | refine Qfn.zero ?_
      | refine Qfn.zeroN ?_)
    · rw [k1 (.inr (by omega))]; exact ⟨_, Take.fin (by repeat (first | exact Take.nil | (apply Take.keepI; focus ((repeat (first | exact Pick.here | apply Pick.there)); done)) | (apply Take.cons; focus ((repeat (first | exact Pick.here | apply Pick.there)); done)) | (apply Take.pure; (first | assumption | omega)))), rfl, rfl⟩
    · obtain ⟨x, hx⟩ := getI (i := r.at_) (xs := r.b) (by omega)
      have hx' : r.b[((r.at_ : Int) + 1 - 1).toNat]? = some x := by rw [show (r.at_ : Int) + 1 - 1 = r.at_ by omega]; exact hx
      (apply wc_drawU; (focus (simp only [lenN, Nat.succ_eq_add_one, Nat.zero_add, Nat.reduceAdd]; exact rfl)); exact rfl; kernel_rfl)
      repeat' (first
        | (show WA _ _ _ _ _ _ _ _ _ _ _; first
          | (apply wa_pick; (iterate 4 (exact rfl)); (first | exact QuietT.calc rfl True.intro | (apply QuietT.load; exact rfl; exact rfl; ((repeat (first | exact Pick.here | apply Pick.there))); exact rfl) | (apply QuietT.calc; exact rfl; ((try simp only [inR]); omega)) | (apply QuietT.indexI; (iterate 5 (exact rfl)); ((repeat (first | exact Pick.here | apply Pick.there))); exact rfl; (first | exact rfl | omega); omega) | (apply QuietT.loadEI; exact rfl; exact rfl; ((repeat (first | exact Pick.here | apply Pick.there))); exact rfl; assumption; exact rfl) | (apply QuietT.fieldE; exact rfl; exact rfl; exact rfl; exact rfl) | (apply QuietT.indexO; (iterate 5 (exact rfl)); ((repeat (first | exact Pick.here | apply Pick.there))); exact rfl; (first | exact rfl | omega); omega) | (apply QuietT.loadEO; exact rfl; exact rfl; ((repeat (first | exact Pick.here | apply Pick.there))); exact rfl; assumption; exact rfl) | (apply QuietT.loadI; exact rfl; exact rfl; ((repeat (first | exact Pick.here | apply Pick.there))); exact rfl)); kernel_rfl)
          | (apply wa_pickN; (iterate 8 (exact rfl)); kernel_rfl)
          | (apply wa_pickG; (iterate 7 (exact rfl)); (first | exact QuietT.calc rfl True.intro | (apply QuietT.load; exact rfl; exact rfl; ((repeat (first | exact Pick.here | apply Pick.there))); exact rfl) | (apply QuietT.calc; exact rfl; ((try simp only [inR]); omega)) | (apply QuietT.indexI; (iterate 5 (exact rfl)); ((repeat (first | exact Pick.here | apply Pick.there))); exact rfl; (first | exact rfl | omega); omega) | (apply QuietT.loadEI; exact rfl; exact rfl; ((repeat (first | exact Pick.here | apply Pick.there))); exact rfl; assumption; exact rfl) | (apply QuietT.fieldE; exact rfl; exact rfl; exact rfl; exact rfl) | (apply QuietT.indexO; (iterate 5 (exact rfl)); ((repeat (first | exact Pick.here | apply Pick.there))); exact rfl; (first | exact rfl | omega); omega) | (apply QuietT.loadEO; exact rfl; exact rfl; ((repeat (first | exact Pick.here | apply Pick.there))); exact rfl; assumption; exact rfl) | (apply QuietT.loadI; exact rfl; exact rfl; ((repeat (first | exact Pick.here | apply Pick.there))); exact rfl)); kernel_rfl)
          | (apply wa_skipA; (iterate 8 (exact rfl)); kernel_rfl)
          | (apply wa_splitPD; (iterate 4 (exact rfl)); all_goals (intro h; (try simp only [reduceCtorEq, not_true_eq_false, not_false_eq_true, decide_eq_true_eq, decide_eq_false_iff_not, Bool.not_eq_true', Bool.not_eq_false', Bool.not_true, Bool.not_false, Int.not_lt, Int.not_le, ne_eq, Decidable.not_not] at h); (try (exfalso; omega))))
          | (apply wa_splitPE; (iterate 4 (exact rfl)); all_goals (intro h; (try simp only [reduceCtorEq, not_true_eq_false, not_false_eq_true, decide_eq_true_eq, decide_eq_false_iff_not, Bool.not_eq_true', Bool.not_eq_false', Bool.not_true, Bool.not_false, Int.not_lt, Int.not_le, ne_eq, Decidable.not_not] at h); (try (exfalso; omega))))
          | (apply wa_splitP; (iterate 4 (exact rfl)); (all_goals (intro h; (fail_if_success (have hh : h = rfl := rfl)); (fail_if_success (cases h; done)))); (all_goals (try simp only [reduceCtorEq, not_true_eq_false, not_false_eq_true, decide_eq_true_eq, decide_eq_false_iff_not, Bool.not_eq_true', Bool.not_eq_false', Bool.not_true, Bool.not_false, Int.not_lt, Int.not_le, ne_eq, Decidable.not_not] at h)))
          | refine WA.end_ ?_)
        | (show WT _ _ _ _ 0 _ _ _; (refine wt_done ?_ ?_; kernel_rfl))
        | (show WT _ _ _ _ _ _ _ _; (apply wt_pickQ; (iterate 3 (exact rfl)); (first | exact GOK.none | (apply GOK.runL; (iterate 3 (exact rfl)))); exact rfl; (first | exact QuietT.calc rfl True.intro | (apply QuietT.load; exact rfl; exact rfl; ((repeat (first | exact Pick.here | apply Pick.there))); exact rfl) | (apply QuietT.calc; exact rfl; ((try simp only [inR]); omega)) | (apply QuietT.indexI; (iterate 5 (exact rfl)); ((repeat (first | exact Pick.here | apply Pick.there))); exact rfl; (first | exact rfl | omega); omega) | (apply QuietT.loadEI; exact rfl; exact rfl; ((repeat (first | exact Pick.here | apply Pick.there))); exact rfl; assumption; exact rfl) | (apply QuietT.fieldE; exact rfl; exact rfl; exact rfl; exact rfl) | (apply QuietT.indexO; (iterate 5 (exact rfl)); ((repeat (first | exact Pick.here | apply Pick.there))); exact rfl; (first | exact rfl | omega); omega) | (apply QuietT.loadEO; exact rfl; exact rfl; ((repeat (first | exact Pick.here | apply Pick.there))); exact rfl; assumption; exact rfl) | (apply QuietT.loadI; exact rfl; exact rfl; ((repeat (first | exact Pick.here | apply Pick.there))); exact rfl)); kernel_rfl)))
      repeat' (first
        | (show WL _ _ _ _ _ _ _; first
          | (apply wl_calc; exact rfl; exact True.intro; exact rfl)
          | refine WL.nil ?_
          | (apply wl_ld; exact rfl; exact rfl; ((repeat (first | exact Pick.here | apply Pick.there))); exact rfl; exact rfl)
          | (apply wl_calc; exact rfl; ((try simp only [inR]); omega); exact rfl)
          | (apply wl_store; exact rfl; exact rfl; exact rfl; ((repeat (first | exact Pick.here | apply Pick.there))); exact rfl)
          | (apply wl_ixI; exact rfl; exact rfl; exact rfl; exact rfl; exact rfl; ((repeat (first | exact Pick.here | apply Pick.there))); exact rfl; (first | exact rfl | omega); omega; exact rfl)
          | (apply wl_ldEI; exact rfl; exact rfl; ((repeat (first | exact Pick.here | apply Pick.there))); exact rfl; assumption; exact rfl; exact rfl)
          | (apply wl_fldE; exact rfl; exact rfl; exact rfl; exact rfl; exact rfl)
          | (apply wl_ixO; exact rfl; exact rfl; exact rfl; exact rfl; exact rfl; ((repeat (first | exact Pick.here | apply Pick.there))); exact rfl; (first | exact rfl | omega); omega; exact rfl)
          | (apply wl_ldEO; exact rfl; exact rfl; ((repeat (first | exact Pick.here | apply Pick.there))); exact rfl; assumption; exact rfl; exact rfl)
          | (apply wl_guard; exact rfl; exact rfl; exact rfl; exact rfl)
          | (apply wl_gno; exact rfl; exact rfl; exact rfl; exact rfl; exact rfl)
          | (apply wl_gsplit; exact rfl; exact rfl; exact rfl; exact rfl; all_goals (intro h; (try simp only [reduceCtorEq, not_true_eq_false, not_false_eq_true, decide_eq_true_eq, decide_eq_false_iff_not, Bool.not_eq_true', Bool.not_eq_false', Bool.not_true, Bool.not_false, Int.not_lt, Int.not_le, ne_eq, Decidable.not_not] at h); (try (exfalso; omega))))
          | (apply wl_rem; exact rfl; exact rfl; omega; exact rfl)
          | (apply wl_row; (iterate 7 (exact rfl)); intro b1)
          | (apply wl_box; exact rfl; exact rfl; exact rfl; intro b1))
        | (show WC _ _ _ _ _ _; first
          | refine WC.seq ?_
          | (apply WC.region; exact rfl)
          | (apply WC.condT; exact rfl)
          | (apply WC.condF; exact rfl)
          | (apply WC.cond; exact rfl; all_goals (intro h; (try simp only [reduceCtorEq, not_true_eq_false, not_false_eq_true, decide_eq_true_eq, decide_eq_false_iff_not, Bool.not_eq_true', Bool.not_eq_false', Bool.not_true, Bool.not_false, Int.not_lt, Int.not_le, ne_eq, Decidable.not_not] at h); (try (exfalso; omega))))
          | refine WC.block ?_
          | refine WC.skip ?_
          | refine WC.ret ?_
          | refine WC.exit ?_)
        | refine Qseq.nm ?_
        | refine Qseq.r ?_
        | refine Qseq.x ?_
        | refine Qblock.nm ?_
        | refine Qblock.r ?_
        | (apply Qblock.t; exact rfl)
        | (apply Qblock.f; exact rfl)
        | refine Qmx.r ?_
        | refine Qmx.nm ?_
        | (apply Qmx.f; exact rfl)
        | refine Qmn.r ?_
        | refine Qmn.x ?_
        | refine Qloop.r ?_
        | refine Qloop.x ?_
        | (apply Qfn.one; exact rfl)
        | (apply Qfn.two; exact rfl; exact rfl)
        | (apply Qfn.three; exact rfl; exact rfl; exact rfl)
        | refine Qfn.zero ?_
        | refine Qfn.zeroN ?_)
      have k2 : r.byte = (x, { r with at_ := r.at_ + 1 }) := by
        unfold RD.byte
        rw [if_neg (by rename_i h0; rw [h0]; simp; omega)]
        simp only [Int.toNat_natCast] at hx
        rw [hx]; rfl
      rw [k2]
      exact ⟨_, Take.fin (by repeat (first | exact Take.nil | (apply Take.keepI; focus ((repeat (first | exact Pick.here | apply Pick.there)); done)) | (apply Take.cons; focus ((repeat (first | exact Pick.here | apply Pick.there)); done)) | (apply Take.pure; (first | assumption | omega)))), rfl, rfl⟩
  · rw [k1 (.inl ‹r.bad = true›)]; exact ⟨_, Take.fin (by repeat (first | exact Take.nil | (apply Take.keepI; focus ((repeat (first | exact Pick.here | apply Pick.there)); done)) | (apply Take.cons; focus ((repeat (first | exact Pick.here | apply Pick.there)); done)) | (apply Take.pure; (first | assumption | omega)))), rfl, rfl⟩
theorem rbyte_spec {b : Nat} {T : TypeId} {a : Option Addr} {c : Nat} {r : RD} (hl : r.b.length ≤ 140737488355328) (hr : r.at_ ≤ r.b.length) : Spec P 48 [.pointer (some ⟨b, 0, none⟩)] [Blk b T (RDc a c r), ISl EB a c r.b]
    fun v R => v = .int .u8 r.byte.1 ∧ R = [Blk b T (RDc a c r.byte.2)] := by
  have k1 : r.bad = true ∨ r.b.length ≤ r.at_ → r.byte = (0, { r with bad := true }) := fun h => if_pos h
  refine Spec.of (fn := Try.f48) (by rw [hP.eq]; exact Try.func48) (by kernel_rfl) rfl Try.ntmps48 rfl rfl ?_
  repeat' (first
    | (show WL _ _ _ _ _ _ _; first
      | (apply wl_calc; exact rfl; exact True.intro; exact rfl)
      | refine WL.nil ?_
      | (apply wl_ld; exact rfl; exact rfl; ((repeat (first | exact Pick.here | apply Pick.there))); exact rfl; exact rfl)
      | (apply wl_calc; exact rfl; ((try simp only [inR]); omega); exact rfl)
      | (apply wl_store; exact rfl; exact rfl; exact rfl; ((repeat (first | exact Pick.here | apply Pick.there))); exact rfl)
      | (apply wl_ixI; exact rfl; exact rfl; exact rfl; exact rfl; exact rfl; ((repeat (first | exact Pick.here | apply Pick.there))); exact rfl; (first | exact rfl | omega); omega; exact rfl)
      | (apply wl_ldEI; exact rfl; exact rfl; ((repeat (first | exact Pick.here | apply Pick.there))); exact rfl; assumption; exact rfl; exact rfl)
      | (apply wl_fldE; exact rfl; exact rfl; exact rfl; exact rfl; exact rfl)
      | (apply wl_ixO; exact rfl; exact rfl; exact rfl; exact rfl; exact rfl; ((repeat (first | exact Pick.here | apply Pick.there))); exact rfl; (first | exact rfl | omega); omega; exact rfl)
      | (apply wl_ldEO; exact rfl; exact rfl; ((repeat (first | exact Pick.here | apply Pick.there))); exact rfl; assumption; exact rfl; exact rfl)
      | (apply wl_guard; exact rfl; exact rfl; exact rfl; exact rfl)
      | (apply wl_gno; exact rfl; exact rfl; exact rfl; exact rfl; exact rfl)
      | (apply wl_gsplit; exact rfl; exact rfl; exact rfl; exact rfl; all_goals (intro h; (try simp only [reduceCtorEq, not_true_eq_false, not_false_eq_true, decide_eq_true_eq, decide_eq_false_iff_not, Bool.not_eq_true', Bool.not_eq_false', Bool.not_true, Bool.not_false, Int.not_lt, Int.not_le, ne_eq, Decidable.not_not] at h); (try (exfalso; omega))))
      | (apply wl_rem; exact rfl; exact rfl; omega; exact rfl)
      | (apply wl_row; (iterate 7 (exact rfl)); intro b1)
      | (apply wl_box; exact rfl; exact rfl; exact rfl; intro b1))
    | (show WC _ _ _ _ _ _; first
      | refine WC.seq ?_
      | (apply WC.region; exact rfl)
      | (apply WC.condT; exact rfl)
      | (apply WC.condF; exact rfl)
      | (apply WC.cond; exact rfl; all_goals (intro h; (try simp only [reduceCtorEq, not_true_eq_false, not_false_eq_true, decide_eq_true_eq, decide_eq_false_iff_not, Bool.not_eq_true', Bool.not_eq_false', Bool.not_true, Bool.not_false, Int.not_lt, Int.not_le, ne_eq, Decidable.not_not] at h); (try (exfalso; omega))))
      | refine WC.block ?_
      | refine WC.skip ?_
      | refine WC.ret ?_
      | refine WC.exit ?_)
    | refine Qseq.nm ?_
    | refine Qseq.r ?_
    | refine Qseq.x ?_
    | refine Qblock.nm ?_
    | refine Qblock.r ?_
    | (apply Qblock.t; exact rfl)
    | (apply Qblock.f; exact rfl)
    | refine Qmx.r ?_
    | refine Qmx.nm ?_
    | (apply Qmx.f; exact rfl)
    | refine Qmn.r ?_
    | refine Qmn.x ?_
    | refine Qloop.r ?_
    | refine Qloop.x ?_
    | (apply Qfn.one; exact rfl)
    | (apply Qfn.two; exact rfl; exact rfl)
    | (apply Qfn.three; exact rfl; exact rfl; exact rfl)
    | refine Qfn.zero ?_
    | refine Qfn.zeroN ?_)
  (apply wc_drawU; (focus (simp only [lenN, Nat.succ_eq_add_one, Nat.zero_add, Nat.reduceAdd]; exact rfl)); exact rfl; kernel_rfl)
  repeat' (first
    | (show WA _ _ _ _ _ _ _ _ _ _ _; first
      | (apply wa_pick; (iterate 4 (exact rfl)); (first | exact QuietT.calc rfl True.intro | (apply QuietT.load; exact rfl; exact rfl; ((repeat (first | exact Pick.here | apply Pick.there))); exact rfl) | (apply QuietT.calc; exact rfl; ((try simp only [inR]); omega)) | (apply QuietT.indexI; (iterate 5 (exact rfl)); ((repeat (first | exact Pick.here | apply Pick.there))); exact rfl; (first | exact rfl | omega); omega) | (apply QuietT.loadEI; exact rfl; exact rfl; ((repeat (first | exact Pick.here | apply Pick.there))); exact rfl; assumption; exact rfl) | (apply QuietT.fieldE; exact rfl; exact rfl; exact rfl; exact rfl) | (apply QuietT.indexO; (iterate 5 (exact rfl)); ((repeat (first | exact Pick.here | apply Pick.there))); exact rfl; (first | exact rfl | omega); omega) | (apply QuietT.loadEO; exact rfl; exact rfl; ((repeat (first | exact Pick.here | apply Pick.there))); exact rfl; assumption; exact rfl) | (apply QuietT.loadI; exact rfl; exact rfl; ((repeat (first | exact Pick.here | apply Pick.there))); exact rfl)); kernel_rfl)
      | (apply wa_pickN; (iterate 8 (exact rfl)); kernel_rfl)
      | (apply wa_pickG; (iterate 7 (exact rfl)); (first | exact QuietT.calc rfl True.intro | (apply QuietT.load; exact rfl; exact rfl; ((repeat (first | exact Pick.here | apply Pick.there))); exact rfl) | (apply QuietT.calc; exact rfl; ((try simp only [inR]); omega)) | (apply QuietT.indexI; (iterate 5 (exact rfl)); ((repeat (first | exact Pick.here | apply Pick.there))); exact rfl; (first | exact rfl | omega); omega) | (apply QuietT.loadEI; exact rfl; exact rfl; ((repeat (first | exact Pick.here | apply Pick.there))); exact rfl; assumption; exact rfl) | (apply QuietT.fieldE; exact rfl; exact rfl; exact rfl; exact rfl) | (apply QuietT.indexO; (iterate 5 (exact rfl)); ((repeat (first | exact Pick.here | apply Pick.there))); exact rfl; (first | exact rfl | omega); omega) | (apply QuietT.loadEO; exact rfl; exact rfl; ((repeat (first | exact Pick.here | apply Pick.there))); exact rfl; assumption; exact rfl) | (apply QuietT.loadI; exact rfl; exact rfl; ((repeat (first | exact Pick.here | apply Pick.there))); exact rfl)); kernel_rfl)
      | (apply wa_skipA; (iterate 8 (exact rfl)); kernel_rfl)
      | (apply wa_splitPD; (iterate 4 (exact rfl)); all_goals (intro h; (try simp only [reduceCtorEq, not_true_eq_false, not_false_eq_true, decide_eq_true_eq, decide_eq_false_iff_not, Bool.not_eq_true', Bool.not_eq_false', Bool.not_true, Bool.not_false, Int.not_lt, Int.not_le, ne_eq, Decidable.not_not] at h); (try (exfalso; omega))))
      | (apply wa_splitPE; (iterate 4 (exact rfl)); all_goals (intro h; (try simp only [reduceCtorEq, not_true_eq_false, not_false_eq_true, decide_eq_true_eq, decide_eq_false_iff_not, Bool.not_eq_true', Bool.not_eq_false', Bool.not_true, Bool.not_false, Int.not_lt, Int.not_le, ne_eq, Decidable.not_not] at h); (try (exfalso; omega))))
      | (apply wa_splitP; (iterate 4 (exact rfl)); (all_goals (intro h; (fail_if_success (have hh : h = rfl := rfl)); (fail_if_success (cases h; done)))); (all_goals (try simp only [reduceCtorEq, not_true_eq_false, not_false_eq_true, decide_eq_true_eq, decide_eq_false_iff_not, Bool.not_eq_true', Bool.not_eq_false', Bool.not_true, Bool.not_false, Int.not_lt, Int.not_le, ne_eq, Decidable.not_not] at h)))
      | refine WA.end_ ?_)
    | (show WT _ _ _ _ 0 _ _ _; (refine wt_done ?_ ?_; kernel_rfl))
    | (show WT _ _ _ _ _ _ _ _; (apply wt_pickQ; (iterate 3 (exact rfl)); (first | exact GOK.none | (apply GOK.runL; (iterate 3 (exact rfl)))); exact rfl; (first | exact QuietT.calc rfl True.intro | (apply QuietT.load; exact rfl; exact rfl; ((repeat (first | exact Pick.here | apply Pick.there))); exact rfl) | (apply QuietT.calc; exact rfl; ((try simp only [inR]); omega)) | (apply QuietT.indexI; (iterate 5 (exact rfl)); ((repeat (first | exact Pick.here | apply Pick.there))); exact rfl; (first | exact rfl | omega); omega) | (apply QuietT.loadEI; exact rfl; exact rfl; ((repeat (first | exact Pick.here | apply Pick.there))); exact rfl; assumption; exact rfl) | (apply QuietT.fieldE; exact rfl; exact rfl; exact rfl; exact rfl) | (apply QuietT.indexO; (iterate 5 (exact rfl)); ((repeat (first | exact Pick.here | apply Pick.there))); exact rfl; (first | exact rfl | omega); omega) | (apply QuietT.loadEO; exact rfl; exact rfl; ((repeat (first | exact Pick.here | apply Pick.there))); exact rfl; assumption; exact rfl) | (apply QuietT.loadI; exact rfl; exact rfl; ((repeat (first | exact Pick.here | apply Pick.there))); exact rfl)); kernel_rfl)))
  repeat' (first
    | (show WL _ _ _ _ _ _ _; first
      | (apply wl_calc; exact rfl; exact True.intro; exact rfl)
      | refine WL.nil ?_
      | (apply wl_ld; exact rfl; exact rfl; ((repeat (first | exact Pick.here | apply Pick.there))); exact rfl; exact rfl)
      | (apply wl_calc; exact rfl; ((try simp only [inR]); omega); exact rfl)
      | (apply wl_store; exact rfl; exact rfl; exact rfl; ((repeat (first | exact Pick.here | apply Pick.there))); exact rfl)
      | (apply wl_ixI; exact rfl; exact rfl; exact rfl; exact rfl; exact rfl; ((repeat (first | exact Pick.here | apply Pick.there))); exact rfl; (first | exact rfl | omega); omega; exact rfl)
      | (apply wl_ldEI; exact rfl; exact rfl; ((repeat (first | exact Pick.here | apply Pick.there))); exact rfl; assumption; exact rfl; exact rfl)
      | (apply wl_fldE; exact rfl; exact rfl; exact rfl; exact rfl; exact rfl)
      | (apply wl_ixO; exact rfl; exact rfl; exact rfl; exact rfl; exact rfl; ((repeat (first | exact Pick.here | apply Pick.there))); exact rfl; (first | exact rfl | omega); omega; exact rfl)
      | (apply wl_ldEO; exact rfl; exact rfl; ((repeat (first | exact Pick.here | apply Pick.there))); exact rfl; assumption; exact rfl; exact rfl)
      | (apply wl_guard; exact rfl; exact rfl; exact rfl; exact rfl)
      | (apply wl_gno; exact rfl; exact rfl; exact rfl; exact rfl; exact rfl)
      | (apply wl_gsplit; exact rfl; exact rfl; exact rfl; exact rfl; all_goals (intro h; (try simp only [reduceCtorEq, not_true_eq_false, not_false_eq_true, decide_eq_true_eq, decide_eq_false_iff_not, Bool.not_eq_true', Bool.not_eq_false', Bool.not_true, Bool.not_false, Int.not_lt, Int.not_le, ne_eq, Decidable.not_not] at h); (try (exfalso; omega))))
      | (apply wl_rem; exact rfl; exact rfl; omega; exact rfl)
      | (apply wl_row; (iterate 7 (exact rfl)); intro b1)
      | (apply wl_box; exact rfl; exact rfl; exact rfl; intro b1))
    | (show WC _ _ _ _ _ _; first
      | refine WC.seq ?_
      | (apply WC.region; exact rfl)
      | (apply WC.condT; exact rfl)
      | (apply WC.condF; exact rfl)
      | (apply WC.cond; exact rfl; all_goals (intro h; (try simp only [reduceCtorEq, not_true_eq_false, not_false_eq_true, decide_eq_true_eq, decide_eq_false_iff_not, Bool.not_eq_true', Bool.not_eq_false', Bool.not_true, Bool.not_false, Int.not_lt, Int.not_le, ne_eq, Decidable.not_not] at h); (try (exfalso; omega))))
      | refine WC.block ?_
      | refine WC.skip ?_
      | refine WC.ret ?_
      | refine WC.exit ?_)
    | refine Qseq.nm ?_
    | refine Qseq.r ?_
    | refine Qseq.x ?_
    | refine Qblock.nm ?_
    | refine Qblock.r ?_
    | (apply Qblock.t; exact rfl)
    | (apply Qblock.f; exact rfl)
    | refine Qmx.r ?_
    | refine Qmx.nm ?_
    | (apply Qmx.f; exact rfl)
    | refine Qmn.r ?_
    | refine Qmn.x ?_
    | refine Qloop.r ?_
    | refine Qloop.x ?_
    | (apply Qfn.one; exact rfl)
    | (apply Qfn.two; exact rfl; exact rfl)
    | (apply Qfn.three; exact rfl; exact rfl; exact rfl)
    | refine Qfn.zero ?_
    | refine Qfn.zeroN ?_)
  · rw [k1 (.inr (by omega))]; exact ⟨_, Take.fin (by repeat (first | exact Take.nil | (apply Take.keepI; focus ((repeat (first | exact Pick.here | apply Pick.there)); done)) | (apply Take.cons; focus ((repeat (first | exact Pick.here | apply Pick.there)); done)) | (apply Take.pure; (first | assumption | omega)))), rfl, rfl⟩
  · obtain ⟨x, hx⟩ := getI (i := r.at_) (xs := r.b) (by omega)
    have hx' : r.b[((r.at_ : Int) + 1 - 1).toNat]? = some x := by rw [show (r.at_ : Int) + 1 - 1 = r.at_ by omega]; exact hx
    (apply wc_drawU; (focus (simp only [lenN, Nat.succ_eq_add_one, Nat.zero_add, Nat.reduceAdd]; exact rfl)); exact rfl; kernel_rfl)
    repeat' (first
      | (show WA _ _ _ _ _ _ _ _ _ _ _; first
        | (apply wa_pick; (iterate 4 (exact rfl)); (first | exact QuietT.calc rfl True.intro | (apply QuietT.load; exact rfl; exact rfl; ((repeat (first | exact Pick.here | apply Pick.there))); exact rfl) | (apply QuietT.calc; exact rfl; ((try simp only [inR]); omega)) | (apply QuietT.indexI; (iterate 5 (exact rfl)); ((repeat (first | exact Pick.here | apply Pick.there))); exact rfl; (first | exact rfl | omega); omega) | (apply QuietT.loadEI; exact rfl; exact rfl; ((repeat (first | exact Pick.here | apply Pick.there))); exact rfl; assumption; exact rfl) | (apply QuietT.fieldE; exact rfl; exact rfl; exact rfl; exact rfl) | (apply QuietT.indexO; (iterate 5 (exact rfl)); ((repeat (first | exact Pick.here | apply Pick.there))); exact rfl; (first | exact rfl | omega); omega) | (apply QuietT.loadEO; exact rfl; exact rfl; ((repeat (first | exact Pick.here | apply Pick.there))); exact rfl; assumption; exact rfl) | (apply QuietT.loadI; exact rfl; exact rfl; ((repeat (first | exact Pick.here | apply Pick.there))); exact rfl)); kernel_rfl)
        | (apply wa_pickN; (iterate 8 (exact rfl)); kernel_rfl)
        | (apply wa_pickG; (iterate 7 (exact rfl)); (first | exact QuietT.calc rfl True.intro | (apply QuietT.load; exact rfl; exact rfl; ((repeat (first | exact Pick.here | apply Pick.there))); exact rfl) | (apply QuietT.calc; exact rfl; ((try simp only [inR]); omega)) | (apply QuietT.indexI; (iterate 5 (exact rfl)); ((repeat (first | exact Pick.here | apply Pick.there))); exact rfl; (first | exact rfl | omega); omega) | (apply QuietT.loadEI; exact rfl; exact rfl; ((repeat (first | exact Pick.here | apply Pick.there))); exact rfl; assumption; exact rfl) | (apply QuietT.fieldE; exact rfl; exact rfl; exact rfl; exact rfl) | (apply QuietT.indexO; (iterate 5 (exact rfl)); ((repeat (first | exact Pick.here | apply Pick.there))); exact rfl; (first | exact rfl | omega); omega) | (apply QuietT.loadEO; exact rfl; exact rfl; ((repeat (first | exact Pick.here | apply Pick.there))); exact rfl; assumption; exact rfl) | (apply QuietT.loadI; exact rfl; exact rfl; ((repeat (first | exact Pick.here | apply Pick.there))); exact rfl)); kernel_rfl)
        | (apply wa_skipA; (iterate 8 (exact rfl)); kernel_rfl)
        | (apply wa_splitPD; (iterate 4 (exact rfl)); all_goals (intro h; (try simp only [reduceCtorEq, not_true_eq_false, not_false_eq_true, decide_eq_true_eq, decide_eq_false_iff_not, Bool.not_eq_true', Bool.not_eq_false', Bool.not_true, Bool.not_false, Int.not_lt, Int.not_le, ne_eq, Decidable.not_not] at h); (try (exfalso; omega))))
        | (apply wa_splitPE; (iterate 4 (exact rfl)); all_goals (intro h; (try simp only [reduceCtorEq, not_true_eq_false, not_false_eq_true, decide_eq_true_eq, decide_eq_false_iff_not, Bool.not_eq_true', Bool.not_eq_false', Bool.not_true, Bool.not_false, Int.not_lt, Int.not_le, ne_eq, Decidable.not_not] at h); (try (exfalso; omega))))
        | (apply wa_splitP; (iterate 4 (exact rfl)); (all_goals (intro h; (fail_if_success (have hh : h = rfl := rfl)); (fail_if_success (cases h; done)))); (all_goals (try simp only [reduceCtorEq, not_true_eq_false, not_false_eq_true, decide_eq_true_eq, decide_eq_false_iff_not, Bool.not_eq_true', Bool.not_eq_false', Bool.not_true, Bool.not_false, Int.not_lt, Int.not_le, ne_eq, Decidable.not_not] at h)))
        | refine WA.end_ ?_)
      | (show WT _ _ _ _ 0 _ _ _; (refine wt_done ?_ ?_; kernel_rfl))
      | (show WT _ _ _ _ _ _ _ _; (apply wt_pickQ; (iterate 3 (exact rfl)); (first | exact GOK.none | (apply GOK.runL; (iterate 3 (exact rfl)))); exact rfl; (first | exact QuietT.calc rfl True.intro | (apply QuietT.load; exact rfl; exact rfl; ((repeat (first | exact Pick.here | apply Pick.there))); exact rfl) | (apply QuietT.calc; exact rfl; ((try simp only [inR]); omega)) | (apply QuietT.indexI; (iterate 5 (exact rfl)); ((repeat (first | exact Pick.here | apply Pick.there))); exact rfl; (first | exact rfl | omega); omega) | (apply QuietT.loadEI; exact rfl; exact rfl; ((repeat (first | exact Pick.here | apply Pick.there))); exact rfl; assumption; exact rfl) | (apply QuietT.fieldE; exact rfl; exact rfl; exact rfl; exact rfl) | (apply QuietT.indexO; (iterate 5 (exact rfl)); ((repeat (first | exact Pick.here | apply Pick.there))); exact rfl; (first | exact rfl | omega); omega) | (apply QuietT.loadEO; exact rfl; exact rfl; ((repeat (first | exact Pick.here | apply Pick.there))); exact rfl; assumption; exact rfl) | (apply QuietT.loadI; exact rfl; exact rfl; ((repeat (first | exact Pick.here | apply Pick.there))); exact rfl)); kernel_rfl)))
    repeat' (first
      | (show WL _ _ _ _ _ _ _; first
        | (apply wl_calc; exact rfl; exact True.intro; exact rfl)
        | refine WL.nil ?_
        | (apply wl_ld; exact rfl; exact rfl; ((repeat (first | exact Pick.here | apply Pick.there))); exact rfl; exact rfl)
        | (apply wl_calc; exact rfl; ((try simp only [inR]); omega); exact rfl)
        | (apply wl_store; exact rfl; exact rfl; exact rfl; ((repeat (first | exact Pick.here | apply Pick.there))); exact rfl)
        | (apply wl_ixI; exact rfl; exact rfl; exact rfl; exact rfl; exact rfl; ((repeat (first | exact Pick.here | apply Pick.there))); exact rfl; (first | exact rfl | omega); omega; exact rfl)
        | (apply wl_ldEI; exact rfl; exact rfl; ((repeat (first | exact Pick.here | apply Pick.there))); exact rfl; assumption; exact rfl; exact rfl)
        | (apply wl_fldE; exact rfl; exact rfl; exact rfl; exact rfl; exact rfl)
        | (apply wl_ixO; exact rfl; exact rfl; exact rfl; exact rfl; exact rfl; ((repeat (first | exact Pick.here | apply Pick.there))); exact rfl; (first | exact rfl | omega); omega; exact rfl)
        | (apply wl_ldEO; exact rfl; exact rfl; ((repeat (first | exact Pick.here | apply Pick.there))); exact rfl; assumption; exact rfl; exact rfl)
        | (apply wl_guard; exact rfl; exact rfl; exact rfl; exact rfl)
        | (apply wl_gno; exact rfl; exact rfl; exact rfl; exact rfl; exact rfl)
        | (apply wl_gsplit; exact rfl; exact rfl; exact rfl; exact rfl; all_goals (intro h; (try simp only [reduceCtorEq, not_true_eq_false, not_false_eq_true, decide_eq_true_eq, decide_eq_false_iff_not, Bool.not_eq_true', Bool.not_eq_false', Bool.not_true, Bool.not_false, Int.not_lt, Int.not_le, ne_eq, Decidable.not_not] at h); (try (exfalso; omega))))
        | (apply wl_rem; exact rfl; exact rfl; omega; exact rfl)
        | (apply wl_row; (iterate 7 (exact rfl)); intro b1)
        | (apply wl_box; exact rfl; exact rfl; exact rfl; intro b1))
      | (show WC _ _ _ _ _ _; first
        | refine WC.seq ?_
        | (apply WC.region; exact rfl)
        | (apply WC.condT; exact rfl)
        | (apply WC.condF; exact rfl)
        | (apply WC.cond; exact rfl; all_goals (intro h; (try simp only [reduceCtorEq, not_true_eq_false, not_false_eq_true, decide_eq_true_eq, decide_eq_false_iff_not, Bool.not_eq_true', Bool.not_eq_false', Bool.not_true, Bool.not_false, Int.not_lt, Int.not_le, ne_eq, Decidable.not_not] at h); (try (exfalso; omega))))
        | refine WC.block ?_
        | refine WC.skip ?_
        | refine WC.ret ?_
        | refine WC.exit ?_)
      | refine Qseq.nm ?_
      | refine Qseq.r ?_
      | refine Qseq.x ?_
      | refine Qblock.nm ?_
      | refine Qblock.r ?_
      | (apply Qblock.t; exact rfl)
      | (apply Qblock.f; exact rfl)
      | refine Qmx.r ?_
      | refine Qmx.nm ?_
      | (apply Qmx.f; exact rfl)
      | refine Qmn.r ?_
      | refine Qmn.x ?_
      | refine Qloop.r ?_
      | refine Qloop.x ?_
      | (apply Qfn.one; exact rfl)
      | (apply Qfn.two; exact rfl; exact rfl)
      | (apply Qfn.three; exact rfl; exact rfl; exact rfl)
      | refine Qfn.zero ?_
      | refine Qfn.zeroN ?_)
    have k2 : r.byte = (x, { r with at_ := r.at_ + 1 }) := by
      unfold RD.byte
      rw [if_neg (by rw [‹r.bad = false›]; simp; omega)]
      simp only [Int.toNat_natCast] at hx
      rw [hx]; rfl
    rw [k2]
    exact ⟨_, Take.fin (by repeat (first | exact Take.nil | (apply Take.keepI; focus ((repeat (first | exact Pick.here | apply Pick.there)); done)) | (apply Take.cons; focus ((repeat (first | exact Pick.here | apply Pick.there)); done)) | (apply Take.pure; (first | assumption | omega)))), rfl, rfl⟩
  · rw [k1 (.inl ‹r.bad = true›)]; exact ⟨_, Take.fin (by repeat (first | exact Take.nil | (apply Take.keepI; focus ((repeat (first | exact Pick.here | apply Pick.there)); done)) | (apply Take.cons; focus ((repeat (first | exact Pick.here | apply Pick.there)); done)) | (apply Take.pure; (first | assumption | omega)))), rfl, rfl⟩
theorem bytes_spec {b : Nat} {T : TypeId} {a : Option Addr} {c : Nat} {r : RD} (most : Int) (hl : r.b.length ≤ 140737488355328) (hr : r.at_ ≤ r.b.length) : Spec P 45 [.pointer (some ⟨b, 0, none⟩), .int .i64 most] [Blk b T (RDc a c r), ISl EB a c r.b]
    fun v R => ∃ a' c', v = .slice a' (r.bytes most).1.length c' ∧ R = [Blk b T (RDc a c (r.bytes most).2), OSl EB 5 a' c' (r.bytes most).1] := by
  obtain ⟨n, s, ok, htk⟩ : ∃ n s ok, takeM (r.b.drop r.at_) = (n, s, ok) := ⟨_, _, _, rfl⟩
  have hs : s ≤ r.b.length - r.at_ := by have := take_le (xs := r.b.drop r.at_); rw [htk] at this; simp at this; omega
  have hn : ok = true → 0 ≤ n ∧ n ≤ 4611686018427387903 ∧ 1 ≤ s := by intro h; have := take_n0 (xs := r.b.drop r.at_); rw [htk] at this; exact this h
  have k1 : r.bad = true ∨ ok = false ∨ most < n ∨ ((r.b.length : Int) - r.at_) - s < n → r.bytes most = ([], { r with bad := true }) := fun h => if_pos (by unfold RD.noBytes RD.tk; rw [htk]; exact h)
  have k2 : r.bad = false → ok = true → n ≤ most → n ≤ ((r.b.length : Int) - r.at_) - s → r.bytes most = ((r.b.drop (r.at_ + s)).take n.toNat, { r with at_ := r.at_ + s + n.toNat }) := fun h1 h2 h3 h4 => 
    (if_neg (show ¬ r.noBytes most by unfold RD.noBytes RD.tk; rw [htk]; simp [h1, h2]; omega)).trans (by unfold RD.tk; rw [htk])
  refine Spec.of (fn := Try.f45) (by rw [hP.eq]; exact Try.func45) (by kernel_rfl) rfl Try.ntmps45 rfl rfl ?_
  repeat' (first
    | (show WL _ _ _ _ _ _ _; first
      | (apply wl_calc; exact rfl; exact True.intro; exact rfl)
      | refine WL.nil ?_
      | (apply wl_ld; exact rfl; exact rfl; ((repeat (first | exact Pick.here | apply Pick.there))); exact rfl; exact rfl)
      | (apply wl_calc; exact rfl; ((try simp only [inR]); omega); exact rfl)
      | (apply wl_store; exact rfl; exact rfl; exact rfl; ((repeat (first | exact Pick.here | apply Pick.there))); exact rfl)
      | (apply wl_ixI; exact rfl; exact rfl; exact rfl; exact rfl; exact rfl; ((repeat (first | exact Pick.here | apply Pick.there))); exact rfl; (first | exact rfl | omega); omega; exact rfl)
      | (apply wl_ldEI; exact rfl; exact rfl; ((repeat (first | exact Pick.here | apply Pick.there))); exact rfl; assumption; exact rfl; exact rfl)
      | (apply wl_fldE; exact rfl; exact rfl; exact rfl; exact rfl; exact rfl)
      | (apply wl_ixO; exact rfl; exact rfl; exact rfl; exact rfl; exact rfl; ((repeat (first | exact Pick.here | apply Pick.there))); exact rfl; (first | exact rfl | omega); omega; exact rfl)
      | (apply wl_ldEO; exact rfl; exact rfl; ((repeat (first | exact Pick.here | apply Pick.there))); exact rfl; assumption; exact rfl; exact rfl)
      | (apply wl_guard; exact rfl; exact rfl; exact rfl; exact rfl)
      | (apply wl_gno; exact rfl; exact rfl; exact rfl; exact rfl; exact rfl)
      | (apply wl_gsplit; exact rfl; exact rfl; exact rfl; exact rfl; all_goals (intro h; (try simp only [reduceCtorEq, not_true_eq_false, not_false_eq_true, decide_eq_true_eq, decide_eq_false_iff_not, Bool.not_eq_true', Bool.not_eq_false', Bool.not_true, Bool.not_false, Int.not_lt, Int.not_le, ne_eq, Decidable.not_not] at h); (try (exfalso; omega))))
      | (apply wl_rem; exact rfl; exact rfl; omega; exact rfl)
      | (apply wl_row; (iterate 7 (exact rfl)); intro b1)
      | (apply wl_box; exact rfl; exact rfl; exact rfl; intro b1))
    | (show WC _ _ _ _ _ _; first
      | refine WC.seq ?_
      | (apply WC.region; exact rfl)
      | (apply WC.condT; exact rfl)
      | (apply WC.condF; exact rfl)
      | (apply WC.cond; exact rfl; all_goals (intro h; (try simp only [reduceCtorEq, not_true_eq_false, not_false_eq_true, decide_eq_true_eq, decide_eq_false_iff_not, Bool.not_eq_true', Bool.not_eq_false', Bool.not_true, Bool.not_false, Int.not_lt, Int.not_le, ne_eq, Decidable.not_not] at h); (try (exfalso; omega))))
      | refine WC.block ?_
      | refine WC.skip ?_
      | refine WC.ret ?_
      | refine WC.exit ?_)
    | refine Qseq.nm ?_
    | refine Qseq.r ?_
    | refine Qseq.x ?_
    | refine Qblock.nm ?_
    | refine Qblock.r ?_
    | (apply Qblock.t; exact rfl)
    | (apply Qblock.f; exact rfl)
    | refine Qmx.r ?_
    | refine Qmx.nm ?_
    | (apply Qmx.f; exact rfl)
    | refine Qmn.r ?_
    | refine Qmn.x ?_
    | refine Qloop.r ?_
    | refine Qloop.x ?_
    | (apply Qfn.one; exact rfl)
    | (apply Qfn.two; exact rfl; exact rfl)
    | (apply Qfn.three; exact rfl; exact rfl; exact rfl)
    | refine Qfn.zero ?_
    | refine Qfn.zeroN ?_)
  (apply wc_drawU; (focus (simp only [lenN, Nat.succ_eq_add_one, Nat.zero_add, Nat.reduceAdd]; exact rfl)); exact rfl; kernel_rfl)
  repeat' (first
    | (show WA _ _ _ _ _ _ _ _ _ _ _; first
      | (apply wa_pick; (iterate 4 (exact rfl)); (first | exact QuietT.calc rfl True.intro | (apply QuietT.load; exact rfl; exact rfl; ((repeat (first | exact Pick.here | apply Pick.there))); exact rfl) | (apply QuietT.calc; exact rfl; ((try simp only [inR]); omega)) | (apply QuietT.indexI; (iterate 5 (exact rfl)); ((repeat (first | exact Pick.here | apply Pick.there))); exact rfl; (first | exact rfl | omega); omega) | (apply QuietT.loadEI; exact rfl; exact rfl; ((repeat (first | exact Pick.here | apply Pick.there))); exact rfl; assumption; exact rfl) | (apply QuietT.fieldE; exact rfl; exact rfl; exact rfl; exact rfl) | (apply QuietT.indexO; (iterate 5 (exact rfl)); ((repeat (first | exact Pick.here | apply Pick.there))); exact rfl; (first | exact rfl | omega); omega) | (apply QuietT.loadEO; exact rfl; exact rfl; ((repeat (first | exact Pick.here | apply Pick.there))); exact rfl; assumption; exact rfl) | (apply QuietT.loadI; exact rfl; exact rfl; ((repeat (first | exact Pick.here | apply Pick.there))); exact rfl)); kernel_rfl)
      | (apply wa_pickN; (iterate 8 (exact rfl)); kernel_rfl)
      | (apply wa_pickG; (iterate 7 (exact rfl)); (first | exact QuietT.calc rfl True.intro | (apply QuietT.load; exact rfl; exact rfl; ((repeat (first | exact Pick.here | apply Pick.there))); exact rfl) | (apply QuietT.calc; exact rfl; ((try simp only [inR]); omega)) | (apply QuietT.indexI; (iterate 5 (exact rfl)); ((repeat (first | exact Pick.here | apply Pick.there))); exact rfl; (first | exact rfl | omega); omega) | (apply QuietT.loadEI; exact rfl; exact rfl; ((repeat (first | exact Pick.here | apply Pick.there))); exact rfl; assumption; exact rfl) | (apply QuietT.fieldE; exact rfl; exact rfl; exact rfl; exact rfl) | (apply QuietT.indexO; (iterate 5 (exact rfl)); ((repeat (first | exact Pick.here | apply Pick.there))); exact rfl; (first | exact rfl | omega); omega) | (apply QuietT.loadEO; exact rfl; exact rfl; ((repeat (first | exact Pick.here | apply Pick.there))); exact rfl; assumption; exact rfl) | (apply QuietT.loadI; exact rfl; exact rfl; ((repeat (first | exact Pick.here | apply Pick.there))); exact rfl)); kernel_rfl)
      | (apply wa_skipA; (iterate 8 (exact rfl)); kernel_rfl)
      | (apply wa_splitPD; (iterate 4 (exact rfl)); all_goals (intro h; (try simp only [reduceCtorEq, not_true_eq_false, not_false_eq_true, decide_eq_true_eq, decide_eq_false_iff_not, Bool.not_eq_true', Bool.not_eq_false', Bool.not_true, Bool.not_false, Int.not_lt, Int.not_le, ne_eq, Decidable.not_not] at h); (try (exfalso; omega))))
      | (apply wa_splitPE; (iterate 4 (exact rfl)); all_goals (intro h; (try simp only [reduceCtorEq, not_true_eq_false, not_false_eq_true, decide_eq_true_eq, decide_eq_false_iff_not, Bool.not_eq_true', Bool.not_eq_false', Bool.not_true, Bool.not_false, Int.not_lt, Int.not_le, ne_eq, Decidable.not_not] at h); (try (exfalso; omega))))
      | (apply wa_splitP; (iterate 4 (exact rfl)); (all_goals (intro h; (fail_if_success (have hh : h = rfl := rfl)); (fail_if_success (cases h; done)))); (all_goals (try simp only [reduceCtorEq, not_true_eq_false, not_false_eq_true, decide_eq_true_eq, decide_eq_false_iff_not, Bool.not_eq_true', Bool.not_eq_false', Bool.not_true, Bool.not_false, Int.not_lt, Int.not_le, ne_eq, Decidable.not_not] at h)))
      | refine WA.end_ ?_)
    | (show WT _ _ _ _ 0 _ _ _; (refine wt_done ?_ ?_; kernel_rfl))
    | (show WT _ _ _ _ _ _ _ _; (apply wt_pickQ; (iterate 3 (exact rfl)); (first | exact GOK.none | (apply GOK.runL; (iterate 3 (exact rfl)))); exact rfl; (first | exact QuietT.calc rfl True.intro | (apply QuietT.load; exact rfl; exact rfl; ((repeat (first | exact Pick.here | apply Pick.there))); exact rfl) | (apply QuietT.calc; exact rfl; ((try simp only [inR]); omega)) | (apply QuietT.indexI; (iterate 5 (exact rfl)); ((repeat (first | exact Pick.here | apply Pick.there))); exact rfl; (first | exact rfl | omega); omega) | (apply QuietT.loadEI; exact rfl; exact rfl; ((repeat (first | exact Pick.here | apply Pick.there))); exact rfl; assumption; exact rfl) | (apply QuietT.fieldE; exact rfl; exact rfl; exact rfl; exact rfl) | (apply QuietT.indexO; (iterate 5 (exact rfl)); ((repeat (first | exact Pick.here | apply Pick.there))); exact rfl; (first | exact rfl | omega); omega) | (apply QuietT.loadEO; exact rfl; exact rfl; ((repeat (first | exact Pick.here | apply Pick.there))); exact rfl; assumption; exact rfl) | (apply QuietT.loadI; exact rfl; exact rfl; ((repeat (first | exact Pick.here | apply Pick.there))); exact rfl)); kernel_rfl)))
  (apply wa_pickCut (zs := r.b.drop r.at_); (iterate 3 (exact rfl)); (first | exact GOK.none | (apply GOK.runL; (iterate 3 (exact rfl)))); (iterate 7 (exact rfl)); ((repeat (first | exact Pick.here | apply Pick.there))); exact rfl; kernel_rfl; (omega); (show (r.b.take r.b.length).drop r.at_ = _; rw [List.take_length]); intro a2 c2)
  repeat' (first
    | (show WA _ _ _ _ _ _ _ _ _ _ _; first
      | (apply wa_pick; (iterate 4 (exact rfl)); (first | exact QuietT.calc rfl True.intro | (apply QuietT.load; exact rfl; exact rfl; ((repeat (first | exact Pick.here | apply Pick.there))); exact rfl) | (apply QuietT.calc; exact rfl; ((try simp only [inR]); omega)) | (apply QuietT.indexI; (iterate 5 (exact rfl)); ((repeat (first | exact Pick.here | apply Pick.there))); exact rfl; (first | exact rfl | omega); omega) | (apply QuietT.loadEI; exact rfl; exact rfl; ((repeat (first | exact Pick.here | apply Pick.there))); exact rfl; assumption; exact rfl) | (apply QuietT.fieldE; exact rfl; exact rfl; exact rfl; exact rfl) | (apply QuietT.indexO; (iterate 5 (exact rfl)); ((repeat (first | exact Pick.here | apply Pick.there))); exact rfl; (first | exact rfl | omega); omega) | (apply QuietT.loadEO; exact rfl; exact rfl; ((repeat (first | exact Pick.here | apply Pick.there))); exact rfl; assumption; exact rfl) | (apply QuietT.loadI; exact rfl; exact rfl; ((repeat (first | exact Pick.here | apply Pick.there))); exact rfl)); kernel_rfl)
      | (apply wa_pickN; (iterate 8 (exact rfl)); kernel_rfl)
      | (apply wa_pickG; (iterate 7 (exact rfl)); (first | exact QuietT.calc rfl True.intro | (apply QuietT.load; exact rfl; exact rfl; ((repeat (first | exact Pick.here | apply Pick.there))); exact rfl) | (apply QuietT.calc; exact rfl; ((try simp only [inR]); omega)) | (apply QuietT.indexI; (iterate 5 (exact rfl)); ((repeat (first | exact Pick.here | apply Pick.there))); exact rfl; (first | exact rfl | omega); omega) | (apply QuietT.loadEI; exact rfl; exact rfl; ((repeat (first | exact Pick.here | apply Pick.there))); exact rfl; assumption; exact rfl) | (apply QuietT.fieldE; exact rfl; exact rfl; exact rfl; exact rfl) | (apply QuietT.indexO; (iterate 5 (exact rfl)); ((repeat (first | exact Pick.here | apply Pick.there))); exact rfl; (first | exact rfl | omega); omega) | (apply QuietT.loadEO; exact rfl; exact rfl; ((repeat (first | exact Pick.here | apply Pick.there))); exact rfl; assumption; exact rfl) | (apply QuietT.loadI; exact rfl; exact rfl; ((repeat (first | exact Pick.here | apply Pick.there))); exact rfl)); kernel_rfl)
      | (apply wa_skipA; (iterate 8 (exact rfl)); kernel_rfl)
      | (apply wa_splitPD; (iterate 4 (exact rfl)); all_goals (intro h; (try simp only [reduceCtorEq, not_true_eq_false, not_false_eq_true, decide_eq_true_eq, decide_eq_false_iff_not, Bool.not_eq_true', Bool.not_eq_false', Bool.not_true, Bool.not_false, Int.not_lt, Int.not_le, ne_eq, Decidable.not_not] at h); (try (exfalso; omega))))
      | (apply wa_splitPE; (iterate 4 (exact rfl)); all_goals (intro h; (try simp only [reduceCtorEq, not_true_eq_false, not_false_eq_true, decide_eq_true_eq, decide_eq_false_iff_not, Bool.not_eq_true', Bool.not_eq_false', Bool.not_true, Bool.not_false, Int.not_lt, Int.not_le, ne_eq, Decidable.not_not] at h); (try (exfalso; omega))))
      | (apply wa_splitP; (iterate 4 (exact rfl)); (all_goals (intro h; (fail_if_success (have hh : h = rfl := rfl)); (fail_if_success (cases h; done)))); (all_goals (try simp only [reduceCtorEq, not_true_eq_false, not_false_eq_true, decide_eq_true_eq, decide_eq_false_iff_not, Bool.not_eq_true', Bool.not_eq_false', Bool.not_true, Bool.not_false, Int.not_lt, Int.not_le, ne_eq, Decidable.not_not] at h)))
      | refine WA.end_ ?_)
    | (show WT _ _ _ _ 0 _ _ _; (refine wt_done ?_ ?_; kernel_rfl))
    | (show WT _ _ _ _ _ _ _ _; (apply wt_pickQ; (iterate 3 (exact rfl)); (first | exact GOK.none | (apply GOK.runL; (iterate 3 (exact rfl)))); exact rfl; (first | exact QuietT.calc rfl True.intro | (apply QuietT.load; exact rfl; exact rfl; ((repeat (first | exact Pick.here | apply Pick.there))); exact rfl) | (apply QuietT.calc; exact rfl; ((try simp only [inR]); omega)) | (apply QuietT.indexI; (iterate 5 (exact rfl)); ((repeat (first | exact Pick.here | apply Pick.there))); exact rfl; (first | exact rfl | omega); omega) | (apply QuietT.loadEI; exact rfl; exact rfl; ((repeat (first | exact Pick.here | apply Pick.there))); exact rfl; assumption; exact rfl) | (apply QuietT.fieldE; exact rfl; exact rfl; exact rfl; exact rfl) | (apply QuietT.indexO; (iterate 5 (exact rfl)); ((repeat (first | exact Pick.here | apply Pick.there))); exact rfl; (first | exact rfl | omega); omega) | (apply QuietT.loadEO; exact rfl; exact rfl; ((repeat (first | exact Pick.here | apply Pick.there))); exact rfl; assumption; exact rfl) | (apply QuietT.loadI; exact rfl; exact rfl; ((repeat (first | exact Pick.here | apply Pick.there))); exact rfl)); kernel_rfl)))
  (refine wa_callU rfl rfl rfl (by (first | exact GOK.none | (apply GOK.runL; (iterate 3 (exact rfl))))) rfl rfl rfl (by kernel_rfl) (take_spec (xs := r.b.drop r.at_) (by simp; omega)) (by repeat (first | exact Take.nil | (apply Take.keepI; focus ((repeat (first | exact Pick.here | apply Pick.there)); done)) | (apply Take.cons; focus ((repeat (first | exact Pick.here | apply Pick.there)); done)) | (apply Take.pure; (first | assumption | omega)))) ?_)
  rintro _ _ ⟨rfl, rfl⟩
  rw [show takeV (r.b.drop r.at_) = .tuple ⟨[.int .i64 n, .int .i64 (s : Nat), .bool ok]⟩ by unfold takeV; rw [htk]]
  refine ⟨_, Take.ent (by repeat (first | exact Take.nil | (apply Take.keepI; focus ((repeat (first | exact Pick.here | apply Pick.there)); done)) | (apply Take.cons; focus ((repeat (first | exact Pick.here | apply Pick.there)); done)) | (apply Take.pure; (first | assumption | omega)))), ?_⟩
  repeat' (first
    | (show WA _ _ _ _ _ _ _ _ _ _ _; first
      | (apply wa_pick; (iterate 4 (exact rfl)); (first | exact QuietT.calc rfl True.intro | (apply QuietT.load; exact rfl; exact rfl; ((repeat (first | exact Pick.here | apply Pick.there))); exact rfl) | (apply QuietT.calc; exact rfl; ((try simp only [inR]); omega)) | (apply QuietT.indexI; (iterate 5 (exact rfl)); ((repeat (first | exact Pick.here | apply Pick.there))); exact rfl; (first | exact rfl | omega); omega) | (apply QuietT.loadEI; exact rfl; exact rfl; ((repeat (first | exact Pick.here | apply Pick.there))); exact rfl; assumption; exact rfl) | (apply QuietT.fieldE; exact rfl; exact rfl; exact rfl; exact rfl) | (apply QuietT.indexO; (iterate 5 (exact rfl)); ((repeat (first | exact Pick.here | apply Pick.there))); exact rfl; (first | exact rfl | omega); omega) | (apply QuietT.loadEO; exact rfl; exact rfl; ((repeat (first | exact Pick.here | apply Pick.there))); exact rfl; assumption; exact rfl) | (apply QuietT.loadI; exact rfl; exact rfl; ((repeat (first | exact Pick.here | apply Pick.there))); exact rfl)); kernel_rfl)
      | (apply wa_pickN; (iterate 8 (exact rfl)); kernel_rfl)
      | (apply wa_pickG; (iterate 7 (exact rfl)); (first | exact QuietT.calc rfl True.intro | (apply QuietT.load; exact rfl; exact rfl; ((repeat (first | exact Pick.here | apply Pick.there))); exact rfl) | (apply QuietT.calc; exact rfl; ((try simp only [inR]); omega)) | (apply QuietT.indexI; (iterate 5 (exact rfl)); ((repeat (first | exact Pick.here | apply Pick.there))); exact rfl; (first | exact rfl | omega); omega) | (apply QuietT.loadEI; exact rfl; exact rfl; ((repeat (first | exact Pick.here | apply Pick.there))); exact rfl; assumption; exact rfl) | (apply QuietT.fieldE; exact rfl; exact rfl; exact rfl; exact rfl) | (apply QuietT.indexO; (iterate 5 (exact rfl)); ((repeat (first | exact Pick.here | apply Pick.there))); exact rfl; (first | exact rfl | omega); omega) | (apply QuietT.loadEO; exact rfl; exact rfl; ((repeat (first | exact Pick.here | apply Pick.there))); exact rfl; assumption; exact rfl) | (apply QuietT.loadI; exact rfl; exact rfl; ((repeat (first | exact Pick.here | apply Pick.there))); exact rfl)); kernel_rfl)
      | (apply wa_skipA; (iterate 8 (exact rfl)); kernel_rfl)
      | (apply wa_splitPD; (iterate 4 (exact rfl)); all_goals (intro h; (try simp only [reduceCtorEq, not_true_eq_false, not_false_eq_true, decide_eq_true_eq, decide_eq_false_iff_not, Bool.not_eq_true', Bool.not_eq_false', Bool.not_true, Bool.not_false, Int.not_lt, Int.not_le, ne_eq, Decidable.not_not] at h); (try (exfalso; omega))))
      | (apply wa_splitPE; (iterate 4 (exact rfl)); all_goals (intro h; (try simp only [reduceCtorEq, not_true_eq_false, not_false_eq_true, decide_eq_true_eq, decide_eq_false_iff_not, Bool.not_eq_true', Bool.not_eq_false', Bool.not_true, Bool.not_false, Int.not_lt, Int.not_le, ne_eq, Decidable.not_not] at h); (try (exfalso; omega))))
      | (apply wa_splitP; (iterate 4 (exact rfl)); (all_goals (intro h; (fail_if_success (have hh : h = rfl := rfl)); (fail_if_success (cases h; done)))); (all_goals (try simp only [reduceCtorEq, not_true_eq_false, not_false_eq_true, decide_eq_true_eq, decide_eq_false_iff_not, Bool.not_eq_true', Bool.not_eq_false', Bool.not_true, Bool.not_false, Int.not_lt, Int.not_le, ne_eq, Decidable.not_not] at h)))
      | refine WA.end_ ?_)
    | (show WT _ _ _ _ 0 _ _ _; (refine wt_done ?_ ?_; kernel_rfl))
    | (show WT _ _ _ _ _ _ _ _; (apply wt_pickQ; (iterate 3 (exact rfl)); (first | exact GOK.none | (apply GOK.runL; (iterate 3 (exact rfl)))); exact rfl; (first | exact QuietT.calc rfl True.intro | (apply QuietT.load; exact rfl; exact rfl; ((repeat (first | exact Pick.here | apply Pick.there))); exact rfl) | (apply QuietT.calc; exact rfl; ((try simp only [inR]); omega)) | (apply QuietT.indexI; (iterate 5 (exact rfl)); ((repeat (first | exact Pick.here | apply Pick.there))); exact rfl; (first | exact rfl | omega); omega) | (apply QuietT.loadEI; exact rfl; exact rfl; ((repeat (first | exact Pick.here | apply Pick.there))); exact rfl; assumption; exact rfl) | (apply QuietT.fieldE; exact rfl; exact rfl; exact rfl; exact rfl) | (apply QuietT.indexO; (iterate 5 (exact rfl)); ((repeat (first | exact Pick.here | apply Pick.there))); exact rfl; (first | exact rfl | omega); omega) | (apply QuietT.loadEO; exact rfl; exact rfl; ((repeat (first | exact Pick.here | apply Pick.there))); exact rfl; assumption; exact rfl) | (apply QuietT.loadI; exact rfl; exact rfl; ((repeat (first | exact Pick.here | apply Pick.there))); exact rfl)); kernel_rfl)))
  repeat' (first
    | (show WL _ _ _ _ _ _ _; first
      | (apply wl_calc; exact rfl; exact True.intro; exact rfl)
      | refine WL.nil ?_
      | (apply wl_ld; exact rfl; exact rfl; ((repeat (first | exact Pick.here | apply Pick.there))); exact rfl; exact rfl)
      | (apply wl_calc; exact rfl; ((try simp only [inR]); omega); exact rfl)
      | (apply wl_store; exact rfl; exact rfl; exact rfl; ((repeat (first | exact Pick.here | apply Pick.there))); exact rfl)
      | (apply wl_ixI; exact rfl; exact rfl; exact rfl; exact rfl; exact rfl; ((repeat (first | exact Pick.here | apply Pick.there))); exact rfl; (first | exact rfl | omega); omega; exact rfl)
      | (apply wl_ldEI; exact rfl; exact rfl; ((repeat (first | exact Pick.here | apply Pick.there))); exact rfl; assumption; exact rfl; exact rfl)
      | (apply wl_fldE; exact rfl; exact rfl; exact rfl; exact rfl; exact rfl)
      | (apply wl_ixO; exact rfl; exact rfl; exact rfl; exact rfl; exact rfl; ((repeat (first | exact Pick.here | apply Pick.there))); exact rfl; (first | exact rfl | omega); omega; exact rfl)
      | (apply wl_ldEO; exact rfl; exact rfl; ((repeat (first | exact Pick.here | apply Pick.there))); exact rfl; assumption; exact rfl; exact rfl)
      | (apply wl_guard; exact rfl; exact rfl; exact rfl; exact rfl)
      | (apply wl_gno; exact rfl; exact rfl; exact rfl; exact rfl; exact rfl)
      | (apply wl_gsplit; exact rfl; exact rfl; exact rfl; exact rfl; all_goals (intro h; (try simp only [reduceCtorEq, not_true_eq_false, not_false_eq_true, decide_eq_true_eq, decide_eq_false_iff_not, Bool.not_eq_true', Bool.not_eq_false', Bool.not_true, Bool.not_false, Int.not_lt, Int.not_le, ne_eq, Decidable.not_not] at h); (try (exfalso; omega))))
      | (apply wl_rem; exact rfl; exact rfl; omega; exact rfl)
      | (apply wl_row; (iterate 7 (exact rfl)); intro b1)
      | (apply wl_box; exact rfl; exact rfl; exact rfl; intro b1))
    | (show WC _ _ _ _ _ _; first
      | refine WC.seq ?_
      | (apply WC.region; exact rfl)
      | (apply WC.condT; exact rfl)
      | (apply WC.condF; exact rfl)
      | (apply WC.cond; exact rfl; all_goals (intro h; (try simp only [reduceCtorEq, not_true_eq_false, not_false_eq_true, decide_eq_true_eq, decide_eq_false_iff_not, Bool.not_eq_true', Bool.not_eq_false', Bool.not_true, Bool.not_false, Int.not_lt, Int.not_le, ne_eq, Decidable.not_not] at h); (try (exfalso; omega))))
      | refine WC.block ?_
      | refine WC.skip ?_
      | refine WC.ret ?_
      | refine WC.exit ?_)
    | refine Qseq.nm ?_
    | refine Qseq.r ?_
    | refine Qseq.x ?_
    | refine Qblock.nm ?_
    | refine Qblock.r ?_
    | (apply Qblock.t; exact rfl)
    | (apply Qblock.f; exact rfl)
    | refine Qmx.r ?_
    | refine Qmx.nm ?_
    | (apply Qmx.f; exact rfl)
    | refine Qmn.r ?_
    | refine Qmn.x ?_
    | refine Qloop.r ?_
    | refine Qloop.x ?_
    | (apply Qfn.one; exact rfl)
    | (apply Qfn.two; exact rfl; exact rfl)
    | (apply Qfn.three; exact rfl; exact rfl; exact rfl)
    | refine Qfn.zero ?_
    | refine Qfn.zeroN ?_)
  · (refine wl_call rfl rfl rfl (rdleft_spec hl hr) (by repeat (first | exact Take.nil | (apply Take.keepI; focus ((repeat (first | exact Pick.here | apply Pick.there)); done)) | (apply Take.cons; focus ((repeat (first | exact Pick.here | apply Pick.there)); done)) | (apply Take.pure; (first | assumption | omega)))) ?_)
    rintro _ _ ⟨rfl, rfl⟩
    repeat' (first
      | (show WL _ _ _ _ _ _ _; first
        | (apply wl_calc; exact rfl; exact True.intro; exact rfl)
        | refine WL.nil ?_
        | (apply wl_ld; exact rfl; exact rfl; ((repeat (first | exact Pick.here | apply Pick.there))); exact rfl; exact rfl)
        | (apply wl_calc; exact rfl; ((try simp only [inR]); omega); exact rfl)
        | (apply wl_store; exact rfl; exact rfl; exact rfl; ((repeat (first | exact Pick.here | apply Pick.there))); exact rfl)
        | (apply wl_ixI; exact rfl; exact rfl; exact rfl; exact rfl; exact rfl; ((repeat (first | exact Pick.here | apply Pick.there))); exact rfl; (first | exact rfl | omega); omega; exact rfl)
        | (apply wl_ldEI; exact rfl; exact rfl; ((repeat (first | exact Pick.here | apply Pick.there))); exact rfl; assumption; exact rfl; exact rfl)
        | (apply wl_fldE; exact rfl; exact rfl; exact rfl; exact rfl; exact rfl)
        | (apply wl_ixO; exact rfl; exact rfl; exact rfl; exact rfl; exact rfl; ((repeat (first | exact Pick.here | apply Pick.there))); exact rfl; (first | exact rfl | omega); omega; exact rfl)
        | (apply wl_ldEO; exact rfl; exact rfl; ((repeat (first | exact Pick.here | apply Pick.there))); exact rfl; assumption; exact rfl; exact rfl)
        | (apply wl_guard; exact rfl; exact rfl; exact rfl; exact rfl)
        | (apply wl_gno; exact rfl; exact rfl; exact rfl; exact rfl; exact rfl)
        | (apply wl_gsplit; exact rfl; exact rfl; exact rfl; exact rfl; all_goals (intro h; (try simp only [reduceCtorEq, not_true_eq_false, not_false_eq_true, decide_eq_true_eq, decide_eq_false_iff_not, Bool.not_eq_true', Bool.not_eq_false', Bool.not_true, Bool.not_false, Int.not_lt, Int.not_le, ne_eq, Decidable.not_not] at h); (try (exfalso; omega))))
        | (apply wl_rem; exact rfl; exact rfl; omega; exact rfl)
        | (apply wl_row; (iterate 7 (exact rfl)); intro b1)
        | (apply wl_box; exact rfl; exact rfl; exact rfl; intro b1))
      | (show WC _ _ _ _ _ _; first
        | refine WC.seq ?_
        | (apply WC.region; exact rfl)
        | (apply WC.condT; exact rfl)
        | (apply WC.condF; exact rfl)
        | (apply WC.cond; exact rfl; all_goals (intro h; (try simp only [reduceCtorEq, not_true_eq_false, not_false_eq_true, decide_eq_true_eq, decide_eq_false_iff_not, Bool.not_eq_true', Bool.not_eq_false', Bool.not_true, Bool.not_false, Int.not_lt, Int.not_le, ne_eq, Decidable.not_not] at h); (try (exfalso; omega))))
        | refine WC.block ?_
        | refine WC.skip ?_
        | refine WC.ret ?_
        | refine WC.exit ?_)
      | refine Qseq.nm ?_
      | refine Qseq.r ?_
      | refine Qseq.x ?_
      | refine Qblock.nm ?_
      | refine Qblock.r ?_
      | (apply Qblock.t; exact rfl)
      | (apply Qblock.f; exact rfl)
      | refine Qmx.r ?_
      | refine Qmx.nm ?_
      | (apply Qmx.f; exact rfl)
      | refine Qmn.r ?_
      | refine Qmn.x ?_
      | refine Qloop.r ?_
      | refine Qloop.x ?_
      | (apply Qfn.one; exact rfl)
      | (apply Qfn.two; exact rfl; exact rfl)
      | (apply Qfn.three; exact rfl; exact rfl; exact rfl)
      | refine Qfn.zero ?_
      | refine Qfn.zeroN ?_)
    · rw [k1 (.inr (.inr (.inr (by omega))))]; exact ⟨_, (OSl.nilE EB 5 _).trans (Take.fin (by repeat (first | exact Take.nil | (apply Take.keepI; focus ((repeat (first | exact Pick.here | apply Pick.there)); done)) | (apply Take.cons; focus ((repeat (first | exact Pick.here | apply Pick.there)); done)) | (apply Take.pure; (first | assumption | omega))))), none, 0, rfl, rfl⟩
    · have hn := hn ‹_›
      obtain ⟨m, rfl⟩ : ∃ m : Nat, n = m := ⟨n.toNat, by omega⟩
      rw [k2 ‹_› ‹_› (by omega) (by omega), Int.toNat_natCast]
      have hcl : ((r.b.drop (r.at_ + s)).take m).length = m := by simp; omega
      repeat' (first
        | (show WL _ _ _ _ _ _ _; first
          | (apply wl_calc; exact rfl; exact True.intro; exact rfl)
          | refine WL.nil ?_
          | (apply wl_ld; exact rfl; exact rfl; ((repeat (first | exact Pick.here | apply Pick.there))); exact rfl; exact rfl)
          | (apply wl_calc; exact rfl; ((try simp only [inR]); omega); exact rfl)
          | (apply wl_store; exact rfl; exact rfl; exact rfl; ((repeat (first | exact Pick.here | apply Pick.there))); exact rfl)
          | (apply wl_ixI; exact rfl; exact rfl; exact rfl; exact rfl; exact rfl; ((repeat (first | exact Pick.here | apply Pick.there))); exact rfl; (first | exact rfl | omega); omega; exact rfl)
          | (apply wl_ldEI; exact rfl; exact rfl; ((repeat (first | exact Pick.here | apply Pick.there))); exact rfl; assumption; exact rfl; exact rfl)
          | (apply wl_fldE; exact rfl; exact rfl; exact rfl; exact rfl; exact rfl)
          | (apply wl_ixO; exact rfl; exact rfl; exact rfl; exact rfl; exact rfl; ((repeat (first | exact Pick.here | apply Pick.there))); exact rfl; (first | exact rfl | omega); omega; exact rfl)
          | (apply wl_ldEO; exact rfl; exact rfl; ((repeat (first | exact Pick.here | apply Pick.there))); exact rfl; assumption; exact rfl; exact rfl)
          | (apply wl_guard; exact rfl; exact rfl; exact rfl; exact rfl)
          | (apply wl_gno; exact rfl; exact rfl; exact rfl; exact rfl; exact rfl)
          | (apply wl_gsplit; exact rfl; exact rfl; exact rfl; exact rfl; all_goals (intro h; (try simp only [reduceCtorEq, not_true_eq_false, not_false_eq_true, decide_eq_true_eq, decide_eq_false_iff_not, Bool.not_eq_true', Bool.not_eq_false', Bool.not_true, Bool.not_false, Int.not_lt, Int.not_le, ne_eq, Decidable.not_not] at h); (try (exfalso; omega))))
          | (apply wl_rem; exact rfl; exact rfl; omega; exact rfl)
          | (apply wl_row; (iterate 7 (exact rfl)); intro b1)
          | (apply wl_box; exact rfl; exact rfl; exact rfl; intro b1))
        | (show WC _ _ _ _ _ _; first
          | refine WC.seq ?_
          | (apply WC.region; exact rfl)
          | (apply WC.condT; exact rfl)
          | (apply WC.condF; exact rfl)
          | (apply WC.cond; exact rfl; all_goals (intro h; (try simp only [reduceCtorEq, not_true_eq_false, not_false_eq_true, decide_eq_true_eq, decide_eq_false_iff_not, Bool.not_eq_true', Bool.not_eq_false', Bool.not_true, Bool.not_false, Int.not_lt, Int.not_le, ne_eq, Decidable.not_not] at h); (try (exfalso; omega))))
          | refine WC.block ?_
          | refine WC.skip ?_
          | refine WC.ret ?_
          | refine WC.exit ?_)
        | refine Qseq.nm ?_
        | refine Qseq.r ?_
        | refine Qseq.x ?_
        | refine Qblock.nm ?_
        | refine Qblock.r ?_
        | (apply Qblock.t; exact rfl)
        | (apply Qblock.f; exact rfl)
        | refine Qmx.r ?_
        | refine Qmx.nm ?_
        | (apply Qmx.f; exact rfl)
        | refine Qmn.r ?_
        | refine Qmn.x ?_
        | refine Qloop.r ?_
        | refine Qloop.x ?_
        | (apply Qfn.one; exact rfl)
        | (apply Qfn.two; exact rfl; exact rfl)
        | (apply Qfn.three; exact rfl; exact rfl; exact rfl)
        | refine Qfn.zero ?_
        | refine Qfn.zeroN ?_)
      (apply wc_drawU; (focus (simp only [lenN, Nat.succ_eq_add_one, Nat.zero_add, Nat.reduceAdd]; exact rfl)); exact rfl; kernel_rfl)
      repeat' (first
        | (show WA _ _ _ _ _ _ _ _ _ _ _; first
          | (apply wa_pick; (iterate 4 (exact rfl)); (first | exact QuietT.calc rfl True.intro | (apply QuietT.load; exact rfl; exact rfl; ((repeat (first | exact Pick.here | apply Pick.there))); exact rfl) | (apply QuietT.calc; exact rfl; ((try simp only [inR]); omega)) | (apply QuietT.indexI; (iterate 5 (exact rfl)); ((repeat (first | exact Pick.here | apply Pick.there))); exact rfl; (first | exact rfl | omega); omega) | (apply QuietT.loadEI; exact rfl; exact rfl; ((repeat (first | exact Pick.here | apply Pick.there))); exact rfl; assumption; exact rfl) | (apply QuietT.fieldE; exact rfl; exact rfl; exact rfl; exact rfl) | (apply QuietT.indexO; (iterate 5 (exact rfl)); ((repeat (first | exact Pick.here | apply Pick.there))); exact rfl; (first | exact rfl | omega); omega) | (apply QuietT.loadEO; exact rfl; exact rfl; ((repeat (first | exact Pick.here | apply Pick.there))); exact rfl; assumption; exact rfl) | (apply QuietT.loadI; exact rfl; exact rfl; ((repeat (first | exact Pick.here | apply Pick.there))); exact rfl)); kernel_rfl)
          | (apply wa_pickN; (iterate 8 (exact rfl)); kernel_rfl)
          | (apply wa_pickG; (iterate 7 (exact rfl)); (first | exact QuietT.calc rfl True.intro | (apply QuietT.load; exact rfl; exact rfl; ((repeat (first | exact Pick.here | apply Pick.there))); exact rfl) | (apply QuietT.calc; exact rfl; ((try simp only [inR]); omega)) | (apply QuietT.indexI; (iterate 5 (exact rfl)); ((repeat (first | exact Pick.here | apply Pick.there))); exact rfl; (first | exact rfl | omega); omega) | (apply QuietT.loadEI; exact rfl; exact rfl; ((repeat (first | exact Pick.here | apply Pick.there))); exact rfl; assumption; exact rfl) | (apply QuietT.fieldE; exact rfl; exact rfl; exact rfl; exact rfl) | (apply QuietT.indexO; (iterate 5 (exact rfl)); ((repeat (first | exact Pick.here | apply Pick.there))); exact rfl; (first | exact rfl | omega); omega) | (apply QuietT.loadEO; exact rfl; exact rfl; ((repeat (first | exact Pick.here | apply Pick.there))); exact rfl; assumption; exact rfl) | (apply QuietT.loadI; exact rfl; exact rfl; ((repeat (first | exact Pick.here | apply Pick.there))); exact rfl)); kernel_rfl)
          | (apply wa_skipA; (iterate 8 (exact rfl)); kernel_rfl)
          | (apply wa_splitPD; (iterate 4 (exact rfl)); all_goals (intro h; (try simp only [reduceCtorEq, not_true_eq_false, not_false_eq_true, decide_eq_true_eq, decide_eq_false_iff_not, Bool.not_eq_true', Bool.not_eq_false', Bool.not_true, Bool.not_false, Int.not_lt, Int.not_le, ne_eq, Decidable.not_not] at h); (try (exfalso; omega))))
          | (apply wa_splitPE; (iterate 4 (exact rfl)); all_goals (intro h; (try simp only [reduceCtorEq, not_true_eq_false, not_false_eq_true, decide_eq_true_eq, decide_eq_false_iff_not, Bool.not_eq_true', Bool.not_eq_false', Bool.not_true, Bool.not_false, Int.not_lt, Int.not_le, ne_eq, Decidable.not_not] at h); (try (exfalso; omega))))
          | (apply wa_splitP; (iterate 4 (exact rfl)); (all_goals (intro h; (fail_if_success (have hh : h = rfl := rfl)); (fail_if_success (cases h; done)))); (all_goals (try simp only [reduceCtorEq, not_true_eq_false, not_false_eq_true, decide_eq_true_eq, decide_eq_false_iff_not, Bool.not_eq_true', Bool.not_eq_false', Bool.not_true, Bool.not_false, Int.not_lt, Int.not_le, ne_eq, Decidable.not_not] at h)))
          | refine WA.end_ ?_)
        | (show WT _ _ _ _ 0 _ _ _; (refine wt_done ?_ ?_; kernel_rfl))
        | (show WT _ _ _ _ _ _ _ _; (apply wt_pickQ; (iterate 3 (exact rfl)); (first | exact GOK.none | (apply GOK.runL; (iterate 3 (exact rfl)))); exact rfl; (first | exact QuietT.calc rfl True.intro | (apply QuietT.load; exact rfl; exact rfl; ((repeat (first | exact Pick.here | apply Pick.there))); exact rfl) | (apply QuietT.calc; exact rfl; ((try simp only [inR]); omega)) | (apply QuietT.indexI; (iterate 5 (exact rfl)); ((repeat (first | exact Pick.here | apply Pick.there))); exact rfl; (first | exact rfl | omega); omega) | (apply QuietT.loadEI; exact rfl; exact rfl; ((repeat (first | exact Pick.here | apply Pick.there))); exact rfl; assumption; exact rfl) | (apply QuietT.fieldE; exact rfl; exact rfl; exact rfl; exact rfl) | (apply QuietT.indexO; (iterate 5 (exact rfl)); ((repeat (first | exact Pick.here | apply Pick.there))); exact rfl; (first | exact rfl | omega); omega) | (apply QuietT.loadEO; exact rfl; exact rfl; ((repeat (first | exact Pick.here | apply Pick.there))); exact rfl; assumption; exact rfl) | (apply QuietT.loadI; exact rfl; exact rfl; ((repeat (first | exact Pick.here | apply Pick.there))); exact rfl)); kernel_rfl)))
      (apply wa_pickCut (zs := (r.b.drop (r.at_ + s)).take m); (iterate 3 (exact rfl)); (first | exact GOK.none | (apply GOK.runL; (iterate 3 (exact rfl)))); (iterate 7 (exact rfl)); ((repeat (first | exact Pick.here | apply Pick.there))); exact rfl; kernel_rfl; (omega); (rw [List.take_drop]; congr 1); intro a2 c2)
      repeat' (first
        | (show WA _ _ _ _ _ _ _ _ _ _ _; first
          | (apply wa_pick; (iterate 4 (exact rfl)); (first | exact QuietT.calc rfl True.intro | (apply QuietT.load; exact rfl; exact rfl; ((repeat (first | exact Pick.here | apply Pick.there))); exact rfl) | (apply QuietT.calc; exact rfl; ((try simp only [inR]); omega)) | (apply QuietT.indexI; (iterate 5 (exact rfl)); ((repeat (first | exact Pick.here | apply Pick.there))); exact rfl; (first | exact rfl | omega); omega) | (apply QuietT.loadEI; exact rfl; exact rfl; ((repeat (first | exact Pick.here | apply Pick.there))); exact rfl; assumption; exact rfl) | (apply QuietT.fieldE; exact rfl; exact rfl; exact rfl; exact rfl) | (apply QuietT.indexO; (iterate 5 (exact rfl)); ((repeat (first | exact Pick.here | apply Pick.there))); exact rfl; (first | exact rfl | omega); omega) | (apply QuietT.loadEO; exact rfl; exact rfl; ((repeat (first | exact Pick.here | apply Pick.there))); exact rfl; assumption; exact rfl) | (apply QuietT.loadI; exact rfl; exact rfl; ((repeat (first | exact Pick.here | apply Pick.there))); exact rfl)); kernel_rfl)
          | (apply wa_pickN; (iterate 8 (exact rfl)); kernel_rfl)
          | (apply wa_pickG; (iterate 7 (exact rfl)); (first | exact QuietT.calc rfl True.intro | (apply QuietT.load; exact rfl; exact rfl; ((repeat (first | exact Pick.here | apply Pick.there))); exact rfl) | (apply QuietT.calc; exact rfl; ((try simp only [inR]); omega)) | (apply QuietT.indexI; (iterate 5 (exact rfl)); ((repeat (first | exact Pick.here | apply Pick.there))); exact rfl; (first | exact rfl | omega); omega) | (apply QuietT.loadEI; exact rfl; exact rfl; ((repeat (first | exact Pick.here | apply Pick.there))); exact rfl; assumption; exact rfl) | (apply QuietT.fieldE; exact rfl; exact rfl; exact rfl; exact rfl) | (apply QuietT.indexO; (iterate 5 (exact rfl)); ((repeat (first | exact Pick.here | apply Pick.there))); exact rfl; (first | exact rfl | omega); omega) | (apply QuietT.loadEO; exact rfl; exact rfl; ((repeat (first | exact Pick.here | apply Pick.there))); exact rfl; assumption; exact rfl) | (apply QuietT.loadI; exact rfl; exact rfl; ((repeat (first | exact Pick.here | apply Pick.there))); exact rfl)); kernel_rfl)
          | (apply wa_skipA; (iterate 8 (exact rfl)); kernel_rfl)
          | (apply wa_splitPD; (iterate 4 (exact rfl)); all_goals (intro h; (try simp only [reduceCtorEq, not_true_eq_false, not_false_eq_true, decide_eq_true_eq, decide_eq_false_iff_not, Bool.not_eq_true', Bool.not_eq_false', Bool.not_true, Bool.not_false, Int.not_lt, Int.not_le, ne_eq, Decidable.not_not] at h); (try (exfalso; omega))))
          | (apply wa_splitPE; (iterate 4 (exact rfl)); all_goals (intro h; (try simp only [reduceCtorEq, not_true_eq_false, not_false_eq_true, decide_eq_true_eq, decide_eq_false_iff_not, Bool.not_eq_true', Bool.not_eq_false', Bool.not_true, Bool.not_false, Int.not_lt, Int.not_le, ne_eq, Decidable.not_not] at h); (try (exfalso; omega))))
          | (apply wa_splitP; (iterate 4 (exact rfl)); (all_goals (intro h; (fail_if_success (have hh : h = rfl := rfl)); (fail_if_success (cases h; done)))); (all_goals (try simp only [reduceCtorEq, not_true_eq_false, not_false_eq_true, decide_eq_true_eq, decide_eq_false_iff_not, Bool.not_eq_true', Bool.not_eq_false', Bool.not_true, Bool.not_false, Int.not_lt, Int.not_le, ne_eq, Decidable.not_not] at h)))
          | refine WA.end_ ?_)
        | (show WT _ _ _ _ 0 _ _ _; (refine wt_done ?_ ?_; kernel_rfl))
        | (show WT _ _ _ _ _ _ _ _; (apply wt_pickQ; (iterate 3 (exact rfl)); (first | exact GOK.none | (apply GOK.runL; (iterate 3 (exact rfl)))); exact rfl; (first | exact QuietT.calc rfl True.intro | (apply QuietT.load; exact rfl; exact rfl; ((repeat (first | exact Pick.here | apply Pick.there))); exact rfl) | (apply QuietT.calc; exact rfl; ((try simp only [inR]); omega)) | (apply QuietT.indexI; (iterate 5 (exact rfl)); ((repeat (first | exact Pick.here | apply Pick.there))); exact rfl; (first | exact rfl | omega); omega) | (apply QuietT.loadEI; exact rfl; exact rfl; ((repeat (first | exact Pick.here | apply Pick.there))); exact rfl; assumption; exact rfl) | (apply QuietT.fieldE; exact rfl; exact rfl; exact rfl; exact rfl) | (apply QuietT.indexO; (iterate 5 (exact rfl)); ((repeat (first | exact Pick.here | apply Pick.there))); exact rfl; (first | exact rfl | omega); omega) | (apply QuietT.loadEO; exact rfl; exact rfl; ((repeat (first | exact Pick.here | apply Pick.there))); exact rfl; assumption; exact rfl) | (apply QuietT.loadI; exact rfl; exact rfl; ((repeat (first | exact Pick.here | apply Pick.there))); exact rfl)); kernel_rfl)))
      (refine wa_callU rfl rfl rfl (by (first | exact GOK.none | (apply GOK.runL; (iterate 3 (exact rfl))))) rfl rfl rfl (by kernel_rfl) (clone_spec (xs := (r.b.drop (r.at_ + s)).take m) (by omega)) (by repeat (first | exact Take.nil | (apply Take.keepI; focus ((repeat (first | exact Pick.here | apply Pick.there)); done)) | (apply Take.cons; focus ((repeat (first | exact Pick.here | apply Pick.there)); done)) | (apply Take.pure; (first | assumption | omega)))) ?_)
      rintro _ _ ⟨pa, pc, rfl, rfl⟩
      refine ⟨_, Take.ent (by repeat (first | exact Take.nil | (apply Take.keepI; focus ((repeat (first | exact Pick.here | apply Pick.there)); done)) | (apply Take.cons; focus ((repeat (first | exact Pick.here | apply Pick.there)); done)) | (apply Take.pure; (first | assumption | omega)))), ?_⟩
      repeat' (first
        | (show WA _ _ _ _ _ _ _ _ _ _ _; first
          | (apply wa_pick; (iterate 4 (exact rfl)); (first | exact QuietT.calc rfl True.intro | (apply QuietT.load; exact rfl; exact rfl; ((repeat (first | exact Pick.here | apply Pick.there))); exact rfl) | (apply QuietT.calc; exact rfl; ((try simp only [inR]); omega)) | (apply QuietT.indexI; (iterate 5 (exact rfl)); ((repeat (first | exact Pick.here | apply Pick.there))); exact rfl; (first | exact rfl | omega); omega) | (apply QuietT.loadEI; exact rfl; exact rfl; ((repeat (first | exact Pick.here | apply Pick.there))); exact rfl; assumption; exact rfl) | (apply QuietT.fieldE; exact rfl; exact rfl; exact rfl; exact rfl) | (apply QuietT.indexO; (iterate 5 (exact rfl)); ((repeat (first | exact Pick.here | apply Pick.there))); exact rfl; (first | exact rfl | omega); omega) | (apply QuietT.loadEO; exact rfl; exact rfl; ((repeat (first | exact Pick.here | apply Pick.there))); exact rfl; assumption; exact rfl) | (apply QuietT.loadI; exact rfl; exact rfl; ((repeat (first | exact Pick.here | apply Pick.there))); exact rfl)); kernel_rfl)
          | (apply wa_pickN; (iterate 8 (exact rfl)); kernel_rfl)
          | (apply wa_pickG; (iterate 7 (exact rfl)); (first | exact QuietT.calc rfl True.intro | (apply QuietT.load; exact rfl; exact rfl; ((repeat (first | exact Pick.here | apply Pick.there))); exact rfl) | (apply QuietT.calc; exact rfl; ((try simp only [inR]); omega)) | (apply QuietT.indexI; (iterate 5 (exact rfl)); ((repeat (first | exact Pick.here | apply Pick.there))); exact rfl; (first | exact rfl | omega); omega) | (apply QuietT.loadEI; exact rfl; exact rfl; ((repeat (first | exact Pick.here | apply Pick.there))); exact rfl; assumption; exact rfl) | (apply QuietT.fieldE; exact rfl; exact rfl; exact rfl; exact rfl) | (apply QuietT.indexO; (iterate 5 (exact rfl)); ((repeat (first | exact Pick.here | apply Pick.there))); exact rfl; (first | exact rfl | omega); omega) | (apply QuietT.loadEO; exact rfl; exact rfl; ((repeat (first | exact Pick.here | apply Pick.there))); exact rfl; assumption; exact rfl) | (apply QuietT.loadI; exact rfl; exact rfl; ((repeat (first | exact Pick.here | apply Pick.there))); exact rfl)); kernel_rfl)
          | (apply wa_skipA; (iterate 8 (exact rfl)); kernel_rfl)
          | (apply wa_splitPD; (iterate 4 (exact rfl)); all_goals (intro h; (try simp only [reduceCtorEq, not_true_eq_false, not_false_eq_true, decide_eq_true_eq, decide_eq_false_iff_not, Bool.not_eq_true', Bool.not_eq_false', Bool.not_true, Bool.not_false, Int.not_lt, Int.not_le, ne_eq, Decidable.not_not] at h); (try (exfalso; omega))))
          | (apply wa_splitPE; (iterate 4 (exact rfl)); all_goals (intro h; (try simp only [reduceCtorEq, not_true_eq_false, not_false_eq_true, decide_eq_true_eq, decide_eq_false_iff_not, Bool.not_eq_true', Bool.not_eq_false', Bool.not_true, Bool.not_false, Int.not_lt, Int.not_le, ne_eq, Decidable.not_not] at h); (try (exfalso; omega))))
          | (apply wa_splitP; (iterate 4 (exact rfl)); (all_goals (intro h; (fail_if_success (have hh : h = rfl := rfl)); (fail_if_success (cases h; done)))); (all_goals (try simp only [reduceCtorEq, not_true_eq_false, not_false_eq_true, decide_eq_true_eq, decide_eq_false_iff_not, Bool.not_eq_true', Bool.not_eq_false', Bool.not_true, Bool.not_false, Int.not_lt, Int.not_le, ne_eq, Decidable.not_not] at h)))
          | refine WA.end_ ?_)
        | (show WT _ _ _ _ 0 _ _ _; (refine wt_done ?_ ?_; kernel_rfl))
        | (show WT _ _ _ _ _ _ _ _; (apply wt_pickQ; (iterate 3 (exact rfl)); (first | exact GOK.none | (apply GOK.runL; (iterate 3 (exact rfl)))); exact rfl; (first | exact QuietT.calc rfl True.intro | (apply QuietT.load; exact rfl; exact rfl; ((repeat (first | exact Pick.here | apply Pick.there))); exact rfl) | (apply QuietT.calc; exact rfl; ((try simp only [inR]); omega)) | (apply QuietT.indexI; (iterate 5 (exact rfl)); ((repeat (first | exact Pick.here | apply Pick.there))); exact rfl; (first | exact rfl | omega); omega) | (apply QuietT.loadEI; exact rfl; exact rfl; ((repeat (first | exact Pick.here | apply Pick.there))); exact rfl; assumption; exact rfl) | (apply QuietT.fieldE; exact rfl; exact rfl; exact rfl; exact rfl) | (apply QuietT.indexO; (iterate 5 (exact rfl)); ((repeat (first | exact Pick.here | apply Pick.there))); exact rfl; (first | exact rfl | omega); omega) | (apply QuietT.loadEO; exact rfl; exact rfl; ((repeat (first | exact Pick.here | apply Pick.there))); exact rfl; assumption; exact rfl) | (apply QuietT.loadI; exact rfl; exact rfl; ((repeat (first | exact Pick.here | apply Pick.there))); exact rfl)); kernel_rfl)))
      repeat' (first
        | (show WL _ _ _ _ _ _ _; first
          | (apply wl_calc; exact rfl; exact True.intro; exact rfl)
          | refine WL.nil ?_
          | (apply wl_ld; exact rfl; exact rfl; ((repeat (first | exact Pick.here | apply Pick.there))); exact rfl; exact rfl)
          | (apply wl_calc; exact rfl; ((try simp only [inR]); omega); exact rfl)
          | (apply wl_store; exact rfl; exact rfl; exact rfl; ((repeat (first | exact Pick.here | apply Pick.there))); exact rfl)
          | (apply wl_ixI; exact rfl; exact rfl; exact rfl; exact rfl; exact rfl; ((repeat (first | exact Pick.here | apply Pick.there))); exact rfl; (first | exact rfl | omega); omega; exact rfl)
          | (apply wl_ldEI; exact rfl; exact rfl; ((repeat (first | exact Pick.here | apply Pick.there))); exact rfl; assumption; exact rfl; exact rfl)
          | (apply wl_fldE; exact rfl; exact rfl; exact rfl; exact rfl; exact rfl)
          | (apply wl_ixO; exact rfl; exact rfl; exact rfl; exact rfl; exact rfl; ((repeat (first | exact Pick.here | apply Pick.there))); exact rfl; (first | exact rfl | omega); omega; exact rfl)
          | (apply wl_ldEO; exact rfl; exact rfl; ((repeat (first | exact Pick.here | apply Pick.there))); exact rfl; assumption; exact rfl; exact rfl)
          | (apply wl_guard; exact rfl; exact rfl; exact rfl; exact rfl)
          | (apply wl_gno; exact rfl; exact rfl; exact rfl; exact rfl; exact rfl)
          | (apply wl_gsplit; exact rfl; exact rfl; exact rfl; exact rfl; all_goals (intro h; (try simp only [reduceCtorEq, not_true_eq_false, not_false_eq_true, decide_eq_true_eq, decide_eq_false_iff_not, Bool.not_eq_true', Bool.not_eq_false', Bool.not_true, Bool.not_false, Int.not_lt, Int.not_le, ne_eq, Decidable.not_not] at h); (try (exfalso; omega))))
          | (apply wl_rem; exact rfl; exact rfl; omega; exact rfl)
          | (apply wl_row; (iterate 7 (exact rfl)); intro b1)
          | (apply wl_box; exact rfl; exact rfl; exact rfl; intro b1))
        | (show WC _ _ _ _ _ _; first
          | refine WC.seq ?_
          | (apply WC.region; exact rfl)
          | (apply WC.condT; exact rfl)
          | (apply WC.condF; exact rfl)
          | (apply WC.cond; exact rfl; all_goals (intro h; (try simp only [reduceCtorEq, not_true_eq_false, not_false_eq_true, decide_eq_true_eq, decide_eq_false_iff_not, Bool.not_eq_true', Bool.not_eq_false', Bool.not_true, Bool.not_false, Int.not_lt, Int.not_le, ne_eq, Decidable.not_not] at h); (try (exfalso; omega))))
          | refine WC.block ?_
          | refine WC.skip ?_
          | refine WC.ret ?_
          | refine WC.exit ?_)
        | refine Qseq.nm ?_
        | refine Qseq.r ?_
        | refine Qseq.x ?_
        | refine Qblock.nm ?_
        | refine Qblock.r ?_
        | (apply Qblock.t; exact rfl)
        | (apply Qblock.f; exact rfl)
        | refine Qmx.r ?_
        | refine Qmx.nm ?_
        | (apply Qmx.f; exact rfl)
        | refine Qmn.r ?_
        | refine Qmn.x ?_
        | refine Qloop.r ?_
        | refine Qloop.x ?_
        | (apply Qfn.one; exact rfl)
        | (apply Qfn.two; exact rfl; exact rfl)
        | (apply Qfn.three; exact rfl; exact rfl; exact rfl)
        | refine Qfn.zero ?_
        | refine Qfn.zeroN ?_)
      exact ⟨_, Take.fin (by repeat (first | exact Take.nil | (apply Take.keepI; focus ((repeat (first | exact Pick.here | apply Pick.there)); done)) | (apply Take.cons; focus ((repeat (first | exact Pick.here | apply Pick.there)); done)) | (apply Take.pure; (first | assumption | omega)))), pa, pc, rfl, rfl⟩
  · rw [k1 (.inr (.inr (.inl (by omega))))]; exact ⟨_, (OSl.nilE EB 5 _).trans (Take.fin (by repeat (first | exact Take.nil | (apply Take.keepI; focus ((repeat (first | exact Pick.here | apply Pick.there)); done)) | (apply Take.cons; focus ((repeat (first | exact Pick.here | apply Pick.there)); done)) | (apply Take.pure; (first | assumption | omega))))), none, 0, rfl, rfl⟩
  · rw [k1 (.inr (.inl ‹_›))]; exact ⟨_, (OSl.nilE EB 5 _).trans (Take.fin (by repeat (first | exact Take.nil | (apply Take.keepI; focus ((repeat (first | exact Pick.here | apply Pick.there)); done)) | (apply Take.cons; focus ((repeat (first | exact Pick.here | apply Pick.there)); done)) | (apply Take.pure; (first | assumption | omega))))), none, 0, rfl, rfl⟩
  · rw [k1 (.inl ‹_›)]; exact ⟨_, (OSl.nilE EB 5 _).trans (Take.fin (by repeat (first | exact Take.nil | (apply Take.keepI; focus ((repeat (first | exact Pick.here | apply Pick.there)); done)) | (apply Take.cons; focus ((repeat (first | exact Pick.here | apply Pick.there)); done)) | (apply Take.pure; (first | assumption | omega))))), none, 0, rfl, rfl⟩
theorem rbytes_spec {b : Nat} {T : TypeId} {a : Option Addr} {c : Nat} {r : RD} (most : Int) (hl : r.b.length ≤ 140737488355328) (hr : r.at_ ≤ r.b.length) : Spec P 46 [.pointer (some ⟨b, 0, none⟩), .int .i64 most] [Blk b T (RDc a c r), ISl EB a c r.b]
    fun v R => ∃ a' c', v = .slice a' (r.bytes most).1.length c' ∧ R = [Blk b T (RDc a c (r.bytes most).2), OSl EB 5 a' c' (r.bytes most).1] := by
  obtain ⟨n, s, ok, htk⟩ : ∃ n s ok, takeM (r.b.drop r.at_) = (n, s, ok) := ⟨_, _, _, rfl⟩
  have hs : s ≤ r.b.length - r.at_ := by have := take_le (xs := r.b.drop r.at_); rw [htk] at this; simp at this; omega
  have hn : ok = true → 0 ≤ n ∧ n ≤ 4611686018427387903 ∧ 1 ≤ s := by intro h; have := take_n0 (xs := r.b.drop r.at_); rw [htk] at this; exact this h
  have k1 : r.bad = true ∨ ok = false ∨ most < n ∨ ((r.b.length : Int) - r.at_) - s < n → r.bytes most = ([], { r with bad := true }) := fun h => if_pos (by unfold RD.noBytes RD.tk; rw [htk]; exact h)
  have k2 : r.bad = false → ok = true → n ≤ most → n ≤ ((r.b.length : Int) - r.at_) - s → r.bytes most = ((r.b.drop (r.at_ + s)).take n.toNat, { r with at_ := r.at_ + s + n.toNat }) := fun h1 h2 h3 h4 => 
    (if_neg (show ¬ r.noBytes most by unfold RD.noBytes RD.tk; rw [htk]; simp [h1, h2]; omega)).trans (by unfold RD.tk; rw [htk])
  refine Spec.of (fn := Try.f46) (by rw [hP.eq]; exact Try.func46) (by kernel_rfl) rfl Try.ntmps46 rfl rfl ?_
  repeat' (first
    | (show WL _ _ _ _ _ _ _; first
      | (apply wl_calc; exact rfl; exact True.intro; exact rfl)
      | refine WL.nil ?_
      | (apply wl_ld; exact rfl; exact rfl; ((repeat (first | exact Pick.here | apply Pick.there))); exact rfl; exact rfl)
      | (apply wl_calc; exact rfl; ((try simp only [inR]); omega); exact rfl)
      | (apply wl_store; exact rfl; exact rfl; exact rfl; ((repeat (first | exact Pick.here | apply Pick.there))); exact rfl)
      | (apply wl_ixI; exact rfl; exact rfl; exact rfl; exact rfl; exact rfl; ((repeat (first | exact Pick.here | apply Pick.there))); exact rfl; (first | exact rfl | omega); omega; exact rfl)
      | (apply wl_ldEI; exact rfl; exact rfl; ((repeat (first | exact Pick.here | apply Pick.there))); exact rfl; assumption; exact rfl; exact rfl)
      | (apply wl_fldE; exact rfl; exact rfl; exact rfl; exact rfl; exact rfl)
      | (apply wl_ixO; exact rfl; exact rfl; exact rfl; exact rfl; exact rfl; ((repeat (first | exact Pick.here | apply Pick.there))); exact rfl; (first | exact rfl | omega); omega; exact rfl)
      | (apply wl_ldEO; exact rfl; exact rfl; ((repeat (first | exact Pick.here | apply Pick.there))); exact rfl; assumption; exact rfl; exact rfl)
      | (apply wl_guard; exact rfl; exact rfl; exact rfl; exact rfl)
      | (apply wl_gno; exact rfl; exact rfl; exact rfl; exact rfl; exact rfl)
      | (apply wl_gsplit; exact rfl; exact rfl; exact rfl; exact rfl; all_goals (intro h; (try simp only [reduceCtorEq, not_true_eq_false, not_false_eq_true, decide_eq_true_eq, decide_eq_false_iff_not, Bool.not_eq_true', Bool.not_eq_false', Bool.not_true, Bool.not_false, Int.not_lt, Int.not_le, ne_eq, Decidable.not_not] at h); (try (exfalso; omega))))
      | (apply wl_rem; exact rfl; exact rfl; omega; exact rfl)
      | (apply wl_row; (iterate 7 (exact rfl)); intro b1)
      | (apply wl_box; exact rfl; exact rfl; exact rfl; intro b1))
    | (show WC _ _ _ _ _ _; first
      | refine WC.seq ?_
      | (apply WC.region; exact rfl)
      | (apply WC.condT; exact rfl)
      | (apply WC.condF; exact rfl)
      | (apply WC.cond; exact rfl; all_goals (intro h; (try simp only [reduceCtorEq, not_true_eq_false, not_false_eq_true, decide_eq_true_eq, decide_eq_false_iff_not, Bool.not_eq_true', Bool.not_eq_false', Bool.not_true, Bool.not_false, Int.not_lt, Int.not_le, ne_eq, Decidable.not_not] at h); (try (exfalso; omega))))
      | refine WC.block ?_
      | refine WC.skip ?_
      | refine WC.ret ?_
      | refine WC.exit ?_)
    | refine Qseq.nm ?_
    | refine Qseq.r ?_
    | refine Qseq.x ?_
    | refine Qblock.nm ?_
    | refine Qblock.r ?_
    | (apply Qblock.t; exact rfl)
    | (apply Qblock.f; exact rfl)
    | refine Qmx.r ?_
    | refine Qmx.nm ?_
    | (apply Qmx.f; exact rfl)
    | refine Qmn.r ?_
    | refine Qmn.x ?_
    | refine Qloop.r ?_
    | refine Qloop.x ?_
    | (apply Qfn.one; exact rfl)
    | (apply Qfn.two; exact rfl; exact rfl)
    | (apply Qfn.three; exact rfl; exact rfl; exact rfl)
    | refine Qfn.zero ?_
    | refine Qfn.zeroN ?_)
  (apply wc_drawU; (focus (simp only [lenN, Nat.succ_eq_add_one, Nat.zero_add, Nat.reduceAdd]; exact rfl)); exact rfl; kernel_rfl)
  repeat' (first
    | (show WA _ _ _ _ _ _ _ _ _ _ _; first
      | (apply wa_pick; (iterate 4 (exact rfl)); (first | exact QuietT.calc rfl True.intro | (apply QuietT.load; exact rfl; exact rfl; ((repeat (first | exact Pick.here | apply Pick.there))); exact rfl) | (apply QuietT.calc; exact rfl; ((try simp only [inR]); omega)) | (apply QuietT.indexI; (iterate 5 (exact rfl)); ((repeat (first | exact Pick.here | apply Pick.there))); exact rfl; (first | exact rfl | omega); omega) | (apply QuietT.loadEI; exact rfl; exact rfl; ((repeat (first | exact Pick.here | apply Pick.there))); exact rfl; assumption; exact rfl) | (apply QuietT.fieldE; exact rfl; exact rfl; exact rfl; exact rfl) | (apply QuietT.indexO; (iterate 5 (exact rfl)); ((repeat (first | exact Pick.here | apply Pick.there))); exact rfl; (first | exact rfl | omega); omega) | (apply QuietT.loadEO; exact rfl; exact rfl; ((repeat (first | exact Pick.here | apply Pick.there))); exact rfl; assumption; exact rfl) | (apply QuietT.loadI; exact rfl; exact rfl; ((repeat (first | exact Pick.here | apply Pick.there))); exact rfl)); kernel_rfl)
      | (apply wa_pickN; (iterate 8 (exact rfl)); kernel_rfl)
      | (apply wa_pickG; (iterate 7 (exact rfl)); (first | exact QuietT.calc rfl True.intro | (apply QuietT.load; exact rfl; exact rfl; ((repeat (first | exact Pick.here | apply Pick.there))); exact rfl) | (apply QuietT.calc; exact rfl; ((try simp only [inR]); omega)) | (apply QuietT.indexI; (iterate 5 (exact rfl)); ((repeat (first | exact Pick.here | apply Pick.there))); exact rfl; (first | exact rfl | omega); omega) | (apply QuietT.loadEI; exact rfl; exact rfl; ((repeat (first | exact Pick.here | apply Pick.there))); exact rfl; assumption; exact rfl) | (apply QuietT.fieldE; exact rfl; exact rfl; exact rfl; exact rfl) | (apply QuietT.indexO; (iterate 5 (exact rfl)); ((repeat (first | exact Pick.here | apply Pick.there))); exact rfl; (first | exact rfl | omega); omega) | (apply QuietT.loadEO; exact rfl; exact rfl; ((repeat (first | exact Pick.here | apply Pick.there))); exact rfl; assumption; exact rfl) | (apply QuietT.loadI; exact rfl; exact rfl; ((repeat (first | exact Pick.here | apply Pick.there))); exact rfl)); kernel_rfl)
      | (apply wa_skipA; (iterate 8 (exact rfl)); kernel_rfl)
      | (apply wa_splitPD; (iterate 4 (exact rfl)); all_goals (intro h; (try simp only [reduceCtorEq, not_true_eq_false, not_false_eq_true, decide_eq_true_eq, decide_eq_false_iff_not, Bool.not_eq_true', Bool.not_eq_false', Bool.not_true, Bool.not_false, Int.not_lt, Int.not_le, ne_eq, Decidable.not_not] at h); (try (exfalso; omega))))
      | (apply wa_splitPE; (iterate 4 (exact rfl)); all_goals (intro h; (try simp only [reduceCtorEq, not_true_eq_false, not_false_eq_true, decide_eq_true_eq, decide_eq_false_iff_not, Bool.not_eq_true', Bool.not_eq_false', Bool.not_true, Bool.not_false, Int.not_lt, Int.not_le, ne_eq, Decidable.not_not] at h); (try (exfalso; omega))))
      | (apply wa_splitP; (iterate 4 (exact rfl)); (all_goals (intro h; (fail_if_success (have hh : h = rfl := rfl)); (fail_if_success (cases h; done)))); (all_goals (try simp only [reduceCtorEq, not_true_eq_false, not_false_eq_true, decide_eq_true_eq, decide_eq_false_iff_not, Bool.not_eq_true', Bool.not_eq_false', Bool.not_true, Bool.not_false, Int.not_lt, Int.not_le, ne_eq, Decidable.not_not] at h)))
      | refine WA.end_ ?_)
    | (show WT _ _ _ _ 0 _ _ _; (refine wt_done ?_ ?_; kernel_rfl))
    | (show WT _ _ _ _ _ _ _ _; (apply wt_pickQ; (iterate 3 (exact rfl)); (first | exact GOK.none | (apply GOK.runL; (iterate 3 (exact rfl)))); exact rfl; (first | exact QuietT.calc rfl True.intro | (apply QuietT.load; exact rfl; exact rfl; ((repeat (first | exact Pick.here | apply Pick.there))); exact rfl) | (apply QuietT.calc; exact rfl; ((try simp only [inR]); omega)) | (apply QuietT.indexI; (iterate 5 (exact rfl)); ((repeat (first | exact Pick.here | apply Pick.there))); exact rfl; (first | exact rfl | omega); omega) | (apply QuietT.loadEI; exact rfl; exact rfl; ((repeat (first | exact Pick.here | apply Pick.there))); exact rfl; assumption; exact rfl) | (apply QuietT.fieldE; exact rfl; exact rfl; exact rfl; exact rfl) | (apply QuietT.indexO; (iterate 5 (exact rfl)); ((repeat (first | exact Pick.here | apply Pick.there))); exact rfl; (first | exact rfl | omega); omega) | (apply QuietT.loadEO; exact rfl; exact rfl; ((repeat (first | exact Pick.here | apply Pick.there))); exact rfl; assumption; exact rfl) | (apply QuietT.loadI; exact rfl; exact rfl; ((repeat (first | exact Pick.here | apply Pick.there))); exact rfl)); kernel_rfl)))
  (apply wa_pickCut (zs := r.b.drop r.at_); (iterate 3 (exact rfl)); (first | exact GOK.none | (apply GOK.runL; (iterate 3 (exact rfl)))); (iterate 7 (exact rfl)); ((repeat (first | exact Pick.here | apply Pick.there))); exact rfl; kernel_rfl; (omega); (show (r.b.take r.b.length).drop r.at_ = _; rw [List.take_length]); intro a2 c2)
  repeat' (first
    | (show WA _ _ _ _ _ _ _ _ _ _ _; first
      | (apply wa_pick; (iterate 4 (exact rfl)); (first | exact QuietT.calc rfl True.intro | (apply QuietT.load; exact rfl; exact rfl; ((repeat (first | exact Pick.here | apply Pick.there))); exact rfl) | (apply QuietT.calc; exact rfl; ((try simp only [inR]); omega)) | (apply QuietT.indexI; (iterate 5 (exact rfl)); ((repeat (first | exact Pick.here | apply Pick.there))); exact rfl; (first | exact rfl | omega); omega) | (apply QuietT.loadEI; exact rfl; exact rfl; ((repeat (first | exact Pick.here | apply Pick.there))); exact rfl; assumption; exact rfl) | (apply QuietT.fieldE; exact rfl; exact rfl; exact rfl; exact rfl) | (apply QuietT.indexO; (iterate 5 (exact rfl)); ((repeat (first | exact Pick.here | apply Pick.there))); exact rfl; (first | exact rfl | omega); omega) | (apply QuietT.loadEO; exact rfl; exact rfl; ((repeat (first | exact Pick.here | apply Pick.there))); exact rfl; assumption; exact rfl) | (apply QuietT.loadI; exact rfl; exact rfl; ((repeat (first | exact Pick.here | apply Pick.there))); exact rfl)); kernel_rfl)
      | (apply wa_pickN; (iterate 8 (exact rfl)); kernel_rfl)
      | (apply wa_pickG; (iterate 7 (exact rfl)); (first | exact QuietT.calc rfl True.intro | (apply QuietT.load; exact rfl; exact rfl; ((repeat (first | exact Pick.here | apply Pick.there))); exact rfl) | (apply QuietT.calc; exact rfl; ((try simp only [inR]); omega)) | (apply QuietT.indexI; (iterate 5 (exact rfl)); ((repeat (first | exact Pick.here | apply Pick.there))); exact rfl; (first | exact rfl | omega); omega) | (apply QuietT.loadEI; exact rfl; exact rfl; ((repeat (first | exact Pick.here | apply Pick.there))); exact rfl; assumption; exact rfl) | (apply QuietT.fieldE; exact rfl; exact rfl; exact rfl; exact rfl) | (apply QuietT.indexO; (iterate 5 (exact rfl)); ((repeat (first | exact Pick.here | apply Pick.there))); exact rfl; (first | exact rfl | omega); omega) | (apply QuietT.loadEO; exact rfl; exact rfl; ((repeat (first | exact Pick.here | apply Pick.there))); exact rfl; assumption; exact rfl) | (apply QuietT.loadI; exact rfl; exact rfl; ((repeat (first | exact Pick.here | apply Pick.there))); exact rfl)); kernel_rfl)
      | (apply wa_skipA; (iterate 8 (exact rfl)); kernel_rfl)
      | (apply wa_splitPD; (iterate 4 (exact rfl)); all_goals (intro h; (try simp only [reduceCtorEq, not_true_eq_false, not_false_eq_true, decide_eq_true_eq, decide_eq_false_iff_not, Bool.not_eq_true', Bool.not_eq_false', Bool.not_true, Bool.not_false, Int.not_lt, Int.not_le, ne_eq, Decidable.not_not] at h); (try (exfalso; omega))))
      | (apply wa_splitPE; (iterate 4 (exact rfl)); all_goals (intro h; (try simp only [reduceCtorEq, not_true_eq_false, not_false_eq_true, decide_eq_true_eq, decide_eq_false_iff_not, Bool.not_eq_true', Bool.not_eq_false', Bool.not_true, Bool.not_false, Int.not_lt, Int.not_le, ne_eq, Decidable.not_not] at h); (try (exfalso; omega))))
      | (apply wa_splitP; (iterate 4 (exact rfl)); (all_goals (intro h; (fail_if_success (have hh : h = rfl := rfl)); (fail_if_success (cases h; done)))); (all_goals (try simp only [reduceCtorEq, not_true_eq_false, not_false_eq_true, decide_eq_true_eq, decide_eq_false_iff_not, Bool.not_eq_true', Bool.not_eq_false', Bool.not_true, Bool.not_false, Int.not_lt, Int.not_le, ne_eq, Decidable.not_not] at h)))
      | refine WA.end_ ?_)
    | (show WT _ _ _ _ 0 _ _ _; (refine wt_done ?_ ?_; kernel_rfl))
    | (show WT _ _ _ _ _ _ _ _; (apply wt_pickQ; (iterate 3 (exact rfl)); (first | exact GOK.none | (apply GOK.runL; (iterate 3 (exact rfl)))); exact rfl; (first | exact QuietT.calc rfl True.intro | (apply QuietT.load; exact rfl; exact rfl; ((repeat (first | exact Pick.here | apply Pick.there))); exact rfl) | (apply QuietT.calc; exact rfl; ((try simp only [inR]); omega)) | (apply QuietT.indexI; (iterate 5 (exact rfl)); ((repeat (first | exact Pick.here | apply Pick.there))); exact rfl; (first | exact rfl | omega); omega) | (apply QuietT.loadEI; exact rfl; exact rfl; ((repeat (first | exact Pick.here | apply Pick.there))); exact rfl; assumption; exact rfl) | (apply QuietT.fieldE; exact rfl; exact rfl; exact rfl; exact rfl) | (apply QuietT.indexO; (iterate 5 (exact rfl)); ((repeat (first | exact Pick.here | apply Pick.there))); exact rfl; (first | exact rfl | omega); omega) | (apply QuietT.loadEO; exact rfl; exact rfl; ((repeat (first | exact Pick.here | apply Pick.there))); exact rfl; assumption; exact rfl) | (apply QuietT.loadI; exact rfl; exact rfl; ((repeat (first | exact Pick.here | apply Pick.there))); exact rfl)); kernel_rfl)))
  (refine wa_callU rfl rfl rfl (by (first | exact GOK.none | (apply GOK.runL; (iterate 3 (exact rfl))))) rfl rfl rfl (by kernel_rfl) (rtake_spec (xs := r.b.drop r.at_) (by simp; omega)) (by repeat (first | exact Take.nil | (apply Take.keepI; focus ((repeat (first | exact Pick.here | apply Pick.there)); done)) | (apply Take.cons; focus ((repeat (first | exact Pick.here | apply Pick.there)); done)) | (apply Take.pure; (first | assumption | omega)))) ?_)
  rintro _ _ ⟨rfl, rfl⟩
  rw [show takeV (r.b.drop r.at_) = .tuple ⟨[.int .i64 n, .int .i64 (s : Nat), .bool ok]⟩ by unfold takeV; rw [htk]]
  refine ⟨_, Take.ent (by repeat (first | exact Take.nil | (apply Take.keepI; focus ((repeat (first | exact Pick.here | apply Pick.there)); done)) | (apply Take.cons; focus ((repeat (first | exact Pick.here | apply Pick.there)); done)) | (apply Take.pure; (first | assumption | omega)))), ?_⟩
  repeat' (first
    | (show WA _ _ _ _ _ _ _ _ _ _ _; first
      | (apply wa_pick; (iterate 4 (exact rfl)); (first | exact QuietT.calc rfl True.intro | (apply QuietT.load; exact rfl; exact rfl; ((repeat (first | exact Pick.here | apply Pick.there))); exact rfl) | (apply QuietT.calc; exact rfl; ((try simp only [inR]); omega)) | (apply QuietT.indexI; (iterate 5 (exact rfl)); ((repeat (first | exact Pick.here | apply Pick.there))); exact rfl; (first | exact rfl | omega); omega) | (apply QuietT.loadEI; exact rfl; exact rfl; ((repeat (first | exact Pick.here | apply Pick.there))); exact rfl; assumption; exact rfl) | (apply QuietT.fieldE; exact rfl; exact rfl; exact rfl; exact rfl) | (apply QuietT.indexO; (iterate 5 (exact rfl)); ((repeat (first | exact Pick.here | apply Pick.there))); exact rfl; (first | exact rfl | omega); omega) | (apply QuietT.loadEO; exact rfl; exact rfl; ((repeat (first | exact Pick.here | apply Pick.there))); exact rfl; assumption; exact rfl) | (apply QuietT.loadI; exact rfl; exact rfl; ((repeat (first | exact Pick.here | apply Pick.there))); exact rfl)); kernel_rfl)
      | (apply wa_pickN; (iterate 8 (exact rfl)); kernel_rfl)
      | (apply wa_pickG; (iterate 7 (exact rfl)); (first | exact QuietT.calc rfl True.intro | (apply QuietT.load; exact rfl; exact rfl; ((repeat (first | exact Pick.here | apply Pick.there))); exact rfl) | (apply QuietT.calc; exact rfl; ((try simp only [inR]); omega)) | (apply QuietT.indexI; (iterate 5 (exact rfl)); ((repeat (first | exact Pick.here | apply Pick.there))); exact rfl; (first | exact rfl | omega); omega) | (apply QuietT.loadEI; exact rfl; exact rfl; ((repeat (first | exact Pick.here | apply Pick.there))); exact rfl; assumption; exact rfl) | (apply QuietT.fieldE; exact rfl; exact rfl; exact rfl; exact rfl) | (apply QuietT.indexO; (iterate 5 (exact rfl)); ((repeat (first | exact Pick.here | apply Pick.there))); exact rfl; (first | exact rfl | omega); omega) | (apply QuietT.loadEO; exact rfl; exact rfl; ((repeat (first | exact Pick.here | apply Pick.there))); exact rfl; assumption; exact rfl) | (apply QuietT.loadI; exact rfl; exact rfl; ((repeat (first | exact Pick.here | apply Pick.there))); exact rfl)); kernel_rfl)
      | (apply wa_skipA; (iterate 8 (exact rfl)); kernel_rfl)
      | (apply wa_splitPD; (iterate 4 (exact rfl)); all_goals (intro h; (try simp only [reduceCtorEq, not_true_eq_false, not_false_eq_true, decide_eq_true_eq, decide_eq_false_iff_not, Bool.not_eq_true', Bool.not_eq_false', Bool.not_true, Bool.not_false, Int.not_lt, Int.not_le, ne_eq, Decidable.not_not] at h); (try (exfalso; omega))))
      | (apply wa_splitPE; (iterate 4 (exact rfl)); all_goals (intro h; (try simp only [reduceCtorEq, not_true_eq_false, not_false_eq_true, decide_eq_true_eq, decide_eq_false_iff_not, Bool.not_eq_true', Bool.not_eq_false', Bool.not_true, Bool.not_false, Int.not_lt, Int.not_le, ne_eq, Decidable.not_not] at h); (try (exfalso; omega))))
      | (apply wa_splitP; (iterate 4 (exact rfl)); (all_goals (intro h; (fail_if_success (have hh : h = rfl := rfl)); (fail_if_success (cases h; done)))); (all_goals (try simp only [reduceCtorEq, not_true_eq_false, not_false_eq_true, decide_eq_true_eq, decide_eq_false_iff_not, Bool.not_eq_true', Bool.not_eq_false', Bool.not_true, Bool.not_false, Int.not_lt, Int.not_le, ne_eq, Decidable.not_not] at h)))
      | refine WA.end_ ?_)
    | (show WT _ _ _ _ 0 _ _ _; (refine wt_done ?_ ?_; kernel_rfl))
    | (show WT _ _ _ _ _ _ _ _; (apply wt_pickQ; (iterate 3 (exact rfl)); (first | exact GOK.none | (apply GOK.runL; (iterate 3 (exact rfl)))); exact rfl; (first | exact QuietT.calc rfl True.intro | (apply QuietT.load; exact rfl; exact rfl; ((repeat (first | exact Pick.here | apply Pick.there))); exact rfl) | (apply QuietT.calc; exact rfl; ((try simp only [inR]); omega)) | (apply QuietT.indexI; (iterate 5 (exact rfl)); ((repeat (first | exact Pick.here | apply Pick.there))); exact rfl; (first | exact rfl | omega); omega) | (apply QuietT.loadEI; exact rfl; exact rfl; ((repeat (first | exact Pick.here | apply Pick.there))); exact rfl; assumption; exact rfl) | (apply QuietT.fieldE; exact rfl; exact rfl; exact rfl; exact rfl) | (apply QuietT.indexO; (iterate 5 (exact rfl)); ((repeat (first | exact Pick.here | apply Pick.there))); exact rfl; (first | exact rfl | omega); omega) | (apply QuietT.loadEO; exact rfl; exact rfl; ((repeat (first | exact Pick.here | apply Pick.there))); exact rfl; assumption; exact rfl) | (apply QuietT.loadI; exact rfl; exact rfl; ((repeat (first | exact Pick.here | apply Pick.there))); exact rfl)); kernel_rfl)))
  repeat' (first
    | (show WL _ _ _ _ _ _ _; first
      | (apply wl_calc; exact rfl; exact True.intro; exact rfl)
      | refine WL.nil ?_
      | (apply wl_ld; exact rfl; exact rfl; ((repeat (first | exact Pick.here | apply Pick.there))); exact rfl; exact rfl)
      | (apply wl_calc; exact rfl; ((try simp only [inR]); omega); exact rfl)
      | (apply wl_store; exact rfl; exact rfl; exact rfl; ((repeat (first | exact Pick.here | apply Pick.there))); exact rfl)
      | (apply wl_ixI; exact rfl; exact rfl; exact rfl; exact rfl; exact rfl; ((repeat (first | exact Pick.here | apply Pick.there))); exact rfl; (first | exact rfl | omega); omega; exact rfl)
      | (apply wl_ldEI; exact rfl; exact rfl; ((repeat (first | exact Pick.here | apply Pick.there))); exact rfl; assumption; exact rfl; exact rfl)
      | (apply wl_fldE; exact rfl; exact rfl; exact rfl; exact rfl; exact rfl)
      | (apply wl_ixO; exact rfl; exact rfl; exact rfl; exact rfl; exact rfl; ((repeat (first | exact Pick.here | apply Pick.there))); exact rfl; (first | exact rfl | omega); omega; exact rfl)
      | (apply wl_ldEO; exact rfl; exact rfl; ((repeat (first | exact Pick.here | apply Pick.there))); exact rfl; assumption; exact rfl; exact rfl)
      | (apply wl_guard; exact rfl; exact rfl; exact rfl; exact rfl)
      | (apply wl_gno; exact rfl; exact rfl; exact rfl; exact rfl; exact rfl)
      | (apply wl_gsplit; exact rfl; exact rfl; exact rfl; exact rfl; all_goals (intro h; (try simp only [reduceCtorEq, not_true_eq_false, not_false_eq_true, decide_eq_true_eq, decide_eq_false_iff_not, Bool.not_eq_true', Bool.not_eq_false', Bool.not_true, Bool.not_false, Int.not_lt, Int.not_le, ne_eq, Decidable.not_not] at h); (try (exfalso; omega))))
      | (apply wl_rem; exact rfl; exact rfl; omega; exact rfl)
      | (apply wl_row; (iterate 7 (exact rfl)); intro b1)
      | (apply wl_box; exact rfl; exact rfl; exact rfl; intro b1))
    | (show WC _ _ _ _ _ _; first
      | refine WC.seq ?_
      | (apply WC.region; exact rfl)
      | (apply WC.condT; exact rfl)
      | (apply WC.condF; exact rfl)
      | (apply WC.cond; exact rfl; all_goals (intro h; (try simp only [reduceCtorEq, not_true_eq_false, not_false_eq_true, decide_eq_true_eq, decide_eq_false_iff_not, Bool.not_eq_true', Bool.not_eq_false', Bool.not_true, Bool.not_false, Int.not_lt, Int.not_le, ne_eq, Decidable.not_not] at h); (try (exfalso; omega))))
      | refine WC.block ?_
      | refine WC.skip ?_
      | refine WC.ret ?_
      | refine WC.exit ?_)
    | refine Qseq.nm ?_
    | refine Qseq.r ?_
    | refine Qseq.x ?_
    | refine Qblock.nm ?_
    | refine Qblock.r ?_
    | (apply Qblock.t; exact rfl)
    | (apply Qblock.f; exact rfl)
    | refine Qmx.r ?_
    | refine Qmx.nm ?_
    | (apply Qmx.f; exact rfl)
    | refine Qmn.r ?_
    | refine Qmn.x ?_
    | refine Qloop.r ?_
    | refine Qloop.x ?_
    | (apply Qfn.one; exact rfl)
    | (apply Qfn.two; exact rfl; exact rfl)
    | (apply Qfn.three; exact rfl; exact rfl; exact rfl)
    | refine Qfn.zero ?_
    | refine Qfn.zeroN ?_)
  (apply wc_drawU; (focus (simp only [lenN, Nat.succ_eq_add_one, Nat.zero_add, Nat.reduceAdd]; exact rfl)); exact rfl; kernel_rfl)
  repeat' (first
    | (show WA _ _ _ _ _ _ _ _ _ _ _; first
      | (apply wa_pick; (iterate 4 (exact rfl)); (first | exact QuietT.calc rfl True.intro | (apply QuietT.load; exact rfl; exact rfl; ((repeat (first | exact Pick.here | apply Pick.there))); exact rfl) | (apply QuietT.calc; exact rfl; ((try simp only [inR]); omega)) | (apply QuietT.indexI; (iterate 5 (exact rfl)); ((repeat (first | exact Pick.here | apply Pick.there))); exact rfl; (first | exact rfl | omega); omega) | (apply QuietT.loadEI; exact rfl; exact rfl; ((repeat (first | exact Pick.here | apply Pick.there))); exact rfl; assumption; exact rfl) | (apply QuietT.fieldE; exact rfl; exact rfl; exact rfl; exact rfl) | (apply QuietT.indexO; (iterate 5 (exact rfl)); ((repeat (first | exact Pick.here | apply Pick.there))); exact rfl; (first | exact rfl | omega); omega) | (apply QuietT.loadEO; exact rfl; exact rfl; ((repeat (first | exact Pick.here | apply Pick.there))); exact rfl; assumption; exact rfl) | (apply QuietT.loadI; exact rfl; exact rfl; ((repeat (first | exact Pick.here | apply Pick.there))); exact rfl)); kernel_rfl)
      | (apply wa_pickN; (iterate 8 (exact rfl)); kernel_rfl)
      | (apply wa_pickG; (iterate 7 (exact rfl)); (first | exact QuietT.calc rfl True.intro | (apply QuietT.load; exact rfl; exact rfl; ((repeat (first | exact Pick.here | apply Pick.there))); exact rfl) | (apply QuietT.calc; exact rfl; ((try simp only [inR]); omega)) | (apply QuietT.indexI; (iterate 5 (exact rfl)); ((repeat (first | exact Pick.here | apply Pick.there))); exact rfl; (first | exact rfl | omega); omega) | (apply QuietT.loadEI; exact rfl; exact rfl; ((repeat (first | exact Pick.here | apply Pick.there))); exact rfl; assumption; exact rfl) | (apply QuietT.fieldE; exact rfl; exact rfl; exact rfl; exact rfl) | (apply QuietT.indexO; (iterate 5 (exact rfl)); ((repeat (first | exact Pick.here | apply Pick.there))); exact rfl; (first | exact rfl | omega); omega) | (apply QuietT.loadEO; exact rfl; exact rfl; ((repeat (first | exact Pick.here | apply Pick.there))); exact rfl; assumption; exact rfl) | (apply QuietT.loadI; exact rfl; exact rfl; ((repeat (first | exact Pick.here | apply Pick.there))); exact rfl)); kernel_rfl)
      | (apply wa_skipA; (iterate 8 (exact rfl)); kernel_rfl)
      | (apply wa_splitPD; (iterate 4 (exact rfl)); all_goals (intro h; (try simp only [reduceCtorEq, not_true_eq_false, not_false_eq_true, decide_eq_true_eq, decide_eq_false_iff_not, Bool.not_eq_true', Bool.not_eq_false', Bool.not_true, Bool.not_false, Int.not_lt, Int.not_le, ne_eq, Decidable.not_not] at h); (try (exfalso; omega))))
      | (apply wa_splitPE; (iterate 4 (exact rfl)); all_goals (intro h; (try simp only [reduceCtorEq, not_true_eq_false, not_false_eq_true, decide_eq_true_eq, decide_eq_false_iff_not, Bool.not_eq_true', Bool.not_eq_false', Bool.not_true, Bool.not_false, Int.not_lt, Int.not_le, ne_eq, Decidable.not_not] at h); (try (exfalso; omega))))
      | (apply wa_splitP; (iterate 4 (exact rfl)); (all_goals (intro h; (fail_if_success (have hh : h = rfl := rfl)); (fail_if_success (cases h; done)))); (all_goals (try simp only [reduceCtorEq, not_true_eq_false, not_false_eq_true, decide_eq_true_eq, decide_eq_false_iff_not, Bool.not_eq_true', Bool.not_eq_false', Bool.not_true, Bool.not_false, Int.not_lt, Int.not_le, ne_eq, Decidable.not_not] at h)))
      | refine WA.end_ ?_)
    | (show WT _ _ _ _ 0 _ _ _; (refine wt_done ?_ ?_; kernel_rfl))
    | (show WT _ _ _ _ _ _ _ _; (apply wt_pickQ; (iterate 3 (exact rfl)); (first | exact GOK.none | (apply GOK.runL; (iterate 3 (exact rfl)))); exact rfl; (first | exact QuietT.calc rfl True.intro | (apply QuietT.load; exact rfl; exact rfl; ((repeat (first | exact Pick.here | apply Pick.there))); exact rfl) | (apply QuietT.calc; exact rfl; ((try simp only [inR]); omega)) | (apply QuietT.indexI; (iterate 5 (exact rfl)); ((repeat (first | exact Pick.here | apply Pick.there))); exact rfl; (first | exact rfl | omega); omega) | (apply QuietT.loadEI; exact rfl; exact rfl; ((repeat (first | exact Pick.here | apply Pick.there))); exact rfl; assumption; exact rfl) | (apply QuietT.fieldE; exact rfl; exact rfl; exact rfl; exact rfl) | (apply QuietT.indexO; (iterate 5 (exact rfl)); ((repeat (first | exact Pick.here | apply Pick.there))); exact rfl; (first | exact rfl | omega); omega) | (apply QuietT.loadEO; exact rfl; exact rfl; ((repeat (first | exact Pick.here | apply Pick.there))); exact rfl; assumption; exact rfl) | (apply QuietT.loadI; exact rfl; exact rfl; ((repeat (first | exact Pick.here | apply Pick.there))); exact rfl)); kernel_rfl)))
  repeat' (first
    | (show WL _ _ _ _ _ _ _; first
      | (apply wl_calc; exact rfl; exact True.intro; exact rfl)
      | refine WL.nil ?_
      | (apply wl_ld; exact rfl; exact rfl; ((repeat (first | exact Pick.here | apply Pick.there))); exact rfl; exact rfl)
      | (apply wl_calc; exact rfl; ((try simp only [inR]); omega); exact rfl)
      | (apply wl_store; exact rfl; exact rfl; exact rfl; ((repeat (first | exact Pick.here | apply Pick.there))); exact rfl)
      | (apply wl_ixI; exact rfl; exact rfl; exact rfl; exact rfl; exact rfl; ((repeat (first | exact Pick.here | apply Pick.there))); exact rfl; (first | exact rfl | omega); omega; exact rfl)
      | (apply wl_ldEI; exact rfl; exact rfl; ((repeat (first | exact Pick.here | apply Pick.there))); exact rfl; assumption; exact rfl; exact rfl)
      | (apply wl_fldE; exact rfl; exact rfl; exact rfl; exact rfl; exact rfl)
      | (apply wl_ixO; exact rfl; exact rfl; exact rfl; exact rfl; exact rfl; ((repeat (first | exact Pick.here | apply Pick.there))); exact rfl; (first | exact rfl | omega); omega; exact rfl)
      | (apply wl_ldEO; exact rfl; exact rfl; ((repeat (first | exact Pick.here | apply Pick.there))); exact rfl; assumption; exact rfl; exact rfl)
      | (apply wl_guard; exact rfl; exact rfl; exact rfl; exact rfl)
      | (apply wl_gno; exact rfl; exact rfl; exact rfl; exact rfl; exact rfl)
      | (apply wl_gsplit; exact rfl; exact rfl; exact rfl; exact rfl; all_goals (intro h; (try simp only [reduceCtorEq, not_true_eq_false, not_false_eq_true, decide_eq_true_eq, decide_eq_false_iff_not, Bool.not_eq_true', Bool.not_eq_false', Bool.not_true, Bool.not_false, Int.not_lt, Int.not_le, ne_eq, Decidable.not_not] at h); (try (exfalso; omega))))
      | (apply wl_rem; exact rfl; exact rfl; omega; exact rfl)
      | (apply wl_row; (iterate 7 (exact rfl)); intro b1)
      | (apply wl_box; exact rfl; exact rfl; exact rfl; intro b1))
    | (show WC _ _ _ _ _ _; first
      | refine WC.seq ?_
      | (apply WC.region; exact rfl)
      | (apply WC.condT; exact rfl)
      | (apply WC.condF; exact rfl)
      | (apply WC.cond; exact rfl; all_goals (intro h; (try simp only [reduceCtorEq, not_true_eq_false, not_false_eq_true, decide_eq_true_eq, decide_eq_false_iff_not, Bool.not_eq_true', Bool.not_eq_false', Bool.not_true, Bool.not_false, Int.not_lt, Int.not_le, ne_eq, Decidable.not_not] at h); (try (exfalso; omega))))
      | refine WC.block ?_
      | refine WC.skip ?_
      | refine WC.ret ?_
      | refine WC.exit ?_)
    | refine Qseq.nm ?_
    | refine Qseq.r ?_
    | refine Qseq.x ?_
    | refine Qblock.nm ?_
    | refine Qblock.r ?_
    | (apply Qblock.t; exact rfl)
    | (apply Qblock.f; exact rfl)
    | refine Qmx.r ?_
    | refine Qmx.nm ?_
    | (apply Qmx.f; exact rfl)
    | refine Qmn.r ?_
    | refine Qmn.x ?_
    | refine Qloop.r ?_
    | refine Qloop.x ?_
    | (apply Qfn.one; exact rfl)
    | (apply Qfn.two; exact rfl; exact rfl)
    | (apply Qfn.three; exact rfl; exact rfl; exact rfl)
    | refine Qfn.zero ?_
    | refine Qfn.zeroN ?_)
  · rw [k1 (.inr (.inr (.inr (by omega))))]; exact ⟨_, (OSl.nilE EB 5 _).trans (Take.fin (by repeat (first | exact Take.nil | (apply Take.keepI; focus ((repeat (first | exact Pick.here | apply Pick.there)); done)) | (apply Take.cons; focus ((repeat (first | exact Pick.here | apply Pick.there)); done)) | (apply Take.pure; (first | assumption | omega))))), none, 0, rfl, rfl⟩
  · have hn := hn ‹_›
    obtain ⟨m, rfl⟩ : ∃ m : Nat, n = m := ⟨n.toNat, by omega⟩
    rw [k2 ‹_› ‹_› (by omega) (by omega), Int.toNat_natCast]
    have hcl : ((r.b.drop (r.at_ + s)).take m).length = m := by simp; omega
    (apply wc_drawU; (focus (simp only [lenN, Nat.succ_eq_add_one, Nat.zero_add, Nat.reduceAdd]; exact rfl)); exact rfl; kernel_rfl)
    repeat' (first
      | (show WA _ _ _ _ _ _ _ _ _ _ _; first
        | (apply wa_pick; (iterate 4 (exact rfl)); (first | exact QuietT.calc rfl True.intro | (apply QuietT.load; exact rfl; exact rfl; ((repeat (first | exact Pick.here | apply Pick.there))); exact rfl) | (apply QuietT.calc; exact rfl; ((try simp only [inR]); omega)) | (apply QuietT.indexI; (iterate 5 (exact rfl)); ((repeat (first | exact Pick.here | apply Pick.there))); exact rfl; (first | exact rfl | omega); omega) | (apply QuietT.loadEI; exact rfl; exact rfl; ((repeat (first | exact Pick.here | apply Pick.there))); exact rfl; assumption; exact rfl) | (apply QuietT.fieldE; exact rfl; exact rfl; exact rfl; exact rfl) | (apply QuietT.indexO; (iterate 5 (exact rfl)); ((repeat (first | exact Pick.here | apply Pick.there))); exact rfl; (first | exact rfl | omega); omega) | (apply QuietT.loadEO; exact rfl; exact rfl; ((repeat (first | exact Pick.here | apply Pick.there))); exact rfl; assumption; exact rfl) | (apply QuietT.loadI; exact rfl; exact rfl; ((repeat (first | exact Pick.here | apply Pick.there))); exact rfl)); kernel_rfl)
        | (apply wa_pickN; (iterate 8 (exact rfl)); kernel_rfl)
        | (apply wa_pickG; (iterate 7 (exact rfl)); (first | exact QuietT.calc rfl True.intro | (apply QuietT.load; exact rfl; exact rfl; ((repeat (first | exact Pick.here | apply Pick.there))); exact rfl) | (apply QuietT.calc; exact rfl; ((try simp only [inR]); omega)) | (apply QuietT.indexI; (iterate 5 (exact rfl)); ((repeat (first | exact Pick.here | apply Pick.there))); exact rfl; (first | exact rfl | omega); omega) | (apply QuietT.loadEI; exact rfl; exact rfl; ((repeat (first | exact Pick.here | apply Pick.there))); exact rfl; assumption; exact rfl) | (apply QuietT.fieldE; exact rfl; exact rfl; exact rfl; exact rfl) | (apply QuietT.indexO; (iterate 5 (exact rfl)); ((repeat (first | exact Pick.here | apply Pick.there))); exact rfl; (first | exact rfl | omega); omega) | (apply QuietT.loadEO; exact rfl; exact rfl; ((repeat (first | exact Pick.here | apply Pick.there))); exact rfl; assumption; exact rfl) | (apply QuietT.loadI; exact rfl; exact rfl; ((repeat (first | exact Pick.here | apply Pick.there))); exact rfl)); kernel_rfl)
        | (apply wa_skipA; (iterate 8 (exact rfl)); kernel_rfl)
        | (apply wa_splitPD; (iterate 4 (exact rfl)); all_goals (intro h; (try simp only [reduceCtorEq, not_true_eq_false, not_false_eq_true, decide_eq_true_eq, decide_eq_false_iff_not, Bool.not_eq_true', Bool.not_eq_false', Bool.not_true, Bool.not_false, Int.not_lt, Int.not_le, ne_eq, Decidable.not_not] at h); (try (exfalso; omega))))
        | (apply wa_splitPE; (iterate 4 (exact rfl)); all_goals (intro h; (try simp only [reduceCtorEq, not_true_eq_false, not_false_eq_true, decide_eq_true_eq, decide_eq_false_iff_not, Bool.not_eq_true', Bool.not_eq_false', Bool.not_true, Bool.not_false, Int.not_lt, Int.not_le, ne_eq, Decidable.not_not] at h); (try (exfalso; omega))))
        | (apply wa_splitP; (iterate 4 (exact rfl)); (all_goals (intro h; (fail_if_success (have hh : h = rfl := rfl)); (fail_if_success (cases h; done)))); (all_goals (try simp only [reduceCtorEq, not_true_eq_false, not_false_eq_true, decide_eq_true_eq, decide_eq_false_iff_not, Bool.not_eq_true', Bool.not_eq_false', Bool.not_true, Bool.not_false, Int.not_lt, Int.not_le, ne_eq, Decidable.not_not] at h)))
        | refine WA.end_ ?_)
      | (show WT _ _ _ _ 0 _ _ _; (refine wt_done ?_ ?_; kernel_rfl))
      | (show WT _ _ _ _ _ _ _ _; (apply wt_pickQ; (iterate 3 (exact rfl)); (first | exact GOK.none | (apply GOK.runL; (iterate 3 (exact rfl)))); exact rfl; (first | exact QuietT.calc rfl True.intro | (apply QuietT.load; exact rfl; exact rfl; ((repeat (first | exact Pick.here | apply Pick.there))); exact rfl) | (apply QuietT.calc; exact rfl; ((try simp only [inR]); omega)) | (apply QuietT.indexI; (iterate 5 (exact rfl)); ((repeat (first | exact Pick.here | apply Pick.there))); exact rfl; (first | exact rfl | omega); omega) | (apply QuietT.loadEI; exact rfl; exact rfl; ((repeat (first | exact Pick.here | apply Pick.there))); exact rfl; assumption; exact rfl) | (apply QuietT.fieldE; exact rfl; exact rfl; exact rfl; exact rfl) | (apply QuietT.indexO; (iterate 5 (exact rfl)); ((repeat (first | exact Pick.here | apply Pick.there))); exact rfl; (first | exact rfl | omega); omega) | (apply QuietT.loadEO; exact rfl; exact rfl; ((repeat (first | exact Pick.here | apply Pick.there))); exact rfl; assumption; exact rfl) | (apply QuietT.loadI; exact rfl; exact rfl; ((repeat (first | exact Pick.here | apply Pick.there))); exact rfl)); kernel_rfl)))
    (apply wa_pickCut (zs := (r.b.drop (r.at_ + s)).take m); (iterate 3 (exact rfl)); (first | exact GOK.none | (apply GOK.runL; (iterate 3 (exact rfl)))); (iterate 7 (exact rfl)); ((repeat (first | exact Pick.here | apply Pick.there))); exact rfl; kernel_rfl; (omega); (rw [List.take_drop]; congr 1); intro a2 c2)
    repeat' (first
      | (show WA _ _ _ _ _ _ _ _ _ _ _; first
        | (apply wa_pick; (iterate 4 (exact rfl)); (first | exact QuietT.calc rfl True.intro | (apply QuietT.load; exact rfl; exact rfl; ((repeat (first | exact Pick.here | apply Pick.there))); exact rfl) | (apply QuietT.calc; exact rfl; ((try simp only [inR]); omega)) | (apply QuietT.indexI; (iterate 5 (exact rfl)); ((repeat (first | exact Pick.here | apply Pick.there))); exact rfl; (first | exact rfl | omega); omega) | (apply QuietT.loadEI; exact rfl; exact rfl; ((repeat (first | exact Pick.here | apply Pick.there))); exact rfl; assumption; exact rfl) | (apply QuietT.fieldE; exact rfl; exact rfl; exact rfl; exact rfl) | (apply QuietT.indexO; (iterate 5 (exact rfl)); ((repeat (first | exact Pick.here | apply Pick.there))); exact rfl; (first | exact rfl | omega); omega) | (apply QuietT.loadEO; exact rfl; exact rfl; ((repeat (first | exact Pick.here | apply Pick.there))); exact rfl; assumption; exact rfl) | (apply QuietT.loadI; exact rfl; exact rfl; ((repeat (first | exact Pick.here | apply Pick.there))); exact rfl)); kernel_rfl)
        | (apply wa_pickN; (iterate 8 (exact rfl)); kernel_rfl)
        | (apply wa_pickG; (iterate 7 (exact rfl)); (first | exact QuietT.calc rfl True.intro | (apply QuietT.load; exact rfl; exact rfl; ((repeat (first | exact Pick.here | apply Pick.there))); exact rfl) | (apply QuietT.calc; exact rfl; ((try simp only [inR]); omega)) | (apply QuietT.indexI; (iterate 5 (exact rfl)); ((repeat (first | exact Pick.here | apply Pick.there))); exact rfl; (first | exact rfl | omega); omega) | (apply QuietT.loadEI; exact rfl; exact rfl; ((repeat (first | exact Pick.here | apply Pick.there))); exact rfl; assumption; exact rfl) | (apply QuietT.fieldE; exact rfl; exact rfl; exact rfl; exact rfl) | (apply QuietT.indexO; (iterate 5 (exact rfl)); ((repeat (first | exact Pick.here | apply Pick.there))); exact rfl; (first | exact rfl | omega); omega) | (apply QuietT.loadEO; exact rfl; exact rfl; ((repeat (first | exact Pick.here | apply Pick.there))); exact rfl; assumption; exact rfl) | (apply QuietT.loadI; exact rfl; exact rfl; ((repeat (first | exact Pick.here | apply Pick.there))); exact rfl)); kernel_rfl)
        | (apply wa_skipA; (iterate 8 (exact rfl)); kernel_rfl)
        | (apply wa_splitPD; (iterate 4 (exact rfl)); all_goals (intro h; (try simp only [reduceCtorEq, not_true_eq_false, not_false_eq_true, decide_eq_true_eq, decide_eq_false_iff_not, Bool.not_eq_true', Bool.not_eq_false', Bool.not_true, Bool.not_false, Int.not_lt, Int.not_le, ne_eq, Decidable.not_not] at h); (try (exfalso; omega))))
        | (apply wa_splitPE; (iterate 4 (exact rfl)); all_goals (intro h; (try simp only [reduceCtorEq, not_true_eq_false, not_false_eq_true, decide_eq_true_eq, decide_eq_false_iff_not, Bool.not_eq_true', Bool.not_eq_false', Bool.not_true, Bool.not_false, Int.not_lt, Int.not_le, ne_eq, Decidable.not_not] at h); (try (exfalso; omega))))
        | (apply wa_splitP; (iterate 4 (exact rfl)); (all_goals (intro h; (fail_if_success (have hh : h = rfl := rfl)); (fail_if_success (cases h; done)))); (all_goals (try simp only [reduceCtorEq, not_true_eq_false, not_false_eq_true, decide_eq_true_eq, decide_eq_false_iff_not, Bool.not_eq_true', Bool.not_eq_false', Bool.not_true, Bool.not_false, Int.not_lt, Int.not_le, ne_eq, Decidable.not_not] at h)))
        | refine WA.end_ ?_)
      | (show WT _ _ _ _ 0 _ _ _; (refine wt_done ?_ ?_; kernel_rfl))
      | (show WT _ _ _ _ _ _ _ _; (apply wt_pickQ; (iterate 3 (exact rfl)); (first | exact GOK.none | (apply GOK.runL; (iterate 3 (exact rfl)))); exact rfl; (first | exact QuietT.calc rfl True.intro | (apply QuietT.load; exact rfl; exact rfl; ((repeat (first | exact Pick.here | apply Pick.there))); exact rfl) | (apply QuietT.calc; exact rfl; ((try simp only [inR]); omega)) | (apply QuietT.indexI; (iterate 5 (exact rfl)); ((repeat (first | exact Pick.here | apply Pick.there))); exact rfl; (first | exact rfl | omega); omega) | (apply QuietT.loadEI; exact rfl; exact rfl; ((repeat (first | exact Pick.here | apply Pick.there))); exact rfl; assumption; exact rfl) | (apply QuietT.fieldE; exact rfl; exact rfl; exact rfl; exact rfl) | (apply QuietT.indexO; (iterate 5 (exact rfl)); ((repeat (first | exact Pick.here | apply Pick.there))); exact rfl; (first | exact rfl | omega); omega) | (apply QuietT.loadEO; exact rfl; exact rfl; ((repeat (first | exact Pick.here | apply Pick.there))); exact rfl; assumption; exact rfl) | (apply QuietT.loadI; exact rfl; exact rfl; ((repeat (first | exact Pick.here | apply Pick.there))); exact rfl)); kernel_rfl)))
    (refine wa_actU rfl rfl rfl (by (first | exact GOK.none | (apply GOK.runL; (iterate 3 (exact rfl))))) rfl (by kernel_rfl) (OpT.append (E := EB) (xs := []) (ys := (r.b.drop (r.at_ + s)).take m) (A := ISl EB _ _ ((r.b.drop (r.at_ + s)).take m)) rfl rfl rfl rfl rfl rfl (OSl.nilE _ _ _) (by (repeat (first | exact Pick.here | apply Pick.there))) inferInstance rfl rfl rfl rfl rfl rfl (by show (0 + _) * 1 ≤ _; omega) ?_); rw [List.nil_append]; intro a1 c1)
    refine ⟨_, Take.ent (by repeat (first | exact Take.nil | (apply Take.keepI; focus ((repeat (first | exact Pick.here | apply Pick.there)); done)) | (apply Take.cons; focus ((repeat (first | exact Pick.here | apply Pick.there)); done)) | (apply Take.pure; (first | assumption | omega)))), ?_⟩
    repeat' (first
      | (show WA _ _ _ _ _ _ _ _ _ _ _; first
        | (apply wa_pick; (iterate 4 (exact rfl)); (first | exact QuietT.calc rfl True.intro | (apply QuietT.load; exact rfl; exact rfl; ((repeat (first | exact Pick.here | apply Pick.there))); exact rfl) | (apply QuietT.calc; exact rfl; ((try simp only [inR]); omega)) | (apply QuietT.indexI; (iterate 5 (exact rfl)); ((repeat (first | exact Pick.here | apply Pick.there))); exact rfl; (first | exact rfl | omega); omega) | (apply QuietT.loadEI; exact rfl; exact rfl; ((repeat (first | exact Pick.here | apply Pick.there))); exact rfl; assumption; exact rfl) | (apply QuietT.fieldE; exact rfl; exact rfl; exact rfl; exact rfl) | (apply QuietT.indexO; (iterate 5 (exact rfl)); ((repeat (first | exact Pick.here | apply Pick.there))); exact rfl; (first | exact rfl | omega); omega) | (apply QuietT.loadEO; exact rfl; exact rfl; ((repeat (first | exact Pick.here | apply Pick.there))); exact rfl; assumption; exact rfl) | (apply QuietT.loadI; exact rfl; exact rfl; ((repeat (first | exact Pick.here | apply Pick.there))); exact rfl)); kernel_rfl)
        | (apply wa_pickN; (iterate 8 (exact rfl)); kernel_rfl)
        | (apply wa_pickG; (iterate 7 (exact rfl)); (first | exact QuietT.calc rfl True.intro | (apply QuietT.load; exact rfl; exact rfl; ((repeat (first | exact Pick.here | apply Pick.there))); exact rfl) | (apply QuietT.calc; exact rfl; ((try simp only [inR]); omega)) | (apply QuietT.indexI; (iterate 5 (exact rfl)); ((repeat (first | exact Pick.here | apply Pick.there))); exact rfl; (first | exact rfl | omega); omega) | (apply QuietT.loadEI; exact rfl; exact rfl; ((repeat (first | exact Pick.here | apply Pick.there))); exact rfl; assumption; exact rfl) | (apply QuietT.fieldE; exact rfl; exact rfl; exact rfl; exact rfl) | (apply QuietT.indexO; (iterate 5 (exact rfl)); ((repeat (first | exact Pick.here | apply Pick.there))); exact rfl; (first | exact rfl | omega); omega) | (apply QuietT.loadEO; exact rfl; exact rfl; ((repeat (first | exact Pick.here | apply Pick.there))); exact rfl; assumption; exact rfl) | (apply QuietT.loadI; exact rfl; exact rfl; ((repeat (first | exact Pick.here | apply Pick.there))); exact rfl)); kernel_rfl)
        | (apply wa_skipA; (iterate 8 (exact rfl)); kernel_rfl)
        | (apply wa_splitPD; (iterate 4 (exact rfl)); all_goals (intro h; (try simp only [reduceCtorEq, not_true_eq_false, not_false_eq_true, decide_eq_true_eq, decide_eq_false_iff_not, Bool.not_eq_true', Bool.not_eq_false', Bool.not_true, Bool.not_false, Int.not_lt, Int.not_le, ne_eq, Decidable.not_not] at h); (try (exfalso; omega))))
        | (apply wa_splitPE; (iterate 4 (exact rfl)); all_goals (intro h; (try simp only [reduceCtorEq, not_true_eq_false, not_false_eq_true, decide_eq_true_eq, decide_eq_false_iff_not, Bool.not_eq_true', Bool.not_eq_false', Bool.not_true, Bool.not_false, Int.not_lt, Int.not_le, ne_eq, Decidable.not_not] at h); (try (exfalso; omega))))
        | (apply wa_splitP; (iterate 4 (exact rfl)); (all_goals (intro h; (fail_if_success (have hh : h = rfl := rfl)); (fail_if_success (cases h; done)))); (all_goals (try simp only [reduceCtorEq, not_true_eq_false, not_false_eq_true, decide_eq_true_eq, decide_eq_false_iff_not, Bool.not_eq_true', Bool.not_eq_false', Bool.not_true, Bool.not_false, Int.not_lt, Int.not_le, ne_eq, Decidable.not_not] at h)))
        | refine WA.end_ ?_)
      | (show WT _ _ _ _ 0 _ _ _; (refine wt_done ?_ ?_; kernel_rfl))
      | (show WT _ _ _ _ _ _ _ _; (apply wt_pickQ; (iterate 3 (exact rfl)); (first | exact GOK.none | (apply GOK.runL; (iterate 3 (exact rfl)))); exact rfl; (first | exact QuietT.calc rfl True.intro | (apply QuietT.load; exact rfl; exact rfl; ((repeat (first | exact Pick.here | apply Pick.there))); exact rfl) | (apply QuietT.calc; exact rfl; ((try simp only [inR]); omega)) | (apply QuietT.indexI; (iterate 5 (exact rfl)); ((repeat (first | exact Pick.here | apply Pick.there))); exact rfl; (first | exact rfl | omega); omega) | (apply QuietT.loadEI; exact rfl; exact rfl; ((repeat (first | exact Pick.here | apply Pick.there))); exact rfl; assumption; exact rfl) | (apply QuietT.fieldE; exact rfl; exact rfl; exact rfl; exact rfl) | (apply QuietT.indexO; (iterate 5 (exact rfl)); ((repeat (first | exact Pick.here | apply Pick.there))); exact rfl; (first | exact rfl | omega); omega) | (apply QuietT.loadEO; exact rfl; exact rfl; ((repeat (first | exact Pick.here | apply Pick.there))); exact rfl; assumption; exact rfl) | (apply QuietT.loadI; exact rfl; exact rfl; ((repeat (first | exact Pick.here | apply Pick.there))); exact rfl)); kernel_rfl)))
    repeat' (first
      | (show WL _ _ _ _ _ _ _; first
        | (apply wl_calc; exact rfl; exact True.intro; exact rfl)
        | refine WL.nil ?_
        | (apply wl_ld; exact rfl; exact rfl; ((repeat (first | exact Pick.here | apply Pick.there))); exact rfl; exact rfl)
        | (apply wl_calc; exact rfl; ((try simp only [inR]); omega); exact rfl)
        | (apply wl_store; exact rfl; exact rfl; exact rfl; ((repeat (first | exact Pick.here | apply Pick.there))); exact rfl)
        | (apply wl_ixI; exact rfl; exact rfl; exact rfl; exact rfl; exact rfl; ((repeat (first | exact Pick.here | apply Pick.there))); exact rfl; (first | exact rfl | omega); omega; exact rfl)
        | (apply wl_ldEI; exact rfl; exact rfl; ((repeat (first | exact Pick.here | apply Pick.there))); exact rfl; assumption; exact rfl; exact rfl)
        | (apply wl_fldE; exact rfl; exact rfl; exact rfl; exact rfl; exact rfl)
        | (apply wl_ixO; exact rfl; exact rfl; exact rfl; exact rfl; exact rfl; ((repeat (first | exact Pick.here | apply Pick.there))); exact rfl; (first | exact rfl | omega); omega; exact rfl)
        | (apply wl_ldEO; exact rfl; exact rfl; ((repeat (first | exact Pick.here | apply Pick.there))); exact rfl; assumption; exact rfl; exact rfl)
        | (apply wl_guard; exact rfl; exact rfl; exact rfl; exact rfl)
        | (apply wl_gno; exact rfl; exact rfl; exact rfl; exact rfl; exact rfl)
        | (apply wl_gsplit; exact rfl; exact rfl; exact rfl; exact rfl; all_goals (intro h; (try simp only [reduceCtorEq, not_true_eq_false, not_false_eq_true, decide_eq_true_eq, decide_eq_false_iff_not, Bool.not_eq_true', Bool.not_eq_false', Bool.not_true, Bool.not_false, Int.not_lt, Int.not_le, ne_eq, Decidable.not_not] at h); (try (exfalso; omega))))
        | (apply wl_rem; exact rfl; exact rfl; omega; exact rfl)
        | (apply wl_row; (iterate 7 (exact rfl)); intro b1)
        | (apply wl_box; exact rfl; exact rfl; exact rfl; intro b1))
      | (show WC _ _ _ _ _ _; first
        | refine WC.seq ?_
        | (apply WC.region; exact rfl)
        | (apply WC.condT; exact rfl)
        | (apply WC.condF; exact rfl)
        | (apply WC.cond; exact rfl; all_goals (intro h; (try simp only [reduceCtorEq, not_true_eq_false, not_false_eq_true, decide_eq_true_eq, decide_eq_false_iff_not, Bool.not_eq_true', Bool.not_eq_false', Bool.not_true, Bool.not_false, Int.not_lt, Int.not_le, ne_eq, Decidable.not_not] at h); (try (exfalso; omega))))
        | refine WC.block ?_
        | refine WC.skip ?_
        | refine WC.ret ?_
        | refine WC.exit ?_)
      | refine Qseq.nm ?_
      | refine Qseq.r ?_
      | refine Qseq.x ?_
      | refine Qblock.nm ?_
      | refine Qblock.r ?_
      | (apply Qblock.t; exact rfl)
      | (apply Qblock.f; exact rfl)
      | refine Qmx.r ?_
      | refine Qmx.nm ?_
      | (apply Qmx.f; exact rfl)
      | refine Qmn.r ?_
      | refine Qmn.x ?_
      | refine Qloop.r ?_
      | refine Qloop.x ?_
      | (apply Qfn.one; exact rfl)
      | (apply Qfn.two; exact rfl; exact rfl)
      | (apply Qfn.three; exact rfl; exact rfl; exact rfl)
      | refine Qfn.zero ?_
      | refine Qfn.zeroN ?_)
    rw [Nat.add_assoc]
    exact ⟨_, Take.fin (by repeat (first | exact Take.nil | (apply Take.keepI; focus ((repeat (first | exact Pick.here | apply Pick.there)); done)) | (apply Take.cons; focus ((repeat (first | exact Pick.here | apply Pick.there)); done)) | (apply Take.pure; (first | assumption | omega)))), _, _, rfl, rfl⟩
  · rw [k1 (.inr (.inr (.inl (by omega))))]; exact ⟨_, (OSl.nilE EB 5 _).trans (Take.fin (by repeat (first | exact Take.nil | (apply Take.keepI; focus ((repeat (first | exact Pick.here | apply Pick.there)); done)) | (apply Take.cons; focus ((repeat (first | exact Pick.here | apply Pick.there)); done)) | (apply Take.pure; (first | assumption | omega))))), none, 0, rfl, rfl⟩
  · rw [k1 (.inr (.inl ‹_›))]; exact ⟨_, (OSl.nilE EB 5 _).trans (Take.fin (by repeat (first | exact Take.nil | (apply Take.keepI; focus ((repeat (first | exact Pick.here | apply Pick.there)); done)) | (apply Take.cons; focus ((repeat (first | exact Pick.here | apply Pick.there)); done)) | (apply Take.pure; (first | assumption | omega))))), none, 0, rfl, rfl⟩
  · rw [k1 (.inl ‹_›)]; exact ⟨_, (OSl.nilE EB 5 _).trans (Take.fin (by repeat (first | exact Take.nil | (apply Take.keepI; focus ((repeat (first | exact Pick.here | apply Pick.there)); done)) | (apply Take.cons; focus ((repeat (first | exact Pick.here | apply Pick.there)); done)) | (apply Take.pure; (first | assumption | omega))))), none, 0, rfl, rfl⟩
end Go.Proofs.Ytidmolpkcfhkaaa
