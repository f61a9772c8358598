/- RangesOrder: the walk. -/
import Derived.Test.YtidmolpkcfhkaaaL8
import Derived.Test.YtidmolpkcfhkaaaK17
namespace Go.Proofs.Ytidmolpkcfhkaaa
set_option linter.unusedSectionVars false
set_option linter.unusedVariables false
set_option linter.unusedSimpArgs false
open Go
attribute [local irreducible] Decidable.decide Qfn Qseq Qblock Qloop Qmx Qmn WL WC OpT Pick Ent QuietT WT WA ISl OSl Blk IBlk
variable {P : Program} [hP : IsP P]
set_option maxHeartbeats 4000000 in
theorem rangesorder_walk {xs : List Act5} {xa : Option Addr} {xc : Nat} (y z : Int) (hy : -9223372036854775808 ≤ y ∧ y ≤ 9223372036854775807) (hz : -9223372036854775808 ≤ z ∧ z ≤ 9223372036854775807) :
    Spec P 13 [.slice xa xs.length xc, .int .i64 y, .int .i64 z] [ISl EAct5 xa xc xs] fun r R => r = .bool true ∧ R = [] := by
  refine Spec.fact (fn_ok (fn := Try.f13) (by rw [hP.eq]; exact Try.func13) (by kernel_rfl) rfl) .here ISl.facts ?_
  rintro ⟨hx, -, -⟩
  refine Spec.of (fn := Try.f13) (by rw [hP.eq]; exact Try.func13) (by kernel_rfl) rfl Try.ntmps13 rfl rfl ?_
  repeat' (first
    | (show WL _ _ _ _ _ _ _; first
      | (apply wl_calc; exact rfl; exact True.intro; exact rfl)
      | refine WL.nil ?_
      | (apply wl_ld; exact rfl; exact rfl; ((repeat (first | exact Pick.here | apply Pick.there))); exact rfl; exact rfl)
      | (apply wl_calc; exact rfl; ((try simp only [inR]); omega); exact rfl)
      | (apply wl_store; exact rfl; exact rfl; exact rfl; ((repeat (first | exact Pick.here | apply Pick.there))); exact rfl)
      | (apply wl_ixI; exact rfl; exact rfl; exact rfl; exact rfl; exact rfl; ((repeat (first | exact Pick.here | apply Pick.there))); exact rfl; (first | exact rfl | omega); omega; exact rfl)
      | (apply wl_ldEI; exact rfl; exact rfl; ((repeat (first | exact Pick.here | apply Pick.there))); exact rfl; assumption; exact rfl; exact rfl)
      | (apply wl_fldE; exact rfl; exact rfl; exact rfl; exact rfl; exact rfl)
      | (apply wl_ixO; exact rfl; exact rfl; exact rfl; exact rfl; exact rfl; ((repeat (first | exact Pick.here | apply Pick.there))); exact rfl; (first | exact rfl | omega); omega; exact rfl)
      | (apply wl_ldEO; exact rfl; exact rfl; ((repeat (first | exact Pick.here | apply Pick.there))); exact rfl; assumption; exact rfl; exact rfl)
      | (apply wl_guard; exact rfl; exact rfl; exact rfl; exact rfl)
      | (apply wl_gno; exact rfl; exact rfl; exact rfl; exact rfl; exact rfl)
      | (apply wl_gsplit; exact rfl; exact rfl; exact rfl; exact rfl; all_goals (intro h; (try simp only [reduceCtorEq, not_true_eq_false, not_false_eq_true, decide_eq_true_eq, decide_eq_false_iff_not, Bool.not_eq_true', Bool.not_eq_false', Bool.not_true, Bool.not_false, Int.not_lt, Int.not_le, ne_eq, Decidable.not_not] at h); (try (exfalso; omega))))
      | (apply wl_rem; exact rfl; exact rfl; omega; exact rfl)
      | (apply wl_row; (iterate 7 (exact rfl)); intro b1)
      | (apply wl_box; exact rfl; exact rfl; exact rfl; intro b1)
      | (apply wl_alloc; exact rfl; exact rfl; intro b1)
      | (apply wl_eqlS; exact rfl; exact rfl; exact rfl)
      | (apply wl_neqS; exact rfl; exact rfl; exact rfl))
    | (show WC _ _ _ _ _ _; first
      | refine WC.seq ?_
      | (apply WC.region; exact rfl)
      | (apply WC.condT; exact rfl)
      | (apply WC.condF; exact rfl)
      | (apply WC.cond; exact rfl; all_goals (intro h; (try simp only [reduceCtorEq, not_true_eq_false, not_false_eq_true, decide_eq_true_eq, decide_eq_false_iff_not, Bool.not_eq_true', Bool.not_eq_false', Bool.not_true, Bool.not_false, Int.not_lt, Int.not_le, ne_eq, Decidable.not_not] at h); (try (exfalso; omega))))
      | refine WC.block ?_
      | refine WC.skip ?_
      | refine WC.ret ?_
      | refine WC.exit ?_)
    | refine Qseq.nm ?_
    | refine Qseq.r ?_
    | refine Qseq.x ?_
    | refine Qblock.nm ?_
    | refine Qblock.r ?_
    | (apply Qblock.t; exact rfl)
    | (apply Qblock.f; exact rfl)
    | refine Qmx.r ?_
    | refine Qmx.nm ?_
    | (apply Qmx.f; exact rfl)
    | refine Qmn.r ?_
    | refine Qmn.x ?_
    | refine Qloop.r ?_
    | refine Qloop.x ?_
    | (apply Qfn.one; exact rfl)
    | (apply Qfn.two; exact rfl; exact rfl)
    | (apply Qfn.three; exact rfl; exact rfl; exact rfl)
    | (apply Qfn.cellt; exact rfl; exact rfl; ((repeat (first | exact Pick.here | apply Pick.there))); exact rfl; exact rfl)
    | refine Qfn.zero ?_
    | refine Qfn.zeroN ?_)
  (refine wl_call rfl rfl rfl (snew_spec) (by repeat (first | exact Take.nil | (apply Take.keepI; focus ((repeat (first | exact Pick.here | apply Pick.there)); done)) | (apply Take.cons; focus ((repeat (first | exact Pick.here | apply Pick.there)); done)) | (apply Take.pure; (first | assumption | omega)))) ?_)
  rintro _ _ ⟨b, rfl, rfl⟩
  repeat' (first
    | (show WL _ _ _ _ _ _ _; first
      | (apply wl_calc; exact rfl; exact True.intro; exact rfl)
      | refine WL.nil ?_
      | (apply wl_ld; exact rfl; exact rfl; ((repeat (first | exact Pick.here | apply Pick.there))); exact rfl; exact rfl)
      | (apply wl_calc; exact rfl; ((try simp only [inR]); omega); exact rfl)
      | (apply wl_store; exact rfl; exact rfl; exact rfl; ((repeat (first | exact Pick.here | apply Pick.there))); exact rfl)
      | (apply wl_ixI; exact rfl; exact rfl; exact rfl; exact rfl; exact rfl; ((repeat (first | exact Pick.here | apply Pick.there))); exact rfl; (first | exact rfl | omega); omega; exact rfl)
      | (apply wl_ldEI; exact rfl; exact rfl; ((repeat (first | exact Pick.here | apply Pick.there))); exact rfl; assumption; exact rfl; exact rfl)
      | (apply wl_fldE; exact rfl; exact rfl; exact rfl; exact rfl; exact rfl)
      | (apply wl_ixO; exact rfl; exact rfl; exact rfl; exact rfl; exact rfl; ((repeat (first | exact Pick.here | apply Pick.there))); exact rfl; (first | exact rfl | omega); omega; exact rfl)
      | (apply wl_ldEO; exact rfl; exact rfl; ((repeat (first | exact Pick.here | apply Pick.there))); exact rfl; assumption; exact rfl; exact rfl)
      | (apply wl_guard; exact rfl; exact rfl; exact rfl; exact rfl)
      | (apply wl_gno; exact rfl; exact rfl; exact rfl; exact rfl; exact rfl)
      | (apply wl_gsplit; exact rfl; exact rfl; exact rfl; exact rfl; all_goals (intro h; (try simp only [reduceCtorEq, not_true_eq_false, not_false_eq_true, decide_eq_true_eq, decide_eq_false_iff_not, Bool.not_eq_true', Bool.not_eq_false', Bool.not_true, Bool.not_false, Int.not_lt, Int.not_le, ne_eq, Decidable.not_not] at h); (try (exfalso; omega))))
      | (apply wl_rem; exact rfl; exact rfl; omega; exact rfl)
      | (apply wl_row; (iterate 7 (exact rfl)); intro b1)
      | (apply wl_box; exact rfl; exact rfl; exact rfl; intro b1)
      | (apply wl_alloc; exact rfl; exact rfl; intro b1)
      | (apply wl_eqlS; exact rfl; exact rfl; exact rfl)
      | (apply wl_neqS; exact rfl; exact rfl; exact rfl))
    | (show WC _ _ _ _ _ _; first
      | refine WC.seq ?_
      | (apply WC.region; exact rfl)
      | (apply WC.condT; exact rfl)
      | (apply WC.condF; exact rfl)
      | (apply WC.cond; exact rfl; all_goals (intro h; (try simp only [reduceCtorEq, not_true_eq_false, not_false_eq_true, decide_eq_true_eq, decide_eq_false_iff_not, Bool.not_eq_true', Bool.not_eq_false', Bool.not_true, Bool.not_false, Int.not_lt, Int.not_le, ne_eq, Decidable.not_not] at h); (try (exfalso; omega))))
      | refine WC.block ?_
      | refine WC.skip ?_
      | refine WC.ret ?_
      | refine WC.exit ?_)
    | refine Qseq.nm ?_
    | refine Qseq.r ?_
    | refine Qseq.x ?_
    | refine Qblock.nm ?_
    | refine Qblock.r ?_
    | (apply Qblock.t; exact rfl)
    | (apply Qblock.f; exact rfl)
    | refine Qmx.r ?_
    | refine Qmx.nm ?_
    | (apply Qmx.f; exact rfl)
    | refine Qmn.r ?_
    | refine Qmn.x ?_
    | refine Qloop.r ?_
    | refine Qloop.x ?_
    | (apply Qfn.one; exact rfl)
    | (apply Qfn.two; exact rfl; exact rfl)
    | (apply Qfn.three; exact rfl; exact rfl; exact rfl)
    | (apply Qfn.cellt; exact rfl; exact rfl; ((repeat (first | exact Pick.here | apply Pick.there))); exact rfl; exact rfl)
    | refine Qfn.zero ?_
    | refine Qfn.zeroN ?_)
  (refine wl_call rfl rfl rfl (snew_spec) (by repeat (first | exact Take.nil | (apply Take.keepI; focus ((repeat (first | exact Pick.here | apply Pick.there)); done)) | (apply Take.cons; focus ((repeat (first | exact Pick.here | apply Pick.there)); done)) | (apply Take.pure; (first | assumption | omega)))) ?_)
  rintro _ _ ⟨b', rfl, rfl⟩
  repeat' (first
    | (show WL _ _ _ _ _ _ _; first
      | (apply wl_calc; exact rfl; exact True.intro; exact rfl)
      | refine WL.nil ?_
      | (apply wl_ld; exact rfl; exact rfl; ((repeat (first | exact Pick.here | apply Pick.there))); exact rfl; exact rfl)
      | (apply wl_calc; exact rfl; ((try simp only [inR]); omega); exact rfl)
      | (apply wl_store; exact rfl; exact rfl; exact rfl; ((repeat (first | exact Pick.here | apply Pick.there))); exact rfl)
      | (apply wl_ixI; exact rfl; exact rfl; exact rfl; exact rfl; exact rfl; ((repeat (first | exact Pick.here | apply Pick.there))); exact rfl; (first | exact rfl | omega); omega; exact rfl)
      | (apply wl_ldEI; exact rfl; exact rfl; ((repeat (first | exact Pick.here | apply Pick.there))); exact rfl; assumption; exact rfl; exact rfl)
      | (apply wl_fldE; exact rfl; exact rfl; exact rfl; exact rfl; exact rfl)
      | (apply wl_ixO; exact rfl; exact rfl; exact rfl; exact rfl; exact rfl; ((repeat (first | exact Pick.here | apply Pick.there))); exact rfl; (first | exact rfl | omega); omega; exact rfl)
      | (apply wl_ldEO; exact rfl; exact rfl; ((repeat (first | exact Pick.here | apply Pick.there))); exact rfl; assumption; exact rfl; exact rfl)
      | (apply wl_guard; exact rfl; exact rfl; exact rfl; exact rfl)
      | (apply wl_gno; exact rfl; exact rfl; exact rfl; exact rfl; exact rfl)
      | (apply wl_gsplit; exact rfl; exact rfl; exact rfl; exact rfl; all_goals (intro h; (try simp only [reduceCtorEq, not_true_eq_false, not_false_eq_true, decide_eq_true_eq, decide_eq_false_iff_not, Bool.not_eq_true', Bool.not_eq_false', Bool.not_true, Bool.not_false, Int.not_lt, Int.not_le, ne_eq, Decidable.not_not] at h); (try (exfalso; omega))))
      | (apply wl_rem; exact rfl; exact rfl; omega; exact rfl)
      | (apply wl_row; (iterate 7 (exact rfl)); intro b1)
      | (apply wl_box; exact rfl; exact rfl; exact rfl; intro b1)
      | (apply wl_alloc; exact rfl; exact rfl; intro b1)
      | (apply wl_eqlS; exact rfl; exact rfl; exact rfl)
      | (apply wl_neqS; exact rfl; exact rfl; exact rfl))
    | (show WC _ _ _ _ _ _; first
      | refine WC.seq ?_
      | (apply WC.region; exact rfl)
      | (apply WC.condT; exact rfl)
      | (apply WC.condF; exact rfl)
      | (apply WC.cond; exact rfl; all_goals (intro h; (try simp only [reduceCtorEq, not_true_eq_false, not_false_eq_true, decide_eq_true_eq, decide_eq_false_iff_not, Bool.not_eq_true', Bool.not_eq_false', Bool.not_true, Bool.not_false, Int.not_lt, Int.not_le, ne_eq, Decidable.not_not] at h); (try (exfalso; omega))))
      | refine WC.block ?_
      | refine WC.skip ?_
      | refine WC.ret ?_
      | refine WC.exit ?_)
    | refine Qseq.nm ?_
    | refine Qseq.r ?_
    | refine Qseq.x ?_
    | refine Qblock.nm ?_
    | refine Qblock.r ?_
    | (apply Qblock.t; exact rfl)
    | (apply Qblock.f; exact rfl)
    | refine Qmx.r ?_
    | refine Qmx.nm ?_
    | (apply Qmx.f; exact rfl)
    | refine Qmn.r ?_
    | refine Qmn.x ?_
    | refine Qloop.r ?_
    | refine Qloop.x ?_
    | (apply Qfn.one; exact rfl)
    | (apply Qfn.two; exact rfl; exact rfl)
    | (apply Qfn.three; exact rfl; exact rfl; exact rfl)
    | (apply Qfn.cellt; exact rfl; exact rfl; ((repeat (first | exact Pick.here | apply Pick.there))); exact rfl; exact rfl)
    | refine Qfn.zero ?_
    | refine Qfn.zeroN ?_)
  refine WC.ent (ISl.nilE ER _) ?_
  obtain ⟨N, hN⟩ : ∃ N : Nat, (N : Int) = min (xs.length : Int) 12 := ⟨min xs.length 12, by omega⟩
  rw [← hN]
  refine WC.midxU 0 [Blk b 114 (SETc none 0 []), ISl ER none 0 [], Blk b' 114 (SETc none 0 []), ISl ER none 0 []] (fun d D => ∃ (l l' : List Rg) (a a' : Option Addr) (c c' : Nat), (Canon l ∧ l.length ≤ 12 ∧ Canon l' ∧ l'.length ≤ 24 ∧ l = l') ∧ d = [] ∧ D = [Blk b 114 (SETc a c l), ISl ER a c l, Blk b' 114 (SETc a' c' l'), ISl ER a' c' l']) rfl (by repeat (first | exact Take.nil | (apply Take.keepI; focus ((repeat (first | exact Pick.here | apply Pick.there)); done)) | (apply Take.cons; focus ((repeat (first | exact Pick.here | apply Pick.there)); done)) | (apply Take.pure; (first | assumption | omega)))) ?_ ?_
  · refine WC.loopU (fun k d D => ∃ (i : Nat) (l l' : List Rg) (a a' : Option Addr) (c c' : Nat), (i ≤ N ∧ Canon l ∧ l.length ≤ i ∧ Canon l' ∧ l'.length ≤ 2 * i ∧ (∀ x, InR l x ↔ ∃ j, j < i ∧ stepM xs j x) ∧ (∀ x, InR l' x ↔ ∃ j, (j < N ∧ N - 1 - j < i) ∧ stepM xs j x)) ∧ k = N - i ∧ d = [(10, .int .i64 i)] ∧ D = [Blk b 114 (SETc a c l), ISl ER a c l, Blk b' 114 (SETc a' c' l'), ISl ER a' c' l'])
      (D0 := [Blk b 114 (SETc none 0 []), ISl ER none 0 [], Blk b' 114 (SETc none 0 []), ISl ER none 0 []]) rfl (by repeat (first | exact trivial | refine ⟨rfl, ?_⟩)) (by repeat (first | exact Take.nil | (apply Take.keepI; focus ((repeat (first | exact Pick.here | apply Pick.there)); done)) | (apply Take.cons; focus ((repeat (first | exact Pick.here | apply Pick.there)); done)) | (apply Take.pure; (first | assumption | omega)))) ⟨0, [], [], none, none, 0, 0, ⟨by omega, Canon.nil, by simp, Canon.nil, by simp, fun x => by simp [InR.nil], fun x => by simp [InR.nil]⟩, rfl, rfl, rfl⟩ ?_
    rintro _ _ _ ⟨i, l, l', a, a', c, c', ⟨hi, hc, hl, hc', hl', hm, hm'⟩, rfl, rfl, rfl⟩
    repeat' (first
      | (show WL _ _ _ _ _ _ _; first
        | (apply wl_calc; exact rfl; exact True.intro; exact rfl)
        | refine WL.nil ?_
        | (apply wl_ld; exact rfl; exact rfl; ((repeat (first | exact Pick.here | apply Pick.there))); exact rfl; exact rfl)
        | (apply wl_calc; exact rfl; ((try simp only [inR]); omega); exact rfl)
        | (apply wl_store; exact rfl; exact rfl; exact rfl; ((repeat (first | exact Pick.here | apply Pick.there))); exact rfl)
        | (apply wl_ixI; exact rfl; exact rfl; exact rfl; exact rfl; exact rfl; ((repeat (first | exact Pick.here | apply Pick.there))); exact rfl; (first | exact rfl | omega); omega; exact rfl)
        | (apply wl_ldEI; exact rfl; exact rfl; ((repeat (first | exact Pick.here | apply Pick.there))); exact rfl; assumption; exact rfl; exact rfl)
        | (apply wl_fldE; exact rfl; exact rfl; exact rfl; exact rfl; exact rfl)
        | (apply wl_ixO; exact rfl; exact rfl; exact rfl; exact rfl; exact rfl; ((repeat (first | exact Pick.here | apply Pick.there))); exact rfl; (first | exact rfl | omega); omega; exact rfl)
        | (apply wl_ldEO; exact rfl; exact rfl; ((repeat (first | exact Pick.here | apply Pick.there))); exact rfl; assumption; exact rfl; exact rfl)
        | (apply wl_guard; exact rfl; exact rfl; exact rfl; exact rfl)
        | (apply wl_gno; exact rfl; exact rfl; exact rfl; exact rfl; exact rfl)
        | (apply wl_gsplit; exact rfl; exact rfl; exact rfl; exact rfl; all_goals (intro h; (try simp only [reduceCtorEq, not_true_eq_false, not_false_eq_true, decide_eq_true_eq, decide_eq_false_iff_not, Bool.not_eq_true', Bool.not_eq_false', Bool.not_true, Bool.not_false, Int.not_lt, Int.not_le, ne_eq, Decidable.not_not] at h); (try (exfalso; omega))))
        | (apply wl_rem; exact rfl; exact rfl; omega; exact rfl)
        | (apply wl_row; (iterate 7 (exact rfl)); intro b1)
        | (apply wl_box; exact rfl; exact rfl; exact rfl; intro b1)
        | (apply wl_alloc; exact rfl; exact rfl; intro b1)
        | (apply wl_eqlS; exact rfl; exact rfl; exact rfl)
        | (apply wl_neqS; exact rfl; exact rfl; exact rfl))
      | (show WC _ _ _ _ _ _; first
        | refine WC.seq ?_
        | (apply WC.region; exact rfl)
        | (apply WC.condT; exact rfl)
        | (apply WC.condF; exact rfl)
        | (apply WC.cond; exact rfl; all_goals (intro h; (try simp only [reduceCtorEq, not_true_eq_false, not_false_eq_true, decide_eq_true_eq, decide_eq_false_iff_not, Bool.not_eq_true', Bool.not_eq_false', Bool.not_true, Bool.not_false, Int.not_lt, Int.not_le, ne_eq, Decidable.not_not] at h); (try (exfalso; omega))))
        | refine WC.block ?_
        | refine WC.skip ?_
        | refine WC.ret ?_
        | refine WC.exit ?_)
      | refine Qseq.nm ?_
      | refine Qseq.r ?_
      | refine Qseq.x ?_
      | refine Qblock.nm ?_
      | refine Qblock.r ?_
      | (apply Qblock.t; exact rfl)
      | (apply Qblock.f; exact rfl)
      | refine Qmx.r ?_
      | refine Qmx.nm ?_
      | (apply Qmx.f; exact rfl)
      | refine Qmn.r ?_
      | refine Qmn.x ?_
      | refine Qloop.r ?_
      | refine Qloop.x ?_
      | (apply Qfn.one; exact rfl)
      | (apply Qfn.two; exact rfl; exact rfl)
      | (apply Qfn.three; exact rfl; exact rfl; exact rfl)
      | (apply Qfn.cellt; exact rfl; exact rfl; ((repeat (first | exact Pick.here | apply Pick.there))); exact rfl; exact rfl)
      | refine Qfn.zero ?_
      | refine Qfn.zeroN ?_)
    · obtain ⟨q, hq⟩ := getI (i := i) (xs := xs) (by omega)
      obtain ⟨q', hq'⟩ := getI (i := N - 1 - i) (xs := xs) (by omega)
      have hqb := hx q (List.mem_of_getElem? hq)
      have hqb' := hx q' (List.mem_of_getElem? hq')
      have hqi : xs[((N : Int) - 1 - i).toNat]? = some q' := by rw [← hq']; congr 1; omega
      (apply wc_drawHU 14 ([ISl EAct5 xa xc xs]); (focus (simp only [lenN, Nat.succ_eq_add_one, Nat.zero_add, Nat.reduceAdd]; exact rfl)); exact rfl; kernel_rfl; (focus (repeat (first | exact Take.nil | (apply Take.keepI; focus ((repeat (first | exact Pick.here | apply Pick.there)); done)) | (apply Take.cons; focus ((repeat (first | exact Pick.here | apply Pick.there)); done)) | (apply Take.pure; (first | assumption | omega))))))
      repeat' (first
        | (show WA _ _ _ _ _ _ _ _ _ _ _; first
          | (apply wa_pick; (iterate 4 (exact rfl)); (first | exact QuietT.calc rfl True.intro | (apply QuietT.load; exact rfl; exact rfl; ((repeat (first | exact Pick.here | apply Pick.there))); exact rfl) | (apply QuietT.calc; exact rfl; ((try simp only [inR]); omega)) | (apply QuietT.indexI; (iterate 5 (exact rfl)); ((repeat (first | exact Pick.here | apply Pick.there))); exact rfl; (first | exact rfl | omega); omega) | (apply QuietT.loadEI; exact rfl; exact rfl; ((repeat (first | exact Pick.here | apply Pick.there))); exact rfl; assumption; exact rfl) | (apply QuietT.fieldE; exact rfl; exact rfl; exact rfl; exact rfl) | (apply QuietT.indexO; (iterate 5 (exact rfl)); ((repeat (first | exact Pick.here | apply Pick.there))); exact rfl; (first | exact rfl | omega); omega) | (apply QuietT.loadEO; exact rfl; exact rfl; ((repeat (first | exact Pick.here | apply Pick.there))); exact rfl; assumption; exact rfl) | (apply QuietT.loadI; exact rfl; exact rfl; ((repeat (first | exact Pick.here | apply Pick.there))); exact rfl) | (apply QuietT.eqlS; exact rfl; exact rfl) | (apply QuietT.neqS; exact rfl; exact rfl)); kernel_rfl)
          | (apply wa_pickN; (iterate 8 (exact rfl)); kernel_rfl)
          | (apply wa_pickG; (iterate 7 (exact rfl)); (first | exact QuietT.calc rfl True.intro | (apply QuietT.load; exact rfl; exact rfl; ((repeat (first | exact Pick.here | apply Pick.there))); exact rfl) | (apply QuietT.calc; exact rfl; ((try simp only [inR]); omega)) | (apply QuietT.indexI; (iterate 5 (exact rfl)); ((repeat (first | exact Pick.here | apply Pick.there))); exact rfl; (first | exact rfl | omega); omega) | (apply QuietT.loadEI; exact rfl; exact rfl; ((repeat (first | exact Pick.here | apply Pick.there))); exact rfl; assumption; exact rfl) | (apply QuietT.fieldE; exact rfl; exact rfl; exact rfl; exact rfl) | (apply QuietT.indexO; (iterate 5 (exact rfl)); ((repeat (first | exact Pick.here | apply Pick.there))); exact rfl; (first | exact rfl | omega); omega) | (apply QuietT.loadEO; exact rfl; exact rfl; ((repeat (first | exact Pick.here | apply Pick.there))); exact rfl; assumption; exact rfl) | (apply QuietT.loadI; exact rfl; exact rfl; ((repeat (first | exact Pick.here | apply Pick.there))); exact rfl) | (apply QuietT.eqlS; exact rfl; exact rfl) | (apply QuietT.neqS; exact rfl; exact rfl)); kernel_rfl)
          | (apply wa_skipA; (iterate 8 (exact rfl)); kernel_rfl)
          | (apply wa_splitPD; (iterate 4 (exact rfl)); all_goals (intro h; (try simp only [reduceCtorEq, not_true_eq_false, not_false_eq_true, decide_eq_true_eq, decide_eq_false_iff_not, Bool.not_eq_true', Bool.not_eq_false', Bool.not_true, Bool.not_false, Int.not_lt, Int.not_le, ne_eq, Decidable.not_not] at h); (try (exfalso; omega))))
          | (apply wa_splitPE; (iterate 4 (exact rfl)); all_goals (intro h; (try simp only [reduceCtorEq, not_true_eq_false, not_false_eq_true, decide_eq_true_eq, decide_eq_false_iff_not, Bool.not_eq_true', Bool.not_eq_false', Bool.not_true, Bool.not_false, Int.not_lt, Int.not_le, ne_eq, Decidable.not_not] at h); (try (exfalso; omega))))
          | (apply wa_splitP; (iterate 4 (exact rfl)); (all_goals (intro h; (fail_if_success (have hh : h = rfl := rfl)); (fail_if_success (cases h; done)))); (all_goals (try simp only [reduceCtorEq, not_true_eq_false, not_false_eq_true, decide_eq_true_eq, decide_eq_false_iff_not, Bool.not_eq_true', Bool.not_eq_false', Bool.not_true, Bool.not_false, Int.not_lt, Int.not_le, ne_eq, Decidable.not_not] at h)))
          | refine WA.end_ ?_)
        | (show WT _ _ _ _ 0 _ _ _; (refine wt_done ?_ ?_; kernel_rfl))
        | (show WT _ _ _ _ _ _ _ _; (apply wt_pickQ; (iterate 3 (exact rfl)); (first | exact GOK.none | (apply GOK.runL; (iterate 3 (exact rfl)))); exact rfl; (first | exact QuietT.calc rfl True.intro | (apply QuietT.load; exact rfl; exact rfl; ((repeat (first | exact Pick.here | apply Pick.there))); exact rfl) | (apply QuietT.calc; exact rfl; ((try simp only [inR]); omega)) | (apply QuietT.indexI; (iterate 5 (exact rfl)); ((repeat (first | exact Pick.here | apply Pick.there))); exact rfl; (first | exact rfl | omega); omega) | (apply QuietT.loadEI; exact rfl; exact rfl; ((repeat (first | exact Pick.here | apply Pick.there))); exact rfl; assumption; exact rfl) | (apply QuietT.fieldE; exact rfl; exact rfl; exact rfl; exact rfl) | (apply QuietT.indexO; (iterate 5 (exact rfl)); ((repeat (first | exact Pick.here | apply Pick.there))); exact rfl; (first | exact rfl | omega); omega) | (apply QuietT.loadEO; exact rfl; exact rfl; ((repeat (first | exact Pick.here | apply Pick.there))); exact rfl; assumption; exact rfl) | (apply QuietT.loadI; exact rfl; exact rfl; ((repeat (first | exact Pick.here | apply Pick.there))); exact rfl) | (apply QuietT.eqlS; exact rfl; exact rfl) | (apply QuietT.neqS; exact rfl; exact rfl)); kernel_rfl)))
      repeat' (first
        | (show WA _ _ _ _ _ _ _ _ _ _ _; first | (apply wa_pick; (iterate 4 (exact rfl)); (first | exact QuietT.calc rfl True.intro | (apply QuietT.load; exact rfl; exact rfl; ((repeat (first | exact Pick.here | apply Pick.there))); exact rfl) | (apply QuietT.calc; exact rfl; ((try simp only [inR]); omega)) | (apply QuietT.indexI; (iterate 5 (exact rfl)); ((repeat (first | exact Pick.here | apply Pick.there))); exact rfl; (first | exact rfl | omega); omega) | (apply QuietT.loadEI; exact rfl; exact rfl; ((repeat (first | exact Pick.here | apply Pick.there))); exact rfl; assumption; exact rfl) | (apply QuietT.fieldE; exact rfl; exact rfl; exact rfl; exact rfl) | (apply QuietT.indexO; (iterate 5 (exact rfl)); ((repeat (first | exact Pick.here | apply Pick.there))); exact rfl; (first | exact rfl | omega); omega) | (apply QuietT.loadEO; exact rfl; exact rfl; ((repeat (first | exact Pick.here | apply Pick.there))); exact rfl; assumption; exact rfl) | (apply QuietT.loadI; exact rfl; exact rfl; ((repeat (first | exact Pick.here | apply Pick.there))); exact rfl) | (apply QuietT.eqlS; exact rfl; exact rfl) | (apply QuietT.neqS; exact rfl; exact rfl)); kernel_rfl) | (apply wa_pickN; (iterate 8 (exact rfl)); kernel_rfl) | (apply wa_pickG; (iterate 7 (exact rfl)); (first | exact QuietT.calc rfl True.intro | (apply QuietT.load; exact rfl; exact rfl; ((repeat (first | exact Pick.here | apply Pick.there))); exact rfl) | (apply QuietT.calc; exact rfl; ((try simp only [inR]); omega)) | (apply QuietT.indexI; (iterate 5 (exact rfl)); ((repeat (first | exact Pick.here | apply Pick.there))); exact rfl; (first | exact rfl | omega); omega) | (apply QuietT.loadEI; exact rfl; exact rfl; ((repeat (first | exact Pick.here | apply Pick.there))); exact rfl; assumption; exact rfl) | (apply QuietT.fieldE; exact rfl; exact rfl; exact rfl; exact rfl) | (apply QuietT.indexO; (iterate 5 (exact rfl)); ((repeat (first | exact Pick.here | apply Pick.there))); exact rfl; (first | exact rfl | omega); omega) | (apply QuietT.loadEO; exact rfl; exact rfl; ((repeat (first | exact Pick.here | apply Pick.there))); exact rfl; assumption; exact rfl) | (apply QuietT.loadI; exact rfl; exact rfl; ((repeat (first | exact Pick.here | apply Pick.there))); exact rfl) | (apply QuietT.eqlS; exact rfl; exact rfl) | (apply QuietT.neqS; exact rfl; exact rfl)); kernel_rfl) | (apply wa_skipA; (iterate 8 (exact rfl)); kernel_rfl) | (apply wa_splitPD; (iterate 4 (exact rfl)); all_goals (intro h; (try simp only [reduceCtorEq, not_true_eq_false, not_false_eq_true, decide_eq_true_eq, decide_eq_false_iff_not, Bool.not_eq_true', Bool.not_eq_false', Bool.not_true, Bool.not_false, Int.not_lt, Int.not_le, ne_eq, Decidable.not_not] at h); (try (exfalso; omega)))) | (apply wa_splitPE; (iterate 4 (exact rfl)); all_goals (intro h; (try simp only [reduceCtorEq, not_true_eq_false, not_false_eq_true, decide_eq_true_eq, decide_eq_false_iff_not, Bool.not_eq_true', Bool.not_eq_false', Bool.not_true, Bool.not_false, Int.not_lt, Int.not_le, ne_eq, Decidable.not_not] at h); (try (exfalso; omega)))) | (apply wa_splitP; (iterate 4 (exact rfl)); (all_goals (intro h; (fail_if_success (have hh : h = rfl := rfl)); (fail_if_success (cases h; done)))); (all_goals (try simp only [reduceCtorEq, not_true_eq_false, not_false_eq_true, decide_eq_true_eq, decide_eq_false_iff_not, Bool.not_eq_true', Bool.not_eq_false', Bool.not_true, Bool.not_false, Int.not_lt, Int.not_le, ne_eq, Decidable.not_not] at h))) | refine WA.end_ ?_ | (apply wa_fork; exact rfl; kernel_rfl; (try refine ⟨?_, ?_⟩)))
        | (show WT _ _ _ _ 0 _ _ _; refine wt_done ?_ ?_; kernel_rfl)
        | (show WA1 _ _ _ _ _ _ _ _ _ _ _ 11; (refine wa1_act rfl rfl (by (first | exact GOK.none | (apply GOK.runL; (iterate 3 (exact rfl))))) rfl (OpT.alloc rfl fun b1 => ⟨_, Take.ent (by repeat (first | exact Take.nil | (apply Take.cons; focus ((repeat (first | exact Pick.here | apply Pick.there)); done)) | (apply Take.pure; (first | assumption | omega)))), ?_⟩)))
        | (show WA1 _ _ _ _ _ _ _ _ _ _ _ 12; (refine wa1_act rfl rfl (by (first | exact GOK.none | (apply GOK.runL; (iterate 3 (exact rfl))))) rfl (OpT.alloc rfl fun b1 => ⟨_, Take.ent (by repeat (first | exact Take.nil | (apply Take.cons; focus ((repeat (first | exact Pick.here | apply Pick.there)); done)) | (apply Take.pure; (first | assumption | omega)))), ?_⟩)))
        | (show WA1 _ _ _ _ _ _ _ _ _ _ _ 13; (refine wa1_act rfl rfl (by (first | exact GOK.none | (apply GOK.runL; (iterate 3 (exact rfl))))) rfl (OpT.store rfl rfl rfl (by (repeat (first | exact Pick.here | apply Pick.there))) rfl ⟨_, Take.ent (by repeat (first | exact Take.nil | (apply Take.cons; focus ((repeat (first | exact Pick.here | apply Pick.there)); done)) | (apply Take.pure; (first | assumption | omega)))), ?_⟩)))
        | (refine wt_actU rfl rfl rfl (by (first | exact GOK.none | (apply GOK.runL; (iterate 3 (exact rfl))))) rfl (by kernel_rfl) (OpT.store rfl rfl rfl (by (repeat (first | exact Pick.here | apply Pick.there))) rfl ?_)))
      all_goals (repeat' (first | (show WL _ _ _ _ _ _ _; first | (apply wl_calc; exact rfl; exact True.intro; exact rfl) | refine WL.nil ?_ | (apply wl_ld; exact rfl; exact rfl; ((repeat (first | exact Pick.here | apply Pick.there))); exact rfl; exact rfl) | (apply wl_calc; exact rfl; ((try simp only [inR]); omega); exact rfl) | (apply wl_store; exact rfl; exact rfl; exact rfl; ((repeat (first | exact Pick.here | apply Pick.there))); exact rfl) | (apply wl_ixI; exact rfl; exact rfl; exact rfl; exact rfl; exact rfl; ((repeat (first | exact Pick.here | apply Pick.there))); exact rfl; (first | exact rfl | omega); omega; exact rfl) | (apply wl_ldEI; exact rfl; exact rfl; ((repeat (first | exact Pick.here | apply Pick.there))); exact rfl; assumption; exact rfl; exact rfl) | (apply wl_fldE; exact rfl; exact rfl; exact rfl; exact rfl; exact rfl) | (apply wl_ixO; exact rfl; exact rfl; exact rfl; exact rfl; exact rfl; ((repeat (first | exact Pick.here | apply Pick.there))); exact rfl; (first | exact rfl | omega); omega; exact rfl) | (apply wl_ldEO; exact rfl; exact rfl; ((repeat (first | exact Pick.here | apply Pick.there))); exact rfl; assumption; exact rfl; exact rfl) | (apply wl_guard; exact rfl; exact rfl; exact rfl; exact rfl) | (apply wl_gno; exact rfl; exact rfl; exact rfl; exact rfl; exact rfl) | (apply wl_gsplit; exact rfl; exact rfl; exact rfl; exact rfl; all_goals (intro h; (try simp only [reduceCtorEq, not_true_eq_false, not_false_eq_true, decide_eq_true_eq, decide_eq_false_iff_not, Bool.not_eq_true', Bool.not_eq_false', Bool.not_true, Bool.not_false, Int.not_lt, Int.not_le, ne_eq, Decidable.not_not] at h); (try (exfalso; omega)))) | (apply wl_rem; exact rfl; exact rfl; omega; exact rfl) | (apply wl_row; (iterate 7 (exact rfl)); intro b1) | (apply wl_box; exact rfl; exact rfl; exact rfl; intro b1) | (apply wl_alloc; exact rfl; exact rfl; intro b1) | (apply wl_eqlS; exact rfl; exact rfl; exact rfl) | (apply wl_neqS; exact rfl; exact rfl; exact rfl)) | (show WC _ _ _ _ _ _; first | refine WC.seq ?_ | (apply WC.region; exact rfl) | (apply WC.condT; exact rfl) | (apply WC.condF; exact rfl) | (apply WC.cond; exact rfl; all_goals (intro h; (try simp only [reduceCtorEq, not_true_eq_false, not_false_eq_true, decide_eq_true_eq, decide_eq_false_iff_not, Bool.not_eq_true', Bool.not_eq_false', Bool.not_true, Bool.not_false, Int.not_lt, Int.not_le, ne_eq, Decidable.not_not] at h); (try (exfalso; omega)))) | refine WC.block ?_ | refine WC.skip ?_ | refine WC.ret ?_ | refine WC.exit ?_) | refine Qseq.nm ?_ | refine Qseq.r ?_ | refine Qseq.x ?_ | refine Qblock.nm ?_ | refine Qblock.r ?_ | (apply Qblock.t; exact rfl) | (apply Qblock.f; exact rfl) | refine Qmx.r ?_ | refine Qmx.nm ?_ | (apply Qmx.f; exact rfl) | refine Qmn.r ?_ | refine Qmn.x ?_ | refine Qloop.r ?_ | refine Qloop.x ?_ | (apply Qfn.one; exact rfl) | (apply Qfn.two; exact rfl; exact rfl) | (apply Qfn.three; exact rfl; exact rfl; exact rfl) | (apply Qfn.cellt; exact rfl; exact rfl; ((repeat (first | exact Pick.here | apply Pick.there))); exact rfl; exact rfl) | refine Qfn.zero ?_ | refine Qfn.zeroN ?_))
      all_goals (
        (apply wc_drawU; (focus (simp only [lenN, Nat.succ_eq_add_one, Nat.zero_add, Nat.reduceAdd]; exact rfl)); exact rfl; kernel_rfl)
        repeat' (first
          | (show WA _ _ _ _ _ _ _ _ _ _ _; first
            | (apply wa_pick; (iterate 4 (exact rfl)); (first | exact QuietT.calc rfl True.intro | (apply QuietT.load; exact rfl; exact rfl; ((repeat (first | exact Pick.here | apply Pick.there))); exact rfl) | (apply QuietT.calc; exact rfl; ((try simp only [inR]); omega)) | (apply QuietT.indexI; (iterate 5 (exact rfl)); ((repeat (first | exact Pick.here | apply Pick.there))); exact rfl; (first | exact rfl | omega); omega) | (apply QuietT.loadEI; exact rfl; exact rfl; ((repeat (first | exact Pick.here | apply Pick.there))); exact rfl; assumption; exact rfl) | (apply QuietT.fieldE; exact rfl; exact rfl; exact rfl; exact rfl) | (apply QuietT.indexO; (iterate 5 (exact rfl)); ((repeat (first | exact Pick.here | apply Pick.there))); exact rfl; (first | exact rfl | omega); omega) | (apply QuietT.loadEO; exact rfl; exact rfl; ((repeat (first | exact Pick.here | apply Pick.there))); exact rfl; assumption; exact rfl) | (apply QuietT.loadI; exact rfl; exact rfl; ((repeat (first | exact Pick.here | apply Pick.there))); exact rfl) | (apply QuietT.eqlS; exact rfl; exact rfl) | (apply QuietT.neqS; exact rfl; exact rfl)); kernel_rfl)
            | (apply wa_pickN; (iterate 8 (exact rfl)); kernel_rfl)
            | (apply wa_pickG; (iterate 7 (exact rfl)); (first | exact QuietT.calc rfl True.intro | (apply QuietT.load; exact rfl; exact rfl; ((repeat (first | exact Pick.here | apply Pick.there))); exact rfl) | (apply QuietT.calc; exact rfl; ((try simp only [inR]); omega)) | (apply QuietT.indexI; (iterate 5 (exact rfl)); ((repeat (first | exact Pick.here | apply Pick.there))); exact rfl; (first | exact rfl | omega); omega) | (apply QuietT.loadEI; exact rfl; exact rfl; ((repeat (first | exact Pick.here | apply Pick.there))); exact rfl; assumption; exact rfl) | (apply QuietT.fieldE; exact rfl; exact rfl; exact rfl; exact rfl) | (apply QuietT.indexO; (iterate 5 (exact rfl)); ((repeat (first | exact Pick.here | apply Pick.there))); exact rfl; (first | exact rfl | omega); omega) | (apply QuietT.loadEO; exact rfl; exact rfl; ((repeat (first | exact Pick.here | apply Pick.there))); exact rfl; assumption; exact rfl) | (apply QuietT.loadI; exact rfl; exact rfl; ((repeat (first | exact Pick.here | apply Pick.there))); exact rfl) | (apply QuietT.eqlS; exact rfl; exact rfl) | (apply QuietT.neqS; exact rfl; exact rfl)); kernel_rfl)
            | (apply wa_skipA; (iterate 8 (exact rfl)); kernel_rfl)
            | (apply wa_splitPD; (iterate 4 (exact rfl)); all_goals (intro h; (try simp only [reduceCtorEq, not_true_eq_false, not_false_eq_true, decide_eq_true_eq, decide_eq_false_iff_not, Bool.not_eq_true', Bool.not_eq_false', Bool.not_true, Bool.not_false, Int.not_lt, Int.not_le, ne_eq, Decidable.not_not] at h); (try (exfalso; omega))))
            | (apply wa_splitPE; (iterate 4 (exact rfl)); all_goals (intro h; (try simp only [reduceCtorEq, not_true_eq_false, not_false_eq_true, decide_eq_true_eq, decide_eq_false_iff_not, Bool.not_eq_true', Bool.not_eq_false', Bool.not_true, Bool.not_false, Int.not_lt, Int.not_le, ne_eq, Decidable.not_not] at h); (try (exfalso; omega))))
            | (apply wa_splitP; (iterate 4 (exact rfl)); (all_goals (intro h; (fail_if_success (have hh : h = rfl := rfl)); (fail_if_success (cases h; done)))); (all_goals (try simp only [reduceCtorEq, not_true_eq_false, not_false_eq_true, decide_eq_true_eq, decide_eq_false_iff_not, Bool.not_eq_true', Bool.not_eq_false', Bool.not_true, Bool.not_false, Int.not_lt, Int.not_le, ne_eq, Decidable.not_not] at h)))
            | refine WA.end_ ?_)
          | (show WT _ _ _ _ 0 _ _ _; (refine wt_done ?_ ?_; kernel_rfl))
          | (show WT _ _ _ _ _ _ _ _; (apply wt_pickQ; (iterate 3 (exact rfl)); (first | exact GOK.none | (apply GOK.runL; (iterate 3 (exact rfl)))); exact rfl; (first | exact QuietT.calc rfl True.intro | (apply QuietT.load; exact rfl; exact rfl; ((repeat (first | exact Pick.here | apply Pick.there))); exact rfl) | (apply QuietT.calc; exact rfl; ((try simp only [inR]); omega)) | (apply QuietT.indexI; (iterate 5 (exact rfl)); ((repeat (first | exact Pick.here | apply Pick.there))); exact rfl; (first | exact rfl | omega); omega) | (apply QuietT.loadEI; exact rfl; exact rfl; ((repeat (first | exact Pick.here | apply Pick.there))); exact rfl; assumption; exact rfl) | (apply QuietT.fieldE; exact rfl; exact rfl; exact rfl; exact rfl) | (apply QuietT.indexO; (iterate 5 (exact rfl)); ((repeat (first | exact Pick.here | apply Pick.there))); exact rfl; (first | exact rfl | omega); omega) | (apply QuietT.loadEO; exact rfl; exact rfl; ((repeat (first | exact Pick.here | apply Pick.there))); exact rfl; assumption; exact rfl) | (apply QuietT.loadI; exact rfl; exact rfl; ((repeat (first | exact Pick.here | apply Pick.there))); exact rfl) | (apply QuietT.eqlS; exact rfl; exact rfl) | (apply QuietT.neqS; exact rfl; exact rfl)); kernel_rfl))))
      all_goals ((refine wa_callU rfl rfl rfl (by (first | exact GOK.none | (apply GOK.runL; (iterate 3 (exact rfl))))) rfl rfl rfl (by kernel_rfl) (withinP_spec q.frm 90 hqb.1 (by omega)) (by repeat (first | exact Take.nil | (apply Take.keepI; focus ((repeat (first | exact Pick.here | apply Pick.there)); done)) | (apply Take.cons; focus ((repeat (first | exact Pick.here | apply Pick.there)); done)) | (apply Take.pure; (first | assumption | omega)))) ?_))
      all_goals rintro _ _ ⟨rfl, rfl⟩
      all_goals (refine ⟨[], Take.ent0 (by repeat (first | exact Take.nil | (apply Take.keepI; focus ((repeat (first | exact Pick.here | apply Pick.there)); done)) | (apply Take.cons; focus ((repeat (first | exact Pick.here | apply Pick.there)); done)) | (apply Take.pure; (first | assumption | omega)))), ?_⟩)
      all_goals (repeat' (first | (show WA _ _ _ _ _ _ _ _ _ _ _; first | (apply wa_pick; (iterate 4 (exact rfl)); (first | exact QuietT.calc rfl True.intro | (apply QuietT.load; exact rfl; exact rfl; ((repeat (first | exact Pick.here | apply Pick.there))); exact rfl) | (apply QuietT.calc; exact rfl; ((try simp only [inR]); omega)) | (apply QuietT.indexI; (iterate 5 (exact rfl)); ((repeat (first | exact Pick.here | apply Pick.there))); exact rfl; (first | exact rfl | omega); omega) | (apply QuietT.loadEI; exact rfl; exact rfl; ((repeat (first | exact Pick.here | apply Pick.there))); exact rfl; assumption; exact rfl) | (apply QuietT.fieldE; exact rfl; exact rfl; exact rfl; exact rfl) | (apply QuietT.indexO; (iterate 5 (exact rfl)); ((repeat (first | exact Pick.here | apply Pick.there))); exact rfl; (first | exact rfl | omega); omega) | (apply QuietT.loadEO; exact rfl; exact rfl; ((repeat (first | exact Pick.here | apply Pick.there))); exact rfl; assumption; exact rfl) | (apply QuietT.loadI; exact rfl; exact rfl; ((repeat (first | exact Pick.here | apply Pick.there))); exact rfl) | (apply QuietT.eqlS; exact rfl; exact rfl) | (apply QuietT.neqS; exact rfl; exact rfl)); kernel_rfl) | (apply wa_pickN; (iterate 8 (exact rfl)); kernel_rfl) | (apply wa_pickG; (iterate 7 (exact rfl)); (first | exact QuietT.calc rfl True.intro | (apply QuietT.load; exact rfl; exact rfl; ((repeat (first | exact Pick.here | apply Pick.there))); exact rfl) | (apply QuietT.calc; exact rfl; ((try simp only [inR]); omega)) | (apply QuietT.indexI; (iterate 5 (exact rfl)); ((repeat (first | exact Pick.here | apply Pick.there))); exact rfl; (first | exact rfl | omega); omega) | (apply QuietT.loadEI; exact rfl; exact rfl; ((repeat (first | exact Pick.here | apply Pick.there))); exact rfl; assumption; exact rfl) | (apply QuietT.fieldE; exact rfl; exact rfl; exact rfl; exact rfl) | (apply QuietT.indexO; (iterate 5 (exact rfl)); ((repeat (first | exact Pick.here | apply Pick.there))); exact rfl; (first | exact rfl | omega); omega) | (apply QuietT.loadEO; exact rfl; exact rfl; ((repeat (first | exact Pick.here | apply Pick.there))); exact rfl; assumption; exact rfl) | (apply QuietT.loadI; exact rfl; exact rfl; ((repeat (first | exact Pick.here | apply Pick.there))); exact rfl) | (apply QuietT.eqlS; exact rfl; exact rfl) | (apply QuietT.neqS; exact rfl; exact rfl)); kernel_rfl) | (apply wa_skipA; (iterate 8 (exact rfl)); kernel_rfl) | (apply wa_splitPD; (iterate 4 (exact rfl)); all_goals (intro h; (try simp only [reduceCtorEq, not_true_eq_false, not_false_eq_true, decide_eq_true_eq, decide_eq_false_iff_not, Bool.not_eq_true', Bool.not_eq_false', Bool.not_true, Bool.not_false, Int.not_lt, Int.not_le, ne_eq, Decidable.not_not] at h); (try (exfalso; omega)))) | (apply wa_splitPE; (iterate 4 (exact rfl)); all_goals (intro h; (try simp only [reduceCtorEq, not_true_eq_false, not_false_eq_true, decide_eq_true_eq, decide_eq_false_iff_not, Bool.not_eq_true', Bool.not_eq_false', Bool.not_true, Bool.not_false, Int.not_lt, Int.not_le, ne_eq, Decidable.not_not] at h); (try (exfalso; omega)))) | (apply wa_splitP; (iterate 4 (exact rfl)); (all_goals (intro h; (fail_if_success (have hh : h = rfl := rfl)); (fail_if_success (cases h; done)))); (all_goals (try simp only [reduceCtorEq, not_true_eq_false, not_false_eq_true, decide_eq_true_eq, decide_eq_false_iff_not, Bool.not_eq_true', Bool.not_eq_false', Bool.not_true, Bool.not_false, Int.not_lt, Int.not_le, ne_eq, Decidable.not_not] at h))) | refine WA.end_ ?_) | (show WT _ _ _ _ 0 _ _ _; (refine wt_done ?_ ?_; kernel_rfl)) | (show WT _ _ _ _ _ _ _ _; (apply wt_pickQ; (iterate 3 (exact rfl)); (first | exact GOK.none | (apply GOK.runL; (iterate 3 (exact rfl)))); exact rfl; (first | exact QuietT.calc rfl True.intro | (apply QuietT.load; exact rfl; exact rfl; ((repeat (first | exact Pick.here | apply Pick.there))); exact rfl) | (apply QuietT.calc; exact rfl; ((try simp only [inR]); omega)) | (apply QuietT.indexI; (iterate 5 (exact rfl)); ((repeat (first | exact Pick.here | apply Pick.there))); exact rfl; (first | exact rfl | omega); omega) | (apply QuietT.loadEI; exact rfl; exact rfl; ((repeat (first | exact Pick.here | apply Pick.there))); exact rfl; assumption; exact rfl) | (apply QuietT.fieldE; exact rfl; exact rfl; exact rfl; exact rfl) | (apply QuietT.indexO; (iterate 5 (exact rfl)); ((repeat (first | exact Pick.here | apply Pick.there))); exact rfl; (first | exact rfl | omega); omega) | (apply QuietT.loadEO; exact rfl; exact rfl; ((repeat (first | exact Pick.here | apply Pick.there))); exact rfl; assumption; exact rfl) | (apply QuietT.loadI; exact rfl; exact rfl; ((repeat (first | exact Pick.here | apply Pick.there))); exact rfl) | (apply QuietT.eqlS; exact rfl; exact rfl) | (apply QuietT.neqS; exact rfl; exact rfl)); kernel_rfl))))
      all_goals ((refine wa_callU rfl rfl rfl (by (first | exact GOK.none | (apply GOK.runL; (iterate 3 (exact rfl))))) rfl rfl rfl (by kernel_rfl) (withinP_spec q'.frm 90 hqb'.1 (by omega)) (by repeat (first | exact Take.nil | (apply Take.keepI; focus ((repeat (first | exact Pick.here | apply Pick.there)); done)) | (apply Take.cons; focus ((repeat (first | exact Pick.here | apply Pick.there)); done)) | (apply Take.pure; (first | assumption | omega)))) ?_))
      all_goals rintro _ _ ⟨rfl, rfl⟩
      all_goals (refine ⟨[], Take.ent0 (by repeat (first | exact Take.nil | (apply Take.keepI; focus ((repeat (first | exact Pick.here | apply Pick.there)); done)) | (apply Take.cons; focus ((repeat (first | exact Pick.here | apply Pick.there)); done)) | (apply Take.pure; (first | assumption | omega)))), ?_⟩)
      all_goals (repeat' (first | (show WA _ _ _ _ _ _ _ _ _ _ _; first | (apply wa_pick; (iterate 4 (exact rfl)); (first | exact QuietT.calc rfl True.intro | (apply QuietT.load; exact rfl; exact rfl; ((repeat (first | exact Pick.here | apply Pick.there))); exact rfl) | (apply QuietT.calc; exact rfl; ((try simp only [inR]); omega)) | (apply QuietT.indexI; (iterate 5 (exact rfl)); ((repeat (first | exact Pick.here | apply Pick.there))); exact rfl; (first | exact rfl | omega); omega) | (apply QuietT.loadEI; exact rfl; exact rfl; ((repeat (first | exact Pick.here | apply Pick.there))); exact rfl; assumption; exact rfl) | (apply QuietT.fieldE; exact rfl; exact rfl; exact rfl; exact rfl) | (apply QuietT.indexO; (iterate 5 (exact rfl)); ((repeat (first | exact Pick.here | apply Pick.there))); exact rfl; (first | exact rfl | omega); omega) | (apply QuietT.loadEO; exact rfl; exact rfl; ((repeat (first | exact Pick.here | apply Pick.there))); exact rfl; assumption; exact rfl) | (apply QuietT.loadI; exact rfl; exact rfl; ((repeat (first | exact Pick.here | apply Pick.there))); exact rfl) | (apply QuietT.eqlS; exact rfl; exact rfl) | (apply QuietT.neqS; exact rfl; exact rfl)); kernel_rfl) | (apply wa_pickN; (iterate 8 (exact rfl)); kernel_rfl) | (apply wa_pickG; (iterate 7 (exact rfl)); (first | exact QuietT.calc rfl True.intro | (apply QuietT.load; exact rfl; exact rfl; ((repeat (first | exact Pick.here | apply Pick.there))); exact rfl) | (apply QuietT.calc; exact rfl; ((try simp only [inR]); omega)) | (apply QuietT.indexI; (iterate 5 (exact rfl)); ((repeat (first | exact Pick.here | apply Pick.there))); exact rfl; (first | exact rfl | omega); omega) | (apply QuietT.loadEI; exact rfl; exact rfl; ((repeat (first | exact Pick.here | apply Pick.there))); exact rfl; assumption; exact rfl) | (apply QuietT.fieldE; exact rfl; exact rfl; exact rfl; exact rfl) | (apply QuietT.indexO; (iterate 5 (exact rfl)); ((repeat (first | exact Pick.here | apply Pick.there))); exact rfl; (first | exact rfl | omega); omega) | (apply QuietT.loadEO; exact rfl; exact rfl; ((repeat (first | exact Pick.here | apply Pick.there))); exact rfl; assumption; exact rfl) | (apply QuietT.loadI; exact rfl; exact rfl; ((repeat (first | exact Pick.here | apply Pick.there))); exact rfl) | (apply QuietT.eqlS; exact rfl; exact rfl) | (apply QuietT.neqS; exact rfl; exact rfl)); kernel_rfl) | (apply wa_skipA; (iterate 8 (exact rfl)); kernel_rfl) | (apply wa_splitPD; (iterate 4 (exact rfl)); all_goals (intro h; (try simp only [reduceCtorEq, not_true_eq_false, not_false_eq_true, decide_eq_true_eq, decide_eq_false_iff_not, Bool.not_eq_true', Bool.not_eq_false', Bool.not_true, Bool.not_false, Int.not_lt, Int.not_le, ne_eq, Decidable.not_not] at h); (try (exfalso; omega)))) | (apply wa_splitPE; (iterate 4 (exact rfl)); all_goals (intro h; (try simp only [reduceCtorEq, not_true_eq_false, not_false_eq_true, decide_eq_true_eq, decide_eq_false_iff_not, Bool.not_eq_true', Bool.not_eq_false', Bool.not_true, Bool.not_false, Int.not_lt, Int.not_le, ne_eq, Decidable.not_not] at h); (try (exfalso; omega)))) | (apply wa_splitP; (iterate 4 (exact rfl)); (all_goals (intro h; (fail_if_success (have hh : h = rfl := rfl)); (fail_if_success (cases h; done)))); (all_goals (try simp only [reduceCtorEq, not_true_eq_false, not_false_eq_true, decide_eq_true_eq, decide_eq_false_iff_not, Bool.not_eq_true', Bool.not_eq_false', Bool.not_true, Bool.not_false, Int.not_lt, Int.not_le, ne_eq, Decidable.not_not] at h))) | refine WA.end_ ?_) | (show WT _ _ _ _ 0 _ _ _; (refine wt_done ?_ ?_; kernel_rfl)) | (show WT _ _ _ _ _ _ _ _; (apply wt_pickQ; (iterate 3 (exact rfl)); (first | exact GOK.none | (apply GOK.runL; (iterate 3 (exact rfl)))); exact rfl; (first | exact QuietT.calc rfl True.intro | (apply QuietT.load; exact rfl; exact rfl; ((repeat (first | exact Pick.here | apply Pick.there))); exact rfl) | (apply QuietT.calc; exact rfl; ((try simp only [inR]); omega)) | (apply QuietT.indexI; (iterate 5 (exact rfl)); ((repeat (first | exact Pick.here | apply Pick.there))); exact rfl; (first | exact rfl | omega); omega) | (apply QuietT.loadEI; exact rfl; exact rfl; ((repeat (first | exact Pick.here | apply Pick.there))); exact rfl; assumption; exact rfl) | (apply QuietT.fieldE; exact rfl; exact rfl; exact rfl; exact rfl) | (apply QuietT.indexO; (iterate 5 (exact rfl)); ((repeat (first | exact Pick.here | apply Pick.there))); exact rfl; (first | exact rfl | omega); omega) | (apply QuietT.loadEO; exact rfl; exact rfl; ((repeat (first | exact Pick.here | apply Pick.there))); exact rfl; assumption; exact rfl) | (apply QuietT.loadI; exact rfl; exact rfl; ((repeat (first | exact Pick.here | apply Pick.there))); exact rfl) | (apply QuietT.eqlS; exact rfl; exact rfl) | (apply QuietT.neqS; exact rfl; exact rfl)); kernel_rfl))))
      all_goals (repeat' (first | (show WL _ _ _ _ _ _ _; first | (apply wl_calc; exact rfl; exact True.intro; exact rfl) | refine WL.nil ?_ | (apply wl_ld; exact rfl; exact rfl; ((repeat (first | exact Pick.here | apply Pick.there))); exact rfl; exact rfl) | (apply wl_calc; exact rfl; ((try simp only [inR]); omega); exact rfl) | (apply wl_store; exact rfl; exact rfl; exact rfl; ((repeat (first | exact Pick.here | apply Pick.there))); exact rfl) | (apply wl_ixI; exact rfl; exact rfl; exact rfl; exact rfl; exact rfl; ((repeat (first | exact Pick.here | apply Pick.there))); exact rfl; (first | exact rfl | omega); omega; exact rfl) | (apply wl_ldEI; exact rfl; exact rfl; ((repeat (first | exact Pick.here | apply Pick.there))); exact rfl; assumption; exact rfl; exact rfl) | (apply wl_fldE; exact rfl; exact rfl; exact rfl; exact rfl; exact rfl) | (apply wl_ixO; exact rfl; exact rfl; exact rfl; exact rfl; exact rfl; ((repeat (first | exact Pick.here | apply Pick.there))); exact rfl; (first | exact rfl | omega); omega; exact rfl) | (apply wl_ldEO; exact rfl; exact rfl; ((repeat (first | exact Pick.here | apply Pick.there))); exact rfl; assumption; exact rfl; exact rfl) | (apply wl_guard; exact rfl; exact rfl; exact rfl; exact rfl) | (apply wl_gno; exact rfl; exact rfl; exact rfl; exact rfl; exact rfl) | (apply wl_gsplit; exact rfl; exact rfl; exact rfl; exact rfl; all_goals (intro h; (try simp only [reduceCtorEq, not_true_eq_false, not_false_eq_true, decide_eq_true_eq, decide_eq_false_iff_not, Bool.not_eq_true', Bool.not_eq_false', Bool.not_true, Bool.not_false, Int.not_lt, Int.not_le, ne_eq, Decidable.not_not] at h); (try (exfalso; omega)))) | (apply wl_rem; exact rfl; exact rfl; omega; exact rfl) | (apply wl_row; (iterate 7 (exact rfl)); intro b1) | (apply wl_box; exact rfl; exact rfl; exact rfl; intro b1) | (apply wl_alloc; exact rfl; exact rfl; intro b1) | (apply wl_eqlS; exact rfl; exact rfl; exact rfl) | (apply wl_neqS; exact rfl; exact rfl; exact rfl)) | (show WC _ _ _ _ _ _; first | refine WC.seq ?_ | (apply WC.region; exact rfl) | (apply WC.condT; exact rfl) | (apply WC.condF; exact rfl) | (apply WC.cond; exact rfl; all_goals (intro h; (try simp only [reduceCtorEq, not_true_eq_false, not_false_eq_true, decide_eq_true_eq, decide_eq_false_iff_not, Bool.not_eq_true', Bool.not_eq_false', Bool.not_true, Bool.not_false, Int.not_lt, Int.not_le, ne_eq, Decidable.not_not] at h); (try (exfalso; omega)))) | refine WC.block ?_ | refine WC.skip ?_ | refine WC.ret ?_ | refine WC.exit ?_) | refine Qseq.nm ?_ | refine Qseq.r ?_ | refine Qseq.x ?_ | refine Qblock.nm ?_ | refine Qblock.r ?_ | (apply Qblock.t; exact rfl) | (apply Qblock.f; exact rfl) | refine Qmx.r ?_ | refine Qmx.nm ?_ | (apply Qmx.f; exact rfl) | refine Qmn.r ?_ | refine Qmn.x ?_ | refine Qloop.r ?_ | refine Qloop.x ?_ | (apply Qfn.one; exact rfl) | (apply Qfn.two; exact rfl; exact rfl) | (apply Qfn.three; exact rfl; exact rfl; exact rfl) | (apply Qfn.cellt; exact rfl; exact rfl; ((repeat (first | exact Pick.here | apply Pick.there))); exact rfl; exact rfl) | refine Qfn.zero ?_ | refine Qfn.zeroN ?_))
      all_goals ((refine wl_call rfl rfl rfl (withinP_spec q.to 12 hqb.2 (by omega)) (by repeat (first | exact Take.nil | (apply Take.keepI; focus ((repeat (first | exact Pick.here | apply Pick.there)); done)) | (apply Take.cons; focus ((repeat (first | exact Pick.here | apply Pick.there)); done)) | (apply Take.pure; (first | assumption | omega)))) ?_))
      all_goals rintro _ _ ⟨rfl, rfl⟩
      all_goals (repeat' (first | (show WL _ _ _ _ _ _ _; first | (apply wl_calc; exact rfl; exact True.intro; exact rfl) | refine WL.nil ?_ | (apply wl_ld; exact rfl; exact rfl; ((repeat (first | exact Pick.here | apply Pick.there))); exact rfl; exact rfl) | (apply wl_calc; exact rfl; ((try simp only [inR]); omega); exact rfl) | (apply wl_store; exact rfl; exact rfl; exact rfl; ((repeat (first | exact Pick.here | apply Pick.there))); exact rfl) | (apply wl_ixI; exact rfl; exact rfl; exact rfl; exact rfl; exact rfl; ((repeat (first | exact Pick.here | apply Pick.there))); exact rfl; (first | exact rfl | omega); omega; exact rfl) | (apply wl_ldEI; exact rfl; exact rfl; ((repeat (first | exact Pick.here | apply Pick.there))); exact rfl; assumption; exact rfl; exact rfl) | (apply wl_fldE; exact rfl; exact rfl; exact rfl; exact rfl; exact rfl) | (apply wl_ixO; exact rfl; exact rfl; exact rfl; exact rfl; exact rfl; ((repeat (first | exact Pick.here | apply Pick.there))); exact rfl; (first | exact rfl | omega); omega; exact rfl) | (apply wl_ldEO; exact rfl; exact rfl; ((repeat (first | exact Pick.here | apply Pick.there))); exact rfl; assumption; exact rfl; exact rfl) | (apply wl_guard; exact rfl; exact rfl; exact rfl; exact rfl) | (apply wl_gno; exact rfl; exact rfl; exact rfl; exact rfl; exact rfl) | (apply wl_gsplit; exact rfl; exact rfl; exact rfl; exact rfl; all_goals (intro h; (try simp only [reduceCtorEq, not_true_eq_false, not_false_eq_true, decide_eq_true_eq, decide_eq_false_iff_not, Bool.not_eq_true', Bool.not_eq_false', Bool.not_true, Bool.not_false, Int.not_lt, Int.not_le, ne_eq, Decidable.not_not] at h); (try (exfalso; omega)))) | (apply wl_rem; exact rfl; exact rfl; omega; exact rfl) | (apply wl_row; (iterate 7 (exact rfl)); intro b1) | (apply wl_box; exact rfl; exact rfl; exact rfl; intro b1) | (apply wl_alloc; exact rfl; exact rfl; intro b1) | (apply wl_eqlS; exact rfl; exact rfl; exact rfl) | (apply wl_neqS; exact rfl; exact rfl; exact rfl)) | (show WC _ _ _ _ _ _; first | refine WC.seq ?_ | (apply WC.region; exact rfl) | (apply WC.condT; exact rfl) | (apply WC.condF; exact rfl) | (apply WC.cond; exact rfl; all_goals (intro h; (try simp only [reduceCtorEq, not_true_eq_false, not_false_eq_true, decide_eq_true_eq, decide_eq_false_iff_not, Bool.not_eq_true', Bool.not_eq_false', Bool.not_true, Bool.not_false, Int.not_lt, Int.not_le, ne_eq, Decidable.not_not] at h); (try (exfalso; omega)))) | refine WC.block ?_ | refine WC.skip ?_ | refine WC.ret ?_ | refine WC.exit ?_) | refine Qseq.nm ?_ | refine Qseq.r ?_ | refine Qseq.x ?_ | refine Qblock.nm ?_ | refine Qblock.r ?_ | (apply Qblock.t; exact rfl) | (apply Qblock.f; exact rfl) | refine Qmx.r ?_ | refine Qmx.nm ?_ | (apply Qmx.f; exact rfl) | refine Qmn.r ?_ | refine Qmn.x ?_ | refine Qloop.r ?_ | refine Qloop.x ?_ | (apply Qfn.one; exact rfl) | (apply Qfn.two; exact rfl; exact rfl) | (apply Qfn.three; exact rfl; exact rfl; exact rfl) | (apply Qfn.cellt; exact rfl; exact rfl; ((repeat (first | exact Pick.here | apply Pick.there))); exact rfl; exact rfl) | refine Qfn.zero ?_ | refine Qfn.zeroN ?_))
      all_goals ((refine wl_call rfl rfl rfl (sadd_spec (l := l) (by omega) hc (q.frm % 90) (q.frm % 90 + q.to % 12)) (by repeat (first | exact Take.nil | (apply Take.keepI; focus ((repeat (first | exact Pick.here | apply Pick.there)); done)) | (apply Take.cons; focus ((repeat (first | exact Pick.here | apply Pick.there)); done)) | (apply Take.pure; (first | assumption | omega)))) ?_))
      all_goals rintro _ _ ⟨rfl, a1, c1, rfl⟩
      all_goals (repeat' (first | (show WL _ _ _ _ _ _ _; first | (apply wl_calc; exact rfl; exact True.intro; exact rfl) | refine WL.nil ?_ | (apply wl_ld; exact rfl; exact rfl; ((repeat (first | exact Pick.here | apply Pick.there))); exact rfl; exact rfl) | (apply wl_calc; exact rfl; ((try simp only [inR]); omega); exact rfl) | (apply wl_store; exact rfl; exact rfl; exact rfl; ((repeat (first | exact Pick.here | apply Pick.there))); exact rfl) | (apply wl_ixI; exact rfl; exact rfl; exact rfl; exact rfl; exact rfl; ((repeat (first | exact Pick.here | apply Pick.there))); exact rfl; (first | exact rfl | omega); omega; exact rfl) | (apply wl_ldEI; exact rfl; exact rfl; ((repeat (first | exact Pick.here | apply Pick.there))); exact rfl; assumption; exact rfl; exact rfl) | (apply wl_fldE; exact rfl; exact rfl; exact rfl; exact rfl; exact rfl) | (apply wl_ixO; exact rfl; exact rfl; exact rfl; exact rfl; exact rfl; ((repeat (first | exact Pick.here | apply Pick.there))); exact rfl; (first | exact rfl | omega); omega; exact rfl) | (apply wl_ldEO; exact rfl; exact rfl; ((repeat (first | exact Pick.here | apply Pick.there))); exact rfl; assumption; exact rfl; exact rfl) | (apply wl_guard; exact rfl; exact rfl; exact rfl; exact rfl) | (apply wl_gno; exact rfl; exact rfl; exact rfl; exact rfl; exact rfl) | (apply wl_gsplit; exact rfl; exact rfl; exact rfl; exact rfl; all_goals (intro h; (try simp only [reduceCtorEq, not_true_eq_false, not_false_eq_true, decide_eq_true_eq, decide_eq_false_iff_not, Bool.not_eq_true', Bool.not_eq_false', Bool.not_true, Bool.not_false, Int.not_lt, Int.not_le, ne_eq, Decidable.not_not] at h); (try (exfalso; omega)))) | (apply wl_rem; exact rfl; exact rfl; omega; exact rfl) | (apply wl_row; (iterate 7 (exact rfl)); intro b1) | (apply wl_box; exact rfl; exact rfl; exact rfl; intro b1) | (apply wl_alloc; exact rfl; exact rfl; intro b1) | (apply wl_eqlS; exact rfl; exact rfl; exact rfl) | (apply wl_neqS; exact rfl; exact rfl; exact rfl)) | (show WC _ _ _ _ _ _; first | refine WC.seq ?_ | (apply WC.region; exact rfl) | (apply WC.condT; exact rfl) | (apply WC.condF; exact rfl) | (apply WC.cond; exact rfl; all_goals (intro h; (try simp only [reduceCtorEq, not_true_eq_false, not_false_eq_true, decide_eq_true_eq, decide_eq_false_iff_not, Bool.not_eq_true', Bool.not_eq_false', Bool.not_true, Bool.not_false, Int.not_lt, Int.not_le, ne_eq, Decidable.not_not] at h); (try (exfalso; omega)))) | refine WC.block ?_ | refine WC.skip ?_ | refine WC.ret ?_ | refine WC.exit ?_) | refine Qseq.nm ?_ | refine Qseq.r ?_ | refine Qseq.x ?_ | refine Qblock.nm ?_ | refine Qblock.r ?_ | (apply Qblock.t; exact rfl) | (apply Qblock.f; exact rfl) | refine Qmx.r ?_ | refine Qmx.nm ?_ | (apply Qmx.f; exact rfl) | refine Qmn.r ?_ | refine Qmn.x ?_ | refine Qloop.r ?_ | refine Qloop.x ?_ | (apply Qfn.one; exact rfl) | (apply Qfn.two; exact rfl; exact rfl) | (apply Qfn.three; exact rfl; exact rfl; exact rfl) | (apply Qfn.cellt; exact rfl; exact rfl; ((repeat (first | exact Pick.here | apply Pick.there))); exact rfl; exact rfl) | refine Qfn.zero ?_ | refine Qfn.zeroN ?_))
      all_goals ((refine wl_call rfl rfl rfl (withinP_spec q'.to 12 hqb'.2 (by omega)) (by repeat (first | exact Take.nil | (apply Take.keepI; focus ((repeat (first | exact Pick.here | apply Pick.there)); done)) | (apply Take.cons; focus ((repeat (first | exact Pick.here | apply Pick.there)); done)) | (apply Take.pure; (first | assumption | omega)))) ?_))
      all_goals rintro _ _ ⟨rfl, rfl⟩
      all_goals (repeat' (first | (show WL _ _ _ _ _ _ _; first | (apply wl_calc; exact rfl; exact True.intro; exact rfl) | refine WL.nil ?_ | (apply wl_ld; exact rfl; exact rfl; ((repeat (first | exact Pick.here | apply Pick.there))); exact rfl; exact rfl) | (apply wl_calc; exact rfl; ((try simp only [inR]); omega); exact rfl) | (apply wl_store; exact rfl; exact rfl; exact rfl; ((repeat (first | exact Pick.here | apply Pick.there))); exact rfl) | (apply wl_ixI; exact rfl; exact rfl; exact rfl; exact rfl; exact rfl; ((repeat (first | exact Pick.here | apply Pick.there))); exact rfl; (first | exact rfl | omega); omega; exact rfl) | (apply wl_ldEI; exact rfl; exact rfl; ((repeat (first | exact Pick.here | apply Pick.there))); exact rfl; assumption; exact rfl; exact rfl) | (apply wl_fldE; exact rfl; exact rfl; exact rfl; exact rfl; exact rfl) | (apply wl_ixO; exact rfl; exact rfl; exact rfl; exact rfl; exact rfl; ((repeat (first | exact Pick.here | apply Pick.there))); exact rfl; (first | exact rfl | omega); omega; exact rfl) | (apply wl_ldEO; exact rfl; exact rfl; ((repeat (first | exact Pick.here | apply Pick.there))); exact rfl; assumption; exact rfl; exact rfl) | (apply wl_guard; exact rfl; exact rfl; exact rfl; exact rfl) | (apply wl_gno; exact rfl; exact rfl; exact rfl; exact rfl; exact rfl) | (apply wl_gsplit; exact rfl; exact rfl; exact rfl; exact rfl; all_goals (intro h; (try simp only [reduceCtorEq, not_true_eq_false, not_false_eq_true, decide_eq_true_eq, decide_eq_false_iff_not, Bool.not_eq_true', Bool.not_eq_false', Bool.not_true, Bool.not_false, Int.not_lt, Int.not_le, ne_eq, Decidable.not_not] at h); (try (exfalso; omega)))) | (apply wl_rem; exact rfl; exact rfl; omega; exact rfl) | (apply wl_row; (iterate 7 (exact rfl)); intro b1) | (apply wl_box; exact rfl; exact rfl; exact rfl; intro b1) | (apply wl_alloc; exact rfl; exact rfl; intro b1) | (apply wl_eqlS; exact rfl; exact rfl; exact rfl) | (apply wl_neqS; exact rfl; exact rfl; exact rfl)) | (show WC _ _ _ _ _ _; first | refine WC.seq ?_ | (apply WC.region; exact rfl) | (apply WC.condT; exact rfl) | (apply WC.condF; exact rfl) | (apply WC.cond; exact rfl; all_goals (intro h; (try simp only [reduceCtorEq, not_true_eq_false, not_false_eq_true, decide_eq_true_eq, decide_eq_false_iff_not, Bool.not_eq_true', Bool.not_eq_false', Bool.not_true, Bool.not_false, Int.not_lt, Int.not_le, ne_eq, Decidable.not_not] at h); (try (exfalso; omega)))) | refine WC.block ?_ | refine WC.skip ?_ | refine WC.ret ?_ | refine WC.exit ?_) | refine Qseq.nm ?_ | refine Qseq.r ?_ | refine Qseq.x ?_ | refine Qblock.nm ?_ | refine Qblock.r ?_ | (apply Qblock.t; exact rfl) | (apply Qblock.f; exact rfl) | refine Qmx.r ?_ | refine Qmx.nm ?_ | (apply Qmx.f; exact rfl) | refine Qmn.r ?_ | refine Qmn.x ?_ | refine Qloop.r ?_ | refine Qloop.x ?_ | (apply Qfn.one; exact rfl) | (apply Qfn.two; exact rfl; exact rfl) | (apply Qfn.three; exact rfl; exact rfl; exact rfl) | (apply Qfn.cellt; exact rfl; exact rfl; ((repeat (first | exact Pick.here | apply Pick.there))); exact rfl; exact rfl) | refine Qfn.zero ?_ | refine Qfn.zeroN ?_))
      all_goals ((refine wl_call rfl rfl rfl (sadd_spec (l := l') (by omega) hc' (q'.frm % 90) (q'.frm % 90 + q'.to % 12)) (by repeat (first | exact Take.nil | (apply Take.keepI; focus ((repeat (first | exact Pick.here | apply Pick.there)); done)) | (apply Take.cons; focus ((repeat (first | exact Pick.here | apply Pick.there)); done)) | (apply Take.pure; (first | assumption | omega)))) ?_))
      all_goals rintro _ _ ⟨rfl, a2, c2, rfl⟩
      all_goals (repeat' (first | (show WL _ _ _ _ _ _ _; first | (apply wl_calc; exact rfl; exact True.intro; exact rfl) | refine WL.nil ?_ | (apply wl_ld; exact rfl; exact rfl; ((repeat (first | exact Pick.here | apply Pick.there))); exact rfl; exact rfl) | (apply wl_calc; exact rfl; ((try simp only [inR]); omega); exact rfl) | (apply wl_store; exact rfl; exact rfl; exact rfl; ((repeat (first | exact Pick.here | apply Pick.there))); exact rfl) | (apply wl_ixI; exact rfl; exact rfl; exact rfl; exact rfl; exact rfl; ((repeat (first | exact Pick.here | apply Pick.there))); exact rfl; (first | exact rfl | omega); omega; exact rfl) | (apply wl_ldEI; exact rfl; exact rfl; ((repeat (first | exact Pick.here | apply Pick.there))); exact rfl; assumption; exact rfl; exact rfl) | (apply wl_fldE; exact rfl; exact rfl; exact rfl; exact rfl; exact rfl) | (apply wl_ixO; exact rfl; exact rfl; exact rfl; exact rfl; exact rfl; ((repeat (first | exact Pick.here | apply Pick.there))); exact rfl; (first | exact rfl | omega); omega; exact rfl) | (apply wl_ldEO; exact rfl; exact rfl; ((repeat (first | exact Pick.here | apply Pick.there))); exact rfl; assumption; exact rfl; exact rfl) | (apply wl_guard; exact rfl; exact rfl; exact rfl; exact rfl) | (apply wl_gno; exact rfl; exact rfl; exact rfl; exact rfl; exact rfl) | (apply wl_gsplit; exact rfl; exact rfl; exact rfl; exact rfl; all_goals (intro h; (try simp only [reduceCtorEq, not_true_eq_false, not_false_eq_true, decide_eq_true_eq, decide_eq_false_iff_not, Bool.not_eq_true', Bool.not_eq_false', Bool.not_true, Bool.not_false, Int.not_lt, Int.not_le, ne_eq, Decidable.not_not] at h); (try (exfalso; omega)))) | (apply wl_rem; exact rfl; exact rfl; omega; exact rfl) | (apply wl_row; (iterate 7 (exact rfl)); intro b1) | (apply wl_box; exact rfl; exact rfl; exact rfl; intro b1) | (apply wl_alloc; exact rfl; exact rfl; intro b1) | (apply wl_eqlS; exact rfl; exact rfl; exact rfl) | (apply wl_neqS; exact rfl; exact rfl; exact rfl)) | (show WC _ _ _ _ _ _; first | refine WC.seq ?_ | (apply WC.region; exact rfl) | (apply WC.condT; exact rfl) | (apply WC.condF; exact rfl) | (apply WC.cond; exact rfl; all_goals (intro h; (try simp only [reduceCtorEq, not_true_eq_false, not_false_eq_true, decide_eq_true_eq, decide_eq_false_iff_not, Bool.not_eq_true', Bool.not_eq_false', Bool.not_true, Bool.not_false, Int.not_lt, Int.not_le, ne_eq, Decidable.not_not] at h); (try (exfalso; omega)))) | refine WC.block ?_ | refine WC.skip ?_ | refine WC.ret ?_ | refine WC.exit ?_) | refine Qseq.nm ?_ | refine Qseq.r ?_ | refine Qseq.x ?_ | refine Qblock.nm ?_ | refine Qblock.r ?_ | (apply Qblock.t; exact rfl) | (apply Qblock.f; exact rfl) | refine Qmx.r ?_ | refine Qmx.nm ?_ | (apply Qmx.f; exact rfl) | refine Qmn.r ?_ | refine Qmn.x ?_ | refine Qloop.r ?_ | refine Qloop.x ?_ | (apply Qfn.one; exact rfl) | (apply Qfn.two; exact rfl; exact rfl) | (apply Qfn.three; exact rfl; exact rfl; exact rfl) | (apply Qfn.cellt; exact rfl; exact rfl; ((repeat (first | exact Pick.here | apply Pick.there))); exact rfl; exact rfl) | refine Qfn.zero ?_ | refine Qfn.zeroN ?_))
      all_goals ((refine wl_call rfl rfl rfl (withinP_spec q'.to 12 hqb'.2 (by omega)) (by repeat (first | exact Take.nil | (apply Take.keepI; focus ((repeat (first | exact Pick.here | apply Pick.there)); done)) | (apply Take.cons; focus ((repeat (first | exact Pick.here | apply Pick.there)); done)) | (apply Take.pure; (first | assumption | omega)))) ?_))
      all_goals rintro _ _ ⟨rfl, rfl⟩
      all_goals (repeat' (first | (show WL _ _ _ _ _ _ _; first | (apply wl_calc; exact rfl; exact True.intro; exact rfl) | refine WL.nil ?_ | (apply wl_ld; exact rfl; exact rfl; ((repeat (first | exact Pick.here | apply Pick.there))); exact rfl; exact rfl) | (apply wl_calc; exact rfl; ((try simp only [inR]); omega); exact rfl) | (apply wl_store; exact rfl; exact rfl; exact rfl; ((repeat (first | exact Pick.here | apply Pick.there))); exact rfl) | (apply wl_ixI; exact rfl; exact rfl; exact rfl; exact rfl; exact rfl; ((repeat (first | exact Pick.here | apply Pick.there))); exact rfl; (first | exact rfl | omega); omega; exact rfl) | (apply wl_ldEI; exact rfl; exact rfl; ((repeat (first | exact Pick.here | apply Pick.there))); exact rfl; assumption; exact rfl; exact rfl) | (apply wl_fldE; exact rfl; exact rfl; exact rfl; exact rfl; exact rfl) | (apply wl_ixO; exact rfl; exact rfl; exact rfl; exact rfl; exact rfl; ((repeat (first | exact Pick.here | apply Pick.there))); exact rfl; (first | exact rfl | omega); omega; exact rfl) | (apply wl_ldEO; exact rfl; exact rfl; ((repeat (first | exact Pick.here | apply Pick.there))); exact rfl; assumption; exact rfl; exact rfl) | (apply wl_guard; exact rfl; exact rfl; exact rfl; exact rfl) | (apply wl_gno; exact rfl; exact rfl; exact rfl; exact rfl; exact rfl) | (apply wl_gsplit; exact rfl; exact rfl; exact rfl; exact rfl; all_goals (intro h; (try simp only [reduceCtorEq, not_true_eq_false, not_false_eq_true, decide_eq_true_eq, decide_eq_false_iff_not, Bool.not_eq_true', Bool.not_eq_false', Bool.not_true, Bool.not_false, Int.not_lt, Int.not_le, ne_eq, Decidable.not_not] at h); (try (exfalso; omega)))) | (apply wl_rem; exact rfl; exact rfl; omega; exact rfl) | (apply wl_row; (iterate 7 (exact rfl)); intro b1) | (apply wl_box; exact rfl; exact rfl; exact rfl; intro b1) | (apply wl_alloc; exact rfl; exact rfl; intro b1) | (apply wl_eqlS; exact rfl; exact rfl; exact rfl) | (apply wl_neqS; exact rfl; exact rfl; exact rfl)) | (show WC _ _ _ _ _ _; first | refine WC.seq ?_ | (apply WC.region; exact rfl) | (apply WC.condT; exact rfl) | (apply WC.condF; exact rfl) | (apply WC.cond; exact rfl; all_goals (intro h; (try simp only [reduceCtorEq, not_true_eq_false, not_false_eq_true, decide_eq_true_eq, decide_eq_false_iff_not, Bool.not_eq_true', Bool.not_eq_false', Bool.not_true, Bool.not_false, Int.not_lt, Int.not_le, ne_eq, Decidable.not_not] at h); (try (exfalso; omega)))) | refine WC.block ?_ | refine WC.skip ?_ | refine WC.ret ?_ | refine WC.exit ?_) | refine Qseq.nm ?_ | refine Qseq.r ?_ | refine Qseq.x ?_ | refine Qblock.nm ?_ | refine Qblock.r ?_ | (apply Qblock.t; exact rfl) | (apply Qblock.f; exact rfl) | refine Qmx.r ?_ | refine Qmx.nm ?_ | (apply Qmx.f; exact rfl) | refine Qmn.r ?_ | refine Qmn.x ?_ | refine Qloop.r ?_ | refine Qloop.x ?_ | (apply Qfn.one; exact rfl) | (apply Qfn.two; exact rfl; exact rfl) | (apply Qfn.three; exact rfl; exact rfl; exact rfl) | (apply Qfn.cellt; exact rfl; exact rfl; ((repeat (first | exact Pick.here | apply Pick.there))); exact rfl; exact rfl) | refine Qfn.zero ?_ | refine Qfn.zeroN ?_))
      all_goals ((refine wl_call rfl rfl rfl (sadd_spec (l := addM l' (q'.frm % 90) (q'.frm % 90 + q'.to % 12)) (by have := addM_len l' (q'.frm % 90) (q'.frm % 90 + q'.to % 12); omega) (addM_canon hc' _ _) (q'.frm % 90) (q'.frm % 90 + q'.to % 12)) (by repeat (first | exact Take.nil | (apply Take.keepI; focus ((repeat (first | exact Pick.here | apply Pick.there)); done)) | (apply Take.cons; focus ((repeat (first | exact Pick.here | apply Pick.there)); done)) | (apply Take.pure; (first | assumption | omega)))) ?_))
      all_goals rintro _ _ ⟨rfl, a3, c3, rfl⟩
      all_goals (repeat' (first | (show WL _ _ _ _ _ _ _; first | (apply wl_calc; exact rfl; exact True.intro; exact rfl) | refine WL.nil ?_ | (apply wl_ld; exact rfl; exact rfl; ((repeat (first | exact Pick.here | apply Pick.there))); exact rfl; exact rfl) | (apply wl_calc; exact rfl; ((try simp only [inR]); omega); exact rfl) | (apply wl_store; exact rfl; exact rfl; exact rfl; ((repeat (first | exact Pick.here | apply Pick.there))); exact rfl) | (apply wl_ixI; exact rfl; exact rfl; exact rfl; exact rfl; exact rfl; ((repeat (first | exact Pick.here | apply Pick.there))); exact rfl; (first | exact rfl | omega); omega; exact rfl) | (apply wl_ldEI; exact rfl; exact rfl; ((repeat (first | exact Pick.here | apply Pick.there))); exact rfl; assumption; exact rfl; exact rfl) | (apply wl_fldE; exact rfl; exact rfl; exact rfl; exact rfl; exact rfl) | (apply wl_ixO; exact rfl; exact rfl; exact rfl; exact rfl; exact rfl; ((repeat (first | exact Pick.here | apply Pick.there))); exact rfl; (first | exact rfl | omega); omega; exact rfl) | (apply wl_ldEO; exact rfl; exact rfl; ((repeat (first | exact Pick.here | apply Pick.there))); exact rfl; assumption; exact rfl; exact rfl) | (apply wl_guard; exact rfl; exact rfl; exact rfl; exact rfl) | (apply wl_gno; exact rfl; exact rfl; exact rfl; exact rfl; exact rfl) | (apply wl_gsplit; exact rfl; exact rfl; exact rfl; exact rfl; all_goals (intro h; (try simp only [reduceCtorEq, not_true_eq_false, not_false_eq_true, decide_eq_true_eq, decide_eq_false_iff_not, Bool.not_eq_true', Bool.not_eq_false', Bool.not_true, Bool.not_false, Int.not_lt, Int.not_le, ne_eq, Decidable.not_not] at h); (try (exfalso; omega)))) | (apply wl_rem; exact rfl; exact rfl; omega; exact rfl) | (apply wl_row; (iterate 7 (exact rfl)); intro b1) | (apply wl_box; exact rfl; exact rfl; exact rfl; intro b1) | (apply wl_alloc; exact rfl; exact rfl; intro b1) | (apply wl_eqlS; exact rfl; exact rfl; exact rfl) | (apply wl_neqS; exact rfl; exact rfl; exact rfl)) | (show WC _ _ _ _ _ _; first | refine WC.seq ?_ | (apply WC.region; exact rfl) | (apply WC.condT; exact rfl) | (apply WC.condF; exact rfl) | (apply WC.cond; exact rfl; all_goals (intro h; (try simp only [reduceCtorEq, not_true_eq_false, not_false_eq_true, decide_eq_true_eq, decide_eq_false_iff_not, Bool.not_eq_true', Bool.not_eq_false', Bool.not_true, Bool.not_false, Int.not_lt, Int.not_le, ne_eq, Decidable.not_not] at h); (try (exfalso; omega)))) | refine WC.block ?_ | refine WC.skip ?_ | refine WC.ret ?_ | refine WC.exit ?_) | refine Qseq.nm ?_ | refine Qseq.r ?_ | refine Qseq.x ?_ | refine Qblock.nm ?_ | refine Qblock.r ?_ | (apply Qblock.t; exact rfl) | (apply Qblock.f; exact rfl) | refine Qmx.r ?_ | refine Qmx.nm ?_ | (apply Qmx.f; exact rfl) | refine Qmn.r ?_ | refine Qmn.x ?_ | refine Qloop.r ?_ | refine Qloop.x ?_ | (apply Qfn.one; exact rfl) | (apply Qfn.two; exact rfl; exact rfl) | (apply Qfn.three; exact rfl; exact rfl; exact rfl) | (apply Qfn.cellt; exact rfl; exact rfl; ((repeat (first | exact Pick.here | apply Pick.there))); exact rfl; exact rfl) | refine Qfn.zero ?_ | refine Qfn.zeroN ?_))
      all_goals (
        have e1 := addM_len l (q.frm % 90) (q.frm % 90 + q.to % 12)
        have e2 := addM_len l' (q'.frm % 90) (q'.frm % 90 + q'.to % 12)
        have e3 := addM_len (addM l' (q'.frm % 90) (q'.frm % 90 + q'.to % 12)) (q'.frm % 90) (q'.frm % 90 + q'.to % 12)
        exact Qloop.againU (N - (i + 1)) (by omega) ⟨i + 1, addM l (q.frm % 90) (q.frm % 90 + q.to % 12), addM (addM l' (q'.frm % 90) (q'.frm % 90 + q'.to % 12)) (q'.frm % 90) (q'.frm % 90 + q'.to % 12), a1, a3, c1, c3, ⟨by omega, addM_canon hc _ _, by omega, addM_canon (addM_canon hc' _ _) _ _, by omega, step_up (by simpa using hq) hc hm, step_down (by omega) (by simpa only [Int.toNat_natCast] using hq') hc' hm'⟩, rfl, rfl, rfl⟩ (by repeat (first | exact trivial | refine ⟨rfl, ?_⟩)) (by repeat (first | exact Take.nil | (apply Take.keepI; focus ((repeat (first | exact Pick.here | apply Pick.there)); done)) | (apply Take.cons; focus ((repeat (first | exact Pick.here | apply Pick.there)); done)) | (apply Take.pure; (first | assumption | omega)))))
    · obtain rfl : i = N := by omega
      exact Qmx.hitU ⟨l, l', a, a', c, c', ⟨hc, by omega, hc', by omega, same_sets hc hc' hm hm'⟩, rfl, rfl⟩ (by repeat (first | exact trivial | refine ⟨rfl, ?_⟩)) (by repeat (first | exact Take.nil | (apply Take.keepI; focus ((repeat (first | exact Pick.here | apply Pick.there)); done)) | (apply Take.cons; focus ((repeat (first | exact Pick.here | apply Pick.there)); done)) | (apply Take.pure; (first | assumption | omega))))
  · rintro _ _ ⟨l, l', a, a', c, c', ⟨hc, hl, hc', hl', rfl⟩, rfl, rfl⟩
    repeat' (first
      | (show WL _ _ _ _ _ _ _; first
        | (apply wl_calc; exact rfl; exact True.intro; exact rfl)
        | refine WL.nil ?_
        | (apply wl_ld; exact rfl; exact rfl; ((repeat (first | exact Pick.here | apply Pick.there))); exact rfl; exact rfl)
        | (apply wl_calc; exact rfl; ((try simp only [inR]); omega); exact rfl)
        | (apply wl_store; exact rfl; exact rfl; exact rfl; ((repeat (first | exact Pick.here | apply Pick.there))); exact rfl)
        | (apply wl_ixI; exact rfl; exact rfl; exact rfl; exact rfl; exact rfl; ((repeat (first | exact Pick.here | apply Pick.there))); exact rfl; (first | exact rfl | omega); omega; exact rfl)
        | (apply wl_ldEI; exact rfl; exact rfl; ((repeat (first | exact Pick.here | apply Pick.there))); exact rfl; assumption; exact rfl; exact rfl)
        | (apply wl_fldE; exact rfl; exact rfl; exact rfl; exact rfl; exact rfl)
        | (apply wl_ixO; exact rfl; exact rfl; exact rfl; exact rfl; exact rfl; ((repeat (first | exact Pick.here | apply Pick.there))); exact rfl; (first | exact rfl | omega); omega; exact rfl)
        | (apply wl_ldEO; exact rfl; exact rfl; ((repeat (first | exact Pick.here | apply Pick.there))); exact rfl; assumption; exact rfl; exact rfl)
        | (apply wl_guard; exact rfl; exact rfl; exact rfl; exact rfl)
        | (apply wl_gno; exact rfl; exact rfl; exact rfl; exact rfl; exact rfl)
        | (apply wl_gsplit; exact rfl; exact rfl; exact rfl; exact rfl; all_goals (intro h; (try simp only [reduceCtorEq, not_true_eq_false, not_false_eq_true, decide_eq_true_eq, decide_eq_false_iff_not, Bool.not_eq_true', Bool.not_eq_false', Bool.not_true, Bool.not_false, Int.not_lt, Int.not_le, ne_eq, Decidable.not_not] at h); (try (exfalso; omega))))
        | (apply wl_rem; exact rfl; exact rfl; omega; exact rfl)
        | (apply wl_row; (iterate 7 (exact rfl)); intro b1)
        | (apply wl_box; exact rfl; exact rfl; exact rfl; intro b1)
        | (apply wl_alloc; exact rfl; exact rfl; intro b1)
        | (apply wl_eqlS; exact rfl; exact rfl; exact rfl)
        | (apply wl_neqS; exact rfl; exact rfl; exact rfl))
      | (show WC _ _ _ _ _ _; first
        | refine WC.seq ?_
        | (apply WC.region; exact rfl)
        | (apply WC.condT; exact rfl)
        | (apply WC.condF; exact rfl)
        | (apply WC.cond; exact rfl; all_goals (intro h; (try simp only [reduceCtorEq, not_true_eq_false, not_false_eq_true, decide_eq_true_eq, decide_eq_false_iff_not, Bool.not_eq_true', Bool.not_eq_false', Bool.not_true, Bool.not_false, Int.not_lt, Int.not_le, ne_eq, Decidable.not_not] at h); (try (exfalso; omega))))
        | refine WC.block ?_
        | refine WC.skip ?_
        | refine WC.ret ?_
        | refine WC.exit ?_)
      | refine Qseq.nm ?_
      | refine Qseq.r ?_
      | refine Qseq.x ?_
      | refine Qblock.nm ?_
      | refine Qblock.r ?_
      | (apply Qblock.t; exact rfl)
      | (apply Qblock.f; exact rfl)
      | refine Qmx.r ?_
      | refine Qmx.nm ?_
      | (apply Qmx.f; exact rfl)
      | refine Qmn.r ?_
      | refine Qmn.x ?_
      | refine Qloop.r ?_
      | refine Qloop.x ?_
      | (apply Qfn.one; exact rfl)
      | (apply Qfn.two; exact rfl; exact rfl)
      | (apply Qfn.three; exact rfl; exact rfl; exact rfl)
      | (apply Qfn.cellt; exact rfl; exact rfl; ((repeat (first | exact Pick.here | apply Pick.there))); exact rfl; exact rfl)
      | refine Qfn.zero ?_
      | refine Qfn.zeroN ?_)
    (refine wl_call rfl rfl rfl (sall_spec (l := l) (by omega)) (by repeat (first | exact Take.nil | (apply Take.keepI; focus ((repeat (first | exact Pick.here | apply Pick.there)); done)) | (apply Take.cons; focus ((repeat (first | exact Pick.here | apply Pick.there)); done)) | (apply Take.pure; (first | assumption | omega)))) ?_)
    rintro _ _ ⟨a1, c1, rfl, rfl⟩
    refine WL.ent (Ent.sh (a := a1) (c := c1) (by (repeat (first | exact Pick.here | apply Pick.there)))) ?_
    repeat' (first
      | (show WL _ _ _ _ _ _ _; first
        | (apply wl_calc; exact rfl; exact True.intro; exact rfl)
        | refine WL.nil ?_
        | (apply wl_ld; exact rfl; exact rfl; ((repeat (first | exact Pick.here | apply Pick.there))); exact rfl; exact rfl)
        | (apply wl_calc; exact rfl; ((try simp only [inR]); omega); exact rfl)
        | (apply wl_store; exact rfl; exact rfl; exact rfl; ((repeat (first | exact Pick.here | apply Pick.there))); exact rfl)
        | (apply wl_ixI; exact rfl; exact rfl; exact rfl; exact rfl; exact rfl; ((repeat (first | exact Pick.here | apply Pick.there))); exact rfl; (first | exact rfl | omega); omega; exact rfl)
        | (apply wl_ldEI; exact rfl; exact rfl; ((repeat (first | exact Pick.here | apply Pick.there))); exact rfl; assumption; exact rfl; exact rfl)
        | (apply wl_fldE; exact rfl; exact rfl; exact rfl; exact rfl; exact rfl)
        | (apply wl_ixO; exact rfl; exact rfl; exact rfl; exact rfl; exact rfl; ((repeat (first | exact Pick.here | apply Pick.there))); exact rfl; (first | exact rfl | omega); omega; exact rfl)
        | (apply wl_ldEO; exact rfl; exact rfl; ((repeat (first | exact Pick.here | apply Pick.there))); exact rfl; assumption; exact rfl; exact rfl)
        | (apply wl_guard; exact rfl; exact rfl; exact rfl; exact rfl)
        | (apply wl_gno; exact rfl; exact rfl; exact rfl; exact rfl; exact rfl)
        | (apply wl_gsplit; exact rfl; exact rfl; exact rfl; exact rfl; all_goals (intro h; (try simp only [reduceCtorEq, not_true_eq_false, not_false_eq_true, decide_eq_true_eq, decide_eq_false_iff_not, Bool.not_eq_true', Bool.not_eq_false', Bool.not_true, Bool.not_false, Int.not_lt, Int.not_le, ne_eq, Decidable.not_not] at h); (try (exfalso; omega))))
        | (apply wl_rem; exact rfl; exact rfl; omega; exact rfl)
        | (apply wl_row; (iterate 7 (exact rfl)); intro b1)
        | (apply wl_box; exact rfl; exact rfl; exact rfl; intro b1)
        | (apply wl_alloc; exact rfl; exact rfl; intro b1)
        | (apply wl_eqlS; exact rfl; exact rfl; exact rfl)
        | (apply wl_neqS; exact rfl; exact rfl; exact rfl))
      | (show WC _ _ _ _ _ _; first
        | refine WC.seq ?_
        | (apply WC.region; exact rfl)
        | (apply WC.condT; exact rfl)
        | (apply WC.condF; exact rfl)
        | (apply WC.cond; exact rfl; all_goals (intro h; (try simp only [reduceCtorEq, not_true_eq_false, not_false_eq_true, decide_eq_true_eq, decide_eq_false_iff_not, Bool.not_eq_true', Bool.not_eq_false', Bool.not_true, Bool.not_false, Int.not_lt, Int.not_le, ne_eq, Decidable.not_not] at h); (try (exfalso; omega))))
        | refine WC.block ?_
        | refine WC.skip ?_
        | refine WC.ret ?_
        | refine WC.exit ?_)
      | refine Qseq.nm ?_
      | refine Qseq.r ?_
      | refine Qseq.x ?_
      | refine Qblock.nm ?_
      | refine Qblock.r ?_
      | (apply Qblock.t; exact rfl)
      | (apply Qblock.f; exact rfl)
      | refine Qmx.r ?_
      | refine Qmx.nm ?_
      | (apply Qmx.f; exact rfl)
      | refine Qmn.r ?_
      | refine Qmn.x ?_
      | refine Qloop.r ?_
      | refine Qloop.x ?_
      | (apply Qfn.one; exact rfl)
      | (apply Qfn.two; exact rfl; exact rfl)
      | (apply Qfn.three; exact rfl; exact rfl; exact rfl)
      | (apply Qfn.cellt; exact rfl; exact rfl; ((repeat (first | exact Pick.here | apply Pick.there))); exact rfl; exact rfl)
      | refine Qfn.zero ?_
      | refine Qfn.zeroN ?_)
    (refine wl_call rfl rfl rfl (sall_spec (l := l) (by omega)) (by repeat (first | exact Take.nil | (apply Take.keepI; focus ((repeat (first | exact Pick.here | apply Pick.there)); done)) | (apply Take.cons; focus ((repeat (first | exact Pick.here | apply Pick.there)); done)) | (apply Take.pure; (first | assumption | omega)))) ?_)
    rintro _ _ ⟨a2, c2, rfl, rfl⟩
    refine WL.ent (Ent.sh (a := a2) (c := c2) (by (repeat (first | exact Pick.here | apply Pick.there)))) ?_
    repeat' (first
      | (show WL _ _ _ _ _ _ _; first
        | (apply wl_calc; exact rfl; exact True.intro; exact rfl)
        | refine WL.nil ?_
        | (apply wl_ld; exact rfl; exact rfl; ((repeat (first | exact Pick.here | apply Pick.there))); exact rfl; exact rfl)
        | (apply wl_calc; exact rfl; ((try simp only [inR]); omega); exact rfl)
        | (apply wl_store; exact rfl; exact rfl; exact rfl; ((repeat (first | exact Pick.here | apply Pick.there))); exact rfl)
        | (apply wl_ixI; exact rfl; exact rfl; exact rfl; exact rfl; exact rfl; ((repeat (first | exact Pick.here | apply Pick.there))); exact rfl; (first | exact rfl | omega); omega; exact rfl)
        | (apply wl_ldEI; exact rfl; exact rfl; ((repeat (first | exact Pick.here | apply Pick.there))); exact rfl; assumption; exact rfl; exact rfl)
        | (apply wl_fldE; exact rfl; exact rfl; exact rfl; exact rfl; exact rfl)
        | (apply wl_ixO; exact rfl; exact rfl; exact rfl; exact rfl; exact rfl; ((repeat (first | exact Pick.here | apply Pick.there))); exact rfl; (first | exact rfl | omega); omega; exact rfl)
        | (apply wl_ldEO; exact rfl; exact rfl; ((repeat (first | exact Pick.here | apply Pick.there))); exact rfl; assumption; exact rfl; exact rfl)
        | (apply wl_guard; exact rfl; exact rfl; exact rfl; exact rfl)
        | (apply wl_gno; exact rfl; exact rfl; exact rfl; exact rfl; exact rfl)
        | (apply wl_gsplit; exact rfl; exact rfl; exact rfl; exact rfl; all_goals (intro h; (try simp only [reduceCtorEq, not_true_eq_false, not_false_eq_true, decide_eq_true_eq, decide_eq_false_iff_not, Bool.not_eq_true', Bool.not_eq_false', Bool.not_true, Bool.not_false, Int.not_lt, Int.not_le, ne_eq, Decidable.not_not] at h); (try (exfalso; omega))))
        | (apply wl_rem; exact rfl; exact rfl; omega; exact rfl)
        | (apply wl_row; (iterate 7 (exact rfl)); intro b1)
        | (apply wl_box; exact rfl; exact rfl; exact rfl; intro b1)
        | (apply wl_alloc; exact rfl; exact rfl; intro b1)
        | (apply wl_eqlS; exact rfl; exact rfl; exact rfl)
        | (apply wl_neqS; exact rfl; exact rfl; exact rfl))
      | (show WC _ _ _ _ _ _; first
        | refine WC.seq ?_
        | (apply WC.region; exact rfl)
        | (apply WC.condT; exact rfl)
        | (apply WC.condF; exact rfl)
        | (apply WC.cond; exact rfl; all_goals (intro h; (try simp only [reduceCtorEq, not_true_eq_false, not_false_eq_true, decide_eq_true_eq, decide_eq_false_iff_not, Bool.not_eq_true', Bool.not_eq_false', Bool.not_true, Bool.not_false, Int.not_lt, Int.not_le, ne_eq, Decidable.not_not] at h); (try (exfalso; omega))))
        | refine WC.block ?_
        | refine WC.skip ?_
        | refine WC.ret ?_
        | refine WC.exit ?_)
      | refine Qseq.nm ?_
      | refine Qseq.r ?_
      | refine Qseq.x ?_
      | refine Qblock.nm ?_
      | refine Qblock.r ?_
      | (apply Qblock.t; exact rfl)
      | (apply Qblock.f; exact rfl)
      | refine Qmx.r ?_
      | refine Qmx.nm ?_
      | (apply Qmx.f; exact rfl)
      | refine Qmn.r ?_
      | refine Qmn.x ?_
      | refine Qloop.r ?_
      | refine Qloop.x ?_
      | (apply Qfn.one; exact rfl)
      | (apply Qfn.two; exact rfl; exact rfl)
      | (apply Qfn.three; exact rfl; exact rfl; exact rfl)
      | (apply Qfn.cellt; exact rfl; exact rfl; ((repeat (first | exact Pick.here | apply Pick.there))); exact rfl; exact rfl)
      | refine Qfn.zero ?_
      | refine Qfn.zeroN ?_)
    (refine wl_call rfl rfl rfl (samer_spec (xs := l) (ys := l) (by omega) (by omega)) (by repeat (first | exact Take.nil | (apply Take.keepI; focus ((repeat (first | exact Pick.here | apply Pick.there)); done)) | (apply Take.cons; focus ((repeat (first | exact Pick.here | apply Pick.there)); done)) | (apply Take.pure; (first | assumption | omega)))) ?_)
    rintro _ _ ⟨rfl, rfl⟩
    rw [decide_eq_true rfl]
    repeat' (first
      | (show WL _ _ _ _ _ _ _; first
        | (apply wl_calc; exact rfl; exact True.intro; exact rfl)
        | refine WL.nil ?_
        | (apply wl_ld; exact rfl; exact rfl; ((repeat (first | exact Pick.here | apply Pick.there))); exact rfl; exact rfl)
        | (apply wl_calc; exact rfl; ((try simp only [inR]); omega); exact rfl)
        | (apply wl_store; exact rfl; exact rfl; exact rfl; ((repeat (first | exact Pick.here | apply Pick.there))); exact rfl)
        | (apply wl_ixI; exact rfl; exact rfl; exact rfl; exact rfl; exact rfl; ((repeat (first | exact Pick.here | apply Pick.there))); exact rfl; (first | exact rfl | omega); omega; exact rfl)
        | (apply wl_ldEI; exact rfl; exact rfl; ((repeat (first | exact Pick.here | apply Pick.there))); exact rfl; assumption; exact rfl; exact rfl)
        | (apply wl_fldE; exact rfl; exact rfl; exact rfl; exact rfl; exact rfl)
        | (apply wl_ixO; exact rfl; exact rfl; exact rfl; exact rfl; exact rfl; ((repeat (first | exact Pick.here | apply Pick.there))); exact rfl; (first | exact rfl | omega); omega; exact rfl)
        | (apply wl_ldEO; exact rfl; exact rfl; ((repeat (first | exact Pick.here | apply Pick.there))); exact rfl; assumption; exact rfl; exact rfl)
        | (apply wl_guard; exact rfl; exact rfl; exact rfl; exact rfl)
        | (apply wl_gno; exact rfl; exact rfl; exact rfl; exact rfl; exact rfl)
        | (apply wl_gsplit; exact rfl; exact rfl; exact rfl; exact rfl; all_goals (intro h; (try simp only [reduceCtorEq, not_true_eq_false, not_false_eq_true, decide_eq_true_eq, decide_eq_false_iff_not, Bool.not_eq_true', Bool.not_eq_false', Bool.not_true, Bool.not_false, Int.not_lt, Int.not_le, ne_eq, Decidable.not_not] at h); (try (exfalso; omega))))
        | (apply wl_rem; exact rfl; exact rfl; omega; exact rfl)
        | (apply wl_row; (iterate 7 (exact rfl)); intro b1)
        | (apply wl_box; exact rfl; exact rfl; exact rfl; intro b1)
        | (apply wl_alloc; exact rfl; exact rfl; intro b1)
        | (apply wl_eqlS; exact rfl; exact rfl; exact rfl)
        | (apply wl_neqS; exact rfl; exact rfl; exact rfl))
      | (show WC _ _ _ _ _ _; first
        | refine WC.seq ?_
        | (apply WC.region; exact rfl)
        | (apply WC.condT; exact rfl)
        | (apply WC.condF; exact rfl)
        | (apply WC.cond; exact rfl; all_goals (intro h; (try simp only [reduceCtorEq, not_true_eq_false, not_false_eq_true, decide_eq_true_eq, decide_eq_false_iff_not, Bool.not_eq_true', Bool.not_eq_false', Bool.not_true, Bool.not_false, Int.not_lt, Int.not_le, ne_eq, Decidable.not_not] at h); (try (exfalso; omega))))
        | refine WC.block ?_
        | refine WC.skip ?_
        | refine WC.ret ?_
        | refine WC.exit ?_)
      | refine Qseq.nm ?_
      | refine Qseq.r ?_
      | refine Qseq.x ?_
      | refine Qblock.nm ?_
      | refine Qblock.r ?_
      | (apply Qblock.t; exact rfl)
      | (apply Qblock.f; exact rfl)
      | refine Qmx.r ?_
      | refine Qmx.nm ?_
      | (apply Qmx.f; exact rfl)
      | refine Qmn.r ?_
      | refine Qmn.x ?_
      | refine Qloop.r ?_
      | refine Qloop.x ?_
      | (apply Qfn.one; exact rfl)
      | (apply Qfn.two; exact rfl; exact rfl)
      | (apply Qfn.three; exact rfl; exact rfl; exact rfl)
      | (apply Qfn.cellt; exact rfl; exact rfl; ((repeat (first | exact Pick.here | apply Pick.there))); exact rfl; exact rfl)
      | refine Qfn.zero ?_
      | refine Qfn.zeroN ?_)
    (refine wl_call rfl rfl rfl (withinP_spec y 90 hy (by omega)) (by repeat (first | exact Take.nil | (apply Take.keepI; focus ((repeat (first | exact Pick.here | apply Pick.there)); done)) | (apply Take.cons; focus ((repeat (first | exact Pick.here | apply Pick.there)); done)) | (apply Take.pure; (first | assumption | omega)))) ?_)
    rintro _ _ ⟨rfl, rfl⟩
    repeat' (first
      | (show WL _ _ _ _ _ _ _; first
        | (apply wl_calc; exact rfl; exact True.intro; exact rfl)
        | refine WL.nil ?_
        | (apply wl_ld; exact rfl; exact rfl; ((repeat (first | exact Pick.here | apply Pick.there))); exact rfl; exact rfl)
        | (apply wl_calc; exact rfl; ((try simp only [inR]); omega); exact rfl)
        | (apply wl_store; exact rfl; exact rfl; exact rfl; ((repeat (first | exact Pick.here | apply Pick.there))); exact rfl)
        | (apply wl_ixI; exact rfl; exact rfl; exact rfl; exact rfl; exact rfl; ((repeat (first | exact Pick.here | apply Pick.there))); exact rfl; (first | exact rfl | omega); omega; exact rfl)
        | (apply wl_ldEI; exact rfl; exact rfl; ((repeat (first | exact Pick.here | apply Pick.there))); exact rfl; assumption; exact rfl; exact rfl)
        | (apply wl_fldE; exact rfl; exact rfl; exact rfl; exact rfl; exact rfl)
        | (apply wl_ixO; exact rfl; exact rfl; exact rfl; exact rfl; exact rfl; ((repeat (first | exact Pick.here | apply Pick.there))); exact rfl; (first | exact rfl | omega); omega; exact rfl)
        | (apply wl_ldEO; exact rfl; exact rfl; ((repeat (first | exact Pick.here | apply Pick.there))); exact rfl; assumption; exact rfl; exact rfl)
        | (apply wl_guard; exact rfl; exact rfl; exact rfl; exact rfl)
        | (apply wl_gno; exact rfl; exact rfl; exact rfl; exact rfl; exact rfl)
        | (apply wl_gsplit; exact rfl; exact rfl; exact rfl; exact rfl; all_goals (intro h; (try simp only [reduceCtorEq, not_true_eq_false, not_false_eq_true, decide_eq_true_eq, decide_eq_false_iff_not, Bool.not_eq_true', Bool.not_eq_false', Bool.not_true, Bool.not_false, Int.not_lt, Int.not_le, ne_eq, Decidable.not_not] at h); (try (exfalso; omega))))
        | (apply wl_rem; exact rfl; exact rfl; omega; exact rfl)
        | (apply wl_row; (iterate 7 (exact rfl)); intro b1)
        | (apply wl_box; exact rfl; exact rfl; exact rfl; intro b1)
        | (apply wl_alloc; exact rfl; exact rfl; intro b1)
        | (apply wl_eqlS; exact rfl; exact rfl; exact rfl)
        | (apply wl_neqS; exact rfl; exact rfl; exact rfl))
      | (show WC _ _ _ _ _ _; first
        | refine WC.seq ?_
        | (apply WC.region; exact rfl)
        | (apply WC.condT; exact rfl)
        | (apply WC.condF; exact rfl)
        | (apply WC.cond; exact rfl; all_goals (intro h; (try simp only [reduceCtorEq, not_true_eq_false, not_false_eq_true, decide_eq_true_eq, decide_eq_false_iff_not, Bool.not_eq_true', Bool.not_eq_false', Bool.not_true, Bool.not_false, Int.not_lt, Int.not_le, ne_eq, Decidable.not_not] at h); (try (exfalso; omega))))
        | refine WC.block ?_
        | refine WC.skip ?_
        | refine WC.ret ?_
        | refine WC.exit ?_)
      | refine Qseq.nm ?_
      | refine Qseq.r ?_
      | refine Qseq.x ?_
      | refine Qblock.nm ?_
      | refine Qblock.r ?_
      | (apply Qblock.t; exact rfl)
      | (apply Qblock.f; exact rfl)
      | refine Qmx.r ?_
      | refine Qmx.nm ?_
      | (apply Qmx.f; exact rfl)
      | refine Qmn.r ?_
      | refine Qmn.x ?_
      | refine Qloop.r ?_
      | refine Qloop.x ?_
      | (apply Qfn.one; exact rfl)
      | (apply Qfn.two; exact rfl; exact rfl)
      | (apply Qfn.three; exact rfl; exact rfl; exact rfl)
      | (apply Qfn.cellt; exact rfl; exact rfl; ((repeat (first | exact Pick.here | apply Pick.there))); exact rfl; exact rfl)
      | refine Qfn.zero ?_
      | refine Qfn.zeroN ?_)
    (refine wl_call rfl rfl rfl (withinP_spec z 20 hz (by omega)) (by repeat (first | exact Take.nil | (apply Take.keepI; focus ((repeat (first | exact Pick.here | apply Pick.there)); done)) | (apply Take.cons; focus ((repeat (first | exact Pick.here | apply Pick.there)); done)) | (apply Take.pure; (first | assumption | omega)))) ?_)
    rintro _ _ ⟨rfl, rfl⟩
    obtain ⟨f, hf⟩ : ∃ f, f = y % 90 := ⟨_, rfl⟩
    obtain ⟨w, hw⟩ : ∃ w : Nat, (w : Int) = z % 20 := ⟨(z % 20).toNat, by omega⟩
    rw [← hf, ← hw]
    repeat' (first
      | (show WL _ _ _ _ _ _ _; first
        | (apply wl_calc; exact rfl; exact True.intro; exact rfl)
        | refine WL.nil ?_
        | (apply wl_ld; exact rfl; exact rfl; ((repeat (first | exact Pick.here | apply Pick.there))); exact rfl; exact rfl)
        | (apply wl_calc; exact rfl; ((try simp only [inR]); omega); exact rfl)
        | (apply wl_store; exact rfl; exact rfl; exact rfl; ((repeat (first | exact Pick.here | apply Pick.there))); exact rfl)
        | (apply wl_ixI; exact rfl; exact rfl; exact rfl; exact rfl; exact rfl; ((repeat (first | exact Pick.here | apply Pick.there))); exact rfl; (first | exact rfl | omega); omega; exact rfl)
        | (apply wl_ldEI; exact rfl; exact rfl; ((repeat (first | exact Pick.here | apply Pick.there))); exact rfl; assumption; exact rfl; exact rfl)
        | (apply wl_fldE; exact rfl; exact rfl; exact rfl; exact rfl; exact rfl)
        | (apply wl_ixO; exact rfl; exact rfl; exact rfl; exact rfl; exact rfl; ((repeat (first | exact Pick.here | apply Pick.there))); exact rfl; (first | exact rfl | omega); omega; exact rfl)
        | (apply wl_ldEO; exact rfl; exact rfl; ((repeat (first | exact Pick.here | apply Pick.there))); exact rfl; assumption; exact rfl; exact rfl)
        | (apply wl_guard; exact rfl; exact rfl; exact rfl; exact rfl)
        | (apply wl_gno; exact rfl; exact rfl; exact rfl; exact rfl; exact rfl)
        | (apply wl_gsplit; exact rfl; exact rfl; exact rfl; exact rfl; all_goals (intro h; (try simp only [reduceCtorEq, not_true_eq_false, not_false_eq_true, decide_eq_true_eq, decide_eq_false_iff_not, Bool.not_eq_true', Bool.not_eq_false', Bool.not_true, Bool.not_false, Int.not_lt, Int.not_le, ne_eq, Decidable.not_not] at h); (try (exfalso; omega))))
        | (apply wl_rem; exact rfl; exact rfl; omega; exact rfl)
        | (apply wl_row; (iterate 7 (exact rfl)); intro b1)
        | (apply wl_box; exact rfl; exact rfl; exact rfl; intro b1)
        | (apply wl_alloc; exact rfl; exact rfl; intro b1)
        | (apply wl_eqlS; exact rfl; exact rfl; exact rfl)
        | (apply wl_neqS; exact rfl; exact rfl; exact rfl))
      | (show WC _ _ _ _ _ _; first
        | refine WC.seq ?_
        | (apply WC.region; exact rfl)
        | (apply WC.condT; exact rfl)
        | (apply WC.condF; exact rfl)
        | (apply WC.cond; exact rfl; all_goals (intro h; (try simp only [reduceCtorEq, not_true_eq_false, not_false_eq_true, decide_eq_true_eq, decide_eq_false_iff_not, Bool.not_eq_true', Bool.not_eq_false', Bool.not_true, Bool.not_false, Int.not_lt, Int.not_le, ne_eq, Decidable.not_not] at h); (try (exfalso; omega))))
        | refine WC.block ?_
        | refine WC.skip ?_
        | refine WC.ret ?_
        | refine WC.exit ?_)
      | refine Qseq.nm ?_
      | refine Qseq.r ?_
      | refine Qseq.x ?_
      | refine Qblock.nm ?_
      | refine Qblock.r ?_
      | (apply Qblock.t; exact rfl)
      | (apply Qblock.f; exact rfl)
      | refine Qmx.r ?_
      | refine Qmx.nm ?_
      | (apply Qmx.f; exact rfl)
      | refine Qmn.r ?_
      | refine Qmn.x ?_
      | refine Qloop.r ?_
      | refine Qloop.x ?_
      | (apply Qfn.one; exact rfl)
      | (apply Qfn.two; exact rfl; exact rfl)
      | (apply Qfn.three; exact rfl; exact rfl; exact rfl)
      | (apply Qfn.cellt; exact rfl; exact rfl; ((repeat (first | exact Pick.here | apply Pick.there))); exact rfl; exact rfl)
      | refine Qfn.zero ?_
      | refine Qfn.zeroN ?_)
    (refine wl_call rfl rfl rfl (scount_spec (l := l) (by omega) hc) (by repeat (first | exact Take.nil | (apply Take.keepI; focus ((repeat (first | exact Pick.here | apply Pick.there)); done)) | (apply Take.cons; focus ((repeat (first | exact Pick.here | apply Pick.there)); done)) | (apply Take.pure; (first | assumption | omega)))) ?_)
    rintro _ _ ⟨rfl, rfl⟩
    have hcl := count_le hc
    repeat' (first
      | (show WL _ _ _ _ _ _ _; first
        | (apply wl_calc; exact rfl; exact True.intro; exact rfl)
        | refine WL.nil ?_
        | (apply wl_ld; exact rfl; exact rfl; ((repeat (first | exact Pick.here | apply Pick.there))); exact rfl; exact rfl)
        | (apply wl_calc; exact rfl; ((try simp only [inR]); omega); exact rfl)
        | (apply wl_store; exact rfl; exact rfl; exact rfl; ((repeat (first | exact Pick.here | apply Pick.there))); exact rfl)
        | (apply wl_ixI; exact rfl; exact rfl; exact rfl; exact rfl; exact rfl; ((repeat (first | exact Pick.here | apply Pick.there))); exact rfl; (first | exact rfl | omega); omega; exact rfl)
        | (apply wl_ldEI; exact rfl; exact rfl; ((repeat (first | exact Pick.here | apply Pick.there))); exact rfl; assumption; exact rfl; exact rfl)
        | (apply wl_fldE; exact rfl; exact rfl; exact rfl; exact rfl; exact rfl)
        | (apply wl_ixO; exact rfl; exact rfl; exact rfl; exact rfl; exact rfl; ((repeat (first | exact Pick.here | apply Pick.there))); exact rfl; (first | exact rfl | omega); omega; exact rfl)
        | (apply wl_ldEO; exact rfl; exact rfl; ((repeat (first | exact Pick.here | apply Pick.there))); exact rfl; assumption; exact rfl; exact rfl)
        | (apply wl_guard; exact rfl; exact rfl; exact rfl; exact rfl)
        | (apply wl_gno; exact rfl; exact rfl; exact rfl; exact rfl; exact rfl)
        | (apply wl_gsplit; exact rfl; exact rfl; exact rfl; exact rfl; all_goals (intro h; (try simp only [reduceCtorEq, not_true_eq_false, not_false_eq_true, decide_eq_true_eq, decide_eq_false_iff_not, Bool.not_eq_true', Bool.not_eq_false', Bool.not_true, Bool.not_false, Int.not_lt, Int.not_le, ne_eq, Decidable.not_not] at h); (try (exfalso; omega))))
        | (apply wl_rem; exact rfl; exact rfl; omega; exact rfl)
        | (apply wl_row; (iterate 7 (exact rfl)); intro b1)
        | (apply wl_box; exact rfl; exact rfl; exact rfl; intro b1)
        | (apply wl_alloc; exact rfl; exact rfl; intro b1)
        | (apply wl_eqlS; exact rfl; exact rfl; exact rfl)
        | (apply wl_neqS; exact rfl; exact rfl; exact rfl))
      | (show WC _ _ _ _ _ _; first
        | refine WC.seq ?_
        | (apply WC.region; exact rfl)
        | (apply WC.condT; exact rfl)
        | (apply WC.condF; exact rfl)
        | (apply WC.cond; exact rfl; all_goals (intro h; (try simp only [reduceCtorEq, not_true_eq_false, not_false_eq_true, decide_eq_true_eq, decide_eq_false_iff_not, Bool.not_eq_true', Bool.not_eq_false', Bool.not_true, Bool.not_false, Int.not_lt, Int.not_le, ne_eq, Decidable.not_not] at h); (try (exfalso; omega))))
        | refine WC.block ?_
        | refine WC.skip ?_
        | refine WC.ret ?_
        | refine WC.exit ?_)
      | refine Qseq.nm ?_
      | refine Qseq.r ?_
      | refine Qseq.x ?_
      | refine Qblock.nm ?_
      | refine Qblock.r ?_
      | (apply Qblock.t; exact rfl)
      | (apply Qblock.f; exact rfl)
      | refine Qmx.r ?_
      | refine Qmx.nm ?_
      | (apply Qmx.f; exact rfl)
      | refine Qmn.r ?_
      | refine Qmn.x ?_
      | refine Qloop.r ?_
      | refine Qloop.x ?_
      | (apply Qfn.one; exact rfl)
      | (apply Qfn.two; exact rfl; exact rfl)
      | (apply Qfn.three; exact rfl; exact rfl; exact rfl)
      | (apply Qfn.cellt; exact rfl; exact rfl; ((repeat (first | exact Pick.here | apply Pick.there))); exact rfl; exact rfl)
      | refine Qfn.zero ?_
      | refine Qfn.zeroN ?_)
    refine WC.midxU 2 [] (fun d D => ∃ n : Int, (0 ≤ n ∧ n ≤ w ∧ countM (cutM l f (f + w)) = countM l - n) ∧ d = [(16, .int .i64 n)] ∧ D = []) rfl (by repeat (first | exact Take.nil | (apply Take.keepI; focus ((repeat (first | exact Pick.here | apply Pick.there)); done)) | (apply Take.cons; focus ((repeat (first | exact Pick.here | apply Pick.there)); done)) | (apply Take.pure; (first | assumption | omega)))) ?_ ?_
    · refine WC.loopU (fun k d D => ∃ (i : Nat) (n : Int), (i ≤ w ∧ 0 ≤ n ∧ n ≤ i ∧ countM (cutM l f (f + i)) = countM l - n) ∧ k = w - i ∧ d = [(17, .int .i64 (f + i)), (16, .int .i64 n)] ∧ D = []) rfl (by rw [show f + ((0 : Nat) : Int) = f by omega]; repeat (first | exact trivial | refine ⟨rfl, ?_⟩)) (by repeat (first | exact Take.nil | (apply Take.keepI; focus ((repeat (first | exact Pick.here | apply Pick.there)); done)) | (apply Take.cons; focus ((repeat (first | exact Pick.here | apply Pick.there)); done)) | (apply Take.pure; (first | assumption | omega)))) ⟨0, 0, ⟨by omega, by omega, by omega, by rw [show f + ((0 : Nat) : Int) = f by omega, cut_nil]; omega⟩, rfl, rfl, rfl⟩ ?_
      rintro _ _ _ ⟨i, n, ⟨hi, hn, hni, hct⟩, rfl, rfl, rfl⟩
      repeat' (first
        | (show WL _ _ _ _ _ _ _; first
          | (apply wl_calc; exact rfl; exact True.intro; exact rfl)
          | refine WL.nil ?_
          | (apply wl_ld; exact rfl; exact rfl; ((repeat (first | exact Pick.here | apply Pick.there))); exact rfl; exact rfl)
          | (apply wl_calc; exact rfl; ((try simp only [inR]); omega); exact rfl)
          | (apply wl_store; exact rfl; exact rfl; exact rfl; ((repeat (first | exact Pick.here | apply Pick.there))); exact rfl)
          | (apply wl_ixI; exact rfl; exact rfl; exact rfl; exact rfl; exact rfl; ((repeat (first | exact Pick.here | apply Pick.there))); exact rfl; (first | exact rfl | omega); omega; exact rfl)
          | (apply wl_ldEI; exact rfl; exact rfl; ((repeat (first | exact Pick.here | apply Pick.there))); exact rfl; assumption; exact rfl; exact rfl)
          | (apply wl_fldE; exact rfl; exact rfl; exact rfl; exact rfl; exact rfl)
          | (apply wl_ixO; exact rfl; exact rfl; exact rfl; exact rfl; exact rfl; ((repeat (first | exact Pick.here | apply Pick.there))); exact rfl; (first | exact rfl | omega); omega; exact rfl)
          | (apply wl_ldEO; exact rfl; exact rfl; ((repeat (first | exact Pick.here | apply Pick.there))); exact rfl; assumption; exact rfl; exact rfl)
          | (apply wl_guard; exact rfl; exact rfl; exact rfl; exact rfl)
          | (apply wl_gno; exact rfl; exact rfl; exact rfl; exact rfl; exact rfl)
          | (apply wl_gsplit; exact rfl; exact rfl; exact rfl; exact rfl; all_goals (intro h; (try simp only [reduceCtorEq, not_true_eq_false, not_false_eq_true, decide_eq_true_eq, decide_eq_false_iff_not, Bool.not_eq_true', Bool.not_eq_false', Bool.not_true, Bool.not_false, Int.not_lt, Int.not_le, ne_eq, Decidable.not_not] at h); (try (exfalso; omega))))
          | (apply wl_rem; exact rfl; exact rfl; omega; exact rfl)
          | (apply wl_row; (iterate 7 (exact rfl)); intro b1)
          | (apply wl_box; exact rfl; exact rfl; exact rfl; intro b1)
          | (apply wl_alloc; exact rfl; exact rfl; intro b1)
          | (apply wl_eqlS; exact rfl; exact rfl; exact rfl)
          | (apply wl_neqS; exact rfl; exact rfl; exact rfl))
        | (show WC _ _ _ _ _ _; first
          | refine WC.seq ?_
          | (apply WC.region; exact rfl)
          | (apply WC.condT; exact rfl)
          | (apply WC.condF; exact rfl)
          | (apply WC.cond; exact rfl; all_goals (intro h; (try simp only [reduceCtorEq, not_true_eq_false, not_false_eq_true, decide_eq_true_eq, decide_eq_false_iff_not, Bool.not_eq_true', Bool.not_eq_false', Bool.not_true, Bool.not_false, Int.not_lt, Int.not_le, ne_eq, Decidable.not_not] at h); (try (exfalso; omega))))
          | refine WC.block ?_
          | refine WC.skip ?_
          | refine WC.ret ?_
          | refine WC.exit ?_)
        | refine Qseq.nm ?_
        | refine Qseq.r ?_
        | refine Qseq.x ?_
        | refine Qblock.nm ?_
        | refine Qblock.r ?_
        | (apply Qblock.t; exact rfl)
        | (apply Qblock.f; exact rfl)
        | refine Qmx.r ?_
        | refine Qmx.nm ?_
        | (apply Qmx.f; exact rfl)
        | refine Qmn.r ?_
        | refine Qmn.x ?_
        | refine Qloop.r ?_
        | refine Qloop.x ?_
        | (apply Qfn.one; exact rfl)
        | (apply Qfn.two; exact rfl; exact rfl)
        | (apply Qfn.three; exact rfl; exact rfl; exact rfl)
        | (apply Qfn.cellt; exact rfl; exact rfl; ((repeat (first | exact Pick.here | apply Pick.there))); exact rfl; exact rfl)
        | refine Qfn.zero ?_
        | refine Qfn.zeroN ?_)
      · (refine wl_call rfl rfl rfl (shas_spec (l := l) (by omega) (f + i) (f + i + 1)) (by repeat (first | exact Take.nil | (apply Take.keepI; focus ((repeat (first | exact Pick.here | apply Pick.there)); done)) | (apply Take.cons; focus ((repeat (first | exact Pick.here | apply Pick.there)); done)) | (apply Take.pure; (first | assumption | omega)))) ?_)
        rintro _ _ ⟨rfl, rfl⟩
        have hcs := cut_step hc (f := f) (k := f + i) (by omega) (by omega) (by omega)
        repeat' (first
          | (show WL _ _ _ _ _ _ _; first
            | (apply wl_calc; exact rfl; exact True.intro; exact rfl)
            | refine WL.nil ?_
            | (apply wl_ld; exact rfl; exact rfl; ((repeat (first | exact Pick.here | apply Pick.there))); exact rfl; exact rfl)
            | (apply wl_calc; exact rfl; ((try simp only [inR]); omega); exact rfl)
            | (apply wl_store; exact rfl; exact rfl; exact rfl; ((repeat (first | exact Pick.here | apply Pick.there))); exact rfl)
            | (apply wl_ixI; exact rfl; exact rfl; exact rfl; exact rfl; exact rfl; ((repeat (first | exact Pick.here | apply Pick.there))); exact rfl; (first | exact rfl | omega); omega; exact rfl)
            | (apply wl_ldEI; exact rfl; exact rfl; ((repeat (first | exact Pick.here | apply Pick.there))); exact rfl; assumption; exact rfl; exact rfl)
            | (apply wl_fldE; exact rfl; exact rfl; exact rfl; exact rfl; exact rfl)
            | (apply wl_ixO; exact rfl; exact rfl; exact rfl; exact rfl; exact rfl; ((repeat (first | exact Pick.here | apply Pick.there))); exact rfl; (first | exact rfl | omega); omega; exact rfl)
            | (apply wl_ldEO; exact rfl; exact rfl; ((repeat (first | exact Pick.here | apply Pick.there))); exact rfl; assumption; exact rfl; exact rfl)
            | (apply wl_guard; exact rfl; exact rfl; exact rfl; exact rfl)
            | (apply wl_gno; exact rfl; exact rfl; exact rfl; exact rfl; exact rfl)
            | (apply wl_gsplit; exact rfl; exact rfl; exact rfl; exact rfl; all_goals (intro h; (try simp only [reduceCtorEq, not_true_eq_false, not_false_eq_true, decide_eq_true_eq, decide_eq_false_iff_not, Bool.not_eq_true', Bool.not_eq_false', Bool.not_true, Bool.not_false, Int.not_lt, Int.not_le, ne_eq, Decidable.not_not] at h); (try (exfalso; omega))))
            | (apply wl_rem; exact rfl; exact rfl; omega; exact rfl)
            | (apply wl_row; (iterate 7 (exact rfl)); intro b1)
            | (apply wl_box; exact rfl; exact rfl; exact rfl; intro b1)
            | (apply wl_alloc; exact rfl; exact rfl; intro b1)
            | (apply wl_eqlS; exact rfl; exact rfl; exact rfl)
            | (apply wl_neqS; exact rfl; exact rfl; exact rfl))
          | (show WC _ _ _ _ _ _; first
            | refine WC.seq ?_
            | (apply WC.region; exact rfl)
            | (apply WC.condT; exact rfl)
            | (apply WC.condF; exact rfl)
            | (apply WC.cond; exact rfl; all_goals (intro h; (try simp only [reduceCtorEq, not_true_eq_false, not_false_eq_true, decide_eq_true_eq, decide_eq_false_iff_not, Bool.not_eq_true', Bool.not_eq_false', Bool.not_true, Bool.not_false, Int.not_lt, Int.not_le, ne_eq, Decidable.not_not] at h); (try (exfalso; omega))))
            | refine WC.block ?_
            | refine WC.skip ?_
            | refine WC.ret ?_
            | refine WC.exit ?_)
          | refine Qseq.nm ?_
          | refine Qseq.r ?_
          | refine Qseq.x ?_
          | refine Qblock.nm ?_
          | refine Qblock.r ?_
          | (apply Qblock.t; exact rfl)
          | (apply Qblock.f; exact rfl)
          | refine Qmx.r ?_
          | refine Qmx.nm ?_
          | (apply Qmx.f; exact rfl)
          | refine Qmn.r ?_
          | refine Qmn.x ?_
          | refine Qloop.r ?_
          | refine Qloop.x ?_
          | (apply Qfn.one; exact rfl)
          | (apply Qfn.two; exact rfl; exact rfl)
          | (apply Qfn.three; exact rfl; exact rfl; exact rfl)
          | (apply Qfn.cellt; exact rfl; exact rfl; ((repeat (first | exact Pick.here | apply Pick.there))); exact rfl; exact rfl)
          | refine Qfn.zero ?_
          | refine Qfn.zeroN ?_)
        · rw [if_pos h] at hcs
          exact Qloop.againU (w - (i + 1)) (by omega) ⟨i + 1, n + 1, ⟨by omega, by omega, by omega, by rw [show f + ((i + 1 : Nat) : Int) = f + i + 1 by omega, hcs]; omega⟩, rfl, rfl, rfl⟩ (by rw [show f + ((i + 1 : Nat) : Int) = f + i + 1 by omega]; repeat (first | exact trivial | refine ⟨rfl, ?_⟩)) (by repeat (first | exact Take.nil | (apply Take.keepI; focus ((repeat (first | exact Pick.here | apply Pick.there)); done)) | (apply Take.cons; focus ((repeat (first | exact Pick.here | apply Pick.there)); done)) | (apply Take.pure; (first | assumption | omega))))
        · rw [if_neg (by rw [h]; simp)] at hcs
          exact Qloop.againU (w - (i + 1)) (by omega) ⟨i + 1, n, ⟨by omega, by omega, by omega, by rw [show f + ((i + 1 : Nat) : Int) = f + i + 1 by omega, hcs]; omega⟩, rfl, rfl, rfl⟩ (by rw [show f + ((i + 1 : Nat) : Int) = f + i + 1 by omega]; repeat (first | exact trivial | refine ⟨rfl, ?_⟩)) (by repeat (first | exact Take.nil | (apply Take.keepI; focus ((repeat (first | exact Pick.here | apply Pick.there)); done)) | (apply Take.cons; focus ((repeat (first | exact Pick.here | apply Pick.there)); done)) | (apply Take.pure; (first | assumption | omega))))
      · obtain rfl : i = w := by omega
        exact Qmx.hitU ⟨n, ⟨by omega, by omega, hct⟩, rfl, rfl⟩ (by repeat (first | exact trivial | refine ⟨rfl, ?_⟩)) (by repeat (first | exact Take.nil | (apply Take.keepI; focus ((repeat (first | exact Pick.here | apply Pick.there)); done)) | (apply Take.cons; focus ((repeat (first | exact Pick.here | apply Pick.there)); done)) | (apply Take.pure; (first | assumption | omega))))
    · rintro _ _ ⟨n, ⟨hn, hnw, hct⟩, rfl, rfl⟩
      obtain ⟨t, ht⟩ : ∃ t, t = f + (w : Int) := ⟨_, rfl⟩
      rw [← ht] at hct ⊢
      repeat' (first
        | (show WL _ _ _ _ _ _ _; first
          | (apply wl_calc; exact rfl; exact True.intro; exact rfl)
          | refine WL.nil ?_
          | (apply wl_ld; exact rfl; exact rfl; ((repeat (first | exact Pick.here | apply Pick.there))); exact rfl; exact rfl)
          | (apply wl_calc; exact rfl; ((try simp only [inR]); omega); exact rfl)
          | (apply wl_store; exact rfl; exact rfl; exact rfl; ((repeat (first | exact Pick.here | apply Pick.there))); exact rfl)
          | (apply wl_ixI; exact rfl; exact rfl; exact rfl; exact rfl; exact rfl; ((repeat (first | exact Pick.here | apply Pick.there))); exact rfl; (first | exact rfl | omega); omega; exact rfl)
          | (apply wl_ldEI; exact rfl; exact rfl; ((repeat (first | exact Pick.here | apply Pick.there))); exact rfl; assumption; exact rfl; exact rfl)
          | (apply wl_fldE; exact rfl; exact rfl; exact rfl; exact rfl; exact rfl)
          | (apply wl_ixO; exact rfl; exact rfl; exact rfl; exact rfl; exact rfl; ((repeat (first | exact Pick.here | apply Pick.there))); exact rfl; (first | exact rfl | omega); omega; exact rfl)
          | (apply wl_ldEO; exact rfl; exact rfl; ((repeat (first | exact Pick.here | apply Pick.there))); exact rfl; assumption; exact rfl; exact rfl)
          | (apply wl_guard; exact rfl; exact rfl; exact rfl; exact rfl)
          | (apply wl_gno; exact rfl; exact rfl; exact rfl; exact rfl; exact rfl)
          | (apply wl_gsplit; exact rfl; exact rfl; exact rfl; exact rfl; all_goals (intro h; (try simp only [reduceCtorEq, not_true_eq_false, not_false_eq_true, decide_eq_true_eq, decide_eq_false_iff_not, Bool.not_eq_true', Bool.not_eq_false', Bool.not_true, Bool.not_false, Int.not_lt, Int.not_le, ne_eq, Decidable.not_not] at h); (try (exfalso; omega))))
          | (apply wl_rem; exact rfl; exact rfl; omega; exact rfl)
          | (apply wl_row; (iterate 7 (exact rfl)); intro b1)
          | (apply wl_box; exact rfl; exact rfl; exact rfl; intro b1)
          | (apply wl_alloc; exact rfl; exact rfl; intro b1)
          | (apply wl_eqlS; exact rfl; exact rfl; exact rfl)
          | (apply wl_neqS; exact rfl; exact rfl; exact rfl))
        | (show WC _ _ _ _ _ _; first
          | refine WC.seq ?_
          | (apply WC.region; exact rfl)
          | (apply WC.condT; exact rfl)
          | (apply WC.condF; exact rfl)
          | (apply WC.cond; exact rfl; all_goals (intro h; (try simp only [reduceCtorEq, not_true_eq_false, not_false_eq_true, decide_eq_true_eq, decide_eq_false_iff_not, Bool.not_eq_true', Bool.not_eq_false', Bool.not_true, Bool.not_false, Int.not_lt, Int.not_le, ne_eq, Decidable.not_not] at h); (try (exfalso; omega))))
          | refine WC.block ?_
          | refine WC.skip ?_
          | refine WC.ret ?_
          | refine WC.exit ?_)
        | refine Qseq.nm ?_
        | refine Qseq.r ?_
        | refine Qseq.x ?_
        | refine Qblock.nm ?_
        | refine Qblock.r ?_
        | (apply Qblock.t; exact rfl)
        | (apply Qblock.f; exact rfl)
        | refine Qmx.r ?_
        | refine Qmx.nm ?_
        | (apply Qmx.f; exact rfl)
        | refine Qmn.r ?_
        | refine Qmn.x ?_
        | refine Qloop.r ?_
        | refine Qloop.x ?_
        | (apply Qfn.one; exact rfl)
        | (apply Qfn.two; exact rfl; exact rfl)
        | (apply Qfn.three; exact rfl; exact rfl; exact rfl)
        | (apply Qfn.cellt; exact rfl; exact rfl; ((repeat (first | exact Pick.here | apply Pick.there))); exact rfl; exact rfl)
        | refine Qfn.zero ?_
        | refine Qfn.zeroN ?_)
      have hlc := cutM_len l f t
      have hcc := cutM_canon hc f t
      have hab := add_cut hc f t
      have hal := addM_len l f t
      (refine wl_call rfl rfl rfl (scut_spec (l := l) (by omega) hc f t) (by repeat (first | exact Take.nil | (apply Take.keepI; focus ((repeat (first | exact Pick.here | apply Pick.there)); done)) | (apply Take.cons; focus ((repeat (first | exact Pick.here | apply Pick.there)); done)) | (apply Take.pure; (first | assumption | omega)))) ?_)
      rintro _ _ ⟨rfl, a3, c3, rfl⟩
      repeat' (first
        | (show WL _ _ _ _ _ _ _; first
          | (apply wl_calc; exact rfl; exact True.intro; exact rfl)
          | refine WL.nil ?_
          | (apply wl_ld; exact rfl; exact rfl; ((repeat (first | exact Pick.here | apply Pick.there))); exact rfl; exact rfl)
          | (apply wl_calc; exact rfl; ((try simp only [inR]); omega); exact rfl)
          | (apply wl_store; exact rfl; exact rfl; exact rfl; ((repeat (first | exact Pick.here | apply Pick.there))); exact rfl)
          | (apply wl_ixI; exact rfl; exact rfl; exact rfl; exact rfl; exact rfl; ((repeat (first | exact Pick.here | apply Pick.there))); exact rfl; (first | exact rfl | omega); omega; exact rfl)
          | (apply wl_ldEI; exact rfl; exact rfl; ((repeat (first | exact Pick.here | apply Pick.there))); exact rfl; assumption; exact rfl; exact rfl)
          | (apply wl_fldE; exact rfl; exact rfl; exact rfl; exact rfl; exact rfl)
          | (apply wl_ixO; exact rfl; exact rfl; exact rfl; exact rfl; exact rfl; ((repeat (first | exact Pick.here | apply Pick.there))); exact rfl; (first | exact rfl | omega); omega; exact rfl)
          | (apply wl_ldEO; exact rfl; exact rfl; ((repeat (first | exact Pick.here | apply Pick.there))); exact rfl; assumption; exact rfl; exact rfl)
          | (apply wl_guard; exact rfl; exact rfl; exact rfl; exact rfl)
          | (apply wl_gno; exact rfl; exact rfl; exact rfl; exact rfl; exact rfl)
          | (apply wl_gsplit; exact rfl; exact rfl; exact rfl; exact rfl; all_goals (intro h; (try simp only [reduceCtorEq, not_true_eq_false, not_false_eq_true, decide_eq_true_eq, decide_eq_false_iff_not, Bool.not_eq_true', Bool.not_eq_false', Bool.not_true, Bool.not_false, Int.not_lt, Int.not_le, ne_eq, Decidable.not_not] at h); (try (exfalso; omega))))
          | (apply wl_rem; exact rfl; exact rfl; omega; exact rfl)
          | (apply wl_row; (iterate 7 (exact rfl)); intro b1)
          | (apply wl_box; exact rfl; exact rfl; exact rfl; intro b1)
          | (apply wl_alloc; exact rfl; exact rfl; intro b1)
          | (apply wl_eqlS; exact rfl; exact rfl; exact rfl)
          | (apply wl_neqS; exact rfl; exact rfl; exact rfl))
        | (show WC _ _ _ _ _ _; first
          | refine WC.seq ?_
          | (apply WC.region; exact rfl)
          | (apply WC.condT; exact rfl)
          | (apply WC.condF; exact rfl)
          | (apply WC.cond; exact rfl; all_goals (intro h; (try simp only [reduceCtorEq, not_true_eq_false, not_false_eq_true, decide_eq_true_eq, decide_eq_false_iff_not, Bool.not_eq_true', Bool.not_eq_false', Bool.not_true, Bool.not_false, Int.not_lt, Int.not_le, ne_eq, Decidable.not_not] at h); (try (exfalso; omega))))
          | refine WC.block ?_
          | refine WC.skip ?_
          | refine WC.ret ?_
          | refine WC.exit ?_)
        | refine Qseq.nm ?_
        | refine Qseq.r ?_
        | refine Qseq.x ?_
        | refine Qblock.nm ?_
        | refine Qblock.r ?_
        | (apply Qblock.t; exact rfl)
        | (apply Qblock.f; exact rfl)
        | refine Qmx.r ?_
        | refine Qmx.nm ?_
        | (apply Qmx.f; exact rfl)
        | refine Qmn.r ?_
        | refine Qmn.x ?_
        | refine Qloop.r ?_
        | refine Qloop.x ?_
        | (apply Qfn.one; exact rfl)
        | (apply Qfn.two; exact rfl; exact rfl)
        | (apply Qfn.three; exact rfl; exact rfl; exact rfl)
        | (apply Qfn.cellt; exact rfl; exact rfl; ((repeat (first | exact Pick.here | apply Pick.there))); exact rfl; exact rfl)
        | refine Qfn.zero ?_
        | refine Qfn.zeroN ?_)
      (refine wl_call rfl rfl rfl (scount_spec (l := cutM l f t) (by omega) hcc) (by repeat (first | exact Take.nil | (apply Take.keepI; focus ((repeat (first | exact Pick.here | apply Pick.there)); done)) | (apply Take.cons; focus ((repeat (first | exact Pick.here | apply Pick.there)); done)) | (apply Take.pure; (first | assumption | omega)))) ?_)
      rintro _ _ ⟨rfl, rfl⟩
      rw [hct]
      have hnh : f < t → hasM (cutM l f t) f (f + 1) = false := by
        intro h1
        rw [← Bool.not_eq_true, has_iff, cutM_mem hc]
        rintro ⟨-, h2⟩
        omega
      have hha := has_add hc (f := f) (t := t) (by omega) (by omega)
      have hac := addM_canon hc f t
      repeat' (first
        | (show WL _ _ _ _ _ _ _; first
          | (apply wl_calc; exact rfl; exact True.intro; exact rfl)
          | refine WL.nil ?_
          | (apply wl_ld; exact rfl; exact rfl; ((repeat (first | exact Pick.here | apply Pick.there))); exact rfl; exact rfl)
          | (apply wl_calc; exact rfl; ((try simp only [inR]); omega); exact rfl)
          | (apply wl_store; exact rfl; exact rfl; exact rfl; ((repeat (first | exact Pick.here | apply Pick.there))); exact rfl)
          | (apply wl_ixI; exact rfl; exact rfl; exact rfl; exact rfl; exact rfl; ((repeat (first | exact Pick.here | apply Pick.there))); exact rfl; (first | exact rfl | omega); omega; exact rfl)
          | (apply wl_ldEI; exact rfl; exact rfl; ((repeat (first | exact Pick.here | apply Pick.there))); exact rfl; assumption; exact rfl; exact rfl)
          | (apply wl_fldE; exact rfl; exact rfl; exact rfl; exact rfl; exact rfl)
          | (apply wl_ixO; exact rfl; exact rfl; exact rfl; exact rfl; exact rfl; ((repeat (first | exact Pick.here | apply Pick.there))); exact rfl; (first | exact rfl | omega); omega; exact rfl)
          | (apply wl_ldEO; exact rfl; exact rfl; ((repeat (first | exact Pick.here | apply Pick.there))); exact rfl; assumption; exact rfl; exact rfl)
          | (apply wl_guard; exact rfl; exact rfl; exact rfl; exact rfl)
          | (apply wl_gno; exact rfl; exact rfl; exact rfl; exact rfl; exact rfl)
          | (apply wl_gsplit; exact rfl; exact rfl; exact rfl; exact rfl; all_goals (intro h; (try simp only [reduceCtorEq, not_true_eq_false, not_false_eq_true, decide_eq_true_eq, decide_eq_false_iff_not, Bool.not_eq_true', Bool.not_eq_false', Bool.not_true, Bool.not_false, Int.not_lt, Int.not_le, ne_eq, Decidable.not_not] at h); (try (exfalso; omega))))
          | (apply wl_rem; exact rfl; exact rfl; omega; exact rfl)
          | (apply wl_row; (iterate 7 (exact rfl)); intro b1)
          | (apply wl_box; exact rfl; exact rfl; exact rfl; intro b1)
          | (apply wl_alloc; exact rfl; exact rfl; intro b1)
          | (apply wl_eqlS; exact rfl; exact rfl; exact rfl)
          | (apply wl_neqS; exact rfl; exact rfl; exact rfl))
        | (show WC _ _ _ _ _ _; first
          | refine WC.seq ?_
          | (apply WC.region; exact rfl)
          | (apply WC.condT; exact rfl)
          | (apply WC.condF; exact rfl)
          | (apply WC.cond; exact rfl; all_goals (intro h; (try simp only [reduceCtorEq, not_true_eq_false, not_false_eq_true, decide_eq_true_eq, decide_eq_false_iff_not, Bool.not_eq_true', Bool.not_eq_false', Bool.not_true, Bool.not_false, Int.not_lt, Int.not_le, ne_eq, Decidable.not_not] at h); (try (exfalso; omega))))
          | refine WC.block ?_
          | refine WC.skip ?_
          | refine WC.ret ?_
          | refine WC.exit ?_)
        | refine Qseq.nm ?_
        | refine Qseq.r ?_
        | refine Qseq.x ?_
        | refine Qblock.nm ?_
        | refine Qblock.r ?_
        | (apply Qblock.t; exact rfl)
        | (apply Qblock.f; exact rfl)
        | refine Qmx.r ?_
        | refine Qmx.nm ?_
        | (apply Qmx.f; exact rfl)
        | refine Qmn.r ?_
        | refine Qmn.x ?_
        | refine Qloop.r ?_
        | refine Qloop.x ?_
        | (apply Qfn.one; exact rfl)
        | (apply Qfn.two; exact rfl; exact rfl)
        | (apply Qfn.three; exact rfl; exact rfl; exact rfl)
        | (apply Qfn.cellt; exact rfl; exact rfl; ((repeat (first | exact Pick.here | apply Pick.there))); exact rfl; exact rfl)
        | refine Qfn.zero ?_
        | refine Qfn.zeroN ?_)
      · (refine wl_call rfl rfl rfl (shas_spec (l := cutM l f t) (by omega) f (f + 1)) (by repeat (first | exact Take.nil | (apply Take.keepI; focus ((repeat (first | exact Pick.here | apply Pick.there)); done)) | (apply Take.cons; focus ((repeat (first | exact Pick.here | apply Pick.there)); done)) | (apply Take.pure; (first | assumption | omega)))) ?_)
        rintro _ _ ⟨rfl, rfl⟩
        rw [hnh (by omega)]
        repeat' (first
          | (show WL _ _ _ _ _ _ _; first
            | (apply wl_calc; exact rfl; exact True.intro; exact rfl)
            | refine WL.nil ?_
            | (apply wl_ld; exact rfl; exact rfl; ((repeat (first | exact Pick.here | apply Pick.there))); exact rfl; exact rfl)
            | (apply wl_calc; exact rfl; ((try simp only [inR]); omega); exact rfl)
            | (apply wl_store; exact rfl; exact rfl; exact rfl; ((repeat (first | exact Pick.here | apply Pick.there))); exact rfl)
            | (apply wl_ixI; exact rfl; exact rfl; exact rfl; exact rfl; exact rfl; ((repeat (first | exact Pick.here | apply Pick.there))); exact rfl; (first | exact rfl | omega); omega; exact rfl)
            | (apply wl_ldEI; exact rfl; exact rfl; ((repeat (first | exact Pick.here | apply Pick.there))); exact rfl; assumption; exact rfl; exact rfl)
            | (apply wl_fldE; exact rfl; exact rfl; exact rfl; exact rfl; exact rfl)
            | (apply wl_ixO; exact rfl; exact rfl; exact rfl; exact rfl; exact rfl; ((repeat (first | exact Pick.here | apply Pick.there))); exact rfl; (first | exact rfl | omega); omega; exact rfl)
            | (apply wl_ldEO; exact rfl; exact rfl; ((repeat (first | exact Pick.here | apply Pick.there))); exact rfl; assumption; exact rfl; exact rfl)
            | (apply wl_guard; exact rfl; exact rfl; exact rfl; exact rfl)
            | (apply wl_gno; exact rfl; exact rfl; exact rfl; exact rfl; exact rfl)
            | (apply wl_gsplit; exact rfl; exact rfl; exact rfl; exact rfl; all_goals (intro h; (try simp only [reduceCtorEq, not_true_eq_false, not_false_eq_true, decide_eq_true_eq, decide_eq_false_iff_not, Bool.not_eq_true', Bool.not_eq_false', Bool.not_true, Bool.not_false, Int.not_lt, Int.not_le, ne_eq, Decidable.not_not] at h); (try (exfalso; omega))))
            | (apply wl_rem; exact rfl; exact rfl; omega; exact rfl)
            | (apply wl_row; (iterate 7 (exact rfl)); intro b1)
            | (apply wl_box; exact rfl; exact rfl; exact rfl; intro b1)
            | (apply wl_alloc; exact rfl; exact rfl; intro b1)
            | (apply wl_eqlS; exact rfl; exact rfl; exact rfl)
            | (apply wl_neqS; exact rfl; exact rfl; exact rfl))
          | (show WC _ _ _ _ _ _; first
            | refine WC.seq ?_
            | (apply WC.region; exact rfl)
            | (apply WC.condT; exact rfl)
            | (apply WC.condF; exact rfl)
            | (apply WC.cond; exact rfl; all_goals (intro h; (try simp only [reduceCtorEq, not_true_eq_false, not_false_eq_true, decide_eq_true_eq, decide_eq_false_iff_not, Bool.not_eq_true', Bool.not_eq_false', Bool.not_true, Bool.not_false, Int.not_lt, Int.not_le, ne_eq, Decidable.not_not] at h); (try (exfalso; omega))))
            | refine WC.block ?_
            | refine WC.skip ?_
            | refine WC.ret ?_
            | refine WC.exit ?_)
          | refine Qseq.nm ?_
          | refine Qseq.r ?_
          | refine Qseq.x ?_
          | refine Qblock.nm ?_
          | refine Qblock.r ?_
          | (apply Qblock.t; exact rfl)
          | (apply Qblock.f; exact rfl)
          | refine Qmx.r ?_
          | refine Qmx.nm ?_
          | (apply Qmx.f; exact rfl)
          | refine Qmn.r ?_
          | refine Qmn.x ?_
          | refine Qloop.r ?_
          | refine Qloop.x ?_
          | (apply Qfn.one; exact rfl)
          | (apply Qfn.two; exact rfl; exact rfl)
          | (apply Qfn.three; exact rfl; exact rfl; exact rfl)
          | (apply Qfn.cellt; exact rfl; exact rfl; ((repeat (first | exact Pick.here | apply Pick.there))); exact rfl; exact rfl)
          | refine Qfn.zero ?_
          | refine Qfn.zeroN ?_)
        (refine wl_call rfl rfl rfl (sadd_spec (l := l) (by omega) hc f t) (by repeat (first | exact Take.nil | (apply Take.keepI; focus ((repeat (first | exact Pick.here | apply Pick.there)); done)) | (apply Take.cons; focus ((repeat (first | exact Pick.here | apply Pick.there)); done)) | (apply Take.pure; (first | assumption | omega)))) ?_)
        rintro _ _ ⟨rfl, a4, c4, rfl⟩
        repeat' (first
          | (show WL _ _ _ _ _ _ _; first
            | (apply wl_calc; exact rfl; exact True.intro; exact rfl)
            | refine WL.nil ?_
            | (apply wl_ld; exact rfl; exact rfl; ((repeat (first | exact Pick.here | apply Pick.there))); exact rfl; exact rfl)
            | (apply wl_calc; exact rfl; ((try simp only [inR]); omega); exact rfl)
            | (apply wl_store; exact rfl; exact rfl; exact rfl; ((repeat (first | exact Pick.here | apply Pick.there))); exact rfl)
            | (apply wl_ixI; exact rfl; exact rfl; exact rfl; exact rfl; exact rfl; ((repeat (first | exact Pick.here | apply Pick.there))); exact rfl; (first | exact rfl | omega); omega; exact rfl)
            | (apply wl_ldEI; exact rfl; exact rfl; ((repeat (first | exact Pick.here | apply Pick.there))); exact rfl; assumption; exact rfl; exact rfl)
            | (apply wl_fldE; exact rfl; exact rfl; exact rfl; exact rfl; exact rfl)
            | (apply wl_ixO; exact rfl; exact rfl; exact rfl; exact rfl; exact rfl; ((repeat (first | exact Pick.here | apply Pick.there))); exact rfl; (first | exact rfl | omega); omega; exact rfl)
            | (apply wl_ldEO; exact rfl; exact rfl; ((repeat (first | exact Pick.here | apply Pick.there))); exact rfl; assumption; exact rfl; exact rfl)
            | (apply wl_guard; exact rfl; exact rfl; exact rfl; exact rfl)
            | (apply wl_gno; exact rfl; exact rfl; exact rfl; exact rfl; exact rfl)
            | (apply wl_gsplit; exact rfl; exact rfl; exact rfl; exact rfl; all_goals (intro h; (try simp only [reduceCtorEq, not_true_eq_false, not_false_eq_true, decide_eq_true_eq, decide_eq_false_iff_not, Bool.not_eq_true', Bool.not_eq_false', Bool.not_true, Bool.not_false, Int.not_lt, Int.not_le, ne_eq, Decidable.not_not] at h); (try (exfalso; omega))))
            | (apply wl_rem; exact rfl; exact rfl; omega; exact rfl)
            | (apply wl_row; (iterate 7 (exact rfl)); intro b1)
            | (apply wl_box; exact rfl; exact rfl; exact rfl; intro b1)
            | (apply wl_alloc; exact rfl; exact rfl; intro b1)
            | (apply wl_eqlS; exact rfl; exact rfl; exact rfl)
            | (apply wl_neqS; exact rfl; exact rfl; exact rfl))
          | (show WC _ _ _ _ _ _; first
            | refine WC.seq ?_
            | (apply WC.region; exact rfl)
            | (apply WC.condT; exact rfl)
            | (apply WC.condF; exact rfl)
            | (apply WC.cond; exact rfl; all_goals (intro h; (try simp only [reduceCtorEq, not_true_eq_false, not_false_eq_true, decide_eq_true_eq, decide_eq_false_iff_not, Bool.not_eq_true', Bool.not_eq_false', Bool.not_true, Bool.not_false, Int.not_lt, Int.not_le, ne_eq, Decidable.not_not] at h); (try (exfalso; omega))))
            | refine WC.block ?_
            | refine WC.skip ?_
            | refine WC.ret ?_
            | refine WC.exit ?_)
          | refine Qseq.nm ?_
          | refine Qseq.r ?_
          | refine Qseq.x ?_
          | refine Qblock.nm ?_
          | refine Qblock.r ?_
          | (apply Qblock.t; exact rfl)
          | (apply Qblock.f; exact rfl)
          | refine Qmx.r ?_
          | refine Qmx.nm ?_
          | (apply Qmx.f; exact rfl)
          | refine Qmn.r ?_
          | refine Qmn.x ?_
          | refine Qloop.r ?_
          | refine Qloop.x ?_
          | (apply Qfn.one; exact rfl)
          | (apply Qfn.two; exact rfl; exact rfl)
          | (apply Qfn.three; exact rfl; exact rfl; exact rfl)
          | (apply Qfn.cellt; exact rfl; exact rfl; ((repeat (first | exact Pick.here | apply Pick.there))); exact rfl; exact rfl)
          | refine Qfn.zero ?_
          | refine Qfn.zeroN ?_)
        (refine wl_call rfl rfl rfl (sadd_spec (l := cutM l f t) (by omega) hcc f t) (by repeat (first | exact Take.nil | (apply Take.keepI; focus ((repeat (first | exact Pick.here | apply Pick.there)); done)) | (apply Take.cons; focus ((repeat (first | exact Pick.here | apply Pick.there)); done)) | (apply Take.pure; (first | assumption | omega)))) ?_)
        rintro _ _ ⟨rfl, a5, c5, rfl⟩
        rw [hab]
        repeat' (first
          | (show WL _ _ _ _ _ _ _; first
            | (apply wl_calc; exact rfl; exact True.intro; exact rfl)
            | refine WL.nil ?_
            | (apply wl_ld; exact rfl; exact rfl; ((repeat (first | exact Pick.here | apply Pick.there))); exact rfl; exact rfl)
            | (apply wl_calc; exact rfl; ((try simp only [inR]); omega); exact rfl)
            | (apply wl_store; exact rfl; exact rfl; exact rfl; ((repeat (first | exact Pick.here | apply Pick.there))); exact rfl)
            | (apply wl_ixI; exact rfl; exact rfl; exact rfl; exact rfl; exact rfl; ((repeat (first | exact Pick.here | apply Pick.there))); exact rfl; (first | exact rfl | omega); omega; exact rfl)
            | (apply wl_ldEI; exact rfl; exact rfl; ((repeat (first | exact Pick.here | apply Pick.there))); exact rfl; assumption; exact rfl; exact rfl)
            | (apply wl_fldE; exact rfl; exact rfl; exact rfl; exact rfl; exact rfl)
            | (apply wl_ixO; exact rfl; exact rfl; exact rfl; exact rfl; exact rfl; ((repeat (first | exact Pick.here | apply Pick.there))); exact rfl; (first | exact rfl | omega); omega; exact rfl)
            | (apply wl_ldEO; exact rfl; exact rfl; ((repeat (first | exact Pick.here | apply Pick.there))); exact rfl; assumption; exact rfl; exact rfl)
            | (apply wl_guard; exact rfl; exact rfl; exact rfl; exact rfl)
            | (apply wl_gno; exact rfl; exact rfl; exact rfl; exact rfl; exact rfl)
            | (apply wl_gsplit; exact rfl; exact rfl; exact rfl; exact rfl; all_goals (intro h; (try simp only [reduceCtorEq, not_true_eq_false, not_false_eq_true, decide_eq_true_eq, decide_eq_false_iff_not, Bool.not_eq_true', Bool.not_eq_false', Bool.not_true, Bool.not_false, Int.not_lt, Int.not_le, ne_eq, Decidable.not_not] at h); (try (exfalso; omega))))
            | (apply wl_rem; exact rfl; exact rfl; omega; exact rfl)
            | (apply wl_row; (iterate 7 (exact rfl)); intro b1)
            | (apply wl_box; exact rfl; exact rfl; exact rfl; intro b1)
            | (apply wl_alloc; exact rfl; exact rfl; intro b1)
            | (apply wl_eqlS; exact rfl; exact rfl; exact rfl)
            | (apply wl_neqS; exact rfl; exact rfl; exact rfl))
          | (show WC _ _ _ _ _ _; first
            | refine WC.seq ?_
            | (apply WC.region; exact rfl)
            | (apply WC.condT; exact rfl)
            | (apply WC.condF; exact rfl)
            | (apply WC.cond; exact rfl; all_goals (intro h; (try simp only [reduceCtorEq, not_true_eq_false, not_false_eq_true, decide_eq_true_eq, decide_eq_false_iff_not, Bool.not_eq_true', Bool.not_eq_false', Bool.not_true, Bool.not_false, Int.not_lt, Int.not_le, ne_eq, Decidable.not_not] at h); (try (exfalso; omega))))
            | refine WC.block ?_
            | refine WC.skip ?_
            | refine WC.ret ?_
            | refine WC.exit ?_)
          | refine Qseq.nm ?_
          | refine Qseq.r ?_
          | refine Qseq.x ?_
          | refine Qblock.nm ?_
          | refine Qblock.r ?_
          | (apply Qblock.t; exact rfl)
          | (apply Qblock.f; exact rfl)
          | refine Qmx.r ?_
          | refine Qmx.nm ?_
          | (apply Qmx.f; exact rfl)
          | refine Qmn.r ?_
          | refine Qmn.x ?_
          | refine Qloop.r ?_
          | refine Qloop.x ?_
          | (apply Qfn.one; exact rfl)
          | (apply Qfn.two; exact rfl; exact rfl)
          | (apply Qfn.three; exact rfl; exact rfl; exact rfl)
          | (apply Qfn.cellt; exact rfl; exact rfl; ((repeat (first | exact Pick.here | apply Pick.there))); exact rfl; exact rfl)
          | refine Qfn.zero ?_
          | refine Qfn.zeroN ?_)
        (refine wl_call rfl rfl rfl (sall_spec (l := addM l f t) (by omega)) (by repeat (first | exact Take.nil | (apply Take.keepI; focus ((repeat (first | exact Pick.here | apply Pick.there)); done)) | (apply Take.cons; focus ((repeat (first | exact Pick.here | apply Pick.there)); done)) | (apply Take.pure; (first | assumption | omega)))) ?_)
        rintro _ _ ⟨a6, c6, rfl, rfl⟩
        refine WL.ent (Ent.sh (a := a6) (c := c6) (by (repeat (first | exact Pick.here | apply Pick.there)))) ?_
        repeat' (first
          | (show WL _ _ _ _ _ _ _; first
            | (apply wl_calc; exact rfl; exact True.intro; exact rfl)
            | refine WL.nil ?_
            | (apply wl_ld; exact rfl; exact rfl; ((repeat (first | exact Pick.here | apply Pick.there))); exact rfl; exact rfl)
            | (apply wl_calc; exact rfl; ((try simp only [inR]); omega); exact rfl)
            | (apply wl_store; exact rfl; exact rfl; exact rfl; ((repeat (first | exact Pick.here | apply Pick.there))); exact rfl)
            | (apply wl_ixI; exact rfl; exact rfl; exact rfl; exact rfl; exact rfl; ((repeat (first | exact Pick.here | apply Pick.there))); exact rfl; (first | exact rfl | omega); omega; exact rfl)
            | (apply wl_ldEI; exact rfl; exact rfl; ((repeat (first | exact Pick.here | apply Pick.there))); exact rfl; assumption; exact rfl; exact rfl)
            | (apply wl_fldE; exact rfl; exact rfl; exact rfl; exact rfl; exact rfl)
            | (apply wl_ixO; exact rfl; exact rfl; exact rfl; exact rfl; exact rfl; ((repeat (first | exact Pick.here | apply Pick.there))); exact rfl; (first | exact rfl | omega); omega; exact rfl)
            | (apply wl_ldEO; exact rfl; exact rfl; ((repeat (first | exact Pick.here | apply Pick.there))); exact rfl; assumption; exact rfl; exact rfl)
            | (apply wl_guard; exact rfl; exact rfl; exact rfl; exact rfl)
            | (apply wl_gno; exact rfl; exact rfl; exact rfl; exact rfl; exact rfl)
            | (apply wl_gsplit; exact rfl; exact rfl; exact rfl; exact rfl; all_goals (intro h; (try simp only [reduceCtorEq, not_true_eq_false, not_false_eq_true, decide_eq_true_eq, decide_eq_false_iff_not, Bool.not_eq_true', Bool.not_eq_false', Bool.not_true, Bool.not_false, Int.not_lt, Int.not_le, ne_eq, Decidable.not_not] at h); (try (exfalso; omega))))
            | (apply wl_rem; exact rfl; exact rfl; omega; exact rfl)
            | (apply wl_row; (iterate 7 (exact rfl)); intro b1)
            | (apply wl_box; exact rfl; exact rfl; exact rfl; intro b1)
            | (apply wl_alloc; exact rfl; exact rfl; intro b1)
            | (apply wl_eqlS; exact rfl; exact rfl; exact rfl)
            | (apply wl_neqS; exact rfl; exact rfl; exact rfl))
          | (show WC _ _ _ _ _ _; first
            | refine WC.seq ?_
            | (apply WC.region; exact rfl)
            | (apply WC.condT; exact rfl)
            | (apply WC.condF; exact rfl)
            | (apply WC.cond; exact rfl; all_goals (intro h; (try simp only [reduceCtorEq, not_true_eq_false, not_false_eq_true, decide_eq_true_eq, decide_eq_false_iff_not, Bool.not_eq_true', Bool.not_eq_false', Bool.not_true, Bool.not_false, Int.not_lt, Int.not_le, ne_eq, Decidable.not_not] at h); (try (exfalso; omega))))
            | refine WC.block ?_
            | refine WC.skip ?_
            | refine WC.ret ?_
            | refine WC.exit ?_)
          | refine Qseq.nm ?_
          | refine Qseq.r ?_
          | refine Qseq.x ?_
          | refine Qblock.nm ?_
          | refine Qblock.r ?_
          | (apply Qblock.t; exact rfl)
          | (apply Qblock.f; exact rfl)
          | refine Qmx.r ?_
          | refine Qmx.nm ?_
          | (apply Qmx.f; exact rfl)
          | refine Qmn.r ?_
          | refine Qmn.x ?_
          | refine Qloop.r ?_
          | refine Qloop.x ?_
          | (apply Qfn.one; exact rfl)
          | (apply Qfn.two; exact rfl; exact rfl)
          | (apply Qfn.three; exact rfl; exact rfl; exact rfl)
          | (apply Qfn.cellt; exact rfl; exact rfl; ((repeat (first | exact Pick.here | apply Pick.there))); exact rfl; exact rfl)
          | refine Qfn.zero ?_
          | refine Qfn.zeroN ?_)
        (refine wl_call rfl rfl rfl (sall_spec (l := addM l f t) (by omega)) (by repeat (first | exact Take.nil | (apply Take.keepI; focus ((repeat (first | exact Pick.here | apply Pick.there)); done)) | (apply Take.cons; focus ((repeat (first | exact Pick.here | apply Pick.there)); done)) | (apply Take.pure; (first | assumption | omega)))) ?_)
        rintro _ _ ⟨a7, c7, rfl, rfl⟩
        refine WL.ent (Ent.sh (a := a7) (c := c7) (by (repeat (first | exact Pick.here | apply Pick.there)))) ?_
        repeat' (first
          | (show WL _ _ _ _ _ _ _; first
            | (apply wl_calc; exact rfl; exact True.intro; exact rfl)
            | refine WL.nil ?_
            | (apply wl_ld; exact rfl; exact rfl; ((repeat (first | exact Pick.here | apply Pick.there))); exact rfl; exact rfl)
            | (apply wl_calc; exact rfl; ((try simp only [inR]); omega); exact rfl)
            | (apply wl_store; exact rfl; exact rfl; exact rfl; ((repeat (first | exact Pick.here | apply Pick.there))); exact rfl)
            | (apply wl_ixI; exact rfl; exact rfl; exact rfl; exact rfl; exact rfl; ((repeat (first | exact Pick.here | apply Pick.there))); exact rfl; (first | exact rfl | omega); omega; exact rfl)
            | (apply wl_ldEI; exact rfl; exact rfl; ((repeat (first | exact Pick.here | apply Pick.there))); exact rfl; assumption; exact rfl; exact rfl)
            | (apply wl_fldE; exact rfl; exact rfl; exact rfl; exact rfl; exact rfl)
            | (apply wl_ixO; exact rfl; exact rfl; exact rfl; exact rfl; exact rfl; ((repeat (first | exact Pick.here | apply Pick.there))); exact rfl; (first | exact rfl | omega); omega; exact rfl)
            | (apply wl_ldEO; exact rfl; exact rfl; ((repeat (first | exact Pick.here | apply Pick.there))); exact rfl; assumption; exact rfl; exact rfl)
            | (apply wl_guard; exact rfl; exact rfl; exact rfl; exact rfl)
            | (apply wl_gno; exact rfl; exact rfl; exact rfl; exact rfl; exact rfl)
            | (apply wl_gsplit; exact rfl; exact rfl; exact rfl; exact rfl; all_goals (intro h; (try simp only [reduceCtorEq, not_true_eq_false, not_false_eq_true, decide_eq_true_eq, decide_eq_false_iff_not, Bool.not_eq_true', Bool.not_eq_false', Bool.not_true, Bool.not_false, Int.not_lt, Int.not_le, ne_eq, Decidable.not_not] at h); (try (exfalso; omega))))
            | (apply wl_rem; exact rfl; exact rfl; omega; exact rfl)
            | (apply wl_row; (iterate 7 (exact rfl)); intro b1)
            | (apply wl_box; exact rfl; exact rfl; exact rfl; intro b1)
            | (apply wl_alloc; exact rfl; exact rfl; intro b1)
            | (apply wl_eqlS; exact rfl; exact rfl; exact rfl)
            | (apply wl_neqS; exact rfl; exact rfl; exact rfl))
          | (show WC _ _ _ _ _ _; first
            | refine WC.seq ?_
            | (apply WC.region; exact rfl)
            | (apply WC.condT; exact rfl)
            | (apply WC.condF; exact rfl)
            | (apply WC.cond; exact rfl; all_goals (intro h; (try simp only [reduceCtorEq, not_true_eq_false, not_false_eq_true, decide_eq_true_eq, decide_eq_false_iff_not, Bool.not_eq_true', Bool.not_eq_false', Bool.not_true, Bool.not_false, Int.not_lt, Int.not_le, ne_eq, Decidable.not_not] at h); (try (exfalso; omega))))
            | refine WC.block ?_
            | refine WC.skip ?_
            | refine WC.ret ?_
            | refine WC.exit ?_)
          | refine Qseq.nm ?_
          | refine Qseq.r ?_
          | refine Qseq.x ?_
          | refine Qblock.nm ?_
          | refine Qblock.r ?_
          | (apply Qblock.t; exact rfl)
          | (apply Qblock.f; exact rfl)
          | refine Qmx.r ?_
          | refine Qmx.nm ?_
          | (apply Qmx.f; exact rfl)
          | refine Qmn.r ?_
          | refine Qmn.x ?_
          | refine Qloop.r ?_
          | refine Qloop.x ?_
          | (apply Qfn.one; exact rfl)
          | (apply Qfn.two; exact rfl; exact rfl)
          | (apply Qfn.three; exact rfl; exact rfl; exact rfl)
          | (apply Qfn.cellt; exact rfl; exact rfl; ((repeat (first | exact Pick.here | apply Pick.there))); exact rfl; exact rfl)
          | refine Qfn.zero ?_
          | refine Qfn.zeroN ?_)
        (refine wl_call rfl rfl rfl (samer_spec (xs := addM l f t) (ys := addM l f t) (by omega) (by omega)) (by repeat (first | exact Take.nil | (apply Take.keepI; focus ((repeat (first | exact Pick.here | apply Pick.there)); done)) | (apply Take.cons; focus ((repeat (first | exact Pick.here | apply Pick.there)); done)) | (apply Take.pure; (first | assumption | omega)))) ?_)
        rintro _ _ ⟨rfl, rfl⟩
        rw [decide_eq_true rfl]
        repeat' (first
          | (show WL _ _ _ _ _ _ _; first
            | (apply wl_calc; exact rfl; exact True.intro; exact rfl)
            | refine WL.nil ?_
            | (apply wl_ld; exact rfl; exact rfl; ((repeat (first | exact Pick.here | apply Pick.there))); exact rfl; exact rfl)
            | (apply wl_calc; exact rfl; ((try simp only [inR]); omega); exact rfl)
            | (apply wl_store; exact rfl; exact rfl; exact rfl; ((repeat (first | exact Pick.here | apply Pick.there))); exact rfl)
            | (apply wl_ixI; exact rfl; exact rfl; exact rfl; exact rfl; exact rfl; ((repeat (first | exact Pick.here | apply Pick.there))); exact rfl; (first | exact rfl | omega); omega; exact rfl)
            | (apply wl_ldEI; exact rfl; exact rfl; ((repeat (first | exact Pick.here | apply Pick.there))); exact rfl; assumption; exact rfl; exact rfl)
            | (apply wl_fldE; exact rfl; exact rfl; exact rfl; exact rfl; exact rfl)
            | (apply wl_ixO; exact rfl; exact rfl; exact rfl; exact rfl; exact rfl; ((repeat (first | exact Pick.here | apply Pick.there))); exact rfl; (first | exact rfl | omega); omega; exact rfl)
            | (apply wl_ldEO; exact rfl; exact rfl; ((repeat (first | exact Pick.here | apply Pick.there))); exact rfl; assumption; exact rfl; exact rfl)
            | (apply wl_guard; exact rfl; exact rfl; exact rfl; exact rfl)
            | (apply wl_gno; exact rfl; exact rfl; exact rfl; exact rfl; exact rfl)
            | (apply wl_gsplit; exact rfl; exact rfl; exact rfl; exact rfl; all_goals (intro h; (try simp only [reduceCtorEq, not_true_eq_false, not_false_eq_true, decide_eq_true_eq, decide_eq_false_iff_not, Bool.not_eq_true', Bool.not_eq_false', Bool.not_true, Bool.not_false, Int.not_lt, Int.not_le, ne_eq, Decidable.not_not] at h); (try (exfalso; omega))))
            | (apply wl_rem; exact rfl; exact rfl; omega; exact rfl)
            | (apply wl_row; (iterate 7 (exact rfl)); intro b1)
            | (apply wl_box; exact rfl; exact rfl; exact rfl; intro b1)
            | (apply wl_alloc; exact rfl; exact rfl; intro b1)
            | (apply wl_eqlS; exact rfl; exact rfl; exact rfl)
            | (apply wl_neqS; exact rfl; exact rfl; exact rfl))
          | (show WC _ _ _ _ _ _; first
            | refine WC.seq ?_
            | (apply WC.region; exact rfl)
            | (apply WC.condT; exact rfl)
            | (apply WC.condF; exact rfl)
            | (apply WC.cond; exact rfl; all_goals (intro h; (try simp only [reduceCtorEq, not_true_eq_false, not_false_eq_true, decide_eq_true_eq, decide_eq_false_iff_not, Bool.not_eq_true', Bool.not_eq_false', Bool.not_true, Bool.not_false, Int.not_lt, Int.not_le, ne_eq, Decidable.not_not] at h); (try (exfalso; omega))))
            | refine WC.block ?_
            | refine WC.skip ?_
            | refine WC.ret ?_
            | refine WC.exit ?_)
          | refine Qseq.nm ?_
          | refine Qseq.r ?_
          | refine Qseq.x ?_
          | refine Qblock.nm ?_
          | refine Qblock.r ?_
          | (apply Qblock.t; exact rfl)
          | (apply Qblock.f; exact rfl)
          | refine Qmx.r ?_
          | refine Qmx.nm ?_
          | (apply Qmx.f; exact rfl)
          | refine Qmn.r ?_
          | refine Qmn.x ?_
          | refine Qloop.r ?_
          | refine Qloop.x ?_
          | (apply Qfn.one; exact rfl)
          | (apply Qfn.two; exact rfl; exact rfl)
          | (apply Qfn.three; exact rfl; exact rfl; exact rfl)
          | (apply Qfn.cellt; exact rfl; exact rfl; ((repeat (first | exact Pick.here | apply Pick.there))); exact rfl; exact rfl)
          | refine Qfn.zero ?_
          | refine Qfn.zeroN ?_)
        (refine wl_call rfl rfl rfl (shas_spec (l := addM l f t) (by omega) f t) (by repeat (first | exact Take.nil | (apply Take.keepI; focus ((repeat (first | exact Pick.here | apply Pick.there)); done)) | (apply Take.cons; focus ((repeat (first | exact Pick.here | apply Pick.there)); done)) | (apply Take.pure; (first | assumption | omega)))) ?_)
        rintro _ _ ⟨rfl, rfl⟩
        rw [hha]
        repeat' (first
          | (show WL _ _ _ _ _ _ _; first
            | (apply wl_calc; exact rfl; exact True.intro; exact rfl)
            | refine WL.nil ?_
            | (apply wl_ld; exact rfl; exact rfl; ((repeat (first | exact Pick.here | apply Pick.there))); exact rfl; exact rfl)
            | (apply wl_calc; exact rfl; ((try simp only [inR]); omega); exact rfl)
            | (apply wl_store; exact rfl; exact rfl; exact rfl; ((repeat (first | exact Pick.here | apply Pick.there))); exact rfl)
            | (apply wl_ixI; exact rfl; exact rfl; exact rfl; exact rfl; exact rfl; ((repeat (first | exact Pick.here | apply Pick.there))); exact rfl; (first | exact rfl | omega); omega; exact rfl)
            | (apply wl_ldEI; exact rfl; exact rfl; ((repeat (first | exact Pick.here | apply Pick.there))); exact rfl; assumption; exact rfl; exact rfl)
            | (apply wl_fldE; exact rfl; exact rfl; exact rfl; exact rfl; exact rfl)
            | (apply wl_ixO; exact rfl; exact rfl; exact rfl; exact rfl; exact rfl; ((repeat (first | exact Pick.here | apply Pick.there))); exact rfl; (first | exact rfl | omega); omega; exact rfl)
            | (apply wl_ldEO; exact rfl; exact rfl; ((repeat (first | exact Pick.here | apply Pick.there))); exact rfl; assumption; exact rfl; exact rfl)
            | (apply wl_guard; exact rfl; exact rfl; exact rfl; exact rfl)
            | (apply wl_gno; exact rfl; exact rfl; exact rfl; exact rfl; exact rfl)
            | (apply wl_gsplit; exact rfl; exact rfl; exact rfl; exact rfl; all_goals (intro h; (try simp only [reduceCtorEq, not_true_eq_false, not_false_eq_true, decide_eq_true_eq, decide_eq_false_iff_not, Bool.not_eq_true', Bool.not_eq_false', Bool.not_true, Bool.not_false, Int.not_lt, Int.not_le, ne_eq, Decidable.not_not] at h); (try (exfalso; omega))))
            | (apply wl_rem; exact rfl; exact rfl; omega; exact rfl)
            | (apply wl_row; (iterate 7 (exact rfl)); intro b1)
            | (apply wl_box; exact rfl; exact rfl; exact rfl; intro b1)
            | (apply wl_alloc; exact rfl; exact rfl; intro b1)
            | (apply wl_eqlS; exact rfl; exact rfl; exact rfl)
            | (apply wl_neqS; exact rfl; exact rfl; exact rfl))
          | (show WC _ _ _ _ _ _; first
            | refine WC.seq ?_
            | (apply WC.region; exact rfl)
            | (apply WC.condT; exact rfl)
            | (apply WC.condF; exact rfl)
            | (apply WC.cond; exact rfl; all_goals (intro h; (try simp only [reduceCtorEq, not_true_eq_false, not_false_eq_true, decide_eq_true_eq, decide_eq_false_iff_not, Bool.not_eq_true', Bool.not_eq_false', Bool.not_true, Bool.not_false, Int.not_lt, Int.not_le, ne_eq, Decidable.not_not] at h); (try (exfalso; omega))))
            | refine WC.block ?_
            | refine WC.skip ?_
            | refine WC.ret ?_
            | refine WC.exit ?_)
          | refine Qseq.nm ?_
          | refine Qseq.r ?_
          | refine Qseq.x ?_
          | refine Qblock.nm ?_
          | refine Qblock.r ?_
          | (apply Qblock.t; exact rfl)
          | (apply Qblock.f; exact rfl)
          | refine Qmx.r ?_
          | refine Qmx.nm ?_
          | (apply Qmx.f; exact rfl)
          | refine Qmn.r ?_
          | refine Qmn.x ?_
          | refine Qloop.r ?_
          | refine Qloop.x ?_
          | (apply Qfn.one; exact rfl)
          | (apply Qfn.two; exact rfl; exact rfl)
          | (apply Qfn.three; exact rfl; exact rfl; exact rfl)
          | (apply Qfn.cellt; exact rfl; exact rfl; ((repeat (first | exact Pick.here | apply Pick.there))); exact rfl; exact rfl)
          | refine Qfn.zero ?_
          | refine Qfn.zeroN ?_)
        (refine wl_call rfl rfl rfl (wakes05_spec) (by repeat (first | exact Take.nil | (apply Take.keepI; focus ((repeat (first | exact Pick.here | apply Pick.there)); done)) | (apply Take.cons; focus ((repeat (first | exact Pick.here | apply Pick.there)); done)) | (apply Take.pure; (first | assumption | omega)))) ?_)
        rintro _ _ ⟨rfl, rfl⟩
        repeat' (first
          | (show WL _ _ _ _ _ _ _; first
            | (apply wl_calc; exact rfl; exact True.intro; exact rfl)
            | refine WL.nil ?_
            | (apply wl_ld; exact rfl; exact rfl; ((repeat (first | exact Pick.here | apply Pick.there))); exact rfl; exact rfl)
            | (apply wl_calc; exact rfl; ((try simp only [inR]); omega); exact rfl)
            | (apply wl_store; exact rfl; exact rfl; exact rfl; ((repeat (first | exact Pick.here | apply Pick.there))); exact rfl)
            | (apply wl_ixI; exact rfl; exact rfl; exact rfl; exact rfl; exact rfl; ((repeat (first | exact Pick.here | apply Pick.there))); exact rfl; (first | exact rfl | omega); omega; exact rfl)
            | (apply wl_ldEI; exact rfl; exact rfl; ((repeat (first | exact Pick.here | apply Pick.there))); exact rfl; assumption; exact rfl; exact rfl)
            | (apply wl_fldE; exact rfl; exact rfl; exact rfl; exact rfl; exact rfl)
            | (apply wl_ixO; exact rfl; exact rfl; exact rfl; exact rfl; exact rfl; ((repeat (first | exact Pick.here | apply Pick.there))); exact rfl; (first | exact rfl | omega); omega; exact rfl)
            | (apply wl_ldEO; exact rfl; exact rfl; ((repeat (first | exact Pick.here | apply Pick.there))); exact rfl; assumption; exact rfl; exact rfl)
            | (apply wl_guard; exact rfl; exact rfl; exact rfl; exact rfl)
            | (apply wl_gno; exact rfl; exact rfl; exact rfl; exact rfl; exact rfl)
            | (apply wl_gsplit; exact rfl; exact rfl; exact rfl; exact rfl; all_goals (intro h; (try simp only [reduceCtorEq, not_true_eq_false, not_false_eq_true, decide_eq_true_eq, decide_eq_false_iff_not, Bool.not_eq_true', Bool.not_eq_false', Bool.not_true, Bool.not_false, Int.not_lt, Int.not_le, ne_eq, Decidable.not_not] at h); (try (exfalso; omega))))
            | (apply wl_rem; exact rfl; exact rfl; omega; exact rfl)
            | (apply wl_row; (iterate 7 (exact rfl)); intro b1)
            | (apply wl_box; exact rfl; exact rfl; exact rfl; intro b1)
            | (apply wl_alloc; exact rfl; exact rfl; intro b1)
            | (apply wl_eqlS; exact rfl; exact rfl; exact rfl)
            | (apply wl_neqS; exact rfl; exact rfl; exact rfl))
          | (show WC _ _ _ _ _ _; first
            | refine WC.seq ?_
            | (apply WC.region; exact rfl)
            | (apply WC.condT; exact rfl)
            | (apply WC.condF; exact rfl)
            | (apply WC.cond; exact rfl; all_goals (intro h; (try simp only [reduceCtorEq, not_true_eq_false, not_false_eq_true, decide_eq_true_eq, decide_eq_false_iff_not, Bool.not_eq_true', Bool.not_eq_false', Bool.not_true, Bool.not_false, Int.not_lt, Int.not_le, ne_eq, Decidable.not_not] at h); (try (exfalso; omega))))
            | refine WC.block ?_
            | refine WC.skip ?_
            | refine WC.ret ?_
            | refine WC.exit ?_)
          | refine Qseq.nm ?_
          | refine Qseq.r ?_
          | refine Qseq.x ?_
          | refine Qblock.nm ?_
          | refine Qblock.r ?_
          | (apply Qblock.t; exact rfl)
          | (apply Qblock.f; exact rfl)
          | refine Qmx.r ?_
          | refine Qmx.nm ?_
          | (apply Qmx.f; exact rfl)
          | refine Qmn.r ?_
          | refine Qmn.x ?_
          | refine Qloop.r ?_
          | refine Qloop.x ?_
          | (apply Qfn.one; exact rfl)
          | (apply Qfn.two; exact rfl; exact rfl)
          | (apply Qfn.three; exact rfl; exact rfl; exact rfl)
          | (apply Qfn.cellt; exact rfl; exact rfl; ((repeat (first | exact Pick.here | apply Pick.there))); exact rfl; exact rfl)
          | refine Qfn.zero ?_
          | refine Qfn.zeroN ?_)
        exact ⟨_, Take.fin (by repeat (first | exact Take.nil | (apply Take.keepI; focus ((repeat (first | exact Pick.here | apply Pick.there)); done)) | (apply Take.cons; focus ((repeat (first | exact Pick.here | apply Pick.there)); done)) | (apply Take.pure; (first | assumption | omega)))), rfl, rfl⟩
      · (refine wl_call rfl rfl rfl (sadd_spec (l := l) (by omega) hc f t) (by repeat (first | exact Take.nil | (apply Take.keepI; focus ((repeat (first | exact Pick.here | apply Pick.there)); done)) | (apply Take.cons; focus ((repeat (first | exact Pick.here | apply Pick.there)); done)) | (apply Take.pure; (first | assumption | omega)))) ?_)
        rintro _ _ ⟨rfl, a4, c4, rfl⟩
        repeat' (first
          | (show WL _ _ _ _ _ _ _; first
            | (apply wl_calc; exact rfl; exact True.intro; exact rfl)
            | refine WL.nil ?_
            | (apply wl_ld; exact rfl; exact rfl; ((repeat (first | exact Pick.here | apply Pick.there))); exact rfl; exact rfl)
            | (apply wl_calc; exact rfl; ((try simp only [inR]); omega); exact rfl)
            | (apply wl_store; exact rfl; exact rfl; exact rfl; ((repeat (first | exact Pick.here | apply Pick.there))); exact rfl)
            | (apply wl_ixI; exact rfl; exact rfl; exact rfl; exact rfl; exact rfl; ((repeat (first | exact Pick.here | apply Pick.there))); exact rfl; (first | exact rfl | omega); omega; exact rfl)
            | (apply wl_ldEI; exact rfl; exact rfl; ((repeat (first | exact Pick.here | apply Pick.there))); exact rfl; assumption; exact rfl; exact rfl)
            | (apply wl_fldE; exact rfl; exact rfl; exact rfl; exact rfl; exact rfl)
            | (apply wl_ixO; exact rfl; exact rfl; exact rfl; exact rfl; exact rfl; ((repeat (first | exact Pick.here | apply Pick.there))); exact rfl; (first | exact rfl | omega); omega; exact rfl)
            | (apply wl_ldEO; exact rfl; exact rfl; ((repeat (first | exact Pick.here | apply Pick.there))); exact rfl; assumption; exact rfl; exact rfl)
            | (apply wl_guard; exact rfl; exact rfl; exact rfl; exact rfl)
            | (apply wl_gno; exact rfl; exact rfl; exact rfl; exact rfl; exact rfl)
            | (apply wl_gsplit; exact rfl; exact rfl; exact rfl; exact rfl; all_goals (intro h; (try simp only [reduceCtorEq, not_true_eq_false, not_false_eq_true, decide_eq_true_eq, decide_eq_false_iff_not, Bool.not_eq_true', Bool.not_eq_false', Bool.not_true, Bool.not_false, Int.not_lt, Int.not_le, ne_eq, Decidable.not_not] at h); (try (exfalso; omega))))
            | (apply wl_rem; exact rfl; exact rfl; omega; exact rfl)
            | (apply wl_row; (iterate 7 (exact rfl)); intro b1)
            | (apply wl_box; exact rfl; exact rfl; exact rfl; intro b1)
            | (apply wl_alloc; exact rfl; exact rfl; intro b1)
            | (apply wl_eqlS; exact rfl; exact rfl; exact rfl)
            | (apply wl_neqS; exact rfl; exact rfl; exact rfl))
          | (show WC _ _ _ _ _ _; first
            | refine WC.seq ?_
            | (apply WC.region; exact rfl)
            | (apply WC.condT; exact rfl)
            | (apply WC.condF; exact rfl)
            | (apply WC.cond; exact rfl; all_goals (intro h; (try simp only [reduceCtorEq, not_true_eq_false, not_false_eq_true, decide_eq_true_eq, decide_eq_false_iff_not, Bool.not_eq_true', Bool.not_eq_false', Bool.not_true, Bool.not_false, Int.not_lt, Int.not_le, ne_eq, Decidable.not_not] at h); (try (exfalso; omega))))
            | refine WC.block ?_
            | refine WC.skip ?_
            | refine WC.ret ?_
            | refine WC.exit ?_)
          | refine Qseq.nm ?_
          | refine Qseq.r ?_
          | refine Qseq.x ?_
          | refine Qblock.nm ?_
          | refine Qblock.r ?_
          | (apply Qblock.t; exact rfl)
          | (apply Qblock.f; exact rfl)
          | refine Qmx.r ?_
          | refine Qmx.nm ?_
          | (apply Qmx.f; exact rfl)
          | refine Qmn.r ?_
          | refine Qmn.x ?_
          | refine Qloop.r ?_
          | refine Qloop.x ?_
          | (apply Qfn.one; exact rfl)
          | (apply Qfn.two; exact rfl; exact rfl)
          | (apply Qfn.three; exact rfl; exact rfl; exact rfl)
          | (apply Qfn.cellt; exact rfl; exact rfl; ((repeat (first | exact Pick.here | apply Pick.there))); exact rfl; exact rfl)
          | refine Qfn.zero ?_
          | refine Qfn.zeroN ?_)
        (refine wl_call rfl rfl rfl (sadd_spec (l := cutM l f t) (by omega) hcc f t) (by repeat (first | exact Take.nil | (apply Take.keepI; focus ((repeat (first | exact Pick.here | apply Pick.there)); done)) | (apply Take.cons; focus ((repeat (first | exact Pick.here | apply Pick.there)); done)) | (apply Take.pure; (first | assumption | omega)))) ?_)
        rintro _ _ ⟨rfl, a5, c5, rfl⟩
        rw [hab]
        repeat' (first
          | (show WL _ _ _ _ _ _ _; first
            | (apply wl_calc; exact rfl; exact True.intro; exact rfl)
            | refine WL.nil ?_
            | (apply wl_ld; exact rfl; exact rfl; ((repeat (first | exact Pick.here | apply Pick.there))); exact rfl; exact rfl)
            | (apply wl_calc; exact rfl; ((try simp only [inR]); omega); exact rfl)
            | (apply wl_store; exact rfl; exact rfl; exact rfl; ((repeat (first | exact Pick.here | apply Pick.there))); exact rfl)
            | (apply wl_ixI; exact rfl; exact rfl; exact rfl; exact rfl; exact rfl; ((repeat (first | exact Pick.here | apply Pick.there))); exact rfl; (first | exact rfl | omega); omega; exact rfl)
            | (apply wl_ldEI; exact rfl; exact rfl; ((repeat (first | exact Pick.here | apply Pick.there))); exact rfl; assumption; exact rfl; exact rfl)
            | (apply wl_fldE; exact rfl; exact rfl; exact rfl; exact rfl; exact rfl)
            | (apply wl_ixO; exact rfl; exact rfl; exact rfl; exact rfl; exact rfl; ((repeat (first | exact Pick.here | apply Pick.there))); exact rfl; (first | exact rfl | omega); omega; exact rfl)
            | (apply wl_ldEO; exact rfl; exact rfl; ((repeat (first | exact Pick.here | apply Pick.there))); exact rfl; assumption; exact rfl; exact rfl)
            | (apply wl_guard; exact rfl; exact rfl; exact rfl; exact rfl)
            | (apply wl_gno; exact rfl; exact rfl; exact rfl; exact rfl; exact rfl)
            | (apply wl_gsplit; exact rfl; exact rfl; exact rfl; exact rfl; all_goals (intro h; (try simp only [reduceCtorEq, not_true_eq_false, not_false_eq_true, decide_eq_true_eq, decide_eq_false_iff_not, Bool.not_eq_true', Bool.not_eq_false', Bool.not_true, Bool.not_false, Int.not_lt, Int.not_le, ne_eq, Decidable.not_not] at h); (try (exfalso; omega))))
            | (apply wl_rem; exact rfl; exact rfl; omega; exact rfl)
            | (apply wl_row; (iterate 7 (exact rfl)); intro b1)
            | (apply wl_box; exact rfl; exact rfl; exact rfl; intro b1)
            | (apply wl_alloc; exact rfl; exact rfl; intro b1)
            | (apply wl_eqlS; exact rfl; exact rfl; exact rfl)
            | (apply wl_neqS; exact rfl; exact rfl; exact rfl))
          | (show WC _ _ _ _ _ _; first
            | refine WC.seq ?_
            | (apply WC.region; exact rfl)
            | (apply WC.condT; exact rfl)
            | (apply WC.condF; exact rfl)
            | (apply WC.cond; exact rfl; all_goals (intro h; (try simp only [reduceCtorEq, not_true_eq_false, not_false_eq_true, decide_eq_true_eq, decide_eq_false_iff_not, Bool.not_eq_true', Bool.not_eq_false', Bool.not_true, Bool.not_false, Int.not_lt, Int.not_le, ne_eq, Decidable.not_not] at h); (try (exfalso; omega))))
            | refine WC.block ?_
            | refine WC.skip ?_
            | refine WC.ret ?_
            | refine WC.exit ?_)
          | refine Qseq.nm ?_
          | refine Qseq.r ?_
          | refine Qseq.x ?_
          | refine Qblock.nm ?_
          | refine Qblock.r ?_
          | (apply Qblock.t; exact rfl)
          | (apply Qblock.f; exact rfl)
          | refine Qmx.r ?_
          | refine Qmx.nm ?_
          | (apply Qmx.f; exact rfl)
          | refine Qmn.r ?_
          | refine Qmn.x ?_
          | refine Qloop.r ?_
          | refine Qloop.x ?_
          | (apply Qfn.one; exact rfl)
          | (apply Qfn.two; exact rfl; exact rfl)
          | (apply Qfn.three; exact rfl; exact rfl; exact rfl)
          | (apply Qfn.cellt; exact rfl; exact rfl; ((repeat (first | exact Pick.here | apply Pick.there))); exact rfl; exact rfl)
          | refine Qfn.zero ?_
          | refine Qfn.zeroN ?_)
        (refine wl_call rfl rfl rfl (sall_spec (l := addM l f t) (by omega)) (by repeat (first | exact Take.nil | (apply Take.keepI; focus ((repeat (first | exact Pick.here | apply Pick.there)); done)) | (apply Take.cons; focus ((repeat (first | exact Pick.here | apply Pick.there)); done)) | (apply Take.pure; (first | assumption | omega)))) ?_)
        rintro _ _ ⟨a6, c6, rfl, rfl⟩
        refine WL.ent (Ent.sh (a := a6) (c := c6) (by (repeat (first | exact Pick.here | apply Pick.there)))) ?_
        repeat' (first
          | (show WL _ _ _ _ _ _ _; first
            | (apply wl_calc; exact rfl; exact True.intro; exact rfl)
            | refine WL.nil ?_
            | (apply wl_ld; exact rfl; exact rfl; ((repeat (first | exact Pick.here | apply Pick.there))); exact rfl; exact rfl)
            | (apply wl_calc; exact rfl; ((try simp only [inR]); omega); exact rfl)
            | (apply wl_store; exact rfl; exact rfl; exact rfl; ((repeat (first | exact Pick.here | apply Pick.there))); exact rfl)
            | (apply wl_ixI; exact rfl; exact rfl; exact rfl; exact rfl; exact rfl; ((repeat (first | exact Pick.here | apply Pick.there))); exact rfl; (first | exact rfl | omega); omega; exact rfl)
            | (apply wl_ldEI; exact rfl; exact rfl; ((repeat (first | exact Pick.here | apply Pick.there))); exact rfl; assumption; exact rfl; exact rfl)
            | (apply wl_fldE; exact rfl; exact rfl; exact rfl; exact rfl; exact rfl)
            | (apply wl_ixO; exact rfl; exact rfl; exact rfl; exact rfl; exact rfl; ((repeat (first | exact Pick.here | apply Pick.there))); exact rfl; (first | exact rfl | omega); omega; exact rfl)
            | (apply wl_ldEO; exact rfl; exact rfl; ((repeat (first | exact Pick.here | apply Pick.there))); exact rfl; assumption; exact rfl; exact rfl)
            | (apply wl_guard; exact rfl; exact rfl; exact rfl; exact rfl)
            | (apply wl_gno; exact rfl; exact rfl; exact rfl; exact rfl; exact rfl)
            | (apply wl_gsplit; exact rfl; exact rfl; exact rfl; exact rfl; all_goals (intro h; (try simp only [reduceCtorEq, not_true_eq_false, not_false_eq_true, decide_eq_true_eq, decide_eq_false_iff_not, Bool.not_eq_true', Bool.not_eq_false', Bool.not_true, Bool.not_false, Int.not_lt, Int.not_le, ne_eq, Decidable.not_not] at h); (try (exfalso; omega))))
            | (apply wl_rem; exact rfl; exact rfl; omega; exact rfl)
            | (apply wl_row; (iterate 7 (exact rfl)); intro b1)
            | (apply wl_box; exact rfl; exact rfl; exact rfl; intro b1)
            | (apply wl_alloc; exact rfl; exact rfl; intro b1)
            | (apply wl_eqlS; exact rfl; exact rfl; exact rfl)
            | (apply wl_neqS; exact rfl; exact rfl; exact rfl))
          | (show WC _ _ _ _ _ _; first
            | refine WC.seq ?_
            | (apply WC.region; exact rfl)
            | (apply WC.condT; exact rfl)
            | (apply WC.condF; exact rfl)
            | (apply WC.cond; exact rfl; all_goals (intro h; (try simp only [reduceCtorEq, not_true_eq_false, not_false_eq_true, decide_eq_true_eq, decide_eq_false_iff_not, Bool.not_eq_true', Bool.not_eq_false', Bool.not_true, Bool.not_false, Int.not_lt, Int.not_le, ne_eq, Decidable.not_not] at h); (try (exfalso; omega))))
            | refine WC.block ?_
            | refine WC.skip ?_
            | refine WC.ret ?_
            | refine WC.exit ?_)
          | refine Qseq.nm ?_
          | refine Qseq.r ?_
          | refine Qseq.x ?_
          | refine Qblock.nm ?_
          | refine Qblock.r ?_
          | (apply Qblock.t; exact rfl)
          | (apply Qblock.f; exact rfl)
          | refine Qmx.r ?_
          | refine Qmx.nm ?_
          | (apply Qmx.f; exact rfl)
          | refine Qmn.r ?_
          | refine Qmn.x ?_
          | refine Qloop.r ?_
          | refine Qloop.x ?_
          | (apply Qfn.one; exact rfl)
          | (apply Qfn.two; exact rfl; exact rfl)
          | (apply Qfn.three; exact rfl; exact rfl; exact rfl)
          | (apply Qfn.cellt; exact rfl; exact rfl; ((repeat (first | exact Pick.here | apply Pick.there))); exact rfl; exact rfl)
          | refine Qfn.zero ?_
          | refine Qfn.zeroN ?_)
        (refine wl_call rfl rfl rfl (sall_spec (l := addM l f t) (by omega)) (by repeat (first | exact Take.nil | (apply Take.keepI; focus ((repeat (first | exact Pick.here | apply Pick.there)); done)) | (apply Take.cons; focus ((repeat (first | exact Pick.here | apply Pick.there)); done)) | (apply Take.pure; (first | assumption | omega)))) ?_)
        rintro _ _ ⟨a7, c7, rfl, rfl⟩
        refine WL.ent (Ent.sh (a := a7) (c := c7) (by (repeat (first | exact Pick.here | apply Pick.there)))) ?_
        repeat' (first
          | (show WL _ _ _ _ _ _ _; first
            | (apply wl_calc; exact rfl; exact True.intro; exact rfl)
            | refine WL.nil ?_
            | (apply wl_ld; exact rfl; exact rfl; ((repeat (first | exact Pick.here | apply Pick.there))); exact rfl; exact rfl)
            | (apply wl_calc; exact rfl; ((try simp only [inR]); omega); exact rfl)
            | (apply wl_store; exact rfl; exact rfl; exact rfl; ((repeat (first | exact Pick.here | apply Pick.there))); exact rfl)
            | (apply wl_ixI; exact rfl; exact rfl; exact rfl; exact rfl; exact rfl; ((repeat (first | exact Pick.here | apply Pick.there))); exact rfl; (first | exact rfl | omega); omega; exact rfl)
            | (apply wl_ldEI; exact rfl; exact rfl; ((repeat (first | exact Pick.here | apply Pick.there))); exact rfl; assumption; exact rfl; exact rfl)
            | (apply wl_fldE; exact rfl; exact rfl; exact rfl; exact rfl; exact rfl)
            | (apply wl_ixO; exact rfl; exact rfl; exact rfl; exact rfl; exact rfl; ((repeat (first | exact Pick.here | apply Pick.there))); exact rfl; (first | exact rfl | omega); omega; exact rfl)
            | (apply wl_ldEO; exact rfl; exact rfl; ((repeat (first | exact Pick.here | apply Pick.there))); exact rfl; assumption; exact rfl; exact rfl)
            | (apply wl_guard; exact rfl; exact rfl; exact rfl; exact rfl)
            | (apply wl_gno; exact rfl; exact rfl; exact rfl; exact rfl; exact rfl)
            | (apply wl_gsplit; exact rfl; exact rfl; exact rfl; exact rfl; all_goals (intro h; (try simp only [reduceCtorEq, not_true_eq_false, not_false_eq_true, decide_eq_true_eq, decide_eq_false_iff_not, Bool.not_eq_true', Bool.not_eq_false', Bool.not_true, Bool.not_false, Int.not_lt, Int.not_le, ne_eq, Decidable.not_not] at h); (try (exfalso; omega))))
            | (apply wl_rem; exact rfl; exact rfl; omega; exact rfl)
            | (apply wl_row; (iterate 7 (exact rfl)); intro b1)
            | (apply wl_box; exact rfl; exact rfl; exact rfl; intro b1)
            | (apply wl_alloc; exact rfl; exact rfl; intro b1)
            | (apply wl_eqlS; exact rfl; exact rfl; exact rfl)
            | (apply wl_neqS; exact rfl; exact rfl; exact rfl))
          | (show WC _ _ _ _ _ _; first
            | refine WC.seq ?_
            | (apply WC.region; exact rfl)
            | (apply WC.condT; exact rfl)
            | (apply WC.condF; exact rfl)
            | (apply WC.cond; exact rfl; all_goals (intro h; (try simp only [reduceCtorEq, not_true_eq_false, not_false_eq_true, decide_eq_true_eq, decide_eq_false_iff_not, Bool.not_eq_true', Bool.not_eq_false', Bool.not_true, Bool.not_false, Int.not_lt, Int.not_le, ne_eq, Decidable.not_not] at h); (try (exfalso; omega))))
            | refine WC.block ?_
            | refine WC.skip ?_
            | refine WC.ret ?_
            | refine WC.exit ?_)
          | refine Qseq.nm ?_
          | refine Qseq.r ?_
          | refine Qseq.x ?_
          | refine Qblock.nm ?_
          | refine Qblock.r ?_
          | (apply Qblock.t; exact rfl)
          | (apply Qblock.f; exact rfl)
          | refine Qmx.r ?_
          | refine Qmx.nm ?_
          | (apply Qmx.f; exact rfl)
          | refine Qmn.r ?_
          | refine Qmn.x ?_
          | refine Qloop.r ?_
          | refine Qloop.x ?_
          | (apply Qfn.one; exact rfl)
          | (apply Qfn.two; exact rfl; exact rfl)
          | (apply Qfn.three; exact rfl; exact rfl; exact rfl)
          | (apply Qfn.cellt; exact rfl; exact rfl; ((repeat (first | exact Pick.here | apply Pick.there))); exact rfl; exact rfl)
          | refine Qfn.zero ?_
          | refine Qfn.zeroN ?_)
        (refine wl_call rfl rfl rfl (samer_spec (xs := addM l f t) (ys := addM l f t) (by omega) (by omega)) (by repeat (first | exact Take.nil | (apply Take.keepI; focus ((repeat (first | exact Pick.here | apply Pick.there)); done)) | (apply Take.cons; focus ((repeat (first | exact Pick.here | apply Pick.there)); done)) | (apply Take.pure; (first | assumption | omega)))) ?_)
        rintro _ _ ⟨rfl, rfl⟩
        rw [decide_eq_true rfl]
        repeat' (first
          | (show WL _ _ _ _ _ _ _; first
            | (apply wl_calc; exact rfl; exact True.intro; exact rfl)
            | refine WL.nil ?_
            | (apply wl_ld; exact rfl; exact rfl; ((repeat (first | exact Pick.here | apply Pick.there))); exact rfl; exact rfl)
            | (apply wl_calc; exact rfl; ((try simp only [inR]); omega); exact rfl)
            | (apply wl_store; exact rfl; exact rfl; exact rfl; ((repeat (first | exact Pick.here | apply Pick.there))); exact rfl)
            | (apply wl_ixI; exact rfl; exact rfl; exact rfl; exact rfl; exact rfl; ((repeat (first | exact Pick.here | apply Pick.there))); exact rfl; (first | exact rfl | omega); omega; exact rfl)
            | (apply wl_ldEI; exact rfl; exact rfl; ((repeat (first | exact Pick.here | apply Pick.there))); exact rfl; assumption; exact rfl; exact rfl)
            | (apply wl_fldE; exact rfl; exact rfl; exact rfl; exact rfl; exact rfl)
            | (apply wl_ixO; exact rfl; exact rfl; exact rfl; exact rfl; exact rfl; ((repeat (first | exact Pick.here | apply Pick.there))); exact rfl; (first | exact rfl | omega); omega; exact rfl)
            | (apply wl_ldEO; exact rfl; exact rfl; ((repeat (first | exact Pick.here | apply Pick.there))); exact rfl; assumption; exact rfl; exact rfl)
            | (apply wl_guard; exact rfl; exact rfl; exact rfl; exact rfl)
            | (apply wl_gno; exact rfl; exact rfl; exact rfl; exact rfl; exact rfl)
            | (apply wl_gsplit; exact rfl; exact rfl; exact rfl; exact rfl; all_goals (intro h; (try simp only [reduceCtorEq, not_true_eq_false, not_false_eq_true, decide_eq_true_eq, decide_eq_false_iff_not, Bool.not_eq_true', Bool.not_eq_false', Bool.not_true, Bool.not_false, Int.not_lt, Int.not_le, ne_eq, Decidable.not_not] at h); (try (exfalso; omega))))
            | (apply wl_rem; exact rfl; exact rfl; omega; exact rfl)
            | (apply wl_row; (iterate 7 (exact rfl)); intro b1)
            | (apply wl_box; exact rfl; exact rfl; exact rfl; intro b1)
            | (apply wl_alloc; exact rfl; exact rfl; intro b1)
            | (apply wl_eqlS; exact rfl; exact rfl; exact rfl)
            | (apply wl_neqS; exact rfl; exact rfl; exact rfl))
          | (show WC _ _ _ _ _ _; first
            | refine WC.seq ?_
            | (apply WC.region; exact rfl)
            | (apply WC.condT; exact rfl)
            | (apply WC.condF; exact rfl)
            | (apply WC.cond; exact rfl; all_goals (intro h; (try simp only [reduceCtorEq, not_true_eq_false, not_false_eq_true, decide_eq_true_eq, decide_eq_false_iff_not, Bool.not_eq_true', Bool.not_eq_false', Bool.not_true, Bool.not_false, Int.not_lt, Int.not_le, ne_eq, Decidable.not_not] at h); (try (exfalso; omega))))
            | refine WC.block ?_
            | refine WC.skip ?_
            | refine WC.ret ?_
            | refine WC.exit ?_)
          | refine Qseq.nm ?_
          | refine Qseq.r ?_
          | refine Qseq.x ?_
          | refine Qblock.nm ?_
          | refine Qblock.r ?_
          | (apply Qblock.t; exact rfl)
          | (apply Qblock.f; exact rfl)
          | refine Qmx.r ?_
          | refine Qmx.nm ?_
          | (apply Qmx.f; exact rfl)
          | refine Qmn.r ?_
          | refine Qmn.x ?_
          | refine Qloop.r ?_
          | refine Qloop.x ?_
          | (apply Qfn.one; exact rfl)
          | (apply Qfn.two; exact rfl; exact rfl)
          | (apply Qfn.three; exact rfl; exact rfl; exact rfl)
          | (apply Qfn.cellt; exact rfl; exact rfl; ((repeat (first | exact Pick.here | apply Pick.there))); exact rfl; exact rfl)
          | refine Qfn.zero ?_
          | refine Qfn.zeroN ?_)
        (refine wl_call rfl rfl rfl (shas_spec (l := addM l f t) (by omega) f t) (by repeat (first | exact Take.nil | (apply Take.keepI; focus ((repeat (first | exact Pick.here | apply Pick.there)); done)) | (apply Take.cons; focus ((repeat (first | exact Pick.here | apply Pick.there)); done)) | (apply Take.pure; (first | assumption | omega)))) ?_)
        rintro _ _ ⟨rfl, rfl⟩
        rw [hha]
        repeat' (first
          | (show WL _ _ _ _ _ _ _; first
            | (apply wl_calc; exact rfl; exact True.intro; exact rfl)
            | refine WL.nil ?_
            | (apply wl_ld; exact rfl; exact rfl; ((repeat (first | exact Pick.here | apply Pick.there))); exact rfl; exact rfl)
            | (apply wl_calc; exact rfl; ((try simp only [inR]); omega); exact rfl)
            | (apply wl_store; exact rfl; exact rfl; exact rfl; ((repeat (first | exact Pick.here | apply Pick.there))); exact rfl)
            | (apply wl_ixI; exact rfl; exact rfl; exact rfl; exact rfl; exact rfl; ((repeat (first | exact Pick.here | apply Pick.there))); exact rfl; (first | exact rfl | omega); omega; exact rfl)
            | (apply wl_ldEI; exact rfl; exact rfl; ((repeat (first | exact Pick.here | apply Pick.there))); exact rfl; assumption; exact rfl; exact rfl)
            | (apply wl_fldE; exact rfl; exact rfl; exact rfl; exact rfl; exact rfl)
            | (apply wl_ixO; exact rfl; exact rfl; exact rfl; exact rfl; exact rfl; ((repeat (first | exact Pick.here | apply Pick.there))); exact rfl; (first | exact rfl | omega); omega; exact rfl)
            | (apply wl_ldEO; exact rfl; exact rfl; ((repeat (first | exact Pick.here | apply Pick.there))); exact rfl; assumption; exact rfl; exact rfl)
            | (apply wl_guard; exact rfl; exact rfl; exact rfl; exact rfl)
            | (apply wl_gno; exact rfl; exact rfl; exact rfl; exact rfl; exact rfl)
            | (apply wl_gsplit; exact rfl; exact rfl; exact rfl; exact rfl; all_goals (intro h; (try simp only [reduceCtorEq, not_true_eq_false, not_false_eq_true, decide_eq_true_eq, decide_eq_false_iff_not, Bool.not_eq_true', Bool.not_eq_false', Bool.not_true, Bool.not_false, Int.not_lt, Int.not_le, ne_eq, Decidable.not_not] at h); (try (exfalso; omega))))
            | (apply wl_rem; exact rfl; exact rfl; omega; exact rfl)
            | (apply wl_row; (iterate 7 (exact rfl)); intro b1)
            | (apply wl_box; exact rfl; exact rfl; exact rfl; intro b1)
            | (apply wl_alloc; exact rfl; exact rfl; intro b1)
            | (apply wl_eqlS; exact rfl; exact rfl; exact rfl)
            | (apply wl_neqS; exact rfl; exact rfl; exact rfl))
          | (show WC _ _ _ _ _ _; first
            | refine WC.seq ?_
            | (apply WC.region; exact rfl)
            | (apply WC.condT; exact rfl)
            | (apply WC.condF; exact rfl)
            | (apply WC.cond; exact rfl; all_goals (intro h; (try simp only [reduceCtorEq, not_true_eq_false, not_false_eq_true, decide_eq_true_eq, decide_eq_false_iff_not, Bool.not_eq_true', Bool.not_eq_false', Bool.not_true, Bool.not_false, Int.not_lt, Int.not_le, ne_eq, Decidable.not_not] at h); (try (exfalso; omega))))
            | refine WC.block ?_
            | refine WC.skip ?_
            | refine WC.ret ?_
            | refine WC.exit ?_)
          | refine Qseq.nm ?_
          | refine Qseq.r ?_
          | refine Qseq.x ?_
          | refine Qblock.nm ?_
          | refine Qblock.r ?_
          | (apply Qblock.t; exact rfl)
          | (apply Qblock.f; exact rfl)
          | refine Qmx.r ?_
          | refine Qmx.nm ?_
          | (apply Qmx.f; exact rfl)
          | refine Qmn.r ?_
          | refine Qmn.x ?_
          | refine Qloop.r ?_
          | refine Qloop.x ?_
          | (apply Qfn.one; exact rfl)
          | (apply Qfn.two; exact rfl; exact rfl)
          | (apply Qfn.three; exact rfl; exact rfl; exact rfl)
          | (apply Qfn.cellt; exact rfl; exact rfl; ((repeat (first | exact Pick.here | apply Pick.there))); exact rfl; exact rfl)
          | refine Qfn.zero ?_
          | refine Qfn.zeroN ?_)
        (refine wl_call rfl rfl rfl (wakes05_spec) (by repeat (first | exact Take.nil | (apply Take.keepI; focus ((repeat (first | exact Pick.here | apply Pick.there)); done)) | (apply Take.cons; focus ((repeat (first | exact Pick.here | apply Pick.there)); done)) | (apply Take.pure; (first | assumption | omega)))) ?_)
        rintro _ _ ⟨rfl, rfl⟩
        repeat' (first
          | (show WL _ _ _ _ _ _ _; first
            | (apply wl_calc; exact rfl; exact True.intro; exact rfl)
            | refine WL.nil ?_
            | (apply wl_ld; exact rfl; exact rfl; ((repeat (first | exact Pick.here | apply Pick.there))); exact rfl; exact rfl)
            | (apply wl_calc; exact rfl; ((try simp only [inR]); omega); exact rfl)
            | (apply wl_store; exact rfl; exact rfl; exact rfl; ((repeat (first | exact Pick.here | apply Pick.there))); exact rfl)
            | (apply wl_ixI; exact rfl; exact rfl; exact rfl; exact rfl; exact rfl; ((repeat (first | exact Pick.here | apply Pick.there))); exact rfl; (first | exact rfl | omega); omega; exact rfl)
            | (apply wl_ldEI; exact rfl; exact rfl; ((repeat (first | exact Pick.here | apply Pick.there))); exact rfl; assumption; exact rfl; exact rfl)
            | (apply wl_fldE; exact rfl; exact rfl; exact rfl; exact rfl; exact rfl)
            | (apply wl_ixO; exact rfl; exact rfl; exact rfl; exact rfl; exact rfl; ((repeat (first | exact Pick.here | apply Pick.there))); exact rfl; (first | exact rfl | omega); omega; exact rfl)
            | (apply wl_ldEO; exact rfl; exact rfl; ((repeat (first | exact Pick.here | apply Pick.there))); exact rfl; assumption; exact rfl; exact rfl)
            | (apply wl_guard; exact rfl; exact rfl; exact rfl; exact rfl)
            | (apply wl_gno; exact rfl; exact rfl; exact rfl; exact rfl; exact rfl)
            | (apply wl_gsplit; exact rfl; exact rfl; exact rfl; exact rfl; all_goals (intro h; (try simp only [reduceCtorEq, not_true_eq_false, not_false_eq_true, decide_eq_true_eq, decide_eq_false_iff_not, Bool.not_eq_true', Bool.not_eq_false', Bool.not_true, Bool.not_false, Int.not_lt, Int.not_le, ne_eq, Decidable.not_not] at h); (try (exfalso; omega))))
            | (apply wl_rem; exact rfl; exact rfl; omega; exact rfl)
            | (apply wl_row; (iterate 7 (exact rfl)); intro b1)
            | (apply wl_box; exact rfl; exact rfl; exact rfl; intro b1)
            | (apply wl_alloc; exact rfl; exact rfl; intro b1)
            | (apply wl_eqlS; exact rfl; exact rfl; exact rfl)
            | (apply wl_neqS; exact rfl; exact rfl; exact rfl))
          | (show WC _ _ _ _ _ _; first
            | refine WC.seq ?_
            | (apply WC.region; exact rfl)
            | (apply WC.condT; exact rfl)
            | (apply WC.condF; exact rfl)
            | (apply WC.cond; exact rfl; all_goals (intro h; (try simp only [reduceCtorEq, not_true_eq_false, not_false_eq_true, decide_eq_true_eq, decide_eq_false_iff_not, Bool.not_eq_true', Bool.not_eq_false', Bool.not_true, Bool.not_false, Int.not_lt, Int.not_le, ne_eq, Decidable.not_not] at h); (try (exfalso; omega))))
            | refine WC.block ?_
            | refine WC.skip ?_
            | refine WC.ret ?_
            | refine WC.exit ?_)
          | refine Qseq.nm ?_
          | refine Qseq.r ?_
          | refine Qseq.x ?_
          | refine Qblock.nm ?_
          | refine Qblock.r ?_
          | (apply Qblock.t; exact rfl)
          | (apply Qblock.f; exact rfl)
          | refine Qmx.r ?_
          | refine Qmx.nm ?_
          | (apply Qmx.f; exact rfl)
          | refine Qmn.r ?_
          | refine Qmn.x ?_
          | refine Qloop.r ?_
          | refine Qloop.x ?_
          | (apply Qfn.one; exact rfl)
          | (apply Qfn.two; exact rfl; exact rfl)
          | (apply Qfn.three; exact rfl; exact rfl; exact rfl)
          | (apply Qfn.cellt; exact rfl; exact rfl; ((repeat (first | exact Pick.here | apply Pick.there))); exact rfl; exact rfl)
          | refine Qfn.zero ?_
          | refine Qfn.zeroN ?_)
        exact ⟨_, Take.fin (by repeat (first | exact Take.nil | (apply Take.keepI; focus ((repeat (first | exact Pick.here | apply Pick.there)); done)) | (apply Take.cons; focus ((repeat (first | exact Pick.here | apply Pick.there)); done)) | (apply Take.pure; (first | assumption | omega)))), rfl, rfl⟩
end Go.Proofs.Ytidmolpkcfhkaaa
