/- SpanReads: what the code computes. -/
import Derived.Test.YtidmolpkcfhkaaaC14
import Derived.Test.YtidmolpkcfhkaaaK13
namespace Go.Proofs.Ytidmolpkcfhkaaa
set_option linter.unusedSectionVars false
set_option linter.unusedVariables false
set_option linter.unusedSimpArgs false
open Go
attribute [local irreducible] Decidable.decide Qfn Qseq Qblock Qloop Qmx Qmn WL WC OpT Pick Ent QuietT WT WA ISl OSl Blk IBlk
variable {P : Program} [hP : IsP P]
theorem spanreads_walk {b : List Int} {a : Option Addr} {c : Nat} {numbers acts : List Int} {na ta aa : Option Addr} {nc tc ac : Nat} {texts : List (Sl Int)} (hbl : b.length ≤ 140737488351232) (raw : Bool) :
    Spec P 7 [.slice a b.length c, .slice na numbers.length nc, .slice ta texts.length tc, .slice aa acts.length ac, .bool raw] [ISl EB a c b, ISl EI na nc numbers, ISl (ESl Int 1) ta tc texts, Rows8 texts, ISl EI aa ac acts] fun r R => r = .bool true ∧ R = [] := by
  refine Spec.fact (fn_ok (fn := Try.f7) (by rw [hP.eq]; exact Try.func7) (by kernel_rfl) rfl) (.there .here) ISl.facts ?_
  rintro ⟨hnu, -, -⟩
  refine Spec.fact (fn_ok (fn := Try.f7) (by rw [hP.eq]; exact Try.func7) (by kernel_rfl) rfl) (.there (.there .here)) ISl.facts ?_
  rintro ⟨htx, -, -⟩
  refine Spec.fact (fn_ok (fn := Try.f7) (by rw [hP.eq]; exact Try.func7) (by kernel_rfl) rfl) (.there (.there (.there (.there .here)))) ISl.facts ?_
  rintro ⟨hac, -, -⟩
  refine Spec.of (fn := Try.f7) (by rw [hP.eq]; exact Try.func7) (by kernel_rfl) rfl Try.ntmps7 rfl rfl ?_
  repeat' (first
    | (show WL _ _ _ _ _ _ _; first
      | (apply wl_calc; exact rfl; exact True.intro; exact rfl)
      | refine WL.nil ?_
      | (apply wl_ld; exact rfl; exact rfl; ((repeat (first | exact Pick.here | apply Pick.there))); exact rfl; exact rfl)
      | (apply wl_calc; exact rfl; ((try simp only [inR]); omega); exact rfl)
      | (apply wl_store; exact rfl; exact rfl; exact rfl; ((repeat (first | exact Pick.here | apply Pick.there))); exact rfl)
      | (apply wl_ixI; exact rfl; exact rfl; exact rfl; exact rfl; exact rfl; ((repeat (first | exact Pick.here | apply Pick.there))); exact rfl; exact rfl; omega; exact rfl)
      | (apply wl_ldEI; exact rfl; exact rfl; ((repeat (first | exact Pick.here | apply Pick.there))); exact rfl; assumption; exact rfl; exact rfl)
      | (apply wl_fldE; exact rfl; exact rfl; exact rfl; exact rfl; exact rfl)
      | (apply wl_ixO; exact rfl; exact rfl; exact rfl; exact rfl; exact rfl; ((repeat (first | exact Pick.here | apply Pick.there))); exact rfl; exact rfl; omega; exact rfl)
      | (apply wl_ldEO; exact rfl; exact rfl; ((repeat (first | exact Pick.here | apply Pick.there))); exact rfl; assumption; exact rfl; exact rfl)
      | (apply wl_guard; exact rfl; exact rfl; exact rfl; exact rfl)
      | (apply wl_gno; exact rfl; exact rfl; exact rfl; exact rfl; exact rfl)
      | (apply wl_gsplit; exact rfl; exact rfl; exact rfl; exact rfl; all_goals (intro h; (try simp only [reduceCtorEq, not_true_eq_false, not_false_eq_true, decide_eq_true_eq, decide_eq_false_iff_not, Bool.not_eq_true', Bool.not_eq_false', Bool.not_true, Bool.not_false, Int.not_lt, Int.not_le, ne_eq, Decidable.not_not] at h); (try (exfalso; omega))))
      | (apply wl_rem; exact rfl; exact rfl; omega; exact rfl)
      | (apply wl_row; (iterate 7 (exact rfl)); intro b1)
      | (apply wl_box; exact rfl; exact rfl; exact rfl; intro b1))
    | (show WC _ _ _ _ _ _; first
      | refine WC.seq ?_
      | (apply WC.region; exact rfl)
      | (apply WC.condT; exact rfl)
      | (apply WC.condF; exact rfl)
      | refine WC.skip ?_
      | refine WC.ret ?_
      | refine WC.exit ?_)
    | refine Qseq.nm ?_
    | refine Qseq.r ?_
    | refine Qseq.x ?_
    | refine Qblock.nm ?_
    | refine Qblock.r ?_
    | (apply Qblock.t; exact rfl)
    | (apply Qblock.f; exact rfl)
    | refine Qmx.r ?_
    | refine Qmx.nm ?_
    | (apply Qmx.f; exact rfl)
    | refine Qmn.r ?_
    | refine Qmn.x ?_
    | refine Qloop.r ?_
    | refine Qloop.x ?_
    | (apply Qfn.one; exact rfl)
    | (apply Qfn.two; exact rfl; exact rfl)
    | (apply Qfn.three; exact rfl; exact rfl; exact rfl)
    | refine Qfn.zero ?_
    | refine Qfn.zeroN ?_)
  refine WC.midnU [] (fun d D => ∃ (zs : List Int) (a1 : Option Addr) (c1 : Nat), (zs.length ≤ 140737488355200) ∧ d = [(0, .slice a1 zs.length c1)] ∧ D = [ISl EB a1 c1 zs]) rfl (by repeat (first | exact Take.nil | (apply Take.keepI; focus ((repeat (first | exact Pick.here | apply Pick.there)); done)) | (apply Take.cons; focus ((repeat (first | exact Pick.here | apply Pick.there)); done)) | (apply Take.pure; (first | assumption | omega)))) ?_ ?_
  · repeat' (first | (show WL _ _ _ _ _ _ _; first | (apply wl_calc; exact rfl; exact True.intro; exact rfl) | refine WL.nil ?_ | (apply wl_ld; exact rfl; exact rfl; ((repeat (first | exact Pick.here | apply Pick.there))); exact rfl; exact rfl) | (apply wl_calc; exact rfl; ((try simp only [inR]); omega); exact rfl) | (apply wl_store; exact rfl; exact rfl; exact rfl; ((repeat (first | exact Pick.here | apply Pick.there))); exact rfl) | (apply wl_ixI; exact rfl; exact rfl; exact rfl; exact rfl; exact rfl; ((repeat (first | exact Pick.here | apply Pick.there))); exact rfl; exact rfl; omega; exact rfl) | (apply wl_ldEI; exact rfl; exact rfl; ((repeat (first | exact Pick.here | apply Pick.there))); exact rfl; assumption; exact rfl; exact rfl) | (apply wl_fldE; exact rfl; exact rfl; exact rfl; exact rfl; exact rfl) | (apply wl_ixO; exact rfl; exact rfl; exact rfl; exact rfl; exact rfl; ((repeat (first | exact Pick.here | apply Pick.there))); exact rfl; exact rfl; omega; exact rfl) | (apply wl_ldEO; exact rfl; exact rfl; ((repeat (first | exact Pick.here | apply Pick.there))); exact rfl; assumption; exact rfl; exact rfl) | (apply wl_guard; exact rfl; exact rfl; exact rfl; exact rfl) | (apply wl_gno; exact rfl; exact rfl; exact rfl; exact rfl; exact rfl) | (apply wl_gsplit; exact rfl; exact rfl; exact rfl; exact rfl; all_goals (intro h; (try simp only [reduceCtorEq, not_true_eq_false, not_false_eq_true, decide_eq_true_eq, decide_eq_false_iff_not, Bool.not_eq_true', Bool.not_eq_false', Bool.not_true, Bool.not_false, Int.not_lt, Int.not_le, ne_eq, Decidable.not_not] at h); (try (exfalso; omega)))) | (apply wl_rem; exact rfl; exact rfl; omega; exact rfl) | (apply wl_row; (iterate 7 (exact rfl)); intro b1) | (apply wl_box; exact rfl; exact rfl; exact rfl; intro b1)) | (show WC _ _ _ _ _ _; first | refine WC.seq ?_ | (apply WC.region; exact rfl) | (apply WC.condT; exact rfl) | (apply WC.condF; exact rfl) | (apply WC.cond; exact rfl; all_goals (intro h; (try simp only [reduceCtorEq, not_true_eq_false, not_false_eq_true, decide_eq_true_eq, decide_eq_false_iff_not, Bool.not_eq_true', Bool.not_eq_false', Bool.not_true, Bool.not_false, Int.not_lt, Int.not_le, ne_eq, Decidable.not_not] at h); (try (exfalso; omega)))) | refine WC.block ?_ | refine WC.skip ?_ | refine WC.ret ?_ | refine WC.exit ?_) | refine Qseq.nm ?_ | refine Qseq.r ?_ | refine Qseq.x ?_ | refine Qblock.nm ?_ | refine Qblock.r ?_ | (apply Qblock.t; exact rfl) | (apply Qblock.f; exact rfl) | refine Qmx.r ?_ | refine Qmx.nm ?_ | (apply Qmx.f; exact rfl) | refine Qmn.r ?_ | refine Qmn.x ?_ | refine Qloop.r ?_ | refine Qloop.x ?_ | (apply Qfn.one; exact rfl) | (apply Qfn.two; exact rfl; exact rfl) | (apply Qfn.three; exact rfl; exact rfl; exact rfl) | refine Qfn.zero ?_ | refine Qfn.zeroN ?_)
    · refine WC.midxU 0 [] (fun d D => ∃ (cs : List Int) (a1 : Option Addr) (c1 : Nat), (cs.length ≤ 516) ∧ d = [(11, .slice a1 cs.length c1)] ∧ D = [OSl EB 5 a1 c1 cs]) rfl (by repeat (first | exact Take.nil | (apply Take.keepI; focus ((repeat (first | exact Pick.here | apply Pick.there)); done)) | (apply Take.cons; focus ((repeat (first | exact Pick.here | apply Pick.there)); done)) | (apply Take.pure; (first | assumption | omega)))) ?_ ?_
      · refine WC.ent (OSl.nilE EB 5 _) ?_
        refine WC.loopU (fun k d D => ∃ (i : Nat) (cs : List Int) (a1 : Option Addr) (c1 : Nat), (i ≤ 6 ∧ cs.length ≤ 86 * i) ∧ k = 6 - i ∧ d = [(11, .slice a1 cs.length c1), (12, .int .i64 i)] ∧ D = [OSl EB 5 a1 c1 cs])
          (D0 := [OSl EB 5 none 0 []]) rfl (by repeat (first | exact trivial | refine ⟨rfl, ?_⟩)) (by repeat (first | exact Take.nil | (apply Take.keepI; focus ((repeat (first | exact Pick.here | apply Pick.there)); done)) | (apply Take.cons; focus ((repeat (first | exact Pick.here | apply Pick.there)); done)) | (apply Take.pure; (first | assumption | omega)))) ⟨0, [], none, 0, by simp, rfl, rfl, rfl⟩ ?_
        rintro _ _ _ ⟨i, cs, a1, c1, ⟨hi, hcs⟩, rfl, rfl, rfl⟩
        repeat' (first
          | (show WL _ _ _ _ _ _ _; first
            | (apply wl_calc; exact rfl; exact True.intro; exact rfl)
            | refine WL.nil ?_
            | (apply wl_ld; exact rfl; exact rfl; ((repeat (first | exact Pick.here | apply Pick.there))); exact rfl; exact rfl)
            | (apply wl_calc; exact rfl; ((try simp only [inR]); omega); exact rfl)
            | (apply wl_store; exact rfl; exact rfl; exact rfl; ((repeat (first | exact Pick.here | apply Pick.there))); exact rfl)
            | (apply wl_ixI; exact rfl; exact rfl; exact rfl; exact rfl; exact rfl; ((repeat (first | exact Pick.here | apply Pick.there))); exact rfl; exact rfl; omega; exact rfl)
            | (apply wl_ldEI; exact rfl; exact rfl; ((repeat (first | exact Pick.here | apply Pick.there))); exact rfl; assumption; exact rfl; exact rfl)
            | (apply wl_fldE; exact rfl; exact rfl; exact rfl; exact rfl; exact rfl)
            | (apply wl_ixO; exact rfl; exact rfl; exact rfl; exact rfl; exact rfl; ((repeat (first | exact Pick.here | apply Pick.there))); exact rfl; exact rfl; omega; exact rfl)
            | (apply wl_ldEO; exact rfl; exact rfl; ((repeat (first | exact Pick.here | apply Pick.there))); exact rfl; assumption; exact rfl; exact rfl)
            | (apply wl_guard; exact rfl; exact rfl; exact rfl; exact rfl)
            | (apply wl_gno; exact rfl; exact rfl; exact rfl; exact rfl; exact rfl)
            | (apply wl_gsplit; exact rfl; exact rfl; exact rfl; exact rfl; all_goals (intro h; (try simp only [reduceCtorEq, not_true_eq_false, not_false_eq_true, decide_eq_true_eq, decide_eq_false_iff_not, Bool.not_eq_true', Bool.not_eq_false', Bool.not_true, Bool.not_false, Int.not_lt, Int.not_le, ne_eq, Decidable.not_not] at h); (try (exfalso; omega))))
            | (apply wl_rem; exact rfl; exact rfl; omega; exact rfl)
            | (apply wl_row; (iterate 7 (exact rfl)); intro b1)
            | (apply wl_box; exact rfl; exact rfl; exact rfl; intro b1))
          | (show WC _ _ _ _ _ _; first
            | refine WC.seq ?_
            | (apply WC.region; exact rfl)
            | (apply WC.condT; exact rfl)
            | (apply WC.condF; exact rfl)
            | (apply WC.cond; exact rfl; all_goals (intro h; (try simp only [reduceCtorEq, not_true_eq_false, not_false_eq_true, decide_eq_true_eq, decide_eq_false_iff_not, Bool.not_eq_true', Bool.not_eq_false', Bool.not_true, Bool.not_false, Int.not_lt, Int.not_le, ne_eq, Decidable.not_not] at h); (try (exfalso; omega))))
            | refine WC.block ?_
            | refine WC.skip ?_
            | refine WC.ret ?_
            | refine WC.exit ?_)
          | refine Qseq.nm ?_
          | refine Qseq.r ?_
          | refine Qseq.x ?_
          | refine Qblock.nm ?_
          | refine Qblock.r ?_
          | (apply Qblock.t; exact rfl)
          | (apply Qblock.f; exact rfl)
          | refine Qmx.r ?_
          | refine Qmx.nm ?_
          | (apply Qmx.f; exact rfl)
          | refine Qmn.r ?_
          | refine Qmn.x ?_
          | refine Qloop.r ?_
          | refine Qloop.x ?_
          | (apply Qfn.one; exact rfl)
          | (apply Qfn.two; exact rfl; exact rfl)
          | (apply Qfn.three; exact rfl; exact rfl; exact rfl)
          | refine Qfn.zero ?_
          | refine Qfn.zeroN ?_)
        · obtain ⟨x, hx⟩ := getI (i := i) (xs := numbers) (by omega)
          have hxb := hnu x (List.mem_of_getElem? hx)
          repeat' (first
            | (show WL _ _ _ _ _ _ _; first
              | (apply wl_calc; exact rfl; exact True.intro; exact rfl)
              | refine WL.nil ?_
              | (apply wl_ld; exact rfl; exact rfl; ((repeat (first | exact Pick.here | apply Pick.there))); exact rfl; exact rfl)
              | (apply wl_calc; exact rfl; ((try simp only [inR]); omega); exact rfl)
              | (apply wl_store; exact rfl; exact rfl; exact rfl; ((repeat (first | exact Pick.here | apply Pick.there))); exact rfl)
              | (apply wl_ixI; exact rfl; exact rfl; exact rfl; exact rfl; exact rfl; ((repeat (first | exact Pick.here | apply Pick.there))); exact rfl; exact rfl; omega; exact rfl)
              | (apply wl_ldEI; exact rfl; exact rfl; ((repeat (first | exact Pick.here | apply Pick.there))); exact rfl; assumption; exact rfl; exact rfl)
              | (apply wl_fldE; exact rfl; exact rfl; exact rfl; exact rfl; exact rfl)
              | (apply wl_ixO; exact rfl; exact rfl; exact rfl; exact rfl; exact rfl; ((repeat (first | exact Pick.here | apply Pick.there))); exact rfl; exact rfl; omega; exact rfl)
              | (apply wl_ldEO; exact rfl; exact rfl; ((repeat (first | exact Pick.here | apply Pick.there))); exact rfl; assumption; exact rfl; exact rfl)
              | (apply wl_guard; exact rfl; exact rfl; exact rfl; exact rfl)
              | (apply wl_gno; exact rfl; exact rfl; exact rfl; exact rfl; exact rfl)
              | (apply wl_gsplit; exact rfl; exact rfl; exact rfl; exact rfl; all_goals (intro h; (try simp only [reduceCtorEq, not_true_eq_false, not_false_eq_true, decide_eq_true_eq, decide_eq_false_iff_not, Bool.not_eq_true', Bool.not_eq_false', Bool.not_true, Bool.not_false, Int.not_lt, Int.not_le, ne_eq, Decidable.not_not] at h); (try (exfalso; omega))))
              | (apply wl_rem; exact rfl; exact rfl; omega; exact rfl)
              | (apply wl_row; (iterate 7 (exact rfl)); intro b1)
              | (apply wl_box; exact rfl; exact rfl; exact rfl; intro b1))
            | (show WC _ _ _ _ _ _; first
              | refine WC.seq ?_
              | (apply WC.region; exact rfl)
              | (apply WC.condT; exact rfl)
              | (apply WC.condF; exact rfl)
              | (apply WC.cond; exact rfl; all_goals (intro h; (try simp only [reduceCtorEq, not_true_eq_false, not_false_eq_true, decide_eq_true_eq, decide_eq_false_iff_not, Bool.not_eq_true', Bool.not_eq_false', Bool.not_true, Bool.not_false, Int.not_lt, Int.not_le, ne_eq, Decidable.not_not] at h); (try (exfalso; omega))))
              | refine WC.block ?_
              | refine WC.skip ?_
              | refine WC.ret ?_
              | refine WC.exit ?_)
            | refine Qseq.nm ?_
            | refine Qseq.r ?_
            | refine Qseq.x ?_
            | refine Qblock.nm ?_
            | refine Qblock.r ?_
            | (apply Qblock.t; exact rfl)
            | (apply Qblock.f; exact rfl)
            | refine Qmx.r ?_
            | refine Qmx.nm ?_
            | (apply Qmx.f; exact rfl)
            | refine Qmn.r ?_
            | refine Qmn.x ?_
            | refine Qloop.r ?_
            | refine Qloop.x ?_
            | (apply Qfn.one; exact rfl)
            | (apply Qfn.two; exact rfl; exact rfl)
            | (apply Qfn.three; exact rfl; exact rfl; exact rfl)
            | refine Qfn.zero ?_
            | refine Qfn.zeroN ?_)
          (refine wl_call rfl rfl rfl (withinP_spec x 1073741824 hxb (by omega)) (by repeat (first | exact Take.nil | (apply Take.keepI; focus ((repeat (first | exact Pick.here | apply Pick.there)); done)) | (apply Take.cons; focus ((repeat (first | exact Pick.here | apply Pick.there)); done)) | (apply Take.pure; (first | assumption | omega)))) ?_)
          rintro _ _ ⟨rfl, rfl⟩
          repeat' (first
            | (show WL _ _ _ _ _ _ _; first
              | (apply wl_calc; exact rfl; exact True.intro; exact rfl)
              | refine WL.nil ?_
              | (apply wl_ld; exact rfl; exact rfl; ((repeat (first | exact Pick.here | apply Pick.there))); exact rfl; exact rfl)
              | (apply wl_calc; exact rfl; ((try simp only [inR]); omega); exact rfl)
              | (apply wl_store; exact rfl; exact rfl; exact rfl; ((repeat (first | exact Pick.here | apply Pick.there))); exact rfl)
              | (apply wl_ixI; exact rfl; exact rfl; exact rfl; exact rfl; exact rfl; ((repeat (first | exact Pick.here | apply Pick.there))); exact rfl; exact rfl; omega; exact rfl)
              | (apply wl_ldEI; exact rfl; exact rfl; ((repeat (first | exact Pick.here | apply Pick.there))); exact rfl; assumption; exact rfl; exact rfl)
              | (apply wl_fldE; exact rfl; exact rfl; exact rfl; exact rfl; exact rfl)
              | (apply wl_ixO; exact rfl; exact rfl; exact rfl; exact rfl; exact rfl; ((repeat (first | exact Pick.here | apply Pick.there))); exact rfl; exact rfl; omega; exact rfl)
              | (apply wl_ldEO; exact rfl; exact rfl; ((repeat (first | exact Pick.here | apply Pick.there))); exact rfl; assumption; exact rfl; exact rfl)
              | (apply wl_guard; exact rfl; exact rfl; exact rfl; exact rfl)
              | (apply wl_gno; exact rfl; exact rfl; exact rfl; exact rfl; exact rfl)
              | (apply wl_gsplit; exact rfl; exact rfl; exact rfl; exact rfl; all_goals (intro h; (try simp only [reduceCtorEq, not_true_eq_false, not_false_eq_true, decide_eq_true_eq, decide_eq_false_iff_not, Bool.not_eq_true', Bool.not_eq_false', Bool.not_true, Bool.not_false, Int.not_lt, Int.not_le, ne_eq, Decidable.not_not] at h); (try (exfalso; omega))))
              | (apply wl_rem; exact rfl; exact rfl; omega; exact rfl)
              | (apply wl_row; (iterate 7 (exact rfl)); intro b1)
              | (apply wl_box; exact rfl; exact rfl; exact rfl; intro b1))
            | (show WC _ _ _ _ _ _; first
              | refine WC.seq ?_
              | (apply WC.region; exact rfl)
              | (apply WC.condT; exact rfl)
              | (apply WC.condF; exact rfl)
              | (apply WC.cond; exact rfl; all_goals (intro h; (try simp only [reduceCtorEq, not_true_eq_false, not_false_eq_true, decide_eq_true_eq, decide_eq_false_iff_not, Bool.not_eq_true', Bool.not_eq_false', Bool.not_true, Bool.not_false, Int.not_lt, Int.not_le, ne_eq, Decidable.not_not] at h); (try (exfalso; omega))))
              | refine WC.block ?_
              | refine WC.skip ?_
              | refine WC.ret ?_
              | refine WC.exit ?_)
            | refine Qseq.nm ?_
            | refine Qseq.r ?_
            | refine Qseq.x ?_
            | refine Qblock.nm ?_
            | refine Qblock.r ?_
            | (apply Qblock.t; exact rfl)
            | (apply Qblock.f; exact rfl)
            | refine Qmx.r ?_
            | refine Qmx.nm ?_
            | (apply Qmx.f; exact rfl)
            | refine Qmn.r ?_
            | refine Qmn.x ?_
            | refine Qloop.r ?_
            | refine Qloop.x ?_
            | (apply Qfn.one; exact rfl)
            | (apply Qfn.two; exact rfl; exact rfl)
            | (apply Qfn.three; exact rfl; exact rfl; exact rfl)
            | refine Qfn.zero ?_
            | refine Qfn.zeroN ?_)
          (refine wl_call rfl rfl rfl (rput_spec (x % 1073741824) (by omega)) (by repeat (first | exact Take.nil | (apply Take.keepI; focus ((repeat (first | exact Pick.here | apply Pick.there)); done)) | (apply Take.cons; focus ((repeat (first | exact Pick.here | apply Pick.there)); done)) | (apply Take.pure; (first | assumption | omega)))) ?_)
          rintro _ _ ⟨pa, pc, rfl, rfl⟩
          have hpl := put_len (x % 1073741824)
          have h8 := size_le8 (x % 1073741824)
          generalize putM (x % 1073741824) = ps at hpl ⊢
          have hal : (cs ++ ps).length = cs.length + ps.length := List.length_append
          repeat' (first
            | (show WL _ _ _ _ _ _ _; first
              | (apply wl_calc; exact rfl; exact True.intro; exact rfl)
              | refine WL.nil ?_
              | (apply wl_ld; exact rfl; exact rfl; ((repeat (first | exact Pick.here | apply Pick.there))); exact rfl; exact rfl)
              | (apply wl_calc; exact rfl; ((try simp only [inR]); omega); exact rfl)
              | (apply wl_store; exact rfl; exact rfl; exact rfl; ((repeat (first | exact Pick.here | apply Pick.there))); exact rfl)
              | (apply wl_ixI; exact rfl; exact rfl; exact rfl; exact rfl; exact rfl; ((repeat (first | exact Pick.here | apply Pick.there))); exact rfl; exact rfl; omega; exact rfl)
              | (apply wl_ldEI; exact rfl; exact rfl; ((repeat (first | exact Pick.here | apply Pick.there))); exact rfl; assumption; exact rfl; exact rfl)
              | (apply wl_fldE; exact rfl; exact rfl; exact rfl; exact rfl; exact rfl)
              | (apply wl_ixO; exact rfl; exact rfl; exact rfl; exact rfl; exact rfl; ((repeat (first | exact Pick.here | apply Pick.there))); exact rfl; exact rfl; omega; exact rfl)
              | (apply wl_ldEO; exact rfl; exact rfl; ((repeat (first | exact Pick.here | apply Pick.there))); exact rfl; assumption; exact rfl; exact rfl)
              | (apply wl_guard; exact rfl; exact rfl; exact rfl; exact rfl)
              | (apply wl_gno; exact rfl; exact rfl; exact rfl; exact rfl; exact rfl)
              | (apply wl_gsplit; exact rfl; exact rfl; exact rfl; exact rfl; all_goals (intro h; (try simp only [reduceCtorEq, not_true_eq_false, not_false_eq_true, decide_eq_true_eq, decide_eq_false_iff_not, Bool.not_eq_true', Bool.not_eq_false', Bool.not_true, Bool.not_false, Int.not_lt, Int.not_le, ne_eq, Decidable.not_not] at h); (try (exfalso; omega))))
              | (apply wl_rem; exact rfl; exact rfl; omega; exact rfl)
              | (apply wl_row; (iterate 7 (exact rfl)); intro b1)
              | (apply wl_box; exact rfl; exact rfl; exact rfl; intro b1))
            | (show WC _ _ _ _ _ _; first
              | refine WC.seq ?_
              | (apply WC.region; exact rfl)
              | (apply WC.condT; exact rfl)
              | (apply WC.condF; exact rfl)
              | (apply WC.cond; exact rfl; all_goals (intro h; (try simp only [reduceCtorEq, not_true_eq_false, not_false_eq_true, decide_eq_true_eq, decide_eq_false_iff_not, Bool.not_eq_true', Bool.not_eq_false', Bool.not_true, Bool.not_false, Int.not_lt, Int.not_le, ne_eq, Decidable.not_not] at h); (try (exfalso; omega))))
              | refine WC.block ?_
              | refine WC.skip ?_
              | refine WC.ret ?_
              | refine WC.exit ?_)
            | refine Qseq.nm ?_
            | refine Qseq.r ?_
            | refine Qseq.x ?_
            | refine Qblock.nm ?_
            | refine Qblock.r ?_
            | (apply Qblock.t; exact rfl)
            | (apply Qblock.f; exact rfl)
            | refine Qmx.r ?_
            | refine Qmx.nm ?_
            | (apply Qmx.f; exact rfl)
            | refine Qmn.r ?_
            | refine Qmn.x ?_
            | refine Qloop.r ?_
            | refine Qloop.x ?_
            | (apply Qfn.one; exact rfl)
            | (apply Qfn.two; exact rfl; exact rfl)
            | (apply Qfn.three; exact rfl; exact rfl; exact rfl)
            | refine Qfn.zero ?_
            | refine Qfn.zeroN ?_)
          (apply wl_appendO (zs := cs ++ ps); exact rfl; exact rfl; exact rfl; exact rfl; exact rfl; exact rfl; (apply Ent.pick; ((repeat (first | exact Pick.here | apply Pick.there))); exact Ent.refl _); ((repeat (first | exact Pick.here | apply Pick.there))); exact rfl; exact rfl; exact rfl; exact rfl; exact rfl; exact rfl; exact rfl; (show (_ + _) * 1 ≤ _; omega); (rfl); intro a1 c1)
          repeat' (first
            | (show WL _ _ _ _ _ _ _; first
              | (apply wl_calc; exact rfl; exact True.intro; exact rfl)
              | refine WL.nil ?_
              | (apply wl_ld; exact rfl; exact rfl; ((repeat (first | exact Pick.here | apply Pick.there))); exact rfl; exact rfl)
              | (apply wl_calc; exact rfl; ((try simp only [inR]); omega); exact rfl)
              | (apply wl_store; exact rfl; exact rfl; exact rfl; ((repeat (first | exact Pick.here | apply Pick.there))); exact rfl)
              | (apply wl_ixI; exact rfl; exact rfl; exact rfl; exact rfl; exact rfl; ((repeat (first | exact Pick.here | apply Pick.there))); exact rfl; exact rfl; omega; exact rfl)
              | (apply wl_ldEI; exact rfl; exact rfl; ((repeat (first | exact Pick.here | apply Pick.there))); exact rfl; assumption; exact rfl; exact rfl)
              | (apply wl_fldE; exact rfl; exact rfl; exact rfl; exact rfl; exact rfl)
              | (apply wl_ixO; exact rfl; exact rfl; exact rfl; exact rfl; exact rfl; ((repeat (first | exact Pick.here | apply Pick.there))); exact rfl; exact rfl; omega; exact rfl)
              | (apply wl_ldEO; exact rfl; exact rfl; ((repeat (first | exact Pick.here | apply Pick.there))); exact rfl; assumption; exact rfl; exact rfl)
              | (apply wl_guard; exact rfl; exact rfl; exact rfl; exact rfl)
              | (apply wl_gno; exact rfl; exact rfl; exact rfl; exact rfl; exact rfl)
              | (apply wl_gsplit; exact rfl; exact rfl; exact rfl; exact rfl; all_goals (intro h; (try simp only [reduceCtorEq, not_true_eq_false, not_false_eq_true, decide_eq_true_eq, decide_eq_false_iff_not, Bool.not_eq_true', Bool.not_eq_false', Bool.not_true, Bool.not_false, Int.not_lt, Int.not_le, ne_eq, Decidable.not_not] at h); (try (exfalso; omega))))
              | (apply wl_rem; exact rfl; exact rfl; omega; exact rfl)
              | (apply wl_row; (iterate 7 (exact rfl)); intro b1)
              | (apply wl_box; exact rfl; exact rfl; exact rfl; intro b1))
            | (show WC _ _ _ _ _ _; first
              | refine WC.seq ?_
              | (apply WC.region; exact rfl)
              | (apply WC.condT; exact rfl)
              | (apply WC.condF; exact rfl)
              | (apply WC.cond; exact rfl; all_goals (intro h; (try simp only [reduceCtorEq, not_true_eq_false, not_false_eq_true, decide_eq_true_eq, decide_eq_false_iff_not, Bool.not_eq_true', Bool.not_eq_false', Bool.not_true, Bool.not_false, Int.not_lt, Int.not_le, ne_eq, Decidable.not_not] at h); (try (exfalso; omega))))
              | refine WC.block ?_
              | refine WC.skip ?_
              | refine WC.ret ?_
              | refine WC.exit ?_)
            | refine Qseq.nm ?_
            | refine Qseq.r ?_
            | refine Qseq.x ?_
            | refine Qblock.nm ?_
            | refine Qblock.r ?_
            | (apply Qblock.t; exact rfl)
            | (apply Qblock.f; exact rfl)
            | refine Qmx.r ?_
            | refine Qmx.nm ?_
            | (apply Qmx.f; exact rfl)
            | refine Qmn.r ?_
            | refine Qmn.x ?_
            | refine Qloop.r ?_
            | refine Qloop.x ?_
            | (apply Qfn.one; exact rfl)
            | (apply Qfn.two; exact rfl; exact rfl)
            | (apply Qfn.three; exact rfl; exact rfl; exact rfl)
            | refine Qfn.zero ?_
            | refine Qfn.zeroN ?_)
          · obtain ⟨y, hy⟩ := getI (i := i) (xs := texts) (by omega)
            have hym := List.mem_of_getElem? hy
            obtain ⟨hy1, hy2, hy3⟩ := htx y hym
            repeat' (first
              | (show WL _ _ _ _ _ _ _; first
                | (apply wl_calc; exact rfl; exact True.intro; exact rfl)
                | refine WL.nil ?_
                | (apply wl_ld; exact rfl; exact rfl; ((repeat (first | exact Pick.here | apply Pick.there))); exact rfl; exact rfl)
                | (apply wl_calc; exact rfl; ((try simp only [inR]); omega); exact rfl)
                | (apply wl_store; exact rfl; exact rfl; exact rfl; ((repeat (first | exact Pick.here | apply Pick.there))); exact rfl)
                | (apply wl_ixI; exact rfl; exact rfl; exact rfl; exact rfl; exact rfl; ((repeat (first | exact Pick.here | apply Pick.there))); exact rfl; exact rfl; omega; exact rfl)
                | (apply wl_ldEI; exact rfl; exact rfl; ((repeat (first | exact Pick.here | apply Pick.there))); exact rfl; assumption; exact rfl; exact rfl)
                | (apply wl_fldE; exact rfl; exact rfl; exact rfl; exact rfl; exact rfl)
                | (apply wl_ixO; exact rfl; exact rfl; exact rfl; exact rfl; exact rfl; ((repeat (first | exact Pick.here | apply Pick.there))); exact rfl; exact rfl; omega; exact rfl)
                | (apply wl_ldEO; exact rfl; exact rfl; ((repeat (first | exact Pick.here | apply Pick.there))); exact rfl; assumption; exact rfl; exact rfl)
                | (apply wl_guard; exact rfl; exact rfl; exact rfl; exact rfl)
                | (apply wl_gno; exact rfl; exact rfl; exact rfl; exact rfl; exact rfl)
                | (apply wl_gsplit; exact rfl; exact rfl; exact rfl; exact rfl; all_goals (intro h; (try simp only [reduceCtorEq, not_true_eq_false, not_false_eq_true, decide_eq_true_eq, decide_eq_false_iff_not, Bool.not_eq_true', Bool.not_eq_false', Bool.not_true, Bool.not_false, Int.not_lt, Int.not_le, ne_eq, Decidable.not_not] at h); (try (exfalso; omega))))
                | (apply wl_rem; exact rfl; exact rfl; omega; exact rfl)
                | (apply wl_row; (iterate 7 (exact rfl)); intro b1)
                | (apply wl_box; exact rfl; exact rfl; exact rfl; intro b1))
              | (show WC _ _ _ _ _ _; first
                | refine WC.seq ?_
                | (apply WC.region; exact rfl)
                | (apply WC.condT; exact rfl)
                | (apply WC.condF; exact rfl)
                | (apply WC.cond; exact rfl; all_goals (intro h; (try simp only [reduceCtorEq, not_true_eq_false, not_false_eq_true, decide_eq_true_eq, decide_eq_false_iff_not, Bool.not_eq_true', Bool.not_eq_false', Bool.not_true, Bool.not_false, Int.not_lt, Int.not_le, ne_eq, Decidable.not_not] at h); (try (exfalso; omega))))
                | refine WC.block ?_
                | refine WC.skip ?_
                | refine WC.ret ?_
                | refine WC.exit ?_)
              | refine Qseq.nm ?_
              | refine Qseq.r ?_
              | refine Qseq.x ?_
              | refine Qblock.nm ?_
              | refine Qblock.r ?_
              | (apply Qblock.t; exact rfl)
              | (apply Qblock.f; exact rfl)
              | refine Qmx.r ?_
              | refine Qmx.nm ?_
              | (apply Qmx.f; exact rfl)
              | refine Qmn.r ?_
              | refine Qmn.x ?_
              | refine Qloop.r ?_
              | refine Qloop.x ?_
              | (apply Qfn.one; exact rfl)
              | (apply Qfn.two; exact rfl; exact rfl)
              | (apply Qfn.three; exact rfl; exact rfl; exact rfl)
              | refine Qfn.zero ?_
              | refine Qfn.zeroN ?_)
            refine WL.ent (Ent.addP (B := ISl EB y.a y.c y.xs) (Rows8.pers texts) (by (repeat (first | exact Pick.here | apply Pick.there))) fun p hp => hp y hym) ?_
            (refine wl_call rfl rfl rfl (cut_spec 70 (by omega) (by omega)) (by repeat (first | exact Take.nil | (apply Take.keepI; focus ((repeat (first | exact Pick.here | apply Pick.there)); done)) | (apply Take.cons; focus ((repeat (first | exact Pick.here | apply Pick.there)); done)) | (apply Take.pure; (first | assumption | omega)))) ?_)
            rintro _ _ ⟨ua, uc, rfl, rfl⟩
            have hul : (y.xs.take (70 : Int).toNat).length ≤ 70 := by simp; omega
            generalize y.xs.take (70 : Int).toNat = us at hul ⊢
            refine WL.ent OSl.share ?_
            repeat' (first
              | (show WL _ _ _ _ _ _ _; first
                | (apply wl_calc; exact rfl; exact True.intro; exact rfl)
                | refine WL.nil ?_
                | (apply wl_ld; exact rfl; exact rfl; ((repeat (first | exact Pick.here | apply Pick.there))); exact rfl; exact rfl)
                | (apply wl_calc; exact rfl; ((try simp only [inR]); omega); exact rfl)
                | (apply wl_store; exact rfl; exact rfl; exact rfl; ((repeat (first | exact Pick.here | apply Pick.there))); exact rfl)
                | (apply wl_ixI; exact rfl; exact rfl; exact rfl; exact rfl; exact rfl; ((repeat (first | exact Pick.here | apply Pick.there))); exact rfl; exact rfl; omega; exact rfl)
                | (apply wl_ldEI; exact rfl; exact rfl; ((repeat (first | exact Pick.here | apply Pick.there))); exact rfl; assumption; exact rfl; exact rfl)
                | (apply wl_fldE; exact rfl; exact rfl; exact rfl; exact rfl; exact rfl)
                | (apply wl_ixO; exact rfl; exact rfl; exact rfl; exact rfl; exact rfl; ((repeat (first | exact Pick.here | apply Pick.there))); exact rfl; exact rfl; omega; exact rfl)
                | (apply wl_ldEO; exact rfl; exact rfl; ((repeat (first | exact Pick.here | apply Pick.there))); exact rfl; assumption; exact rfl; exact rfl)
                | (apply wl_guard; exact rfl; exact rfl; exact rfl; exact rfl)
                | (apply wl_gno; exact rfl; exact rfl; exact rfl; exact rfl; exact rfl)
                | (apply wl_gsplit; exact rfl; exact rfl; exact rfl; exact rfl; all_goals (intro h; (try simp only [reduceCtorEq, not_true_eq_false, not_false_eq_true, decide_eq_true_eq, decide_eq_false_iff_not, Bool.not_eq_true', Bool.not_eq_false', Bool.not_true, Bool.not_false, Int.not_lt, Int.not_le, ne_eq, Decidable.not_not] at h); (try (exfalso; omega))))
                | (apply wl_rem; exact rfl; exact rfl; omega; exact rfl)
                | (apply wl_row; (iterate 7 (exact rfl)); intro b1)
                | (apply wl_box; exact rfl; exact rfl; exact rfl; intro b1))
              | (show WC _ _ _ _ _ _; first
                | refine WC.seq ?_
                | (apply WC.region; exact rfl)
                | (apply WC.condT; exact rfl)
                | (apply WC.condF; exact rfl)
                | (apply WC.cond; exact rfl; all_goals (intro h; (try simp only [reduceCtorEq, not_true_eq_false, not_false_eq_true, decide_eq_true_eq, decide_eq_false_iff_not, Bool.not_eq_true', Bool.not_eq_false', Bool.not_true, Bool.not_false, Int.not_lt, Int.not_le, ne_eq, Decidable.not_not] at h); (try (exfalso; omega))))
                | refine WC.block ?_
                | refine WC.skip ?_
                | refine WC.ret ?_
                | refine WC.exit ?_)
              | refine Qseq.nm ?_
              | refine Qseq.r ?_
              | refine Qseq.x ?_
              | refine Qblock.nm ?_
              | refine Qblock.r ?_
              | (apply Qblock.t; exact rfl)
              | (apply Qblock.f; exact rfl)
              | refine Qmx.r ?_
              | refine Qmx.nm ?_
              | (apply Qmx.f; exact rfl)
              | refine Qmn.r ?_
              | refine Qmn.x ?_
              | refine Qloop.r ?_
              | refine Qloop.x ?_
              | (apply Qfn.one; exact rfl)
              | (apply Qfn.two; exact rfl; exact rfl)
              | (apply Qfn.three; exact rfl; exact rfl; exact rfl)
              | refine Qfn.zero ?_
              | refine Qfn.zeroN ?_)
            (refine wl_call rfl rfl rfl (wrap_spec (xs := us) (by omega)) (by repeat (first | exact Take.nil | (apply Take.keepI; focus ((repeat (first | exact Pick.here | apply Pick.there)); done)) | (apply Take.cons; focus ((repeat (first | exact Pick.here | apply Pick.there)); done)) | (apply Take.pure; (first | assumption | omega)))) ?_)
            rintro _ _ ⟨va, vc, rfl, rfl⟩
            have hwl := wrap_len us
            generalize wrapM us = ws at hwl ⊢
            have hal2 : (cs ++ ps ++ ws).length = cs.length + ps.length + ws.length := by rw [List.length_append, hal]
            repeat' (first
              | (show WL _ _ _ _ _ _ _; first
                | (apply wl_calc; exact rfl; exact True.intro; exact rfl)
                | refine WL.nil ?_
                | (apply wl_ld; exact rfl; exact rfl; ((repeat (first | exact Pick.here | apply Pick.there))); exact rfl; exact rfl)
                | (apply wl_calc; exact rfl; ((try simp only [inR]); omega); exact rfl)
                | (apply wl_store; exact rfl; exact rfl; exact rfl; ((repeat (first | exact Pick.here | apply Pick.there))); exact rfl)
                | (apply wl_ixI; exact rfl; exact rfl; exact rfl; exact rfl; exact rfl; ((repeat (first | exact Pick.here | apply Pick.there))); exact rfl; exact rfl; omega; exact rfl)
                | (apply wl_ldEI; exact rfl; exact rfl; ((repeat (first | exact Pick.here | apply Pick.there))); exact rfl; assumption; exact rfl; exact rfl)
                | (apply wl_fldE; exact rfl; exact rfl; exact rfl; exact rfl; exact rfl)
                | (apply wl_ixO; exact rfl; exact rfl; exact rfl; exact rfl; exact rfl; ((repeat (first | exact Pick.here | apply Pick.there))); exact rfl; exact rfl; omega; exact rfl)
                | (apply wl_ldEO; exact rfl; exact rfl; ((repeat (first | exact Pick.here | apply Pick.there))); exact rfl; assumption; exact rfl; exact rfl)
                | (apply wl_guard; exact rfl; exact rfl; exact rfl; exact rfl)
                | (apply wl_gno; exact rfl; exact rfl; exact rfl; exact rfl; exact rfl)
                | (apply wl_gsplit; exact rfl; exact rfl; exact rfl; exact rfl; all_goals (intro h; (try simp only [reduceCtorEq, not_true_eq_false, not_false_eq_true, decide_eq_true_eq, decide_eq_false_iff_not, Bool.not_eq_true', Bool.not_eq_false', Bool.not_true, Bool.not_false, Int.not_lt, Int.not_le, ne_eq, Decidable.not_not] at h); (try (exfalso; omega))))
                | (apply wl_rem; exact rfl; exact rfl; omega; exact rfl)
                | (apply wl_row; (iterate 7 (exact rfl)); intro b1)
                | (apply wl_box; exact rfl; exact rfl; exact rfl; intro b1))
              | (show WC _ _ _ _ _ _; first
                | refine WC.seq ?_
                | (apply WC.region; exact rfl)
                | (apply WC.condT; exact rfl)
                | (apply WC.condF; exact rfl)
                | (apply WC.cond; exact rfl; all_goals (intro h; (try simp only [reduceCtorEq, not_true_eq_false, not_false_eq_true, decide_eq_true_eq, decide_eq_false_iff_not, Bool.not_eq_true', Bool.not_eq_false', Bool.not_true, Bool.not_false, Int.not_lt, Int.not_le, ne_eq, Decidable.not_not] at h); (try (exfalso; omega))))
                | refine WC.block ?_
                | refine WC.skip ?_
                | refine WC.ret ?_
                | refine WC.exit ?_)
              | refine Qseq.nm ?_
              | refine Qseq.r ?_
              | refine Qseq.x ?_
              | refine Qblock.nm ?_
              | refine Qblock.r ?_
              | (apply Qblock.t; exact rfl)
              | (apply Qblock.f; exact rfl)
              | refine Qmx.r ?_
              | refine Qmx.nm ?_
              | (apply Qmx.f; exact rfl)
              | refine Qmn.r ?_
              | refine Qmn.x ?_
              | refine Qloop.r ?_
              | refine Qloop.x ?_
              | (apply Qfn.one; exact rfl)
              | (apply Qfn.two; exact rfl; exact rfl)
              | (apply Qfn.three; exact rfl; exact rfl; exact rfl)
              | refine Qfn.zero ?_
              | refine Qfn.zeroN ?_)
            (apply wl_appendO (xs := cs ++ ps) (zs := cs ++ ps ++ ws); (iterate 6 (exact rfl)); (apply Ent.pick; ((repeat (first | exact Pick.here | apply Pick.there))); exact Ent.refl _); ((repeat (first | exact Pick.here | apply Pick.there))); (iterate 7 (exact rfl)); (show (_ + _) * 1 ≤ _; omega); (exact rfl); intro a1 c1)
            repeat' (first
              | (show WL _ _ _ _ _ _ _; first
                | (apply wl_calc; exact rfl; exact True.intro; exact rfl)
                | refine WL.nil ?_
                | (apply wl_ld; exact rfl; exact rfl; ((repeat (first | exact Pick.here | apply Pick.there))); exact rfl; exact rfl)
                | (apply wl_calc; exact rfl; ((try simp only [inR]); omega); exact rfl)
                | (apply wl_store; exact rfl; exact rfl; exact rfl; ((repeat (first | exact Pick.here | apply Pick.there))); exact rfl)
                | (apply wl_ixI; exact rfl; exact rfl; exact rfl; exact rfl; exact rfl; ((repeat (first | exact Pick.here | apply Pick.there))); exact rfl; exact rfl; omega; exact rfl)
                | (apply wl_ldEI; exact rfl; exact rfl; ((repeat (first | exact Pick.here | apply Pick.there))); exact rfl; assumption; exact rfl; exact rfl)
                | (apply wl_fldE; exact rfl; exact rfl; exact rfl; exact rfl; exact rfl)
                | (apply wl_ixO; exact rfl; exact rfl; exact rfl; exact rfl; exact rfl; ((repeat (first | exact Pick.here | apply Pick.there))); exact rfl; exact rfl; omega; exact rfl)
                | (apply wl_ldEO; exact rfl; exact rfl; ((repeat (first | exact Pick.here | apply Pick.there))); exact rfl; assumption; exact rfl; exact rfl)
                | (apply wl_guard; exact rfl; exact rfl; exact rfl; exact rfl)
                | (apply wl_gno; exact rfl; exact rfl; exact rfl; exact rfl; exact rfl)
                | (apply wl_gsplit; exact rfl; exact rfl; exact rfl; exact rfl; all_goals (intro h; (try simp only [reduceCtorEq, not_true_eq_false, not_false_eq_true, decide_eq_true_eq, decide_eq_false_iff_not, Bool.not_eq_true', Bool.not_eq_false', Bool.not_true, Bool.not_false, Int.not_lt, Int.not_le, ne_eq, Decidable.not_not] at h); (try (exfalso; omega))))
                | (apply wl_rem; exact rfl; exact rfl; omega; exact rfl)
                | (apply wl_row; (iterate 7 (exact rfl)); intro b1)
                | (apply wl_box; exact rfl; exact rfl; exact rfl; intro b1))
              | (show WC _ _ _ _ _ _; first
                | refine WC.seq ?_
                | (apply WC.region; exact rfl)
                | (apply WC.condT; exact rfl)
                | (apply WC.condF; exact rfl)
                | (apply WC.cond; exact rfl; all_goals (intro h; (try simp only [reduceCtorEq, not_true_eq_false, not_false_eq_true, decide_eq_true_eq, decide_eq_false_iff_not, Bool.not_eq_true', Bool.not_eq_false', Bool.not_true, Bool.not_false, Int.not_lt, Int.not_le, ne_eq, Decidable.not_not] at h); (try (exfalso; omega))))
                | refine WC.block ?_
                | refine WC.skip ?_
                | refine WC.ret ?_
                | refine WC.exit ?_)
              | refine Qseq.nm ?_
              | refine Qseq.r ?_
              | refine Qseq.x ?_
              | refine Qblock.nm ?_
              | refine Qblock.r ?_
              | (apply Qblock.t; exact rfl)
              | (apply Qblock.f; exact rfl)
              | refine Qmx.r ?_
              | refine Qmx.nm ?_
              | (apply Qmx.f; exact rfl)
              | refine Qmn.r ?_
              | refine Qmn.x ?_
              | refine Qloop.r ?_
              | refine Qloop.x ?_
              | (apply Qfn.one; exact rfl)
              | (apply Qfn.two; exact rfl; exact rfl)
              | (apply Qfn.three; exact rfl; exact rfl; exact rfl)
              | refine Qfn.zero ?_
              | refine Qfn.zeroN ?_)
            exact Qloop.againU (6 - (i + 1)) (by omega) ⟨i + 1, cs ++ ps ++ ws, _, _, by omega, rfl, rfl, rfl⟩ (by repeat (first | exact trivial | refine ⟨rfl, ?_⟩)) (by repeat (first | exact Take.nil | (apply Take.keepI; focus ((repeat (first | exact Pick.here | apply Pick.there)); done)) | (apply Take.cons; focus ((repeat (first | exact Pick.here | apply Pick.there)); done)) | (apply Take.pure; (first | assumption | omega))))
          · exact Qloop.againU (6 - (i + 1)) (by omega) ⟨i + 1, cs ++ ps, _, _, by omega, rfl, rfl, rfl⟩ (by repeat (first | exact trivial | refine ⟨rfl, ?_⟩)) (by repeat (first | exact Take.nil | (apply Take.keepI; focus ((repeat (first | exact Pick.here | apply Pick.there)); done)) | (apply Take.cons; focus ((repeat (first | exact Pick.here | apply Pick.there)); done)) | (apply Take.pure; (first | assumption | omega))))
        all_goals exact Qmx.hitU ⟨cs, _, _, by omega, rfl, rfl⟩ (by repeat (first | exact trivial | refine ⟨rfl, ?_⟩)) (by repeat (first | exact Take.nil | (apply Take.keepI; focus ((repeat (first | exact Pick.here | apply Pick.there)); done)) | (apply Take.cons; focus ((repeat (first | exact Pick.here | apply Pick.there)); done)) | (apply Take.pure; (first | assumption | omega))))
      · rintro _ _ ⟨cs, a1, c1, hcs, rfl, rfl⟩
        repeat' (first
          | (show WL _ _ _ _ _ _ _; first
            | (apply wl_calc; exact rfl; exact True.intro; exact rfl)
            | refine WL.nil ?_
            | (apply wl_ld; exact rfl; exact rfl; ((repeat (first | exact Pick.here | apply Pick.there))); exact rfl; exact rfl)
            | (apply wl_calc; exact rfl; ((try simp only [inR]); omega); exact rfl)
            | (apply wl_store; exact rfl; exact rfl; exact rfl; ((repeat (first | exact Pick.here | apply Pick.there))); exact rfl)
            | (apply wl_ixI; exact rfl; exact rfl; exact rfl; exact rfl; exact rfl; ((repeat (first | exact Pick.here | apply Pick.there))); exact rfl; exact rfl; omega; exact rfl)
            | (apply wl_ldEI; exact rfl; exact rfl; ((repeat (first | exact Pick.here | apply Pick.there))); exact rfl; assumption; exact rfl; exact rfl)
            | (apply wl_fldE; exact rfl; exact rfl; exact rfl; exact rfl; exact rfl)
            | (apply wl_ixO; exact rfl; exact rfl; exact rfl; exact rfl; exact rfl; ((repeat (first | exact Pick.here | apply Pick.there))); exact rfl; exact rfl; omega; exact rfl)
            | (apply wl_ldEO; exact rfl; exact rfl; ((repeat (first | exact Pick.here | apply Pick.there))); exact rfl; assumption; exact rfl; exact rfl)
            | (apply wl_guard; exact rfl; exact rfl; exact rfl; exact rfl)
            | (apply wl_gno; exact rfl; exact rfl; exact rfl; exact rfl; exact rfl)
            | (apply wl_gsplit; exact rfl; exact rfl; exact rfl; exact rfl; all_goals (intro h; (try simp only [reduceCtorEq, not_true_eq_false, not_false_eq_true, decide_eq_true_eq, decide_eq_false_iff_not, Bool.not_eq_true', Bool.not_eq_false', Bool.not_true, Bool.not_false, Int.not_lt, Int.not_le, ne_eq, Decidable.not_not] at h); (try (exfalso; omega))))
            | (apply wl_rem; exact rfl; exact rfl; omega; exact rfl)
            | (apply wl_row; (iterate 7 (exact rfl)); intro b1)
            | (apply wl_box; exact rfl; exact rfl; exact rfl; intro b1))
          | (show WC _ _ _ _ _ _; first
            | refine WC.seq ?_
            | (apply WC.region; exact rfl)
            | (apply WC.condT; exact rfl)
            | (apply WC.condF; exact rfl)
            | (apply WC.cond; exact rfl; all_goals (intro h; (try simp only [reduceCtorEq, not_true_eq_false, not_false_eq_true, decide_eq_true_eq, decide_eq_false_iff_not, Bool.not_eq_true', Bool.not_eq_false', Bool.not_true, Bool.not_false, Int.not_lt, Int.not_le, ne_eq, Decidable.not_not] at h); (try (exfalso; omega))))
            | refine WC.block ?_
            | refine WC.skip ?_
            | refine WC.ret ?_
            | refine WC.exit ?_)
          | refine Qseq.nm ?_
          | refine Qseq.r ?_
          | refine Qseq.x ?_
          | refine Qblock.nm ?_
          | refine Qblock.r ?_
          | (apply Qblock.t; exact rfl)
          | (apply Qblock.f; exact rfl)
          | refine Qmx.r ?_
          | refine Qmx.nm ?_
          | (apply Qmx.f; exact rfl)
          | refine Qmn.r ?_
          | refine Qmn.x ?_
          | refine Qloop.r ?_
          | refine Qloop.x ?_
          | (apply Qfn.one; exact rfl)
          | (apply Qfn.two; exact rfl; exact rfl)
          | (apply Qfn.three; exact rfl; exact rfl; exact rfl)
          | refine Qfn.zero ?_
          | refine Qfn.zeroN ?_)
        (refine wl_call rfl rfl rfl (cut_spec (xs := b) 4 (by omega) (by omega)) (by repeat (first | exact Take.nil | (apply Take.keepI; focus ((repeat (first | exact Pick.here | apply Pick.there)); done)) | (apply Take.cons; focus ((repeat (first | exact Pick.here | apply Pick.there)); done)) | (apply Take.pure; (first | assumption | omega)))) ?_)
        rintro _ _ ⟨ua, uc, rfl, rfl⟩
        have hul : (b.take (4 : Int).toNat).length ≤ 4 := by simp; omega
        generalize b.take (4 : Int).toNat = us at hul ⊢
        have hal : (cs ++ us).length = cs.length + us.length := List.length_append
        repeat' (first
          | (show WL _ _ _ _ _ _ _; first
            | (apply wl_calc; exact rfl; exact True.intro; exact rfl)
            | refine WL.nil ?_
            | (apply wl_ld; exact rfl; exact rfl; ((repeat (first | exact Pick.here | apply Pick.there))); exact rfl; exact rfl)
            | (apply wl_calc; exact rfl; ((try simp only [inR]); omega); exact rfl)
            | (apply wl_store; exact rfl; exact rfl; exact rfl; ((repeat (first | exact Pick.here | apply Pick.there))); exact rfl)
            | (apply wl_ixI; exact rfl; exact rfl; exact rfl; exact rfl; exact rfl; ((repeat (first | exact Pick.here | apply Pick.there))); exact rfl; exact rfl; omega; exact rfl)
            | (apply wl_ldEI; exact rfl; exact rfl; ((repeat (first | exact Pick.here | apply Pick.there))); exact rfl; assumption; exact rfl; exact rfl)
            | (apply wl_fldE; exact rfl; exact rfl; exact rfl; exact rfl; exact rfl)
            | (apply wl_ixO; exact rfl; exact rfl; exact rfl; exact rfl; exact rfl; ((repeat (first | exact Pick.here | apply Pick.there))); exact rfl; exact rfl; omega; exact rfl)
            | (apply wl_ldEO; exact rfl; exact rfl; ((repeat (first | exact Pick.here | apply Pick.there))); exact rfl; assumption; exact rfl; exact rfl)
            | (apply wl_guard; exact rfl; exact rfl; exact rfl; exact rfl)
            | (apply wl_gno; exact rfl; exact rfl; exact rfl; exact rfl; exact rfl)
            | (apply wl_gsplit; exact rfl; exact rfl; exact rfl; exact rfl; all_goals (intro h; (try simp only [reduceCtorEq, not_true_eq_false, not_false_eq_true, decide_eq_true_eq, decide_eq_false_iff_not, Bool.not_eq_true', Bool.not_eq_false', Bool.not_true, Bool.not_false, Int.not_lt, Int.not_le, ne_eq, Decidable.not_not] at h); (try (exfalso; omega))))
            | (apply wl_rem; exact rfl; exact rfl; omega; exact rfl)
            | (apply wl_row; (iterate 7 (exact rfl)); intro b1)
            | (apply wl_box; exact rfl; exact rfl; exact rfl; intro b1))
          | (show WC _ _ _ _ _ _; first
            | refine WC.seq ?_
            | (apply WC.region; exact rfl)
            | (apply WC.condT; exact rfl)
            | (apply WC.condF; exact rfl)
            | (apply WC.cond; exact rfl; all_goals (intro h; (try simp only [reduceCtorEq, not_true_eq_false, not_false_eq_true, decide_eq_true_eq, decide_eq_false_iff_not, Bool.not_eq_true', Bool.not_eq_false', Bool.not_true, Bool.not_false, Int.not_lt, Int.not_le, ne_eq, Decidable.not_not] at h); (try (exfalso; omega))))
            | refine WC.block ?_
            | refine WC.skip ?_
            | refine WC.ret ?_
            | refine WC.exit ?_)
          | refine Qseq.nm ?_
          | refine Qseq.r ?_
          | refine Qseq.x ?_
          | refine Qblock.nm ?_
          | refine Qblock.r ?_
          | (apply Qblock.t; exact rfl)
          | (apply Qblock.f; exact rfl)
          | refine Qmx.r ?_
          | refine Qmx.nm ?_
          | (apply Qmx.f; exact rfl)
          | refine Qmn.r ?_
          | refine Qmn.x ?_
          | refine Qloop.r ?_
          | refine Qloop.x ?_
          | (apply Qfn.one; exact rfl)
          | (apply Qfn.two; exact rfl; exact rfl)
          | (apply Qfn.three; exact rfl; exact rfl; exact rfl)
          | refine Qfn.zero ?_
          | refine Qfn.zeroN ?_)
        (apply wl_appendO (xs := cs) (zs := cs ++ us); (iterate 6 (exact rfl)); (apply Ent.pick; ((repeat (first | exact Pick.here | apply Pick.there))); exact Ent.refl _); ((repeat (first | exact Pick.here | apply Pick.there))); (iterate 7 (exact rfl)); (show (_ + _) * 1 ≤ _; omega); (exact rfl); intro a1 c1)
        refine WL.ent OSl.share ?_
        repeat' (first
          | (show WL _ _ _ _ _ _ _; first
            | (apply wl_calc; exact rfl; exact True.intro; exact rfl)
            | refine WL.nil ?_
            | (apply wl_ld; exact rfl; exact rfl; ((repeat (first | exact Pick.here | apply Pick.there))); exact rfl; exact rfl)
            | (apply wl_calc; exact rfl; ((try simp only [inR]); omega); exact rfl)
            | (apply wl_store; exact rfl; exact rfl; exact rfl; ((repeat (first | exact Pick.here | apply Pick.there))); exact rfl)
            | (apply wl_ixI; exact rfl; exact rfl; exact rfl; exact rfl; exact rfl; ((repeat (first | exact Pick.here | apply Pick.there))); exact rfl; exact rfl; omega; exact rfl)
            | (apply wl_ldEI; exact rfl; exact rfl; ((repeat (first | exact Pick.here | apply Pick.there))); exact rfl; assumption; exact rfl; exact rfl)
            | (apply wl_fldE; exact rfl; exact rfl; exact rfl; exact rfl; exact rfl)
            | (apply wl_ixO; exact rfl; exact rfl; exact rfl; exact rfl; exact rfl; ((repeat (first | exact Pick.here | apply Pick.there))); exact rfl; exact rfl; omega; exact rfl)
            | (apply wl_ldEO; exact rfl; exact rfl; ((repeat (first | exact Pick.here | apply Pick.there))); exact rfl; assumption; exact rfl; exact rfl)
            | (apply wl_guard; exact rfl; exact rfl; exact rfl; exact rfl)
            | (apply wl_gno; exact rfl; exact rfl; exact rfl; exact rfl; exact rfl)
            | (apply wl_gsplit; exact rfl; exact rfl; exact rfl; exact rfl; all_goals (intro h; (try simp only [reduceCtorEq, not_true_eq_false, not_false_eq_true, decide_eq_true_eq, decide_eq_false_iff_not, Bool.not_eq_true', Bool.not_eq_false', Bool.not_true, Bool.not_false, Int.not_lt, Int.not_le, ne_eq, Decidable.not_not] at h); (try (exfalso; omega))))
            | (apply wl_rem; exact rfl; exact rfl; omega; exact rfl)
            | (apply wl_row; (iterate 7 (exact rfl)); intro b1)
            | (apply wl_box; exact rfl; exact rfl; exact rfl; intro b1))
          | (show WC _ _ _ _ _ _; first
            | refine WC.seq ?_
            | (apply WC.region; exact rfl)
            | (apply WC.condT; exact rfl)
            | (apply WC.condF; exact rfl)
            | (apply WC.cond; exact rfl; all_goals (intro h; (try simp only [reduceCtorEq, not_true_eq_false, not_false_eq_true, decide_eq_true_eq, decide_eq_false_iff_not, Bool.not_eq_true', Bool.not_eq_false', Bool.not_true, Bool.not_false, Int.not_lt, Int.not_le, ne_eq, Decidable.not_not] at h); (try (exfalso; omega))))
            | refine WC.block ?_
            | refine WC.skip ?_
            | refine WC.ret ?_
            | refine WC.exit ?_)
          | refine Qseq.nm ?_
          | refine Qseq.r ?_
          | refine Qseq.x ?_
          | refine Qblock.nm ?_
          | refine Qblock.r ?_
          | (apply Qblock.t; exact rfl)
          | (apply Qblock.f; exact rfl)
          | refine Qmx.r ?_
          | refine Qmx.nm ?_
          | (apply Qmx.f; exact rfl)
          | refine Qmn.r ?_
          | refine Qmn.x ?_
          | refine Qloop.r ?_
          | refine Qloop.x ?_
          | (apply Qfn.one; exact rfl)
          | (apply Qfn.two; exact rfl; exact rfl)
          | (apply Qfn.three; exact rfl; exact rfl; exact rfl)
          | refine Qfn.zero ?_
          | refine Qfn.zeroN ?_)
        exact Qmn.hitU ⟨cs ++ us, _, _, by omega, rfl, rfl⟩ (by repeat (first | exact trivial | refine ⟨rfl, ?_⟩)) (by repeat (first | exact Take.nil | (apply Take.keepI; focus ((repeat (first | exact Pick.here | apply Pick.there)); done)) | (apply Take.cons; focus ((repeat (first | exact Pick.here | apply Pick.there)); done)) | (apply Take.pure; (first | assumption | omega))))
    · exact Qmn.hitU ⟨b, a, c, by omega, rfl, rfl⟩ (by repeat (first | exact trivial | refine ⟨rfl, ?_⟩)) (by repeat (first | exact Take.nil | (apply Take.keepI; focus ((repeat (first | exact Pick.here | apply Pick.there)); done)) | (apply Take.cons; focus ((repeat (first | exact Pick.here | apply Pick.there)); done)) | (apply Take.pure; (first | assumption | omega))))
  · rintro _ _ ⟨zs, a1, c1, hzs, rfl, rfl⟩
    repeat' (first
      | (show WL _ _ _ _ _ _ _; first
        | (apply wl_calc; exact rfl; exact True.intro; exact rfl)
        | refine WL.nil ?_
        | (apply wl_ld; exact rfl; exact rfl; ((repeat (first | exact Pick.here | apply Pick.there))); exact rfl; exact rfl)
        | (apply wl_calc; exact rfl; ((try simp only [inR]); omega); exact rfl)
        | (apply wl_store; exact rfl; exact rfl; exact rfl; ((repeat (first | exact Pick.here | apply Pick.there))); exact rfl)
        | (apply wl_ixI; exact rfl; exact rfl; exact rfl; exact rfl; exact rfl; ((repeat (first | exact Pick.here | apply Pick.there))); exact rfl; exact rfl; omega; exact rfl)
        | (apply wl_ldEI; exact rfl; exact rfl; ((repeat (first | exact Pick.here | apply Pick.there))); exact rfl; assumption; exact rfl; exact rfl)
        | (apply wl_fldE; exact rfl; exact rfl; exact rfl; exact rfl; exact rfl)
        | (apply wl_ixO; exact rfl; exact rfl; exact rfl; exact rfl; exact rfl; ((repeat (first | exact Pick.here | apply Pick.there))); exact rfl; exact rfl; omega; exact rfl)
        | (apply wl_ldEO; exact rfl; exact rfl; ((repeat (first | exact Pick.here | apply Pick.there))); exact rfl; assumption; exact rfl; exact rfl)
        | (apply wl_guard; exact rfl; exact rfl; exact rfl; exact rfl)
        | (apply wl_gno; exact rfl; exact rfl; exact rfl; exact rfl; exact rfl)
        | (apply wl_gsplit; exact rfl; exact rfl; exact rfl; exact rfl; all_goals (intro h; (try simp only [reduceCtorEq, not_true_eq_false, not_false_eq_true, decide_eq_true_eq, decide_eq_false_iff_not, Bool.not_eq_true', Bool.not_eq_false', Bool.not_true, Bool.not_false, Int.not_lt, Int.not_le, ne_eq, Decidable.not_not] at h); (try (exfalso; omega))))
        | (apply wl_rem; exact rfl; exact rfl; omega; exact rfl)
        | (apply wl_row; (iterate 7 (exact rfl)); intro b1)
        | (apply wl_box; exact rfl; exact rfl; exact rfl; intro b1))
      | (show WC _ _ _ _ _ _; first
        | refine WC.seq ?_
        | (apply WC.region; exact rfl)
        | (apply WC.condT; exact rfl)
        | (apply WC.condF; exact rfl)
        | (apply WC.cond; exact rfl; all_goals (intro h; (try simp only [reduceCtorEq, not_true_eq_false, not_false_eq_true, decide_eq_true_eq, decide_eq_false_iff_not, Bool.not_eq_true', Bool.not_eq_false', Bool.not_true, Bool.not_false, Int.not_lt, Int.not_le, ne_eq, Decidable.not_not] at h); (try (exfalso; omega))))
        | refine WC.block ?_
        | refine WC.skip ?_
        | refine WC.ret ?_
        | refine WC.exit ?_)
      | refine Qseq.nm ?_
      | refine Qseq.r ?_
      | refine Qseq.x ?_
      | refine Qblock.nm ?_
      | refine Qblock.r ?_
      | (apply Qblock.t; exact rfl)
      | (apply Qblock.f; exact rfl)
      | refine Qmx.r ?_
      | refine Qmx.nm ?_
      | (apply Qmx.f; exact rfl)
      | refine Qmn.r ?_
      | refine Qmn.x ?_
      | refine Qloop.r ?_
      | refine Qloop.x ?_
      | (apply Qfn.one; exact rfl)
      | (apply Qfn.two; exact rfl; exact rfl)
      | (apply Qfn.three; exact rfl; exact rfl; exact rfl)
      | refine Qfn.zero ?_
      | refine Qfn.zeroN ?_)
    (refine wl_call rfl rfl rfl (lend_spec (xs := zs) (by omega)) (by repeat (first | exact Take.nil | (apply Take.keepI; focus ((repeat (first | exact Pick.here | apply Pick.there)); done)) | (apply Take.cons; focus ((repeat (first | exact Pick.here | apply Pick.there)); done)) | (apply Take.pure; (first | assumption | omega)))) ?_)
    rintro _ _ ⟨lb, rfl, rfl⟩
    refine WL.ent OSl.share ?_
    refine WL.ent (Ent.addP (ISl.pers _ _ _ _) Pick.here ISl.prefix_) ?_
    repeat' (first
      | (show WL _ _ _ _ _ _ _; first
        | (apply wl_calc; exact rfl; exact True.intro; exact rfl)
        | refine WL.nil ?_
        | (apply wl_ld; exact rfl; exact rfl; ((repeat (first | exact Pick.here | apply Pick.there))); exact rfl; exact rfl)
        | (apply wl_calc; exact rfl; ((try simp only [inR]); omega); exact rfl)
        | (apply wl_store; exact rfl; exact rfl; exact rfl; ((repeat (first | exact Pick.here | apply Pick.there))); exact rfl)
        | (apply wl_ixI; exact rfl; exact rfl; exact rfl; exact rfl; exact rfl; ((repeat (first | exact Pick.here | apply Pick.there))); exact rfl; exact rfl; omega; exact rfl)
        | (apply wl_ldEI; exact rfl; exact rfl; ((repeat (first | exact Pick.here | apply Pick.there))); exact rfl; assumption; exact rfl; exact rfl)
        | (apply wl_fldE; exact rfl; exact rfl; exact rfl; exact rfl; exact rfl)
        | (apply wl_ixO; exact rfl; exact rfl; exact rfl; exact rfl; exact rfl; ((repeat (first | exact Pick.here | apply Pick.there))); exact rfl; exact rfl; omega; exact rfl)
        | (apply wl_ldEO; exact rfl; exact rfl; ((repeat (first | exact Pick.here | apply Pick.there))); exact rfl; assumption; exact rfl; exact rfl)
        | (apply wl_guard; exact rfl; exact rfl; exact rfl; exact rfl)
        | (apply wl_gno; exact rfl; exact rfl; exact rfl; exact rfl; exact rfl)
        | (apply wl_gsplit; exact rfl; exact rfl; exact rfl; exact rfl; all_goals (intro h; (try simp only [reduceCtorEq, not_true_eq_false, not_false_eq_true, decide_eq_true_eq, decide_eq_false_iff_not, Bool.not_eq_true', Bool.not_eq_false', Bool.not_true, Bool.not_false, Int.not_lt, Int.not_le, ne_eq, Decidable.not_not] at h); (try (exfalso; omega))))
        | (apply wl_rem; exact rfl; exact rfl; omega; exact rfl)
        | (apply wl_row; (iterate 7 (exact rfl)); intro b1)
        | (apply wl_box; exact rfl; exact rfl; exact rfl; intro b1))
      | (show WC _ _ _ _ _ _; first
        | refine WC.seq ?_
        | (apply WC.region; exact rfl)
        | (apply WC.condT; exact rfl)
        | (apply WC.condF; exact rfl)
        | (apply WC.cond; exact rfl; all_goals (intro h; (try simp only [reduceCtorEq, not_true_eq_false, not_false_eq_true, decide_eq_true_eq, decide_eq_false_iff_not, Bool.not_eq_true', Bool.not_eq_false', Bool.not_true, Bool.not_false, Int.not_lt, Int.not_le, ne_eq, Decidable.not_not] at h); (try (exfalso; omega))))
        | refine WC.block ?_
        | refine WC.skip ?_
        | refine WC.ret ?_
        | refine WC.exit ?_)
      | refine Qseq.nm ?_
      | refine Qseq.r ?_
      | refine Qseq.x ?_
      | refine Qblock.nm ?_
      | refine Qblock.r ?_
      | (apply Qblock.t; exact rfl)
      | (apply Qblock.f; exact rfl)
      | refine Qmx.r ?_
      | refine Qmx.nm ?_
      | (apply Qmx.f; exact rfl)
      | refine Qmn.r ?_
      | refine Qmn.x ?_
      | refine Qloop.r ?_
      | refine Qloop.x ?_
      | (apply Qfn.one; exact rfl)
      | (apply Qfn.two; exact rfl; exact rfl)
      | (apply Qfn.three; exact rfl; exact rfl; exact rfl)
      | refine Qfn.zero ?_
      | refine Qfn.zeroN ?_)
    (refine wl_call rfl rfl rfl (spannew_spec (xs := zs) (by omega)) (by repeat (first | exact Take.nil | (apply Take.keepI; focus ((repeat (first | exact Pick.here | apply Pick.there)); done)) | (apply Take.cons; focus ((repeat (first | exact Pick.here | apply Pick.there)); done)) | (apply Take.pure; (first | assumption | omega)))) ?_)
    rintro _ _ ⟨rb, ra, rc, rfl, rfl⟩
    repeat' (first
      | (show WL _ _ _ _ _ _ _; first
        | (apply wl_calc; exact rfl; exact True.intro; exact rfl)
        | refine WL.nil ?_
        | (apply wl_ld; exact rfl; exact rfl; ((repeat (first | exact Pick.here | apply Pick.there))); exact rfl; exact rfl)
        | (apply wl_calc; exact rfl; ((try simp only [inR]); omega); exact rfl)
        | (apply wl_store; exact rfl; exact rfl; exact rfl; ((repeat (first | exact Pick.here | apply Pick.there))); exact rfl)
        | (apply wl_ixI; exact rfl; exact rfl; exact rfl; exact rfl; exact rfl; ((repeat (first | exact Pick.here | apply Pick.there))); exact rfl; exact rfl; omega; exact rfl)
        | (apply wl_ldEI; exact rfl; exact rfl; ((repeat (first | exact Pick.here | apply Pick.there))); exact rfl; assumption; exact rfl; exact rfl)
        | (apply wl_fldE; exact rfl; exact rfl; exact rfl; exact rfl; exact rfl)
        | (apply wl_ixO; exact rfl; exact rfl; exact rfl; exact rfl; exact rfl; ((repeat (first | exact Pick.here | apply Pick.there))); exact rfl; exact rfl; omega; exact rfl)
        | (apply wl_ldEO; exact rfl; exact rfl; ((repeat (first | exact Pick.here | apply Pick.there))); exact rfl; assumption; exact rfl; exact rfl)
        | (apply wl_guard; exact rfl; exact rfl; exact rfl; exact rfl)
        | (apply wl_gno; exact rfl; exact rfl; exact rfl; exact rfl; exact rfl)
        | (apply wl_gsplit; exact rfl; exact rfl; exact rfl; exact rfl; all_goals (intro h; (try simp only [reduceCtorEq, not_true_eq_false, not_false_eq_true, decide_eq_true_eq, decide_eq_false_iff_not, Bool.not_eq_true', Bool.not_eq_false', Bool.not_true, Bool.not_false, Int.not_lt, Int.not_le, ne_eq, Decidable.not_not] at h); (try (exfalso; omega))))
        | (apply wl_rem; exact rfl; exact rfl; omega; exact rfl)
        | (apply wl_row; (iterate 7 (exact rfl)); intro b1)
        | (apply wl_box; exact rfl; exact rfl; exact rfl; intro b1))
      | (show WC _ _ _ _ _ _; first
        | refine WC.seq ?_
        | (apply WC.region; exact rfl)
        | (apply WC.condT; exact rfl)
        | (apply WC.condF; exact rfl)
        | (apply WC.cond; exact rfl; all_goals (intro h; (try simp only [reduceCtorEq, not_true_eq_false, not_false_eq_true, decide_eq_true_eq, decide_eq_false_iff_not, Bool.not_eq_true', Bool.not_eq_false', Bool.not_true, Bool.not_false, Int.not_lt, Int.not_le, ne_eq, Decidable.not_not] at h); (try (exfalso; omega))))
        | refine WC.block ?_
        | refine WC.skip ?_
        | refine WC.ret ?_
        | refine WC.exit ?_)
      | refine Qseq.nm ?_
      | refine Qseq.r ?_
      | refine Qseq.x ?_
      | refine Qblock.nm ?_
      | refine Qblock.r ?_
      | (apply Qblock.t; exact rfl)
      | (apply Qblock.f; exact rfl)
      | refine Qmx.r ?_
      | refine Qmx.nm ?_
      | (apply Qmx.f; exact rfl)
      | refine Qmn.r ?_
      | refine Qmn.x ?_
      | refine Qloop.r ?_
      | refine Qloop.x ?_
      | (apply Qfn.one; exact rfl)
      | (apply Qfn.two; exact rfl; exact rfl)
      | (apply Qfn.three; exact rfl; exact rfl; exact rfl)
      | refine Qfn.zero ?_
      | refine Qfn.zeroN ?_)
    (refine wl_call rfl rfl rfl (copy_spec (a := a1) (c := c1) (xs := zs) (by omega)) (by repeat (first | exact Take.nil | (apply Take.keepI; focus ((repeat (first | exact Pick.here | apply Pick.there)); done)) | (apply Take.cons; focus ((repeat (first | exact Pick.here | apply Pick.there)); done)) | (apply Take.pure; (first | assumption | omega)))) ?_)
    rintro _ _ ⟨xa, xc, rfl, rfl⟩
    refine WL.ent OSl.share ?_
    repeat' (first
      | (show WL _ _ _ _ _ _ _; first
        | (apply wl_calc; exact rfl; exact True.intro; exact rfl)
        | refine WL.nil ?_
        | (apply wl_ld; exact rfl; exact rfl; ((repeat (first | exact Pick.here | apply Pick.there))); exact rfl; exact rfl)
        | (apply wl_calc; exact rfl; ((try simp only [inR]); omega); exact rfl)
        | (apply wl_store; exact rfl; exact rfl; exact rfl; ((repeat (first | exact Pick.here | apply Pick.there))); exact rfl)
        | (apply wl_ixI; exact rfl; exact rfl; exact rfl; exact rfl; exact rfl; ((repeat (first | exact Pick.here | apply Pick.there))); exact rfl; exact rfl; omega; exact rfl)
        | (apply wl_ldEI; exact rfl; exact rfl; ((repeat (first | exact Pick.here | apply Pick.there))); exact rfl; assumption; exact rfl; exact rfl)
        | (apply wl_fldE; exact rfl; exact rfl; exact rfl; exact rfl; exact rfl)
        | (apply wl_ixO; exact rfl; exact rfl; exact rfl; exact rfl; exact rfl; ((repeat (first | exact Pick.here | apply Pick.there))); exact rfl; exact rfl; omega; exact rfl)
        | (apply wl_ldEO; exact rfl; exact rfl; ((repeat (first | exact Pick.here | apply Pick.there))); exact rfl; assumption; exact rfl; exact rfl)
        | (apply wl_guard; exact rfl; exact rfl; exact rfl; exact rfl)
        | (apply wl_gno; exact rfl; exact rfl; exact rfl; exact rfl; exact rfl)
        | (apply wl_gsplit; exact rfl; exact rfl; exact rfl; exact rfl; all_goals (intro h; (try simp only [reduceCtorEq, not_true_eq_false, not_false_eq_true, decide_eq_true_eq, decide_eq_false_iff_not, Bool.not_eq_true', Bool.not_eq_false', Bool.not_true, Bool.not_false, Int.not_lt, Int.not_le, ne_eq, Decidable.not_not] at h); (try (exfalso; omega))))
        | (apply wl_rem; exact rfl; exact rfl; omega; exact rfl)
        | (apply wl_row; (iterate 7 (exact rfl)); intro b1)
        | (apply wl_box; exact rfl; exact rfl; exact rfl; intro b1))
      | (show WC _ _ _ _ _ _; first
        | refine WC.seq ?_
        | (apply WC.region; exact rfl)
        | (apply WC.condT; exact rfl)
        | (apply WC.condF; exact rfl)
        | (apply WC.cond; exact rfl; all_goals (intro h; (try simp only [reduceCtorEq, not_true_eq_false, not_false_eq_true, decide_eq_true_eq, decide_eq_false_iff_not, Bool.not_eq_true', Bool.not_eq_false', Bool.not_true, Bool.not_false, Int.not_lt, Int.not_le, ne_eq, Decidable.not_not] at h); (try (exfalso; omega))))
        | refine WC.block ?_
        | refine WC.skip ?_
        | refine WC.ret ?_
        | refine WC.exit ?_)
      | refine Qseq.nm ?_
      | refine Qseq.r ?_
      | refine Qseq.x ?_
      | refine Qblock.nm ?_
      | refine Qblock.r ?_
      | (apply Qblock.t; exact rfl)
      | (apply Qblock.f; exact rfl)
      | refine Qmx.r ?_
      | refine Qmx.nm ?_
      | (apply Qmx.f; exact rfl)
      | refine Qmn.r ?_
      | refine Qmn.x ?_
      | refine Qloop.r ?_
      | refine Qloop.x ?_
      | (apply Qfn.one; exact rfl)
      | (apply Qfn.two; exact rfl; exact rfl)
      | (apply Qfn.three; exact rfl; exact rfl; exact rfl)
      | refine Qfn.zero ?_
      | refine Qfn.zeroN ?_)
    refine WC.midxU 2 [Blk b1 52 (RDc xa xc ⟨zs, 0, false⟩), Blk rb 99 (RDc ra rc ⟨zs, 0, false⟩)] (fun d D => d = [] ∧ D = []) rfl (by repeat (first | exact Take.nil | (apply Take.keepI; focus ((repeat (first | exact Pick.here | apply Pick.there)); done)) | (apply Take.cons; focus ((repeat (first | exact Pick.here | apply Pick.there)); done)) | (apply Take.pure; (first | assumption | omega)))) ?_ ?_
    · refine WC.loopU (fun k d D => ∃ (i : Nat) (r : RD), (i ≤ 20 ∧ r.b = zs ∧ r.at_ ≤ zs.length) ∧ k = 20 - i ∧ d = [(16, .int .i64 i)] ∧ D = [Blk b1 52 (RDc xa xc r), Blk rb 99 (RDc ra rc r)])
        (D0 := [Blk b1 52 (RDc xa xc ⟨zs, 0, false⟩), Blk rb 99 (RDc ra rc ⟨zs, 0, false⟩)]) rfl (by repeat (first | exact trivial | refine ⟨rfl, ?_⟩)) (by repeat (first | exact Take.nil | (apply Take.keepI; focus ((repeat (first | exact Pick.here | apply Pick.there)); done)) | (apply Take.cons; focus ((repeat (first | exact Pick.here | apply Pick.there)); done)) | (apply Take.pure; (first | assumption | omega)))) ⟨0, ⟨zs, 0, false⟩, by simp, rfl, rfl, rfl⟩ ?_
      rintro _ _ _ ⟨i, r, ⟨hi, rfl, hat⟩, rfl, rfl, rfl⟩
      have hl : r.b.length ≤ 140737488355328 := by omega
      repeat' (first
        | (show WL _ _ _ _ _ _ _; first
          | (apply wl_calc; exact rfl; exact True.intro; exact rfl)
          | refine WL.nil ?_
          | (apply wl_ld; exact rfl; exact rfl; ((repeat (first | exact Pick.here | apply Pick.there))); exact rfl; exact rfl)
          | (apply wl_calc; exact rfl; ((try simp only [inR]); omega); exact rfl)
          | (apply wl_store; exact rfl; exact rfl; exact rfl; ((repeat (first | exact Pick.here | apply Pick.there))); exact rfl)
          | (apply wl_ixI; exact rfl; exact rfl; exact rfl; exact rfl; exact rfl; ((repeat (first | exact Pick.here | apply Pick.there))); exact rfl; exact rfl; omega; exact rfl)
          | (apply wl_ldEI; exact rfl; exact rfl; ((repeat (first | exact Pick.here | apply Pick.there))); exact rfl; assumption; exact rfl; exact rfl)
          | (apply wl_fldE; exact rfl; exact rfl; exact rfl; exact rfl; exact rfl)
          | (apply wl_ixO; exact rfl; exact rfl; exact rfl; exact rfl; exact rfl; ((repeat (first | exact Pick.here | apply Pick.there))); exact rfl; exact rfl; omega; exact rfl)
          | (apply wl_ldEO; exact rfl; exact rfl; ((repeat (first | exact Pick.here | apply Pick.there))); exact rfl; assumption; exact rfl; exact rfl)
          | (apply wl_guard; exact rfl; exact rfl; exact rfl; exact rfl)
          | (apply wl_gno; exact rfl; exact rfl; exact rfl; exact rfl; exact rfl)
          | (apply wl_gsplit; exact rfl; exact rfl; exact rfl; exact rfl; all_goals (intro h; (try simp only [reduceCtorEq, not_true_eq_false, not_false_eq_true, decide_eq_true_eq, decide_eq_false_iff_not, Bool.not_eq_true', Bool.not_eq_false', Bool.not_true, Bool.not_false, Int.not_lt, Int.not_le, ne_eq, Decidable.not_not] at h); (try (exfalso; omega))))
          | (apply wl_rem; exact rfl; exact rfl; omega; exact rfl)
          | (apply wl_row; (iterate 7 (exact rfl)); intro b1)
          | (apply wl_box; exact rfl; exact rfl; exact rfl; intro b1))
        | (show WC _ _ _ _ _ _; first
          | refine WC.seq ?_
          | (apply WC.region; exact rfl)
          | (apply WC.condT; exact rfl)
          | (apply WC.condF; exact rfl)
          | (apply WC.cond; exact rfl; all_goals (intro h; (try simp only [reduceCtorEq, not_true_eq_false, not_false_eq_true, decide_eq_true_eq, decide_eq_false_iff_not, Bool.not_eq_true', Bool.not_eq_false', Bool.not_true, Bool.not_false, Int.not_lt, Int.not_le, ne_eq, Decidable.not_not] at h); (try (exfalso; omega))))
          | refine WC.block ?_
          | refine WC.skip ?_
          | refine WC.ret ?_
          | refine WC.exit ?_)
        | refine Qseq.nm ?_
        | refine Qseq.r ?_
        | refine Qseq.x ?_
        | refine Qblock.nm ?_
        | refine Qblock.r ?_
        | (apply Qblock.t; exact rfl)
        | (apply Qblock.f; exact rfl)
        | refine Qmx.r ?_
        | refine Qmx.nm ?_
        | (apply Qmx.f; exact rfl)
        | refine Qmn.r ?_
        | refine Qmn.x ?_
        | refine Qloop.r ?_
        | refine Qloop.x ?_
        | (apply Qfn.one; exact rfl)
        | (apply Qfn.two; exact rfl; exact rfl)
        | (apply Qfn.three; exact rfl; exact rfl; exact rfl)
        | refine Qfn.zero ?_
        | refine Qfn.zeroN ?_)
      · obtain ⟨x, hx⟩ := getI (i := i) (xs := acts) (by omega)
        have hxb := hac x (List.mem_of_getElem? hx)
        repeat' (first
          | (show WL _ _ _ _ _ _ _; first
            | (apply wl_calc; exact rfl; exact True.intro; exact rfl)
            | refine WL.nil ?_
            | (apply wl_ld; exact rfl; exact rfl; ((repeat (first | exact Pick.here | apply Pick.there))); exact rfl; exact rfl)
            | (apply wl_calc; exact rfl; ((try simp only [inR]); omega); exact rfl)
            | (apply wl_store; exact rfl; exact rfl; exact rfl; ((repeat (first | exact Pick.here | apply Pick.there))); exact rfl)
            | (apply wl_ixI; exact rfl; exact rfl; exact rfl; exact rfl; exact rfl; ((repeat (first | exact Pick.here | apply Pick.there))); exact rfl; exact rfl; omega; exact rfl)
            | (apply wl_ldEI; exact rfl; exact rfl; ((repeat (first | exact Pick.here | apply Pick.there))); exact rfl; assumption; exact rfl; exact rfl)
            | (apply wl_fldE; exact rfl; exact rfl; exact rfl; exact rfl; exact rfl)
            | (apply wl_ixO; exact rfl; exact rfl; exact rfl; exact rfl; exact rfl; ((repeat (first | exact Pick.here | apply Pick.there))); exact rfl; exact rfl; omega; exact rfl)
            | (apply wl_ldEO; exact rfl; exact rfl; ((repeat (first | exact Pick.here | apply Pick.there))); exact rfl; assumption; exact rfl; exact rfl)
            | (apply wl_guard; exact rfl; exact rfl; exact rfl; exact rfl)
            | (apply wl_gno; exact rfl; exact rfl; exact rfl; exact rfl; exact rfl)
            | (apply wl_gsplit; exact rfl; exact rfl; exact rfl; exact rfl; all_goals (intro h; (try simp only [reduceCtorEq, not_true_eq_false, not_false_eq_true, decide_eq_true_eq, decide_eq_false_iff_not, Bool.not_eq_true', Bool.not_eq_false', Bool.not_true, Bool.not_false, Int.not_lt, Int.not_le, ne_eq, Decidable.not_not] at h); (try (exfalso; omega))))
            | (apply wl_rem; exact rfl; exact rfl; omega; exact rfl)
            | (apply wl_row; (iterate 7 (exact rfl)); intro b1)
            | (apply wl_box; exact rfl; exact rfl; exact rfl; intro b1))
          | (show WC _ _ _ _ _ _; first
            | refine WC.seq ?_
            | (apply WC.region; exact rfl)
            | (apply WC.condT; exact rfl)
            | (apply WC.condF; exact rfl)
            | (apply WC.cond; exact rfl; all_goals (intro h; (try simp only [reduceCtorEq, not_true_eq_false, not_false_eq_true, decide_eq_true_eq, decide_eq_false_iff_not, Bool.not_eq_true', Bool.not_eq_false', Bool.not_true, Bool.not_false, Int.not_lt, Int.not_le, ne_eq, Decidable.not_not] at h); (try (exfalso; omega))))
            | refine WC.block ?_
            | refine WC.skip ?_
            | refine WC.ret ?_
            | refine WC.exit ?_)
          | refine Qseq.nm ?_
          | refine Qseq.r ?_
          | refine Qseq.x ?_
          | refine Qblock.nm ?_
          | refine Qblock.r ?_
          | (apply Qblock.t; exact rfl)
          | (apply Qblock.f; exact rfl)
          | refine Qmx.r ?_
          | refine Qmx.nm ?_
          | (apply Qmx.f; exact rfl)
          | refine Qmn.r ?_
          | refine Qmn.x ?_
          | refine Qloop.r ?_
          | refine Qloop.x ?_
          | (apply Qfn.one; exact rfl)
          | (apply Qfn.two; exact rfl; exact rfl)
          | (apply Qfn.three; exact rfl; exact rfl; exact rfl)
          | refine Qfn.zero ?_
          | refine Qfn.zeroN ?_)
        (refine wl_call rfl rfl rfl (withinP_spec x 4 hxb (by omega)) (by repeat (first | exact Take.nil | (apply Take.keepI; focus ((repeat (first | exact Pick.here | apply Pick.there)); done)) | (apply Take.cons; focus ((repeat (first | exact Pick.here | apply Pick.there)); done)) | (apply Take.pure; (first | assumption | omega)))) ?_)
        rintro _ _ ⟨rfl, rfl⟩
        repeat' (first
          | (show WL _ _ _ _ _ _ _; first
            | (apply wl_calc; exact rfl; exact True.intro; exact rfl)
            | refine WL.nil ?_
            | (apply wl_ld; exact rfl; exact rfl; ((repeat (first | exact Pick.here | apply Pick.there))); exact rfl; exact rfl)
            | (apply wl_calc; exact rfl; ((try simp only [inR]); omega); exact rfl)
            | (apply wl_store; exact rfl; exact rfl; exact rfl; ((repeat (first | exact Pick.here | apply Pick.there))); exact rfl)
            | (apply wl_ixI; exact rfl; exact rfl; exact rfl; exact rfl; exact rfl; ((repeat (first | exact Pick.here | apply Pick.there))); exact rfl; exact rfl; omega; exact rfl)
            | (apply wl_ldEI; exact rfl; exact rfl; ((repeat (first | exact Pick.here | apply Pick.there))); exact rfl; assumption; exact rfl; exact rfl)
            | (apply wl_fldE; exact rfl; exact rfl; exact rfl; exact rfl; exact rfl)
            | (apply wl_ixO; exact rfl; exact rfl; exact rfl; exact rfl; exact rfl; ((repeat (first | exact Pick.here | apply Pick.there))); exact rfl; exact rfl; omega; exact rfl)
            | (apply wl_ldEO; exact rfl; exact rfl; ((repeat (first | exact Pick.here | apply Pick.there))); exact rfl; assumption; exact rfl; exact rfl)
            | (apply wl_guard; exact rfl; exact rfl; exact rfl; exact rfl)
            | (apply wl_gno; exact rfl; exact rfl; exact rfl; exact rfl; exact rfl)
            | (apply wl_gsplit; exact rfl; exact rfl; exact rfl; exact rfl; all_goals (intro h; (try simp only [reduceCtorEq, not_true_eq_false, not_false_eq_true, decide_eq_true_eq, decide_eq_false_iff_not, Bool.not_eq_true', Bool.not_eq_false', Bool.not_true, Bool.not_false, Int.not_lt, Int.not_le, ne_eq, Decidable.not_not] at h); (try (exfalso; omega))))
            | (apply wl_rem; exact rfl; exact rfl; omega; exact rfl)
            | (apply wl_row; (iterate 7 (exact rfl)); intro b1)
            | (apply wl_box; exact rfl; exact rfl; exact rfl; intro b1))
          | (show WC _ _ _ _ _ _; first
            | refine WC.seq ?_
            | (apply WC.region; exact rfl)
            | (apply WC.condT; exact rfl)
            | (apply WC.condF; exact rfl)
            | refine WC.skip ?_
            | refine WC.ret ?_
            | refine WC.exit ?_)
          | refine Qseq.nm ?_
          | refine Qseq.r ?_
          | refine Qseq.x ?_
          | refine Qblock.nm ?_
          | refine Qblock.r ?_
          | (apply Qblock.t; exact rfl)
          | (apply Qblock.f; exact rfl)
          | refine Qmx.r ?_
          | refine Qmx.nm ?_
          | (apply Qmx.f; exact rfl)
          | refine Qmn.r ?_
          | refine Qmn.x ?_
          | refine Qloop.r ?_
          | refine Qloop.x ?_
          | (apply Qfn.one; exact rfl)
          | (apply Qfn.two; exact rfl; exact rfl)
          | (apply Qfn.three; exact rfl; exact rfl; exact rfl)
          | refine Qfn.zero ?_
          | refine Qfn.zeroN ?_)
        refine WC.midnU [Blk b1 52 (RDc xa xc r), Blk rb 99 (RDc ra rc r)] (fun d D => ∃ r' : RD, (r'.b = r.b ∧ r'.at_ ≤ r.b.length) ∧ d = [] ∧ D = [Blk b1 52 (RDc xa xc r'), Blk rb 99 (RDc ra rc r')]) rfl (by repeat (first | exact Take.nil | (apply Take.keepI; focus ((repeat (first | exact Pick.here | apply Pick.there)); done)) | (apply Take.cons; focus ((repeat (first | exact Pick.here | apply Pick.there)); done)) | (apply Take.pure; (first | assumption | omega)))) ?_ ?_
        · repeat' (first | (show WL _ _ _ _ _ _ _; first | (apply wl_calc; exact rfl; exact True.intro; exact rfl) | refine WL.nil ?_ | (apply wl_ld; exact rfl; exact rfl; ((repeat (first | exact Pick.here | apply Pick.there))); exact rfl; exact rfl) | (apply wl_calc; exact rfl; ((try simp only [inR]); omega); exact rfl) | (apply wl_store; exact rfl; exact rfl; exact rfl; ((repeat (first | exact Pick.here | apply Pick.there))); exact rfl) | (apply wl_ixI; exact rfl; exact rfl; exact rfl; exact rfl; exact rfl; ((repeat (first | exact Pick.here | apply Pick.there))); exact rfl; exact rfl; omega; exact rfl) | (apply wl_ldEI; exact rfl; exact rfl; ((repeat (first | exact Pick.here | apply Pick.there))); exact rfl; assumption; exact rfl; exact rfl) | (apply wl_fldE; exact rfl; exact rfl; exact rfl; exact rfl; exact rfl) | (apply wl_ixO; exact rfl; exact rfl; exact rfl; exact rfl; exact rfl; ((repeat (first | exact Pick.here | apply Pick.there))); exact rfl; exact rfl; omega; exact rfl) | (apply wl_ldEO; exact rfl; exact rfl; ((repeat (first | exact Pick.here | apply Pick.there))); exact rfl; assumption; exact rfl; exact rfl) | (apply wl_guard; exact rfl; exact rfl; exact rfl; exact rfl) | (apply wl_gno; exact rfl; exact rfl; exact rfl; exact rfl; exact rfl) | (apply wl_gsplit; exact rfl; exact rfl; exact rfl; exact rfl; all_goals (intro h; (try simp only [reduceCtorEq, not_true_eq_false, not_false_eq_true, decide_eq_true_eq, decide_eq_false_iff_not, Bool.not_eq_true', Bool.not_eq_false', Bool.not_true, Bool.not_false, Int.not_lt, Int.not_le, ne_eq, Decidable.not_not] at h); (try (exfalso; omega)))) | (apply wl_rem; exact rfl; exact rfl; omega; exact rfl) | (apply wl_row; (iterate 7 (exact rfl)); intro b1) | (apply wl_box; exact rfl; exact rfl; exact rfl; intro b1)) | (show WC _ _ _ _ _ _; first | refine WC.seq ?_ | (apply WC.region; exact rfl) | (apply WC.condT; exact rfl) | (apply WC.condF; exact rfl) | (apply WC.cond; exact rfl; all_goals (intro h; (try simp only [reduceCtorEq, not_true_eq_false, not_false_eq_true, decide_eq_true_eq, decide_eq_false_iff_not, Bool.not_eq_true', Bool.not_eq_false', Bool.not_true, Bool.not_false, Int.not_lt, Int.not_le, ne_eq, Decidable.not_not] at h); (try (exfalso; omega)))) | refine WC.block ?_ | refine WC.skip ?_ | refine WC.ret ?_ | refine WC.exit ?_) | refine Qseq.nm ?_ | refine Qseq.r ?_ | refine Qseq.x ?_ | refine Qblock.nm ?_ | refine Qblock.r ?_ | (apply Qblock.t; exact rfl) | (apply Qblock.f; exact rfl) | refine Qmx.r ?_ | refine Qmx.nm ?_ | (apply Qmx.f; exact rfl) | refine Qmn.r ?_ | refine Qmn.x ?_ | refine Qloop.r ?_ | refine Qloop.x ?_ | (apply Qfn.one; exact rfl) | (apply Qfn.two; exact rfl; exact rfl) | (apply Qfn.three; exact rfl; exact rfl; exact rfl) | refine Qfn.zero ?_ | refine Qfn.zeroN ?_)
          · (refine wl_call rfl rfl rfl (number_spec hl hat) (by repeat (first | exact Take.nil | (apply Take.keepI; focus ((repeat (first | exact Pick.here | apply Pick.there)); done)) | (apply Take.cons; focus ((repeat (first | exact Pick.here | apply Pick.there)); done)) | (apply Take.pure; (first | assumption | omega)))) ?_)
            rintro _ _ ⟨rfl, rfl⟩
            repeat' (first
              | (show WL _ _ _ _ _ _ _; first
                | (apply wl_calc; exact rfl; exact True.intro; exact rfl)
                | refine WL.nil ?_
                | (apply wl_ld; exact rfl; exact rfl; ((repeat (first | exact Pick.here | apply Pick.there))); exact rfl; exact rfl)
                | (apply wl_calc; exact rfl; ((try simp only [inR]); omega); exact rfl)
                | (apply wl_store; exact rfl; exact rfl; exact rfl; ((repeat (first | exact Pick.here | apply Pick.there))); exact rfl)
                | (apply wl_ixI; exact rfl; exact rfl; exact rfl; exact rfl; exact rfl; ((repeat (first | exact Pick.here | apply Pick.there))); exact rfl; exact rfl; omega; exact rfl)
                | (apply wl_ldEI; exact rfl; exact rfl; ((repeat (first | exact Pick.here | apply Pick.there))); exact rfl; assumption; exact rfl; exact rfl)
                | (apply wl_fldE; exact rfl; exact rfl; exact rfl; exact rfl; exact rfl)
                | (apply wl_ixO; exact rfl; exact rfl; exact rfl; exact rfl; exact rfl; ((repeat (first | exact Pick.here | apply Pick.there))); exact rfl; exact rfl; omega; exact rfl)
                | (apply wl_ldEO; exact rfl; exact rfl; ((repeat (first | exact Pick.here | apply Pick.there))); exact rfl; assumption; exact rfl; exact rfl)
                | (apply wl_guard; exact rfl; exact rfl; exact rfl; exact rfl)
                | (apply wl_gno; exact rfl; exact rfl; exact rfl; exact rfl; exact rfl)
                | (apply wl_gsplit; exact rfl; exact rfl; exact rfl; exact rfl; all_goals (intro h; (try simp only [reduceCtorEq, not_true_eq_false, not_false_eq_true, decide_eq_true_eq, decide_eq_false_iff_not, Bool.not_eq_true', Bool.not_eq_false', Bool.not_true, Bool.not_false, Int.not_lt, Int.not_le, ne_eq, Decidable.not_not] at h); (try (exfalso; omega))))
                | (apply wl_rem; exact rfl; exact rfl; omega; exact rfl)
                | (apply wl_row; (iterate 7 (exact rfl)); intro b1)
                | (apply wl_box; exact rfl; exact rfl; exact rfl; intro b1))
              | (show WC _ _ _ _ _ _; first
                | refine WC.seq ?_
                | (apply WC.region; exact rfl)
                | (apply WC.condT; exact rfl)
                | (apply WC.condF; exact rfl)
                | (apply WC.cond; exact rfl; all_goals (intro h; (try simp only [reduceCtorEq, not_true_eq_false, not_false_eq_true, decide_eq_true_eq, decide_eq_false_iff_not, Bool.not_eq_true', Bool.not_eq_false', Bool.not_true, Bool.not_false, Int.not_lt, Int.not_le, ne_eq, Decidable.not_not] at h); (try (exfalso; omega))))
                | refine WC.block ?_
                | refine WC.skip ?_
                | refine WC.ret ?_
                | refine WC.exit ?_)
              | refine Qseq.nm ?_
              | refine Qseq.r ?_
              | refine Qseq.x ?_
              | refine Qblock.nm ?_
              | refine Qblock.r ?_
              | (apply Qblock.t; exact rfl)
              | (apply Qblock.f; exact rfl)
              | refine Qmx.r ?_
              | refine Qmx.nm ?_
              | (apply Qmx.f; exact rfl)
              | refine Qmn.r ?_
              | refine Qmn.x ?_
              | refine Qloop.r ?_
              | refine Qloop.x ?_
              | (apply Qfn.one; exact rfl)
              | (apply Qfn.two; exact rfl; exact rfl)
              | (apply Qfn.three; exact rfl; exact rfl; exact rfl)
              | refine Qfn.zero ?_
              | refine Qfn.zeroN ?_)
            (refine wl_call rfl rfl rfl (rnumber_spec hl hat) (by repeat (first | exact Take.nil | (apply Take.keepI; focus ((repeat (first | exact Pick.here | apply Pick.there)); done)) | (apply Take.cons; focus ((repeat (first | exact Pick.here | apply Pick.there)); done)) | (apply Take.pure; (first | assumption | omega)))) ?_)
            rintro _ _ ⟨rfl, rfl⟩
            repeat' (first
              | (show WL _ _ _ _ _ _ _; first
                | (apply wl_calc; exact rfl; exact True.intro; exact rfl)
                | refine WL.nil ?_
                | (apply wl_ld; exact rfl; exact rfl; ((repeat (first | exact Pick.here | apply Pick.there))); exact rfl; exact rfl)
                | (apply wl_calc; exact rfl; ((try simp only [inR]); omega); exact rfl)
                | (apply wl_store; exact rfl; exact rfl; exact rfl; ((repeat (first | exact Pick.here | apply Pick.there))); exact rfl)
                | (apply wl_ixI; exact rfl; exact rfl; exact rfl; exact rfl; exact rfl; ((repeat (first | exact Pick.here | apply Pick.there))); exact rfl; exact rfl; omega; exact rfl)
                | (apply wl_ldEI; exact rfl; exact rfl; ((repeat (first | exact Pick.here | apply Pick.there))); exact rfl; assumption; exact rfl; exact rfl)
                | (apply wl_fldE; exact rfl; exact rfl; exact rfl; exact rfl; exact rfl)
                | (apply wl_ixO; exact rfl; exact rfl; exact rfl; exact rfl; exact rfl; ((repeat (first | exact Pick.here | apply Pick.there))); exact rfl; exact rfl; omega; exact rfl)
                | (apply wl_ldEO; exact rfl; exact rfl; ((repeat (first | exact Pick.here | apply Pick.there))); exact rfl; assumption; exact rfl; exact rfl)
                | (apply wl_guard; exact rfl; exact rfl; exact rfl; exact rfl)
                | (apply wl_gno; exact rfl; exact rfl; exact rfl; exact rfl; exact rfl)
                | (apply wl_gsplit; exact rfl; exact rfl; exact rfl; exact rfl; all_goals (intro h; (try simp only [reduceCtorEq, not_true_eq_false, not_false_eq_true, decide_eq_true_eq, decide_eq_false_iff_not, Bool.not_eq_true', Bool.not_eq_false', Bool.not_true, Bool.not_false, Int.not_lt, Int.not_le, ne_eq, Decidable.not_not] at h); (try (exfalso; omega))))
                | (apply wl_rem; exact rfl; exact rfl; omega; exact rfl)
                | (apply wl_row; (iterate 7 (exact rfl)); intro b1)
                | (apply wl_box; exact rfl; exact rfl; exact rfl; intro b1))
              | (show WC _ _ _ _ _ _; first
                | refine WC.seq ?_
                | (apply WC.region; exact rfl)
                | (apply WC.condT; exact rfl)
                | (apply WC.condF; exact rfl)
                | (apply WC.cond; exact rfl; all_goals (intro h; (try simp only [reduceCtorEq, not_true_eq_false, not_false_eq_true, decide_eq_true_eq, decide_eq_false_iff_not, Bool.not_eq_true', Bool.not_eq_false', Bool.not_true, Bool.not_false, Int.not_lt, Int.not_le, ne_eq, Decidable.not_not] at h); (try (exfalso; omega))))
                | refine WC.block ?_
                | refine WC.skip ?_
                | refine WC.ret ?_
                | refine WC.exit ?_)
              | refine Qseq.nm ?_
              | refine Qseq.r ?_
              | refine Qseq.x ?_
              | refine Qblock.nm ?_
              | refine Qblock.r ?_
              | (apply Qblock.t; exact rfl)
              | (apply Qblock.f; exact rfl)
              | refine Qmx.r ?_
              | refine Qmx.nm ?_
              | (apply Qmx.f; exact rfl)
              | refine Qmn.r ?_
              | refine Qmn.x ?_
              | refine Qloop.r ?_
              | refine Qloop.x ?_
              | (apply Qfn.one; exact rfl)
              | (apply Qfn.two; exact rfl; exact rfl)
              | (apply Qfn.three; exact rfl; exact rfl; exact rfl)
              | refine Qfn.zero ?_
              | refine Qfn.zeroN ?_)
            exact Qmn.hitU ⟨r.number.2, ⟨r.number_b, r.number_at hat⟩, rfl, rfl⟩ (by repeat (first | exact trivial | refine ⟨rfl, ?_⟩)) (by repeat (first | exact Take.nil | (apply Take.keepI; focus ((repeat (first | exact Pick.here | apply Pick.there)); done)) | (apply Take.cons; focus ((repeat (first | exact Pick.here | apply Pick.there)); done)) | (apply Take.pure; (first | assumption | omega))))
          · (refine wl_call rfl rfl rfl (number_spec hl hat) (by repeat (first | exact Take.nil | (apply Take.keepI; focus ((repeat (first | exact Pick.here | apply Pick.there)); done)) | (apply Take.cons; focus ((repeat (first | exact Pick.here | apply Pick.there)); done)) | (apply Take.pure; (first | assumption | omega)))) ?_)
            rintro _ _ ⟨rfl, rfl⟩
            repeat' (first
              | (show WL _ _ _ _ _ _ _; first
                | (apply wl_calc; exact rfl; exact True.intro; exact rfl)
                | refine WL.nil ?_
                | (apply wl_ld; exact rfl; exact rfl; ((repeat (first | exact Pick.here | apply Pick.there))); exact rfl; exact rfl)
                | (apply wl_calc; exact rfl; ((try simp only [inR]); omega); exact rfl)
                | (apply wl_store; exact rfl; exact rfl; exact rfl; ((repeat (first | exact Pick.here | apply Pick.there))); exact rfl)
                | (apply wl_ixI; exact rfl; exact rfl; exact rfl; exact rfl; exact rfl; ((repeat (first | exact Pick.here | apply Pick.there))); exact rfl; exact rfl; omega; exact rfl)
                | (apply wl_ldEI; exact rfl; exact rfl; ((repeat (first | exact Pick.here | apply Pick.there))); exact rfl; assumption; exact rfl; exact rfl)
                | (apply wl_fldE; exact rfl; exact rfl; exact rfl; exact rfl; exact rfl)
                | (apply wl_ixO; exact rfl; exact rfl; exact rfl; exact rfl; exact rfl; ((repeat (first | exact Pick.here | apply Pick.there))); exact rfl; exact rfl; omega; exact rfl)
                | (apply wl_ldEO; exact rfl; exact rfl; ((repeat (first | exact Pick.here | apply Pick.there))); exact rfl; assumption; exact rfl; exact rfl)
                | (apply wl_guard; exact rfl; exact rfl; exact rfl; exact rfl)
                | (apply wl_gno; exact rfl; exact rfl; exact rfl; exact rfl; exact rfl)
                | (apply wl_gsplit; exact rfl; exact rfl; exact rfl; exact rfl; all_goals (intro h; (try simp only [reduceCtorEq, not_true_eq_false, not_false_eq_true, decide_eq_true_eq, decide_eq_false_iff_not, Bool.not_eq_true', Bool.not_eq_false', Bool.not_true, Bool.not_false, Int.not_lt, Int.not_le, ne_eq, Decidable.not_not] at h); (try (exfalso; omega))))
                | (apply wl_rem; exact rfl; exact rfl; omega; exact rfl)
                | (apply wl_row; (iterate 7 (exact rfl)); intro b1)
                | (apply wl_box; exact rfl; exact rfl; exact rfl; intro b1))
              | (show WC _ _ _ _ _ _; first
                | refine WC.seq ?_
                | (apply WC.region; exact rfl)
                | (apply WC.condT; exact rfl)
                | (apply WC.condF; exact rfl)
                | (apply WC.cond; exact rfl; all_goals (intro h; (try simp only [reduceCtorEq, not_true_eq_false, not_false_eq_true, decide_eq_true_eq, decide_eq_false_iff_not, Bool.not_eq_true', Bool.not_eq_false', Bool.not_true, Bool.not_false, Int.not_lt, Int.not_le, ne_eq, Decidable.not_not] at h); (try (exfalso; omega))))
                | refine WC.block ?_
                | refine WC.skip ?_
                | refine WC.ret ?_
                | refine WC.exit ?_)
              | refine Qseq.nm ?_
              | refine Qseq.r ?_
              | refine Qseq.x ?_
              | refine Qblock.nm ?_
              | refine Qblock.r ?_
              | (apply Qblock.t; exact rfl)
              | (apply Qblock.f; exact rfl)
              | refine Qmx.r ?_
              | refine Qmx.nm ?_
              | (apply Qmx.f; exact rfl)
              | refine Qmn.r ?_
              | refine Qmn.x ?_
              | refine Qloop.r ?_
              | refine Qloop.x ?_
              | (apply Qfn.one; exact rfl)
              | (apply Qfn.two; exact rfl; exact rfl)
              | (apply Qfn.three; exact rfl; exact rfl; exact rfl)
              | refine Qfn.zero ?_
              | refine Qfn.zeroN ?_)
            (refine wl_call rfl rfl rfl (rnumber_spec hl hat) (by repeat (first | exact Take.nil | (apply Take.keepI; focus ((repeat (first | exact Pick.here | apply Pick.there)); done)) | (apply Take.cons; focus ((repeat (first | exact Pick.here | apply Pick.there)); done)) | (apply Take.pure; (first | assumption | omega)))) ?_)
            rintro _ _ ⟨rfl, rfl⟩
            repeat' (first
              | (show WL _ _ _ _ _ _ _; first
                | (apply wl_calc; exact rfl; exact True.intro; exact rfl)
                | refine WL.nil ?_
                | (apply wl_ld; exact rfl; exact rfl; ((repeat (first | exact Pick.here | apply Pick.there))); exact rfl; exact rfl)
                | (apply wl_calc; exact rfl; ((try simp only [inR]); omega); exact rfl)
                | (apply wl_store; exact rfl; exact rfl; exact rfl; ((repeat (first | exact Pick.here | apply Pick.there))); exact rfl)
                | (apply wl_ixI; exact rfl; exact rfl; exact rfl; exact rfl; exact rfl; ((repeat (first | exact Pick.here | apply Pick.there))); exact rfl; exact rfl; omega; exact rfl)
                | (apply wl_ldEI; exact rfl; exact rfl; ((repeat (first | exact Pick.here | apply Pick.there))); exact rfl; assumption; exact rfl; exact rfl)
                | (apply wl_fldE; exact rfl; exact rfl; exact rfl; exact rfl; exact rfl)
                | (apply wl_ixO; exact rfl; exact rfl; exact rfl; exact rfl; exact rfl; ((repeat (first | exact Pick.here | apply Pick.there))); exact rfl; exact rfl; omega; exact rfl)
                | (apply wl_ldEO; exact rfl; exact rfl; ((repeat (first | exact Pick.here | apply Pick.there))); exact rfl; assumption; exact rfl; exact rfl)
                | (apply wl_guard; exact rfl; exact rfl; exact rfl; exact rfl)
                | (apply wl_gno; exact rfl; exact rfl; exact rfl; exact rfl; exact rfl)
                | (apply wl_gsplit; exact rfl; exact rfl; exact rfl; exact rfl; all_goals (intro h; (try simp only [reduceCtorEq, not_true_eq_false, not_false_eq_true, decide_eq_true_eq, decide_eq_false_iff_not, Bool.not_eq_true', Bool.not_eq_false', Bool.not_true, Bool.not_false, Int.not_lt, Int.not_le, ne_eq, Decidable.not_not] at h); (try (exfalso; omega))))
                | (apply wl_rem; exact rfl; exact rfl; omega; exact rfl)
                | (apply wl_row; (iterate 7 (exact rfl)); intro b1)
                | (apply wl_box; exact rfl; exact rfl; exact rfl; intro b1))
              | (show WC _ _ _ _ _ _; first
                | refine WC.seq ?_
                | (apply WC.region; exact rfl)
                | (apply WC.condT; exact rfl)
                | (apply WC.condF; exact rfl)
                | (apply WC.cond; exact rfl; all_goals (intro h; (try simp only [reduceCtorEq, not_true_eq_false, not_false_eq_true, decide_eq_true_eq, decide_eq_false_iff_not, Bool.not_eq_true', Bool.not_eq_false', Bool.not_true, Bool.not_false, Int.not_lt, Int.not_le, ne_eq, Decidable.not_not] at h); (try (exfalso; omega))))
                | refine WC.block ?_
                | refine WC.skip ?_
                | refine WC.ret ?_
                | refine WC.exit ?_)
              | refine Qseq.nm ?_
              | refine Qseq.r ?_
              | refine Qseq.x ?_
              | refine Qblock.nm ?_
              | refine Qblock.r ?_
              | (apply Qblock.t; exact rfl)
              | (apply Qblock.f; exact rfl)
              | refine Qmx.r ?_
              | refine Qmx.nm ?_
              | (apply Qmx.f; exact rfl)
              | refine Qmn.r ?_
              | refine Qmn.x ?_
              | refine Qloop.r ?_
              | refine Qloop.x ?_
              | (apply Qfn.one; exact rfl)
              | (apply Qfn.two; exact rfl; exact rfl)
              | (apply Qfn.three; exact rfl; exact rfl; exact rfl)
              | refine Qfn.zero ?_
              | refine Qfn.zeroN ?_)
            exact Qmn.hitU ⟨r.number.2, ⟨r.number_b, r.number_at hat⟩, rfl, rfl⟩ (by repeat (first | exact trivial | refine ⟨rfl, ?_⟩)) (by repeat (first | exact Take.nil | (apply Take.keepI; focus ((repeat (first | exact Pick.here | apply Pick.there)); done)) | (apply Take.cons; focus ((repeat (first | exact Pick.here | apply Pick.there)); done)) | (apply Take.pure; (first | assumption | omega))))
          · (refine wl_call rfl rfl rfl (withinP_spec x 100 hxb (by omega)) (by repeat (first | exact Take.nil | (apply Take.keepI; focus ((repeat (first | exact Pick.here | apply Pick.there)); done)) | (apply Take.cons; focus ((repeat (first | exact Pick.here | apply Pick.there)); done)) | (apply Take.pure; (first | assumption | omega)))) ?_)
            rintro _ _ ⟨rfl, rfl⟩
            repeat' (first
              | (show WL _ _ _ _ _ _ _; first
                | (apply wl_calc; exact rfl; exact True.intro; exact rfl)
                | refine WL.nil ?_
                | (apply wl_ld; exact rfl; exact rfl; ((repeat (first | exact Pick.here | apply Pick.there))); exact rfl; exact rfl)
                | (apply wl_calc; exact rfl; ((try simp only [inR]); omega); exact rfl)
                | (apply wl_store; exact rfl; exact rfl; exact rfl; ((repeat (first | exact Pick.here | apply Pick.there))); exact rfl)
                | (apply wl_ixI; exact rfl; exact rfl; exact rfl; exact rfl; exact rfl; ((repeat (first | exact Pick.here | apply Pick.there))); exact rfl; exact rfl; omega; exact rfl)
                | (apply wl_ldEI; exact rfl; exact rfl; ((repeat (first | exact Pick.here | apply Pick.there))); exact rfl; assumption; exact rfl; exact rfl)
                | (apply wl_fldE; exact rfl; exact rfl; exact rfl; exact rfl; exact rfl)
                | (apply wl_ixO; exact rfl; exact rfl; exact rfl; exact rfl; exact rfl; ((repeat (first | exact Pick.here | apply Pick.there))); exact rfl; exact rfl; omega; exact rfl)
                | (apply wl_ldEO; exact rfl; exact rfl; ((repeat (first | exact Pick.here | apply Pick.there))); exact rfl; assumption; exact rfl; exact rfl)
                | (apply wl_guard; exact rfl; exact rfl; exact rfl; exact rfl)
                | (apply wl_gno; exact rfl; exact rfl; exact rfl; exact rfl; exact rfl)
                | (apply wl_gsplit; exact rfl; exact rfl; exact rfl; exact rfl; all_goals (intro h; (try simp only [reduceCtorEq, not_true_eq_false, not_false_eq_true, decide_eq_true_eq, decide_eq_false_iff_not, Bool.not_eq_true', Bool.not_eq_false', Bool.not_true, Bool.not_false, Int.not_lt, Int.not_le, ne_eq, Decidable.not_not] at h); (try (exfalso; omega))))
                | (apply wl_rem; exact rfl; exact rfl; omega; exact rfl)
                | (apply wl_row; (iterate 7 (exact rfl)); intro b1)
                | (apply wl_box; exact rfl; exact rfl; exact rfl; intro b1))
              | (show WC _ _ _ _ _ _; first
                | refine WC.seq ?_
                | (apply WC.region; exact rfl)
                | (apply WC.condT; exact rfl)
                | (apply WC.condF; exact rfl)
                | (apply WC.cond; exact rfl; all_goals (intro h; (try simp only [reduceCtorEq, not_true_eq_false, not_false_eq_true, decide_eq_true_eq, decide_eq_false_iff_not, Bool.not_eq_true', Bool.not_eq_false', Bool.not_true, Bool.not_false, Int.not_lt, Int.not_le, ne_eq, Decidable.not_not] at h); (try (exfalso; omega))))
                | refine WC.block ?_
                | refine WC.skip ?_
                | refine WC.ret ?_
                | refine WC.exit ?_)
              | refine Qseq.nm ?_
              | refine Qseq.r ?_
              | refine Qseq.x ?_
              | refine Qblock.nm ?_
              | refine Qblock.r ?_
              | (apply Qblock.t; exact rfl)
              | (apply Qblock.f; exact rfl)
              | refine Qmx.r ?_
              | refine Qmx.nm ?_
              | (apply Qmx.f; exact rfl)
              | refine Qmn.r ?_
              | refine Qmn.x ?_
              | refine Qloop.r ?_
              | refine Qloop.x ?_
              | (apply Qfn.one; exact rfl)
              | (apply Qfn.two; exact rfl; exact rfl)
              | (apply Qfn.three; exact rfl; exact rfl; exact rfl)
              | refine Qfn.zero ?_
              | refine Qfn.zeroN ?_)
            have hb9 := tmod_bd x 9 (by omega)
            repeat' (first
              | (show WL _ _ _ _ _ _ _; first
                | (apply wl_calc; exact rfl; exact True.intro; exact rfl)
                | refine WL.nil ?_
                | (apply wl_ld; exact rfl; exact rfl; ((repeat (first | exact Pick.here | apply Pick.there))); exact rfl; exact rfl)
                | (apply wl_calc; exact rfl; ((try simp only [inR]); omega); exact rfl)
                | (apply wl_store; exact rfl; exact rfl; exact rfl; ((repeat (first | exact Pick.here | apply Pick.there))); exact rfl)
                | (apply wl_ixI; exact rfl; exact rfl; exact rfl; exact rfl; exact rfl; ((repeat (first | exact Pick.here | apply Pick.there))); exact rfl; exact rfl; omega; exact rfl)
                | (apply wl_ldEI; exact rfl; exact rfl; ((repeat (first | exact Pick.here | apply Pick.there))); exact rfl; assumption; exact rfl; exact rfl)
                | (apply wl_fldE; exact rfl; exact rfl; exact rfl; exact rfl; exact rfl)
                | (apply wl_ixO; exact rfl; exact rfl; exact rfl; exact rfl; exact rfl; ((repeat (first | exact Pick.here | apply Pick.there))); exact rfl; exact rfl; omega; exact rfl)
                | (apply wl_ldEO; exact rfl; exact rfl; ((repeat (first | exact Pick.here | apply Pick.there))); exact rfl; assumption; exact rfl; exact rfl)
                | (apply wl_guard; exact rfl; exact rfl; exact rfl; exact rfl)
                | (apply wl_gno; exact rfl; exact rfl; exact rfl; exact rfl; exact rfl)
                | (apply wl_gsplit; exact rfl; exact rfl; exact rfl; exact rfl; all_goals (intro h; (try simp only [reduceCtorEq, not_true_eq_false, not_false_eq_true, decide_eq_true_eq, decide_eq_false_iff_not, Bool.not_eq_true', Bool.not_eq_false', Bool.not_true, Bool.not_false, Int.not_lt, Int.not_le, ne_eq, Decidable.not_not] at h); (try (exfalso; omega))))
                | (apply wl_rem; exact rfl; exact rfl; omega; exact rfl)
                | (apply wl_row; (iterate 7 (exact rfl)); intro b1)
                | (apply wl_box; exact rfl; exact rfl; exact rfl; intro b1))
              | (show WC _ _ _ _ _ _; first
                | refine WC.seq ?_
                | (apply WC.region; exact rfl)
                | (apply WC.condT; exact rfl)
                | (apply WC.condF; exact rfl)
                | (apply WC.cond; exact rfl; all_goals (intro h; (try simp only [reduceCtorEq, not_true_eq_false, not_false_eq_true, decide_eq_true_eq, decide_eq_false_iff_not, Bool.not_eq_true', Bool.not_eq_false', Bool.not_true, Bool.not_false, Int.not_lt, Int.not_le, ne_eq, Decidable.not_not] at h); (try (exfalso; omega))))
                | refine WC.block ?_
                | refine WC.skip ?_
                | refine WC.ret ?_
                | refine WC.exit ?_)
              | refine Qseq.nm ?_
              | refine Qseq.r ?_
              | refine Qseq.x ?_
              | refine Qblock.nm ?_
              | refine Qblock.r ?_
              | (apply Qblock.t; exact rfl)
              | (apply Qblock.f; exact rfl)
              | refine Qmx.r ?_
              | refine Qmx.nm ?_
              | (apply Qmx.f; exact rfl)
              | refine Qmn.r ?_
              | refine Qmn.x ?_
              | refine Qloop.r ?_
              | refine Qloop.x ?_
              | (apply Qfn.one; exact rfl)
              | (apply Qfn.two; exact rfl; exact rfl)
              | (apply Qfn.three; exact rfl; exact rfl; exact rfl)
              | refine Qfn.zero ?_
              | refine Qfn.zeroN ?_)
            · obtain ⟨mo, hmo⟩ : ∃ mo, 4 - x.tmod 9 = mo := ⟨_, rfl⟩
              rw [hmo]
              (refine wl_call rfl rfl rfl (bytes_spec mo hl hat) (by repeat (first | exact Take.nil | (apply Take.keepI; focus ((repeat (first | exact Pick.here | apply Pick.there)); done)) | (apply Take.cons; focus ((repeat (first | exact Pick.here | apply Pick.there)); done)) | (apply Take.pure; (first | assumption | omega)))) ?_)
              rintro _ _ ⟨ua, uc, rfl, rfl⟩
              refine WL.ent (Ent.sh (a := ua) (c := uc) (by (repeat (first | exact Pick.here | apply Pick.there)))) ?_
              repeat' (first
                | (show WL _ _ _ _ _ _ _; first
                  | (apply wl_calc; exact rfl; exact True.intro; exact rfl)
                  | refine WL.nil ?_
                  | (apply wl_ld; exact rfl; exact rfl; ((repeat (first | exact Pick.here | apply Pick.there))); exact rfl; exact rfl)
                  | (apply wl_calc; exact rfl; ((try simp only [inR]); omega); exact rfl)
                  | (apply wl_store; exact rfl; exact rfl; exact rfl; ((repeat (first | exact Pick.here | apply Pick.there))); exact rfl)
                  | (apply wl_ixI; exact rfl; exact rfl; exact rfl; exact rfl; exact rfl; ((repeat (first | exact Pick.here | apply Pick.there))); exact rfl; exact rfl; omega; exact rfl)
                  | (apply wl_ldEI; exact rfl; exact rfl; ((repeat (first | exact Pick.here | apply Pick.there))); exact rfl; assumption; exact rfl; exact rfl)
                  | (apply wl_fldE; exact rfl; exact rfl; exact rfl; exact rfl; exact rfl)
                  | (apply wl_ixO; exact rfl; exact rfl; exact rfl; exact rfl; exact rfl; ((repeat (first | exact Pick.here | apply Pick.there))); exact rfl; exact rfl; omega; exact rfl)
                  | (apply wl_ldEO; exact rfl; exact rfl; ((repeat (first | exact Pick.here | apply Pick.there))); exact rfl; assumption; exact rfl; exact rfl)
                  | (apply wl_guard; exact rfl; exact rfl; exact rfl; exact rfl)
                  | (apply wl_gno; exact rfl; exact rfl; exact rfl; exact rfl; exact rfl)
                  | (apply wl_gsplit; exact rfl; exact rfl; exact rfl; exact rfl; all_goals (intro h; (try simp only [reduceCtorEq, not_true_eq_false, not_false_eq_true, decide_eq_true_eq, decide_eq_false_iff_not, Bool.not_eq_true', Bool.not_eq_false', Bool.not_true, Bool.not_false, Int.not_lt, Int.not_le, ne_eq, Decidable.not_not] at h); (try (exfalso; omega))))
                  | (apply wl_rem; exact rfl; exact rfl; omega; exact rfl)
                  | (apply wl_row; (iterate 7 (exact rfl)); intro b1)
                  | (apply wl_box; exact rfl; exact rfl; exact rfl; intro b1))
                | (show WC _ _ _ _ _ _; first
                  | refine WC.seq ?_
                  | (apply WC.region; exact rfl)
                  | (apply WC.condT; exact rfl)
                  | (apply WC.condF; exact rfl)
                  | (apply WC.cond; exact rfl; all_goals (intro h; (try simp only [reduceCtorEq, not_true_eq_false, not_false_eq_true, decide_eq_true_eq, decide_eq_false_iff_not, Bool.not_eq_true', Bool.not_eq_false', Bool.not_true, Bool.not_false, Int.not_lt, Int.not_le, ne_eq, Decidable.not_not] at h); (try (exfalso; omega))))
                  | refine WC.block ?_
                  | refine WC.skip ?_
                  | refine WC.ret ?_
                  | refine WC.exit ?_)
                | refine Qseq.nm ?_
                | refine Qseq.r ?_
                | refine Qseq.x ?_
                | refine Qblock.nm ?_
                | refine Qblock.r ?_
                | (apply Qblock.t; exact rfl)
                | (apply Qblock.f; exact rfl)
                | refine Qmx.r ?_
                | refine Qmx.nm ?_
                | (apply Qmx.f; exact rfl)
                | refine Qmn.r ?_
                | refine Qmn.x ?_
                | refine Qloop.r ?_
                | refine Qloop.x ?_
                | (apply Qfn.one; exact rfl)
                | (apply Qfn.two; exact rfl; exact rfl)
                | (apply Qfn.three; exact rfl; exact rfl; exact rfl)
                | refine Qfn.zero ?_
                | refine Qfn.zeroN ?_)
              (refine wl_call rfl rfl rfl (rbytes_spec mo hl hat) (by repeat (first | exact Take.nil | (apply Take.keepI; focus ((repeat (first | exact Pick.here | apply Pick.there)); done)) | (apply Take.cons; focus ((repeat (first | exact Pick.here | apply Pick.there)); done)) | (apply Take.pure; (first | assumption | omega)))) ?_)
              rintro _ _ ⟨va, vc, rfl, rfl⟩
              refine WL.ent (Ent.sh (a := va) (c := vc) (by (repeat (first | exact Pick.here | apply Pick.there)))) ?_
              repeat' (first
                | (show WL _ _ _ _ _ _ _; first
                  | (apply wl_calc; exact rfl; exact True.intro; exact rfl)
                  | refine WL.nil ?_
                  | (apply wl_ld; exact rfl; exact rfl; ((repeat (first | exact Pick.here | apply Pick.there))); exact rfl; exact rfl)
                  | (apply wl_calc; exact rfl; ((try simp only [inR]); omega); exact rfl)
                  | (apply wl_store; exact rfl; exact rfl; exact rfl; ((repeat (first | exact Pick.here | apply Pick.there))); exact rfl)
                  | (apply wl_ixI; exact rfl; exact rfl; exact rfl; exact rfl; exact rfl; ((repeat (first | exact Pick.here | apply Pick.there))); exact rfl; exact rfl; omega; exact rfl)
                  | (apply wl_ldEI; exact rfl; exact rfl; ((repeat (first | exact Pick.here | apply Pick.there))); exact rfl; assumption; exact rfl; exact rfl)
                  | (apply wl_fldE; exact rfl; exact rfl; exact rfl; exact rfl; exact rfl)
                  | (apply wl_ixO; exact rfl; exact rfl; exact rfl; exact rfl; exact rfl; ((repeat (first | exact Pick.here | apply Pick.there))); exact rfl; exact rfl; omega; exact rfl)
                  | (apply wl_ldEO; exact rfl; exact rfl; ((repeat (first | exact Pick.here | apply Pick.there))); exact rfl; assumption; exact rfl; exact rfl)
                  | (apply wl_guard; exact rfl; exact rfl; exact rfl; exact rfl)
                  | (apply wl_gno; exact rfl; exact rfl; exact rfl; exact rfl; exact rfl)
                  | (apply wl_gsplit; exact rfl; exact rfl; exact rfl; exact rfl; all_goals (intro h; (try simp only [reduceCtorEq, not_true_eq_false, not_false_eq_true, decide_eq_true_eq, decide_eq_false_iff_not, Bool.not_eq_true', Bool.not_eq_false', Bool.not_true, Bool.not_false, Int.not_lt, Int.not_le, ne_eq, Decidable.not_not] at h); (try (exfalso; omega))))
                  | (apply wl_rem; exact rfl; exact rfl; omega; exact rfl)
                  | (apply wl_row; (iterate 7 (exact rfl)); intro b1)
                  | (apply wl_box; exact rfl; exact rfl; exact rfl; intro b1))
                | (show WC _ _ _ _ _ _; first
                  | refine WC.seq ?_
                  | (apply WC.region; exact rfl)
                  | (apply WC.condT; exact rfl)
                  | (apply WC.condF; exact rfl)
                  | (apply WC.cond; exact rfl; all_goals (intro h; (try simp only [reduceCtorEq, not_true_eq_false, not_false_eq_true, decide_eq_true_eq, decide_eq_false_iff_not, Bool.not_eq_true', Bool.not_eq_false', Bool.not_true, Bool.not_false, Int.not_lt, Int.not_le, ne_eq, Decidable.not_not] at h); (try (exfalso; omega))))
                  | refine WC.block ?_
                  | refine WC.skip ?_
                  | refine WC.ret ?_
                  | refine WC.exit ?_)
                | refine Qseq.nm ?_
                | refine Qseq.r ?_
                | refine Qseq.x ?_
                | refine Qblock.nm ?_
                | refine Qblock.r ?_
                | (apply Qblock.t; exact rfl)
                | (apply Qblock.f; exact rfl)
                | refine Qmx.r ?_
                | refine Qmx.nm ?_
                | (apply Qmx.f; exact rfl)
                | refine Qmn.r ?_
                | refine Qmn.x ?_
                | refine Qloop.r ?_
                | refine Qloop.x ?_
                | (apply Qfn.one; exact rfl)
                | (apply Qfn.two; exact rfl; exact rfl)
                | (apply Qfn.three; exact rfl; exact rfl; exact rfl)
                | refine Qfn.zero ?_
                | refine Qfn.zeroN ?_)
              have hbl2 := r.bytes_len mo
              (refine wl_call rfl rfl rfl (same_spec (xs := (r.bytes mo).1) (ys := (r.bytes mo).1) (by omega) (by omega)) (by repeat (first | exact Take.nil | (apply Take.keepI; focus ((repeat (first | exact Pick.here | apply Pick.there)); done)) | (apply Take.cons; focus ((repeat (first | exact Pick.here | apply Pick.there)); done)) | (apply Take.pure; (first | assumption | omega)))) ?_)
              rintro _ _ ⟨rfl, rfl⟩
              repeat' (first
                | (show WL _ _ _ _ _ _ _; first
                  | (apply wl_calc; exact rfl; exact True.intro; exact rfl)
                  | refine WL.nil ?_
                  | (apply wl_ld; exact rfl; exact rfl; ((repeat (first | exact Pick.here | apply Pick.there))); exact rfl; exact rfl)
                  | (apply wl_calc; exact rfl; ((try simp only [inR]); omega); exact rfl)
                  | (apply wl_store; exact rfl; exact rfl; exact rfl; ((repeat (first | exact Pick.here | apply Pick.there))); exact rfl)
                  | (apply wl_ixI; exact rfl; exact rfl; exact rfl; exact rfl; exact rfl; ((repeat (first | exact Pick.here | apply Pick.there))); exact rfl; exact rfl; omega; exact rfl)
                  | (apply wl_ldEI; exact rfl; exact rfl; ((repeat (first | exact Pick.here | apply Pick.there))); exact rfl; assumption; exact rfl; exact rfl)
                  | (apply wl_fldE; exact rfl; exact rfl; exact rfl; exact rfl; exact rfl)
                  | (apply wl_ixO; exact rfl; exact rfl; exact rfl; exact rfl; exact rfl; ((repeat (first | exact Pick.here | apply Pick.there))); exact rfl; exact rfl; omega; exact rfl)
                  | (apply wl_ldEO; exact rfl; exact rfl; ((repeat (first | exact Pick.here | apply Pick.there))); exact rfl; assumption; exact rfl; exact rfl)
                  | (apply wl_guard; exact rfl; exact rfl; exact rfl; exact rfl)
                  | (apply wl_gno; exact rfl; exact rfl; exact rfl; exact rfl; exact rfl)
                  | (apply wl_gsplit; exact rfl; exact rfl; exact rfl; exact rfl; all_goals (intro h; (try simp only [reduceCtorEq, not_true_eq_false, not_false_eq_true, decide_eq_true_eq, decide_eq_false_iff_not, Bool.not_eq_true', Bool.not_eq_false', Bool.not_true, Bool.not_false, Int.not_lt, Int.not_le, ne_eq, Decidable.not_not] at h); (try (exfalso; omega))))
                  | (apply wl_rem; exact rfl; exact rfl; omega; exact rfl)
                  | (apply wl_row; (iterate 7 (exact rfl)); intro b1)
                  | (apply wl_box; exact rfl; exact rfl; exact rfl; intro b1))
                | (show WC _ _ _ _ _ _; first
                  | refine WC.seq ?_
                  | (apply WC.region; exact rfl)
                  | (apply WC.condT; exact rfl)
                  | (apply WC.condF; exact rfl)
                  | (apply WC.cond; exact rfl; all_goals (intro h; (try simp only [reduceCtorEq, not_true_eq_false, not_false_eq_true, decide_eq_true_eq, decide_eq_false_iff_not, Bool.not_eq_true', Bool.not_eq_false', Bool.not_true, Bool.not_false, Int.not_lt, Int.not_le, ne_eq, Decidable.not_not] at h); (try (exfalso; omega))))
                  | refine WC.block ?_
                  | refine WC.skip ?_
                  | refine WC.ret ?_
                  | refine WC.exit ?_)
                | refine Qseq.nm ?_
                | refine Qseq.r ?_
                | refine Qseq.x ?_
                | refine Qblock.nm ?_
                | refine Qblock.r ?_
                | (apply Qblock.t; exact rfl)
                | (apply Qblock.f; exact rfl)
                | refine Qmx.r ?_
                | refine Qmx.nm ?_
                | (apply Qmx.f; exact rfl)
                | refine Qmn.r ?_
                | refine Qmn.x ?_
                | refine Qloop.r ?_
                | refine Qloop.x ?_
                | (apply Qfn.one; exact rfl)
                | (apply Qfn.two; exact rfl; exact rfl)
                | (apply Qfn.three; exact rfl; exact rfl; exact rfl)
                | refine Qfn.zero ?_
                | refine Qfn.zeroN ?_)
              exact Qmn.hitU ⟨(r.bytes mo).2, ⟨r.bytes_b mo, r.bytes_at mo hat⟩, rfl, rfl⟩ (by repeat (first | exact trivial | refine ⟨rfl, ?_⟩)) (by repeat (first | exact Take.nil | (apply Take.keepI; focus ((repeat (first | exact Pick.here | apply Pick.there)); done)) | (apply Take.cons; focus ((repeat (first | exact Pick.here | apply Pick.there)); done)) | (apply Take.pure; (first | assumption | omega))))
            · obtain ⟨mo, hmo⟩ : ∃ mo, x % 100 = mo := ⟨_, rfl⟩
              rw [hmo]
              (refine wl_call rfl rfl rfl (bytes_spec mo hl hat) (by repeat (first | exact Take.nil | (apply Take.keepI; focus ((repeat (first | exact Pick.here | apply Pick.there)); done)) | (apply Take.cons; focus ((repeat (first | exact Pick.here | apply Pick.there)); done)) | (apply Take.pure; (first | assumption | omega)))) ?_)
              rintro _ _ ⟨ua, uc, rfl, rfl⟩
              refine WL.ent (Ent.sh (a := ua) (c := uc) (by (repeat (first | exact Pick.here | apply Pick.there)))) ?_
              repeat' (first
                | (show WL _ _ _ _ _ _ _; first
                  | (apply wl_calc; exact rfl; exact True.intro; exact rfl)
                  | refine WL.nil ?_
                  | (apply wl_ld; exact rfl; exact rfl; ((repeat (first | exact Pick.here | apply Pick.there))); exact rfl; exact rfl)
                  | (apply wl_calc; exact rfl; ((try simp only [inR]); omega); exact rfl)
                  | (apply wl_store; exact rfl; exact rfl; exact rfl; ((repeat (first | exact Pick.here | apply Pick.there))); exact rfl)
                  | (apply wl_ixI; exact rfl; exact rfl; exact rfl; exact rfl; exact rfl; ((repeat (first | exact Pick.here | apply Pick.there))); exact rfl; exact rfl; omega; exact rfl)
                  | (apply wl_ldEI; exact rfl; exact rfl; ((repeat (first | exact Pick.here | apply Pick.there))); exact rfl; assumption; exact rfl; exact rfl)
                  | (apply wl_fldE; exact rfl; exact rfl; exact rfl; exact rfl; exact rfl)
                  | (apply wl_ixO; exact rfl; exact rfl; exact rfl; exact rfl; exact rfl; ((repeat (first | exact Pick.here | apply Pick.there))); exact rfl; exact rfl; omega; exact rfl)
                  | (apply wl_ldEO; exact rfl; exact rfl; ((repeat (first | exact Pick.here | apply Pick.there))); exact rfl; assumption; exact rfl; exact rfl)
                  | (apply wl_guard; exact rfl; exact rfl; exact rfl; exact rfl)
                  | (apply wl_gno; exact rfl; exact rfl; exact rfl; exact rfl; exact rfl)
                  | (apply wl_gsplit; exact rfl; exact rfl; exact rfl; exact rfl; all_goals (intro h; (try simp only [reduceCtorEq, not_true_eq_false, not_false_eq_true, decide_eq_true_eq, decide_eq_false_iff_not, Bool.not_eq_true', Bool.not_eq_false', Bool.not_true, Bool.not_false, Int.not_lt, Int.not_le, ne_eq, Decidable.not_not] at h); (try (exfalso; omega))))
                  | (apply wl_rem; exact rfl; exact rfl; omega; exact rfl)
                  | (apply wl_row; (iterate 7 (exact rfl)); intro b1)
                  | (apply wl_box; exact rfl; exact rfl; exact rfl; intro b1))
                | (show WC _ _ _ _ _ _; first
                  | refine WC.seq ?_
                  | (apply WC.region; exact rfl)
                  | (apply WC.condT; exact rfl)
                  | (apply WC.condF; exact rfl)
                  | (apply WC.cond; exact rfl; all_goals (intro h; (try simp only [reduceCtorEq, not_true_eq_false, not_false_eq_true, decide_eq_true_eq, decide_eq_false_iff_not, Bool.not_eq_true', Bool.not_eq_false', Bool.not_true, Bool.not_false, Int.not_lt, Int.not_le, ne_eq, Decidable.not_not] at h); (try (exfalso; omega))))
                  | refine WC.block ?_
                  | refine WC.skip ?_
                  | refine WC.ret ?_
                  | refine WC.exit ?_)
                | refine Qseq.nm ?_
                | refine Qseq.r ?_
                | refine Qseq.x ?_
                | refine Qblock.nm ?_
                | refine Qblock.r ?_
                | (apply Qblock.t; exact rfl)
                | (apply Qblock.f; exact rfl)
                | refine Qmx.r ?_
                | refine Qmx.nm ?_
                | (apply Qmx.f; exact rfl)
                | refine Qmn.r ?_
                | refine Qmn.x ?_
                | refine Qloop.r ?_
                | refine Qloop.x ?_
                | (apply Qfn.one; exact rfl)
                | (apply Qfn.two; exact rfl; exact rfl)
                | (apply Qfn.three; exact rfl; exact rfl; exact rfl)
                | refine Qfn.zero ?_
                | refine Qfn.zeroN ?_)
              (refine wl_call rfl rfl rfl (rbytes_spec mo hl hat) (by repeat (first | exact Take.nil | (apply Take.keepI; focus ((repeat (first | exact Pick.here | apply Pick.there)); done)) | (apply Take.cons; focus ((repeat (first | exact Pick.here | apply Pick.there)); done)) | (apply Take.pure; (first | assumption | omega)))) ?_)
              rintro _ _ ⟨va, vc, rfl, rfl⟩
              refine WL.ent (Ent.sh (a := va) (c := vc) (by (repeat (first | exact Pick.here | apply Pick.there)))) ?_
              repeat' (first
                | (show WL _ _ _ _ _ _ _; first
                  | (apply wl_calc; exact rfl; exact True.intro; exact rfl)
                  | refine WL.nil ?_
                  | (apply wl_ld; exact rfl; exact rfl; ((repeat (first | exact Pick.here | apply Pick.there))); exact rfl; exact rfl)
                  | (apply wl_calc; exact rfl; ((try simp only [inR]); omega); exact rfl)
                  | (apply wl_store; exact rfl; exact rfl; exact rfl; ((repeat (first | exact Pick.here | apply Pick.there))); exact rfl)
                  | (apply wl_ixI; exact rfl; exact rfl; exact rfl; exact rfl; exact rfl; ((repeat (first | exact Pick.here | apply Pick.there))); exact rfl; exact rfl; omega; exact rfl)
                  | (apply wl_ldEI; exact rfl; exact rfl; ((repeat (first | exact Pick.here | apply Pick.there))); exact rfl; assumption; exact rfl; exact rfl)
                  | (apply wl_fldE; exact rfl; exact rfl; exact rfl; exact rfl; exact rfl)
                  | (apply wl_ixO; exact rfl; exact rfl; exact rfl; exact rfl; exact rfl; ((repeat (first | exact Pick.here | apply Pick.there))); exact rfl; exact rfl; omega; exact rfl)
                  | (apply wl_ldEO; exact rfl; exact rfl; ((repeat (first | exact Pick.here | apply Pick.there))); exact rfl; assumption; exact rfl; exact rfl)
                  | (apply wl_guard; exact rfl; exact rfl; exact rfl; exact rfl)
                  | (apply wl_gno; exact rfl; exact rfl; exact rfl; exact rfl; exact rfl)
                  | (apply wl_gsplit; exact rfl; exact rfl; exact rfl; exact rfl; all_goals (intro h; (try simp only [reduceCtorEq, not_true_eq_false, not_false_eq_true, decide_eq_true_eq, decide_eq_false_iff_not, Bool.not_eq_true', Bool.not_eq_false', Bool.not_true, Bool.not_false, Int.not_lt, Int.not_le, ne_eq, Decidable.not_not] at h); (try (exfalso; omega))))
                  | (apply wl_rem; exact rfl; exact rfl; omega; exact rfl)
                  | (apply wl_row; (iterate 7 (exact rfl)); intro b1)
                  | (apply wl_box; exact rfl; exact rfl; exact rfl; intro b1))
                | (show WC _ _ _ _ _ _; first
                  | refine WC.seq ?_
                  | (apply WC.region; exact rfl)
                  | (apply WC.condT; exact rfl)
                  | (apply WC.condF; exact rfl)
                  | (apply WC.cond; exact rfl; all_goals (intro h; (try simp only [reduceCtorEq, not_true_eq_false, not_false_eq_true, decide_eq_true_eq, decide_eq_false_iff_not, Bool.not_eq_true', Bool.not_eq_false', Bool.not_true, Bool.not_false, Int.not_lt, Int.not_le, ne_eq, Decidable.not_not] at h); (try (exfalso; omega))))
                  | refine WC.block ?_
                  | refine WC.skip ?_
                  | refine WC.ret ?_
                  | refine WC.exit ?_)
                | refine Qseq.nm ?_
                | refine Qseq.r ?_
                | refine Qseq.x ?_
                | refine Qblock.nm ?_
                | refine Qblock.r ?_
                | (apply Qblock.t; exact rfl)
                | (apply Qblock.f; exact rfl)
                | refine Qmx.r ?_
                | refine Qmx.nm ?_
                | (apply Qmx.f; exact rfl)
                | refine Qmn.r ?_
                | refine Qmn.x ?_
                | refine Qloop.r ?_
                | refine Qloop.x ?_
                | (apply Qfn.one; exact rfl)
                | (apply Qfn.two; exact rfl; exact rfl)
                | (apply Qfn.three; exact rfl; exact rfl; exact rfl)
                | refine Qfn.zero ?_
                | refine Qfn.zeroN ?_)
              have hbl2 := r.bytes_len mo
              (refine wl_call rfl rfl rfl (same_spec (xs := (r.bytes mo).1) (ys := (r.bytes mo).1) (by omega) (by omega)) (by repeat (first | exact Take.nil | (apply Take.keepI; focus ((repeat (first | exact Pick.here | apply Pick.there)); done)) | (apply Take.cons; focus ((repeat (first | exact Pick.here | apply Pick.there)); done)) | (apply Take.pure; (first | assumption | omega)))) ?_)
              rintro _ _ ⟨rfl, rfl⟩
              repeat' (first
                | (show WL _ _ _ _ _ _ _; first
                  | (apply wl_calc; exact rfl; exact True.intro; exact rfl)
                  | refine WL.nil ?_
                  | (apply wl_ld; exact rfl; exact rfl; ((repeat (first | exact Pick.here | apply Pick.there))); exact rfl; exact rfl)
                  | (apply wl_calc; exact rfl; ((try simp only [inR]); omega); exact rfl)
                  | (apply wl_store; exact rfl; exact rfl; exact rfl; ((repeat (first | exact Pick.here | apply Pick.there))); exact rfl)
                  | (apply wl_ixI; exact rfl; exact rfl; exact rfl; exact rfl; exact rfl; ((repeat (first | exact Pick.here | apply Pick.there))); exact rfl; exact rfl; omega; exact rfl)
                  | (apply wl_ldEI; exact rfl; exact rfl; ((repeat (first | exact Pick.here | apply Pick.there))); exact rfl; assumption; exact rfl; exact rfl)
                  | (apply wl_fldE; exact rfl; exact rfl; exact rfl; exact rfl; exact rfl)
                  | (apply wl_ixO; exact rfl; exact rfl; exact rfl; exact rfl; exact rfl; ((repeat (first | exact Pick.here | apply Pick.there))); exact rfl; exact rfl; omega; exact rfl)
                  | (apply wl_ldEO; exact rfl; exact rfl; ((repeat (first | exact Pick.here | apply Pick.there))); exact rfl; assumption; exact rfl; exact rfl)
                  | (apply wl_guard; exact rfl; exact rfl; exact rfl; exact rfl)
                  | (apply wl_gno; exact rfl; exact rfl; exact rfl; exact rfl; exact rfl)
                  | (apply wl_gsplit; exact rfl; exact rfl; exact rfl; exact rfl; all_goals (intro h; (try simp only [reduceCtorEq, not_true_eq_false, not_false_eq_true, decide_eq_true_eq, decide_eq_false_iff_not, Bool.not_eq_true', Bool.not_eq_false', Bool.not_true, Bool.not_false, Int.not_lt, Int.not_le, ne_eq, Decidable.not_not] at h); (try (exfalso; omega))))
                  | (apply wl_rem; exact rfl; exact rfl; omega; exact rfl)
                  | (apply wl_row; (iterate 7 (exact rfl)); intro b1)
                  | (apply wl_box; exact rfl; exact rfl; exact rfl; intro b1))
                | (show WC _ _ _ _ _ _; first
                  | refine WC.seq ?_
                  | (apply WC.region; exact rfl)
                  | (apply WC.condT; exact rfl)
                  | (apply WC.condF; exact rfl)
                  | (apply WC.cond; exact rfl; all_goals (intro h; (try simp only [reduceCtorEq, not_true_eq_false, not_false_eq_true, decide_eq_true_eq, decide_eq_false_iff_not, Bool.not_eq_true', Bool.not_eq_false', Bool.not_true, Bool.not_false, Int.not_lt, Int.not_le, ne_eq, Decidable.not_not] at h); (try (exfalso; omega))))
                  | refine WC.block ?_
                  | refine WC.skip ?_
                  | refine WC.ret ?_
                  | refine WC.exit ?_)
                | refine Qseq.nm ?_
                | refine Qseq.r ?_
                | refine Qseq.x ?_
                | refine Qblock.nm ?_
                | refine Qblock.r ?_
                | (apply Qblock.t; exact rfl)
                | (apply Qblock.f; exact rfl)
                | refine Qmx.r ?_
                | refine Qmx.nm ?_
                | (apply Qmx.f; exact rfl)
                | refine Qmn.r ?_
                | refine Qmn.x ?_
                | refine Qloop.r ?_
                | refine Qloop.x ?_
                | (apply Qfn.one; exact rfl)
                | (apply Qfn.two; exact rfl; exact rfl)
                | (apply Qfn.three; exact rfl; exact rfl; exact rfl)
                | refine Qfn.zero ?_
                | refine Qfn.zeroN ?_)
              exact Qmn.hitU ⟨(r.bytes mo).2, ⟨r.bytes_b mo, r.bytes_at mo hat⟩, rfl, rfl⟩ (by repeat (first | exact trivial | refine ⟨rfl, ?_⟩)) (by repeat (first | exact Take.nil | (apply Take.keepI; focus ((repeat (first | exact Pick.here | apply Pick.there)); done)) | (apply Take.cons; focus ((repeat (first | exact Pick.here | apply Pick.there)); done)) | (apply Take.pure; (first | assumption | omega))))
          · (refine wl_call rfl rfl rfl (byte_spec hl hat) (by repeat (first | exact Take.nil | (apply Take.keepI; focus ((repeat (first | exact Pick.here | apply Pick.there)); done)) | (apply Take.cons; focus ((repeat (first | exact Pick.here | apply Pick.there)); done)) | (apply Take.pure; (first | assumption | omega)))) ?_)
            rintro _ _ ⟨rfl, rfl⟩
            repeat' (first
              | (show WL _ _ _ _ _ _ _; first
                | (apply wl_calc; exact rfl; exact True.intro; exact rfl)
                | refine WL.nil ?_
                | (apply wl_ld; exact rfl; exact rfl; ((repeat (first | exact Pick.here | apply Pick.there))); exact rfl; exact rfl)
                | (apply wl_calc; exact rfl; ((try simp only [inR]); omega); exact rfl)
                | (apply wl_store; exact rfl; exact rfl; exact rfl; ((repeat (first | exact Pick.here | apply Pick.there))); exact rfl)
                | (apply wl_ixI; exact rfl; exact rfl; exact rfl; exact rfl; exact rfl; ((repeat (first | exact Pick.here | apply Pick.there))); exact rfl; exact rfl; omega; exact rfl)
                | (apply wl_ldEI; exact rfl; exact rfl; ((repeat (first | exact Pick.here | apply Pick.there))); exact rfl; assumption; exact rfl; exact rfl)
                | (apply wl_fldE; exact rfl; exact rfl; exact rfl; exact rfl; exact rfl)
                | (apply wl_ixO; exact rfl; exact rfl; exact rfl; exact rfl; exact rfl; ((repeat (first | exact Pick.here | apply Pick.there))); exact rfl; exact rfl; omega; exact rfl)
                | (apply wl_ldEO; exact rfl; exact rfl; ((repeat (first | exact Pick.here | apply Pick.there))); exact rfl; assumption; exact rfl; exact rfl)
                | (apply wl_guard; exact rfl; exact rfl; exact rfl; exact rfl)
                | (apply wl_gno; exact rfl; exact rfl; exact rfl; exact rfl; exact rfl)
                | (apply wl_gsplit; exact rfl; exact rfl; exact rfl; exact rfl; all_goals (intro h; (try simp only [reduceCtorEq, not_true_eq_false, not_false_eq_true, decide_eq_true_eq, decide_eq_false_iff_not, Bool.not_eq_true', Bool.not_eq_false', Bool.not_true, Bool.not_false, Int.not_lt, Int.not_le, ne_eq, Decidable.not_not] at h); (try (exfalso; omega))))
                | (apply wl_rem; exact rfl; exact rfl; omega; exact rfl)
                | (apply wl_row; (iterate 7 (exact rfl)); intro b1)
                | (apply wl_box; exact rfl; exact rfl; exact rfl; intro b1))
              | (show WC _ _ _ _ _ _; first
                | refine WC.seq ?_
                | (apply WC.region; exact rfl)
                | (apply WC.condT; exact rfl)
                | (apply WC.condF; exact rfl)
                | (apply WC.cond; exact rfl; all_goals (intro h; (try simp only [reduceCtorEq, not_true_eq_false, not_false_eq_true, decide_eq_true_eq, decide_eq_false_iff_not, Bool.not_eq_true', Bool.not_eq_false', Bool.not_true, Bool.not_false, Int.not_lt, Int.not_le, ne_eq, Decidable.not_not] at h); (try (exfalso; omega))))
                | refine WC.block ?_
                | refine WC.skip ?_
                | refine WC.ret ?_
                | refine WC.exit ?_)
              | refine Qseq.nm ?_
              | refine Qseq.r ?_
              | refine Qseq.x ?_
              | refine Qblock.nm ?_
              | refine Qblock.r ?_
              | (apply Qblock.t; exact rfl)
              | (apply Qblock.f; exact rfl)
              | refine Qmx.r ?_
              | refine Qmx.nm ?_
              | (apply Qmx.f; exact rfl)
              | refine Qmn.r ?_
              | refine Qmn.x ?_
              | refine Qloop.r ?_
              | refine Qloop.x ?_
              | (apply Qfn.one; exact rfl)
              | (apply Qfn.two; exact rfl; exact rfl)
              | (apply Qfn.three; exact rfl; exact rfl; exact rfl)
              | refine Qfn.zero ?_
              | refine Qfn.zeroN ?_)
            (refine wl_call rfl rfl rfl (rbyte_spec hl hat) (by repeat (first | exact Take.nil | (apply Take.keepI; focus ((repeat (first | exact Pick.here | apply Pick.there)); done)) | (apply Take.cons; focus ((repeat (first | exact Pick.here | apply Pick.there)); done)) | (apply Take.pure; (first | assumption | omega)))) ?_)
            rintro _ _ ⟨rfl, rfl⟩
            repeat' (first
              | (show WL _ _ _ _ _ _ _; first
                | (apply wl_calc; exact rfl; exact True.intro; exact rfl)
                | refine WL.nil ?_
                | (apply wl_ld; exact rfl; exact rfl; ((repeat (first | exact Pick.here | apply Pick.there))); exact rfl; exact rfl)
                | (apply wl_calc; exact rfl; ((try simp only [inR]); omega); exact rfl)
                | (apply wl_store; exact rfl; exact rfl; exact rfl; ((repeat (first | exact Pick.here | apply Pick.there))); exact rfl)
                | (apply wl_ixI; exact rfl; exact rfl; exact rfl; exact rfl; exact rfl; ((repeat (first | exact Pick.here | apply Pick.there))); exact rfl; exact rfl; omega; exact rfl)
                | (apply wl_ldEI; exact rfl; exact rfl; ((repeat (first | exact Pick.here | apply Pick.there))); exact rfl; assumption; exact rfl; exact rfl)
                | (apply wl_fldE; exact rfl; exact rfl; exact rfl; exact rfl; exact rfl)
                | (apply wl_ixO; exact rfl; exact rfl; exact rfl; exact rfl; exact rfl; ((repeat (first | exact Pick.here | apply Pick.there))); exact rfl; exact rfl; omega; exact rfl)
                | (apply wl_ldEO; exact rfl; exact rfl; ((repeat (first | exact Pick.here | apply Pick.there))); exact rfl; assumption; exact rfl; exact rfl)
                | (apply wl_guard; exact rfl; exact rfl; exact rfl; exact rfl)
                | (apply wl_gno; exact rfl; exact rfl; exact rfl; exact rfl; exact rfl)
                | (apply wl_gsplit; exact rfl; exact rfl; exact rfl; exact rfl; all_goals (intro h; (try simp only [reduceCtorEq, not_true_eq_false, not_false_eq_true, decide_eq_true_eq, decide_eq_false_iff_not, Bool.not_eq_true', Bool.not_eq_false', Bool.not_true, Bool.not_false, Int.not_lt, Int.not_le, ne_eq, Decidable.not_not] at h); (try (exfalso; omega))))
                | (apply wl_rem; exact rfl; exact rfl; omega; exact rfl)
                | (apply wl_row; (iterate 7 (exact rfl)); intro b1)
                | (apply wl_box; exact rfl; exact rfl; exact rfl; intro b1))
              | (show WC _ _ _ _ _ _; first
                | refine WC.seq ?_
                | (apply WC.region; exact rfl)
                | (apply WC.condT; exact rfl)
                | (apply WC.condF; exact rfl)
                | (apply WC.cond; exact rfl; all_goals (intro h; (try simp only [reduceCtorEq, not_true_eq_false, not_false_eq_true, decide_eq_true_eq, decide_eq_false_iff_not, Bool.not_eq_true', Bool.not_eq_false', Bool.not_true, Bool.not_false, Int.not_lt, Int.not_le, ne_eq, Decidable.not_not] at h); (try (exfalso; omega))))
                | refine WC.block ?_
                | refine WC.skip ?_
                | refine WC.ret ?_
                | refine WC.exit ?_)
              | refine Qseq.nm ?_
              | refine Qseq.r ?_
              | refine Qseq.x ?_
              | refine Qblock.nm ?_
              | refine Qblock.r ?_
              | (apply Qblock.t; exact rfl)
              | (apply Qblock.f; exact rfl)
              | refine Qmx.r ?_
              | refine Qmx.nm ?_
              | (apply Qmx.f; exact rfl)
              | refine Qmn.r ?_
              | refine Qmn.x ?_
              | refine Qloop.r ?_
              | refine Qloop.x ?_
              | (apply Qfn.one; exact rfl)
              | (apply Qfn.two; exact rfl; exact rfl)
              | (apply Qfn.three; exact rfl; exact rfl; exact rfl)
              | refine Qfn.zero ?_
              | refine Qfn.zeroN ?_)
            exact Qmn.hitU ⟨r.byte.2, ⟨r.byte_b, r.byte_at hat⟩, rfl, rfl⟩ (by repeat (first | exact trivial | refine ⟨rfl, ?_⟩)) (by repeat (first | exact Take.nil | (apply Take.keepI; focus ((repeat (first | exact Pick.here | apply Pick.there)); done)) | (apply Take.cons; focus ((repeat (first | exact Pick.here | apply Pick.there)); done)) | (apply Take.pure; (first | assumption | omega))))
        · rintro _ _ ⟨r', ⟨hrb, hra⟩, rfl, rfl⟩
          have hl' : r'.b.length ≤ 140737488355328 := by rw [hrb]; exact hl
          have ha' : r'.at_ ≤ r'.b.length := by rw [hrb]; exact hra
          repeat' (first
            | (show WL _ _ _ _ _ _ _; first
              | (apply wl_calc; exact rfl; exact True.intro; exact rfl)
              | refine WL.nil ?_
              | (apply wl_ld; exact rfl; exact rfl; ((repeat (first | exact Pick.here | apply Pick.there))); exact rfl; exact rfl)
              | (apply wl_calc; exact rfl; ((try simp only [inR]); omega); exact rfl)
              | (apply wl_store; exact rfl; exact rfl; exact rfl; ((repeat (first | exact Pick.here | apply Pick.there))); exact rfl)
              | (apply wl_ixI; exact rfl; exact rfl; exact rfl; exact rfl; exact rfl; ((repeat (first | exact Pick.here | apply Pick.there))); exact rfl; exact rfl; omega; exact rfl)
              | (apply wl_ldEI; exact rfl; exact rfl; ((repeat (first | exact Pick.here | apply Pick.there))); exact rfl; assumption; exact rfl; exact rfl)
              | (apply wl_fldE; exact rfl; exact rfl; exact rfl; exact rfl; exact rfl)
              | (apply wl_ixO; exact rfl; exact rfl; exact rfl; exact rfl; exact rfl; ((repeat (first | exact Pick.here | apply Pick.there))); exact rfl; exact rfl; omega; exact rfl)
              | (apply wl_ldEO; exact rfl; exact rfl; ((repeat (first | exact Pick.here | apply Pick.there))); exact rfl; assumption; exact rfl; exact rfl)
              | (apply wl_guard; exact rfl; exact rfl; exact rfl; exact rfl)
              | (apply wl_gno; exact rfl; exact rfl; exact rfl; exact rfl; exact rfl)
              | (apply wl_gsplit; exact rfl; exact rfl; exact rfl; exact rfl; all_goals (intro h; (try simp only [reduceCtorEq, not_true_eq_false, not_false_eq_true, decide_eq_true_eq, decide_eq_false_iff_not, Bool.not_eq_true', Bool.not_eq_false', Bool.not_true, Bool.not_false, Int.not_lt, Int.not_le, ne_eq, Decidable.not_not] at h); (try (exfalso; omega))))
              | (apply wl_rem; exact rfl; exact rfl; omega; exact rfl)
              | (apply wl_row; (iterate 7 (exact rfl)); intro b1)
              | (apply wl_box; exact rfl; exact rfl; exact rfl; intro b1))
            | (show WC _ _ _ _ _ _; first
              | refine WC.seq ?_
              | (apply WC.region; exact rfl)
              | (apply WC.condT; exact rfl)
              | (apply WC.condF; exact rfl)
              | (apply WC.cond; exact rfl; all_goals (intro h; (try simp only [reduceCtorEq, not_true_eq_false, not_false_eq_true, decide_eq_true_eq, decide_eq_false_iff_not, Bool.not_eq_true', Bool.not_eq_false', Bool.not_true, Bool.not_false, Int.not_lt, Int.not_le, ne_eq, Decidable.not_not] at h); (try (exfalso; omega))))
              | refine WC.block ?_
              | refine WC.skip ?_
              | refine WC.ret ?_
              | refine WC.exit ?_)
            | refine Qseq.nm ?_
            | refine Qseq.r ?_
            | refine Qseq.x ?_
            | refine Qblock.nm ?_
            | refine Qblock.r ?_
            | (apply Qblock.t; exact rfl)
            | (apply Qblock.f; exact rfl)
            | refine Qmx.r ?_
            | refine Qmx.nm ?_
            | (apply Qmx.f; exact rfl)
            | refine Qmn.r ?_
            | refine Qmn.x ?_
            | refine Qloop.r ?_
            | refine Qloop.x ?_
            | (apply Qfn.one; exact rfl)
            | (apply Qfn.two; exact rfl; exact rfl)
            | (apply Qfn.three; exact rfl; exact rfl; exact rfl)
            | refine Qfn.zero ?_
            | refine Qfn.zeroN ?_)
          (apply wc_drawU; (focus (simp only [lenN, Nat.succ_eq_add_one, Nat.zero_add, Nat.reduceAdd]; exact rfl)); exact rfl; kernel_rfl)
          repeat' (first
            | (show WA _ _ _ _ _ _ _ _ _ _ _; first
              | (apply wa_pick; (iterate 4 (exact rfl)); (first | exact QuietT.calc rfl True.intro | (apply QuietT.load; exact rfl; exact rfl; ((repeat (first | exact Pick.here | apply Pick.there))); exact rfl) | (apply QuietT.calc; exact rfl; ((try simp only [inR]); omega)) | (apply QuietT.indexI; (iterate 5 (exact rfl)); ((repeat (first | exact Pick.here | apply Pick.there))); exact rfl; (first | exact rfl | omega); omega) | (apply QuietT.loadEI; exact rfl; exact rfl; ((repeat (first | exact Pick.here | apply Pick.there))); exact rfl; assumption; exact rfl) | (apply QuietT.fieldE; exact rfl; exact rfl; exact rfl; exact rfl) | (apply QuietT.indexO; (iterate 5 (exact rfl)); ((repeat (first | exact Pick.here | apply Pick.there))); exact rfl; (first | exact rfl | omega); omega) | (apply QuietT.loadEO; exact rfl; exact rfl; ((repeat (first | exact Pick.here | apply Pick.there))); exact rfl; assumption; exact rfl) | (apply QuietT.loadI; exact rfl; exact rfl; ((repeat (first | exact Pick.here | apply Pick.there))); exact rfl)); kernel_rfl)
              | (apply wa_pickN; (iterate 8 (exact rfl)); kernel_rfl)
              | (apply wa_pickG; (iterate 7 (exact rfl)); (first | exact QuietT.calc rfl True.intro | (apply QuietT.load; exact rfl; exact rfl; ((repeat (first | exact Pick.here | apply Pick.there))); exact rfl) | (apply QuietT.calc; exact rfl; ((try simp only [inR]); omega)) | (apply QuietT.indexI; (iterate 5 (exact rfl)); ((repeat (first | exact Pick.here | apply Pick.there))); exact rfl; (first | exact rfl | omega); omega) | (apply QuietT.loadEI; exact rfl; exact rfl; ((repeat (first | exact Pick.here | apply Pick.there))); exact rfl; assumption; exact rfl) | (apply QuietT.fieldE; exact rfl; exact rfl; exact rfl; exact rfl) | (apply QuietT.indexO; (iterate 5 (exact rfl)); ((repeat (first | exact Pick.here | apply Pick.there))); exact rfl; (first | exact rfl | omega); omega) | (apply QuietT.loadEO; exact rfl; exact rfl; ((repeat (first | exact Pick.here | apply Pick.there))); exact rfl; assumption; exact rfl) | (apply QuietT.loadI; exact rfl; exact rfl; ((repeat (first | exact Pick.here | apply Pick.there))); exact rfl)); kernel_rfl)
              | (apply wa_skipA; (iterate 8 (exact rfl)); kernel_rfl)
              | (apply wa_splitPD; (iterate 4 (exact rfl)); all_goals (intro h; (try simp only [reduceCtorEq, not_true_eq_false, not_false_eq_true, decide_eq_true_eq, decide_eq_false_iff_not, Bool.not_eq_true', Bool.not_eq_false', Bool.not_true, Bool.not_false, Int.not_lt, Int.not_le, ne_eq, Decidable.not_not] at h); (try (exfalso; omega))))
              | (apply wa_splitPE; (iterate 4 (exact rfl)); all_goals (intro h; (try simp only [reduceCtorEq, not_true_eq_false, not_false_eq_true, decide_eq_true_eq, decide_eq_false_iff_not, Bool.not_eq_true', Bool.not_eq_false', Bool.not_true, Bool.not_false, Int.not_lt, Int.not_le, ne_eq, Decidable.not_not] at h); (try (exfalso; omega))))
              | (apply wa_splitP; (iterate 4 (exact rfl)); (all_goals (intro h; (fail_if_success (have hh : h = rfl := rfl)); (fail_if_success (cases h; done)))); (all_goals (try simp only [reduceCtorEq, not_true_eq_false, not_false_eq_true, decide_eq_true_eq, decide_eq_false_iff_not, Bool.not_eq_true', Bool.not_eq_false', Bool.not_true, Bool.not_false, Int.not_lt, Int.not_le, ne_eq, Decidable.not_not] at h)))
              | refine WA.end_ ?_)
            | (show WT _ _ _ _ 0 _ _ _; (refine wt_done ?_ ?_; kernel_rfl))
            | (show WT _ _ _ _ _ _ _ _; (apply wt_pickQ; (iterate 3 (exact rfl)); (first | exact GOK.none | (apply GOK.runL; (iterate 3 (exact rfl)))); exact rfl; (first | exact QuietT.calc rfl True.intro | (apply QuietT.load; exact rfl; exact rfl; ((repeat (first | exact Pick.here | apply Pick.there))); exact rfl) | (apply QuietT.calc; exact rfl; ((try simp only [inR]); omega)) | (apply QuietT.indexI; (iterate 5 (exact rfl)); ((repeat (first | exact Pick.here | apply Pick.there))); exact rfl; (first | exact rfl | omega); omega) | (apply QuietT.loadEI; exact rfl; exact rfl; ((repeat (first | exact Pick.here | apply Pick.there))); exact rfl; assumption; exact rfl) | (apply QuietT.fieldE; exact rfl; exact rfl; exact rfl; exact rfl) | (apply QuietT.indexO; (iterate 5 (exact rfl)); ((repeat (first | exact Pick.here | apply Pick.there))); exact rfl; (first | exact rfl | omega); omega) | (apply QuietT.loadEO; exact rfl; exact rfl; ((repeat (first | exact Pick.here | apply Pick.there))); exact rfl; assumption; exact rfl) | (apply QuietT.loadI; exact rfl; exact rfl; ((repeat (first | exact Pick.here | apply Pick.there))); exact rfl)); kernel_rfl)))
          (refine wa_callU rfl rfl rfl (by (first | exact GOK.none | (apply GOK.runL; (iterate 3 (exact rfl))))) rfl rfl rfl (by kernel_rfl) (rdat_spec) (by repeat (first | exact Take.nil | (apply Take.keepI; focus ((repeat (first | exact Pick.here | apply Pick.there)); done)) | (apply Take.cons; focus ((repeat (first | exact Pick.here | apply Pick.there)); done)) | (apply Take.pure; (first | assumption | omega)))) ?_)
          rintro _ _ ⟨rfl, rfl⟩
          refine ⟨[], Take.ent0 (by repeat (first | exact Take.nil | (apply Take.keepI; focus ((repeat (first | exact Pick.here | apply Pick.there)); done)) | (apply Take.cons; focus ((repeat (first | exact Pick.here | apply Pick.there)); done)) | (apply Take.pure; (first | assumption | omega)))), ?_⟩
          repeat' (first
            | (show WA _ _ _ _ _ _ _ _ _ _ _; first
              | (apply wa_pick; (iterate 4 (exact rfl)); (first | exact QuietT.calc rfl True.intro | (apply QuietT.load; exact rfl; exact rfl; ((repeat (first | exact Pick.here | apply Pick.there))); exact rfl) | (apply QuietT.calc; exact rfl; ((try simp only [inR]); omega)) | (apply QuietT.indexI; (iterate 5 (exact rfl)); ((repeat (first | exact Pick.here | apply Pick.there))); exact rfl; (first | exact rfl | omega); omega) | (apply QuietT.loadEI; exact rfl; exact rfl; ((repeat (first | exact Pick.here | apply Pick.there))); exact rfl; assumption; exact rfl) | (apply QuietT.fieldE; exact rfl; exact rfl; exact rfl; exact rfl) | (apply QuietT.indexO; (iterate 5 (exact rfl)); ((repeat (first | exact Pick.here | apply Pick.there))); exact rfl; (first | exact rfl | omega); omega) | (apply QuietT.loadEO; exact rfl; exact rfl; ((repeat (first | exact Pick.here | apply Pick.there))); exact rfl; assumption; exact rfl) | (apply QuietT.loadI; exact rfl; exact rfl; ((repeat (first | exact Pick.here | apply Pick.there))); exact rfl)); kernel_rfl)
              | (apply wa_pickN; (iterate 8 (exact rfl)); kernel_rfl)
              | (apply wa_pickG; (iterate 7 (exact rfl)); (first | exact QuietT.calc rfl True.intro | (apply QuietT.load; exact rfl; exact rfl; ((repeat (first | exact Pick.here | apply Pick.there))); exact rfl) | (apply QuietT.calc; exact rfl; ((try simp only [inR]); omega)) | (apply QuietT.indexI; (iterate 5 (exact rfl)); ((repeat (first | exact Pick.here | apply Pick.there))); exact rfl; (first | exact rfl | omega); omega) | (apply QuietT.loadEI; exact rfl; exact rfl; ((repeat (first | exact Pick.here | apply Pick.there))); exact rfl; assumption; exact rfl) | (apply QuietT.fieldE; exact rfl; exact rfl; exact rfl; exact rfl) | (apply QuietT.indexO; (iterate 5 (exact rfl)); ((repeat (first | exact Pick.here | apply Pick.there))); exact rfl; (first | exact rfl | omega); omega) | (apply QuietT.loadEO; exact rfl; exact rfl; ((repeat (first | exact Pick.here | apply Pick.there))); exact rfl; assumption; exact rfl) | (apply QuietT.loadI; exact rfl; exact rfl; ((repeat (first | exact Pick.here | apply Pick.there))); exact rfl)); kernel_rfl)
              | (apply wa_skipA; (iterate 8 (exact rfl)); kernel_rfl)
              | (apply wa_splitPD; (iterate 4 (exact rfl)); all_goals (intro h; (try simp only [reduceCtorEq, not_true_eq_false, not_false_eq_true, decide_eq_true_eq, decide_eq_false_iff_not, Bool.not_eq_true', Bool.not_eq_false', Bool.not_true, Bool.not_false, Int.not_lt, Int.not_le, ne_eq, Decidable.not_not] at h); (try (exfalso; omega))))
              | (apply wa_splitPE; (iterate 4 (exact rfl)); all_goals (intro h; (try simp only [reduceCtorEq, not_true_eq_false, not_false_eq_true, decide_eq_true_eq, decide_eq_false_iff_not, Bool.not_eq_true', Bool.not_eq_false', Bool.not_true, Bool.not_false, Int.not_lt, Int.not_le, ne_eq, Decidable.not_not] at h); (try (exfalso; omega))))
              | (apply wa_splitP; (iterate 4 (exact rfl)); (all_goals (intro h; (fail_if_success (have hh : h = rfl := rfl)); (fail_if_success (cases h; done)))); (all_goals (try simp only [reduceCtorEq, not_true_eq_false, not_false_eq_true, decide_eq_true_eq, decide_eq_false_iff_not, Bool.not_eq_true', Bool.not_eq_false', Bool.not_true, Bool.not_false, Int.not_lt, Int.not_le, ne_eq, Decidable.not_not] at h)))
              | refine WA.end_ ?_)
            | (show WT _ _ _ _ 0 _ _ _; (refine wt_done ?_ ?_; kernel_rfl))
            | (show WT _ _ _ _ _ _ _ _; (apply wt_pickQ; (iterate 3 (exact rfl)); (first | exact GOK.none | (apply GOK.runL; (iterate 3 (exact rfl)))); exact rfl; (first | exact QuietT.calc rfl True.intro | (apply QuietT.load; exact rfl; exact rfl; ((repeat (first | exact Pick.here | apply Pick.there))); exact rfl) | (apply QuietT.calc; exact rfl; ((try simp only [inR]); omega)) | (apply QuietT.indexI; (iterate 5 (exact rfl)); ((repeat (first | exact Pick.here | apply Pick.there))); exact rfl; (first | exact rfl | omega); omega) | (apply QuietT.loadEI; exact rfl; exact rfl; ((repeat (first | exact Pick.here | apply Pick.there))); exact rfl; assumption; exact rfl) | (apply QuietT.fieldE; exact rfl; exact rfl; exact rfl; exact rfl) | (apply QuietT.indexO; (iterate 5 (exact rfl)); ((repeat (first | exact Pick.here | apply Pick.there))); exact rfl; (first | exact rfl | omega); omega) | (apply QuietT.loadEO; exact rfl; exact rfl; ((repeat (first | exact Pick.here | apply Pick.there))); exact rfl; assumption; exact rfl) | (apply QuietT.loadI; exact rfl; exact rfl; ((repeat (first | exact Pick.here | apply Pick.there))); exact rfl)); kernel_rfl)))
          (refine wa_callU rfl rfl rfl (by (first | exact GOK.none | (apply GOK.runL; (iterate 3 (exact rfl))))) rfl rfl rfl (by kernel_rfl) (rdleft_spec hl' ha') (by repeat (first | exact Take.nil | (apply Take.keepI; focus ((repeat (first | exact Pick.here | apply Pick.there)); done)) | (apply Take.cons; focus ((repeat (first | exact Pick.here | apply Pick.there)); done)) | (apply Take.pure; (first | assumption | omega)))) ?_)
          rintro _ _ ⟨rfl, rfl⟩
          rw [hrb]
          refine ⟨[], Take.ent0 (by repeat (first | exact Take.nil | (apply Take.keepI; focus ((repeat (first | exact Pick.here | apply Pick.there)); done)) | (apply Take.cons; focus ((repeat (first | exact Pick.here | apply Pick.there)); done)) | (apply Take.pure; (first | assumption | omega)))), ?_⟩
          repeat' (first
            | (show WA _ _ _ _ _ _ _ _ _ _ _; first
              | (apply wa_pick; (iterate 4 (exact rfl)); (first | exact QuietT.calc rfl True.intro | (apply QuietT.load; exact rfl; exact rfl; ((repeat (first | exact Pick.here | apply Pick.there))); exact rfl) | (apply QuietT.calc; exact rfl; ((try simp only [inR]); omega)) | (apply QuietT.indexI; (iterate 5 (exact rfl)); ((repeat (first | exact Pick.here | apply Pick.there))); exact rfl; (first | exact rfl | omega); omega) | (apply QuietT.loadEI; exact rfl; exact rfl; ((repeat (first | exact Pick.here | apply Pick.there))); exact rfl; assumption; exact rfl) | (apply QuietT.fieldE; exact rfl; exact rfl; exact rfl; exact rfl) | (apply QuietT.indexO; (iterate 5 (exact rfl)); ((repeat (first | exact Pick.here | apply Pick.there))); exact rfl; (first | exact rfl | omega); omega) | (apply QuietT.loadEO; exact rfl; exact rfl; ((repeat (first | exact Pick.here | apply Pick.there))); exact rfl; assumption; exact rfl) | (apply QuietT.loadI; exact rfl; exact rfl; ((repeat (first | exact Pick.here | apply Pick.there))); exact rfl)); kernel_rfl)
              | (apply wa_pickN; (iterate 8 (exact rfl)); kernel_rfl)
              | (apply wa_pickG; (iterate 7 (exact rfl)); (first | exact QuietT.calc rfl True.intro | (apply QuietT.load; exact rfl; exact rfl; ((repeat (first | exact Pick.here | apply Pick.there))); exact rfl) | (apply QuietT.calc; exact rfl; ((try simp only [inR]); omega)) | (apply QuietT.indexI; (iterate 5 (exact rfl)); ((repeat (first | exact Pick.here | apply Pick.there))); exact rfl; (first | exact rfl | omega); omega) | (apply QuietT.loadEI; exact rfl; exact rfl; ((repeat (first | exact Pick.here | apply Pick.there))); exact rfl; assumption; exact rfl) | (apply QuietT.fieldE; exact rfl; exact rfl; exact rfl; exact rfl) | (apply QuietT.indexO; (iterate 5 (exact rfl)); ((repeat (first | exact Pick.here | apply Pick.there))); exact rfl; (first | exact rfl | omega); omega) | (apply QuietT.loadEO; exact rfl; exact rfl; ((repeat (first | exact Pick.here | apply Pick.there))); exact rfl; assumption; exact rfl) | (apply QuietT.loadI; exact rfl; exact rfl; ((repeat (first | exact Pick.here | apply Pick.there))); exact rfl)); kernel_rfl)
              | (apply wa_skipA; (iterate 8 (exact rfl)); kernel_rfl)
              | (apply wa_splitPD; (iterate 4 (exact rfl)); all_goals (intro h; (try simp only [reduceCtorEq, not_true_eq_false, not_false_eq_true, decide_eq_true_eq, decide_eq_false_iff_not, Bool.not_eq_true', Bool.not_eq_false', Bool.not_true, Bool.not_false, Int.not_lt, Int.not_le, ne_eq, Decidable.not_not] at h); (try (exfalso; omega))))
              | (apply wa_splitPE; (iterate 4 (exact rfl)); all_goals (intro h; (try simp only [reduceCtorEq, not_true_eq_false, not_false_eq_true, decide_eq_true_eq, decide_eq_false_iff_not, Bool.not_eq_true', Bool.not_eq_false', Bool.not_true, Bool.not_false, Int.not_lt, Int.not_le, ne_eq, Decidable.not_not] at h); (try (exfalso; omega))))
              | (apply wa_splitP; (iterate 4 (exact rfl)); (all_goals (intro h; (fail_if_success (have hh : h = rfl := rfl)); (fail_if_success (cases h; done)))); (all_goals (try simp only [reduceCtorEq, not_true_eq_false, not_false_eq_true, decide_eq_true_eq, decide_eq_false_iff_not, Bool.not_eq_true', Bool.not_eq_false', Bool.not_true, Bool.not_false, Int.not_lt, Int.not_le, ne_eq, Decidable.not_not] at h)))
              | refine WA.end_ ?_)
            | (show WT _ _ _ _ 0 _ _ _; (refine wt_done ?_ ?_; kernel_rfl))
            | (show WT _ _ _ _ _ _ _ _; (apply wt_pickQ; (iterate 3 (exact rfl)); (first | exact GOK.none | (apply GOK.runL; (iterate 3 (exact rfl)))); exact rfl; (first | exact QuietT.calc rfl True.intro | (apply QuietT.load; exact rfl; exact rfl; ((repeat (first | exact Pick.here | apply Pick.there))); exact rfl) | (apply QuietT.calc; exact rfl; ((try simp only [inR]); omega)) | (apply QuietT.indexI; (iterate 5 (exact rfl)); ((repeat (first | exact Pick.here | apply Pick.there))); exact rfl; (first | exact rfl | omega); omega) | (apply QuietT.loadEI; exact rfl; exact rfl; ((repeat (first | exact Pick.here | apply Pick.there))); exact rfl; assumption; exact rfl) | (apply QuietT.fieldE; exact rfl; exact rfl; exact rfl; exact rfl) | (apply QuietT.indexO; (iterate 5 (exact rfl)); ((repeat (first | exact Pick.here | apply Pick.there))); exact rfl; (first | exact rfl | omega); omega) | (apply QuietT.loadEO; exact rfl; exact rfl; ((repeat (first | exact Pick.here | apply Pick.there))); exact rfl; assumption; exact rfl) | (apply QuietT.loadI; exact rfl; exact rfl; ((repeat (first | exact Pick.here | apply Pick.there))); exact rfl)); kernel_rfl)))
          (refine wa_callU rfl rfl rfl (by (first | exact GOK.none | (apply GOK.runL; (iterate 3 (exact rfl))))) rfl rfl rfl (by kernel_rfl) (rdbad_spec) (by repeat (first | exact Take.nil | (apply Take.keepI; focus ((repeat (first | exact Pick.here | apply Pick.there)); done)) | (apply Take.cons; focus ((repeat (first | exact Pick.here | apply Pick.there)); done)) | (apply Take.pure; (first | assumption | omega)))) ?_)
          rintro _ _ ⟨rfl, rfl⟩
          refine ⟨[], Take.ent0 (by repeat (first | exact Take.nil | (apply Take.keepI; focus ((repeat (first | exact Pick.here | apply Pick.there)); done)) | (apply Take.cons; focus ((repeat (first | exact Pick.here | apply Pick.there)); done)) | (apply Take.pure; (first | assumption | omega)))), ?_⟩
          repeat' (first
            | (show WA _ _ _ _ _ _ _ _ _ _ _; first
              | (apply wa_pick; (iterate 4 (exact rfl)); (first | exact QuietT.calc rfl True.intro | (apply QuietT.load; exact rfl; exact rfl; ((repeat (first | exact Pick.here | apply Pick.there))); exact rfl) | (apply QuietT.calc; exact rfl; ((try simp only [inR]); omega)) | (apply QuietT.indexI; (iterate 5 (exact rfl)); ((repeat (first | exact Pick.here | apply Pick.there))); exact rfl; (first | exact rfl | omega); omega) | (apply QuietT.loadEI; exact rfl; exact rfl; ((repeat (first | exact Pick.here | apply Pick.there))); exact rfl; assumption; exact rfl) | (apply QuietT.fieldE; exact rfl; exact rfl; exact rfl; exact rfl) | (apply QuietT.indexO; (iterate 5 (exact rfl)); ((repeat (first | exact Pick.here | apply Pick.there))); exact rfl; (first | exact rfl | omega); omega) | (apply QuietT.loadEO; exact rfl; exact rfl; ((repeat (first | exact Pick.here | apply Pick.there))); exact rfl; assumption; exact rfl) | (apply QuietT.loadI; exact rfl; exact rfl; ((repeat (first | exact Pick.here | apply Pick.there))); exact rfl)); kernel_rfl)
              | (apply wa_pickN; (iterate 8 (exact rfl)); kernel_rfl)
              | (apply wa_pickG; (iterate 7 (exact rfl)); (first | exact QuietT.calc rfl True.intro | (apply QuietT.load; exact rfl; exact rfl; ((repeat (first | exact Pick.here | apply Pick.there))); exact rfl) | (apply QuietT.calc; exact rfl; ((try simp only [inR]); omega)) | (apply QuietT.indexI; (iterate 5 (exact rfl)); ((repeat (first | exact Pick.here | apply Pick.there))); exact rfl; (first | exact rfl | omega); omega) | (apply QuietT.loadEI; exact rfl; exact rfl; ((repeat (first | exact Pick.here | apply Pick.there))); exact rfl; assumption; exact rfl) | (apply QuietT.fieldE; exact rfl; exact rfl; exact rfl; exact rfl) | (apply QuietT.indexO; (iterate 5 (exact rfl)); ((repeat (first | exact Pick.here | apply Pick.there))); exact rfl; (first | exact rfl | omega); omega) | (apply QuietT.loadEO; exact rfl; exact rfl; ((repeat (first | exact Pick.here | apply Pick.there))); exact rfl; assumption; exact rfl) | (apply QuietT.loadI; exact rfl; exact rfl; ((repeat (first | exact Pick.here | apply Pick.there))); exact rfl)); kernel_rfl)
              | (apply wa_skipA; (iterate 8 (exact rfl)); kernel_rfl)
              | (apply wa_splitPD; (iterate 4 (exact rfl)); all_goals (intro h; (try simp only [reduceCtorEq, not_true_eq_false, not_false_eq_true, decide_eq_true_eq, decide_eq_false_iff_not, Bool.not_eq_true', Bool.not_eq_false', Bool.not_true, Bool.not_false, Int.not_lt, Int.not_le, ne_eq, Decidable.not_not] at h); (try (exfalso; omega))))
              | (apply wa_splitPE; (iterate 4 (exact rfl)); all_goals (intro h; (try simp only [reduceCtorEq, not_true_eq_false, not_false_eq_true, decide_eq_true_eq, decide_eq_false_iff_not, Bool.not_eq_true', Bool.not_eq_false', Bool.not_true, Bool.not_false, Int.not_lt, Int.not_le, ne_eq, Decidable.not_not] at h); (try (exfalso; omega))))
              | (apply wa_splitP; (iterate 4 (exact rfl)); (all_goals (intro h; (fail_if_success (have hh : h = rfl := rfl)); (fail_if_success (cases h; done)))); (all_goals (try simp only [reduceCtorEq, not_true_eq_false, not_false_eq_true, decide_eq_true_eq, decide_eq_false_iff_not, Bool.not_eq_true', Bool.not_eq_false', Bool.not_true, Bool.not_false, Int.not_lt, Int.not_le, ne_eq, Decidable.not_not] at h)))
              | refine WA.end_ ?_)
            | (show WT _ _ _ _ 0 _ _ _; (refine wt_done ?_ ?_; kernel_rfl))
            | (show WT _ _ _ _ _ _ _ _; (apply wt_pickQ; (iterate 3 (exact rfl)); (first | exact GOK.none | (apply GOK.runL; (iterate 3 (exact rfl)))); exact rfl; (first | exact QuietT.calc rfl True.intro | (apply QuietT.load; exact rfl; exact rfl; ((repeat (first | exact Pick.here | apply Pick.there))); exact rfl) | (apply QuietT.calc; exact rfl; ((try simp only [inR]); omega)) | (apply QuietT.indexI; (iterate 5 (exact rfl)); ((repeat (first | exact Pick.here | apply Pick.there))); exact rfl; (first | exact rfl | omega); omega) | (apply QuietT.loadEI; exact rfl; exact rfl; ((repeat (first | exact Pick.here | apply Pick.there))); exact rfl; assumption; exact rfl) | (apply QuietT.fieldE; exact rfl; exact rfl; exact rfl; exact rfl) | (apply QuietT.indexO; (iterate 5 (exact rfl)); ((repeat (first | exact Pick.here | apply Pick.there))); exact rfl; (first | exact rfl | omega); omega) | (apply QuietT.loadEO; exact rfl; exact rfl; ((repeat (first | exact Pick.here | apply Pick.there))); exact rfl; assumption; exact rfl) | (apply QuietT.loadI; exact rfl; exact rfl; ((repeat (first | exact Pick.here | apply Pick.there))); exact rfl)); kernel_rfl)))
          repeat' (first
            | (show WL _ _ _ _ _ _ _; first
              | (apply wl_calc; exact rfl; exact True.intro; exact rfl)
              | refine WL.nil ?_
              | (apply wl_ld; exact rfl; exact rfl; ((repeat (first | exact Pick.here | apply Pick.there))); exact rfl; exact rfl)
              | (apply wl_calc; exact rfl; ((try simp only [inR]); omega); exact rfl)
              | (apply wl_store; exact rfl; exact rfl; exact rfl; ((repeat (first | exact Pick.here | apply Pick.there))); exact rfl)
              | (apply wl_ixI; exact rfl; exact rfl; exact rfl; exact rfl; exact rfl; ((repeat (first | exact Pick.here | apply Pick.there))); exact rfl; exact rfl; omega; exact rfl)
              | (apply wl_ldEI; exact rfl; exact rfl; ((repeat (first | exact Pick.here | apply Pick.there))); exact rfl; assumption; exact rfl; exact rfl)
              | (apply wl_fldE; exact rfl; exact rfl; exact rfl; exact rfl; exact rfl)
              | (apply wl_ixO; exact rfl; exact rfl; exact rfl; exact rfl; exact rfl; ((repeat (first | exact Pick.here | apply Pick.there))); exact rfl; exact rfl; omega; exact rfl)
              | (apply wl_ldEO; exact rfl; exact rfl; ((repeat (first | exact Pick.here | apply Pick.there))); exact rfl; assumption; exact rfl; exact rfl)
              | (apply wl_guard; exact rfl; exact rfl; exact rfl; exact rfl)
              | (apply wl_gno; exact rfl; exact rfl; exact rfl; exact rfl; exact rfl)
              | (apply wl_gsplit; exact rfl; exact rfl; exact rfl; exact rfl; all_goals (intro h; (try simp only [reduceCtorEq, not_true_eq_false, not_false_eq_true, decide_eq_true_eq, decide_eq_false_iff_not, Bool.not_eq_true', Bool.not_eq_false', Bool.not_true, Bool.not_false, Int.not_lt, Int.not_le, ne_eq, Decidable.not_not] at h); (try (exfalso; omega))))
              | (apply wl_rem; exact rfl; exact rfl; omega; exact rfl)
              | (apply wl_row; (iterate 7 (exact rfl)); intro b1)
              | (apply wl_box; exact rfl; exact rfl; exact rfl; intro b1))
            | (show WC _ _ _ _ _ _; first
              | refine WC.seq ?_
              | (apply WC.region; exact rfl)
              | (apply WC.condT; exact rfl)
              | (apply WC.condF; exact rfl)
              | (apply WC.cond; exact rfl; all_goals (intro h; (try simp only [reduceCtorEq, not_true_eq_false, not_false_eq_true, decide_eq_true_eq, decide_eq_false_iff_not, Bool.not_eq_true', Bool.not_eq_false', Bool.not_true, Bool.not_false, Int.not_lt, Int.not_le, ne_eq, Decidable.not_not] at h); (try (exfalso; omega))))
              | refine WC.block ?_
              | refine WC.skip ?_
              | refine WC.ret ?_
              | refine WC.exit ?_)
            | refine Qseq.nm ?_
            | refine Qseq.r ?_
            | refine Qseq.x ?_
            | refine Qblock.nm ?_
            | refine Qblock.r ?_
            | (apply Qblock.t; exact rfl)
            | (apply Qblock.f; exact rfl)
            | refine Qmx.r ?_
            | refine Qmx.nm ?_
            | (apply Qmx.f; exact rfl)
            | refine Qmn.r ?_
            | refine Qmn.x ?_
            | refine Qloop.r ?_
            | refine Qloop.x ?_
            | (apply Qfn.one; exact rfl)
            | (apply Qfn.two; exact rfl; exact rfl)
            | (apply Qfn.three; exact rfl; exact rfl; exact rfl)
            | refine Qfn.zero ?_
            | refine Qfn.zeroN ?_)
          exact Qloop.againU (20 - (i + 1)) (by omega) ⟨i + 1, r', ⟨by omega, hrb, hra⟩, rfl, rfl, rfl⟩ (by repeat (first | exact trivial | refine ⟨rfl, ?_⟩)) (by repeat (first | exact Take.nil | (apply Take.keepI; focus ((repeat (first | exact Pick.here | apply Pick.there)); done)) | (apply Take.cons; focus ((repeat (first | exact Pick.here | apply Pick.there)); done)) | (apply Take.pure; (first | assumption | omega))))
      all_goals exact Qmx.hitU ⟨rfl, rfl⟩ (by repeat (first | exact trivial | refine ⟨rfl, ?_⟩)) (by repeat (first | exact Take.nil | (apply Take.keepI; focus ((repeat (first | exact Pick.here | apply Pick.there)); done)) | (apply Take.cons; focus ((repeat (first | exact Pick.here | apply Pick.there)); done)) | (apply Take.pure; (first | assumption | omega))))
    · rintro _ _ ⟨rfl, rfl⟩
      repeat' (first
        | (show WL _ _ _ _ _ _ _; first
          | (apply wl_calc; exact rfl; exact True.intro; exact rfl)
          | refine WL.nil ?_
          | (apply wl_ld; exact rfl; exact rfl; ((repeat (first | exact Pick.here | apply Pick.there))); exact rfl; exact rfl)
          | (apply wl_calc; exact rfl; ((try simp only [inR]); omega); exact rfl)
          | (apply wl_store; exact rfl; exact rfl; exact rfl; ((repeat (first | exact Pick.here | apply Pick.there))); exact rfl)
          | (apply wl_ixI; exact rfl; exact rfl; exact rfl; exact rfl; exact rfl; ((repeat (first | exact Pick.here | apply Pick.there))); exact rfl; exact rfl; omega; exact rfl)
          | (apply wl_ldEI; exact rfl; exact rfl; ((repeat (first | exact Pick.here | apply Pick.there))); exact rfl; assumption; exact rfl; exact rfl)
          | (apply wl_fldE; exact rfl; exact rfl; exact rfl; exact rfl; exact rfl)
          | (apply wl_ixO; exact rfl; exact rfl; exact rfl; exact rfl; exact rfl; ((repeat (first | exact Pick.here | apply Pick.there))); exact rfl; exact rfl; omega; exact rfl)
          | (apply wl_ldEO; exact rfl; exact rfl; ((repeat (first | exact Pick.here | apply Pick.there))); exact rfl; assumption; exact rfl; exact rfl)
          | (apply wl_guard; exact rfl; exact rfl; exact rfl; exact rfl)
          | (apply wl_gno; exact rfl; exact rfl; exact rfl; exact rfl; exact rfl)
          | (apply wl_gsplit; exact rfl; exact rfl; exact rfl; exact rfl; all_goals (intro h; (try simp only [reduceCtorEq, not_true_eq_false, not_false_eq_true, decide_eq_true_eq, decide_eq_false_iff_not, Bool.not_eq_true', Bool.not_eq_false', Bool.not_true, Bool.not_false, Int.not_lt, Int.not_le, ne_eq, Decidable.not_not] at h); (try (exfalso; omega))))
          | (apply wl_rem; exact rfl; exact rfl; omega; exact rfl)
          | (apply wl_row; (iterate 7 (exact rfl)); intro b1)
          | (apply wl_box; exact rfl; exact rfl; exact rfl; intro b1))
        | (show WC _ _ _ _ _ _; first
          | refine WC.seq ?_
          | (apply WC.region; exact rfl)
          | (apply WC.condT; exact rfl)
          | (apply WC.condF; exact rfl)
          | (apply WC.cond; exact rfl; all_goals (intro h; (try simp only [reduceCtorEq, not_true_eq_false, not_false_eq_true, decide_eq_true_eq, decide_eq_false_iff_not, Bool.not_eq_true', Bool.not_eq_false', Bool.not_true, Bool.not_false, Int.not_lt, Int.not_le, ne_eq, Decidable.not_not] at h); (try (exfalso; omega))))
          | refine WC.block ?_
          | refine WC.skip ?_
          | refine WC.ret ?_
          | refine WC.exit ?_)
        | refine Qseq.nm ?_
        | refine Qseq.r ?_
        | refine Qseq.x ?_
        | refine Qblock.nm ?_
        | refine Qblock.r ?_
        | (apply Qblock.t; exact rfl)
        | (apply Qblock.f; exact rfl)
        | refine Qmx.r ?_
        | refine Qmx.nm ?_
        | (apply Qmx.f; exact rfl)
        | refine Qmn.r ?_
        | refine Qmn.x ?_
        | refine Qloop.r ?_
        | refine Qloop.x ?_
        | (apply Qfn.one; exact rfl)
        | (apply Qfn.two; exact rfl; exact rfl)
        | (apply Qfn.three; exact rfl; exact rfl; exact rfl)
        | refine Qfn.zero ?_
        | refine Qfn.zeroN ?_)
      have hw := wrap_len zs
      (refine wl_call rfl rfl rfl (intact_spec (ys := zs) (by omega)) (by repeat (first | exact Take.nil | (apply Take.keepI; focus ((repeat (first | exact Pick.here | apply Pick.there)); done)) | (apply Take.cons; focus ((repeat (first | exact Pick.here | apply Pick.there)); done)) | (apply Take.pure; (first | assumption | omega)))) ?_)
      rintro _ _ ⟨rfl, rfl⟩
      repeat' (first
        | (show WL _ _ _ _ _ _ _; first
          | (apply wl_calc; exact rfl; exact True.intro; exact rfl)
          | refine WL.nil ?_
          | (apply wl_ld; exact rfl; exact rfl; ((repeat (first | exact Pick.here | apply Pick.there))); exact rfl; exact rfl)
          | (apply wl_calc; exact rfl; ((try simp only [inR]); omega); exact rfl)
          | (apply wl_store; exact rfl; exact rfl; exact rfl; ((repeat (first | exact Pick.here | apply Pick.there))); exact rfl)
          | (apply wl_ixI; exact rfl; exact rfl; exact rfl; exact rfl; exact rfl; ((repeat (first | exact Pick.here | apply Pick.there))); exact rfl; exact rfl; omega; exact rfl)
          | (apply wl_ldEI; exact rfl; exact rfl; ((repeat (first | exact Pick.here | apply Pick.there))); exact rfl; assumption; exact rfl; exact rfl)
          | (apply wl_fldE; exact rfl; exact rfl; exact rfl; exact rfl; exact rfl)
          | (apply wl_ixO; exact rfl; exact rfl; exact rfl; exact rfl; exact rfl; ((repeat (first | exact Pick.here | apply Pick.there))); exact rfl; exact rfl; omega; exact rfl)
          | (apply wl_ldEO; exact rfl; exact rfl; ((repeat (first | exact Pick.here | apply Pick.there))); exact rfl; assumption; exact rfl; exact rfl)
          | (apply wl_guard; exact rfl; exact rfl; exact rfl; exact rfl)
          | (apply wl_gno; exact rfl; exact rfl; exact rfl; exact rfl; exact rfl)
          | (apply wl_gsplit; exact rfl; exact rfl; exact rfl; exact rfl; all_goals (intro h; (try simp only [reduceCtorEq, not_true_eq_false, not_false_eq_true, decide_eq_true_eq, decide_eq_false_iff_not, Bool.not_eq_true', Bool.not_eq_false', Bool.not_true, Bool.not_false, Int.not_lt, Int.not_le, ne_eq, Decidable.not_not] at h); (try (exfalso; omega))))
          | (apply wl_rem; exact rfl; exact rfl; omega; exact rfl)
          | (apply wl_row; (iterate 7 (exact rfl)); intro b1)
          | (apply wl_box; exact rfl; exact rfl; exact rfl; intro b1))
        | (show WC _ _ _ _ _ _; first
          | refine WC.seq ?_
          | (apply WC.region; exact rfl)
          | (apply WC.condT; exact rfl)
          | (apply WC.condF; exact rfl)
          | (apply WC.cond; exact rfl; all_goals (intro h; (try simp only [reduceCtorEq, not_true_eq_false, not_false_eq_true, decide_eq_true_eq, decide_eq_false_iff_not, Bool.not_eq_true', Bool.not_eq_false', Bool.not_true, Bool.not_false, Int.not_lt, Int.not_le, ne_eq, Decidable.not_not] at h); (try (exfalso; omega))))
          | refine WC.block ?_
          | refine WC.skip ?_
          | refine WC.ret ?_
          | refine WC.exit ?_)
        | refine Qseq.nm ?_
        | refine Qseq.r ?_
        | refine Qseq.x ?_
        | refine Qblock.nm ?_
        | refine Qblock.r ?_
        | (apply Qblock.t; exact rfl)
        | (apply Qblock.f; exact rfl)
        | refine Qmx.r ?_
        | refine Qmx.nm ?_
        | (apply Qmx.f; exact rfl)
        | refine Qmn.r ?_
        | refine Qmn.x ?_
        | refine Qloop.r ?_
        | refine Qloop.x ?_
        | (apply Qfn.one; exact rfl)
        | (apply Qfn.two; exact rfl; exact rfl)
        | (apply Qfn.three; exact rfl; exact rfl; exact rfl)
        | refine Qfn.zero ?_
        | refine Qfn.zeroN ?_)
      (refine wl_call rfl rfl rfl (pack_spec (a := a1) (c := c1) (xs := zs) (by omega)) (by repeat (first | exact Take.nil | (apply Take.keepI; focus ((repeat (first | exact Pick.here | apply Pick.there)); done)) | (apply Take.cons; focus ((repeat (first | exact Pick.here | apply Pick.there)); done)) | (apply Take.pure; (first | assumption | omega)))) ?_)
      rintro _ _ ⟨ua, uc, rfl, rfl⟩
      refine WL.ent OSl.share ?_
      repeat' (first
        | (show WL _ _ _ _ _ _ _; first
          | (apply wl_calc; exact rfl; exact True.intro; exact rfl)
          | refine WL.nil ?_
          | (apply wl_ld; exact rfl; exact rfl; ((repeat (first | exact Pick.here | apply Pick.there))); exact rfl; exact rfl)
          | (apply wl_calc; exact rfl; ((try simp only [inR]); omega); exact rfl)
          | (apply wl_store; exact rfl; exact rfl; exact rfl; ((repeat (first | exact Pick.here | apply Pick.there))); exact rfl)
          | (apply wl_ixI; exact rfl; exact rfl; exact rfl; exact rfl; exact rfl; ((repeat (first | exact Pick.here | apply Pick.there))); exact rfl; exact rfl; omega; exact rfl)
          | (apply wl_ldEI; exact rfl; exact rfl; ((repeat (first | exact Pick.here | apply Pick.there))); exact rfl; assumption; exact rfl; exact rfl)
          | (apply wl_fldE; exact rfl; exact rfl; exact rfl; exact rfl; exact rfl)
          | (apply wl_ixO; exact rfl; exact rfl; exact rfl; exact rfl; exact rfl; ((repeat (first | exact Pick.here | apply Pick.there))); exact rfl; exact rfl; omega; exact rfl)
          | (apply wl_ldEO; exact rfl; exact rfl; ((repeat (first | exact Pick.here | apply Pick.there))); exact rfl; assumption; exact rfl; exact rfl)
          | (apply wl_guard; exact rfl; exact rfl; exact rfl; exact rfl)
          | (apply wl_gno; exact rfl; exact rfl; exact rfl; exact rfl; exact rfl)
          | (apply wl_gsplit; exact rfl; exact rfl; exact rfl; exact rfl; all_goals (intro h; (try simp only [reduceCtorEq, not_true_eq_false, not_false_eq_true, decide_eq_true_eq, decide_eq_false_iff_not, Bool.not_eq_true', Bool.not_eq_false', Bool.not_true, Bool.not_false, Int.not_lt, Int.not_le, ne_eq, Decidable.not_not] at h); (try (exfalso; omega))))
          | (apply wl_rem; exact rfl; exact rfl; omega; exact rfl)
          | (apply wl_row; (iterate 7 (exact rfl)); intro b1)
          | (apply wl_box; exact rfl; exact rfl; exact rfl; intro b1))
        | (show WC _ _ _ _ _ _; first
          | refine WC.seq ?_
          | (apply WC.region; exact rfl)
          | (apply WC.condT; exact rfl)
          | (apply WC.condF; exact rfl)
          | (apply WC.cond; exact rfl; all_goals (intro h; (try simp only [reduceCtorEq, not_true_eq_false, not_false_eq_true, decide_eq_true_eq, decide_eq_false_iff_not, Bool.not_eq_true', Bool.not_eq_false', Bool.not_true, Bool.not_false, Int.not_lt, Int.not_le, ne_eq, Decidable.not_not] at h); (try (exfalso; omega))))
          | refine WC.block ?_
          | refine WC.skip ?_
          | refine WC.ret ?_
          | refine WC.exit ?_)
        | refine Qseq.nm ?_
        | refine Qseq.r ?_
        | refine Qseq.x ?_
        | refine Qblock.nm ?_
        | refine Qblock.r ?_
        | (apply Qblock.t; exact rfl)
        | (apply Qblock.f; exact rfl)
        | refine Qmx.r ?_
        | refine Qmx.nm ?_
        | (apply Qmx.f; exact rfl)
        | refine Qmn.r ?_
        | refine Qmn.x ?_
        | refine Qloop.r ?_
        | refine Qloop.x ?_
        | (apply Qfn.one; exact rfl)
        | (apply Qfn.two; exact rfl; exact rfl)
        | (apply Qfn.three; exact rfl; exact rfl; exact rfl)
        | refine Qfn.zero ?_
        | refine Qfn.zeroN ?_)
      (refine wl_call rfl rfl rfl (wrap_spec (a := a1) (c := c1) (xs := zs) (by omega)) (by repeat (first | exact Take.nil | (apply Take.keepI; focus ((repeat (first | exact Pick.here | apply Pick.there)); done)) | (apply Take.cons; focus ((repeat (first | exact Pick.here | apply Pick.there)); done)) | (apply Take.pure; (first | assumption | omega)))) ?_)
      rintro _ _ ⟨va, vc, rfl, rfl⟩
      refine WL.ent OSl.share ?_
      repeat' (first
        | (show WL _ _ _ _ _ _ _; first
          | (apply wl_calc; exact rfl; exact True.intro; exact rfl)
          | refine WL.nil ?_
          | (apply wl_ld; exact rfl; exact rfl; ((repeat (first | exact Pick.here | apply Pick.there))); exact rfl; exact rfl)
          | (apply wl_calc; exact rfl; ((try simp only [inR]); omega); exact rfl)
          | (apply wl_store; exact rfl; exact rfl; exact rfl; ((repeat (first | exact Pick.here | apply Pick.there))); exact rfl)
          | (apply wl_ixI; exact rfl; exact rfl; exact rfl; exact rfl; exact rfl; ((repeat (first | exact Pick.here | apply Pick.there))); exact rfl; exact rfl; omega; exact rfl)
          | (apply wl_ldEI; exact rfl; exact rfl; ((repeat (first | exact Pick.here | apply Pick.there))); exact rfl; assumption; exact rfl; exact rfl)
          | (apply wl_fldE; exact rfl; exact rfl; exact rfl; exact rfl; exact rfl)
          | (apply wl_ixO; exact rfl; exact rfl; exact rfl; exact rfl; exact rfl; ((repeat (first | exact Pick.here | apply Pick.there))); exact rfl; exact rfl; omega; exact rfl)
          | (apply wl_ldEO; exact rfl; exact rfl; ((repeat (first | exact Pick.here | apply Pick.there))); exact rfl; assumption; exact rfl; exact rfl)
          | (apply wl_guard; exact rfl; exact rfl; exact rfl; exact rfl)
          | (apply wl_gno; exact rfl; exact rfl; exact rfl; exact rfl; exact rfl)
          | (apply wl_gsplit; exact rfl; exact rfl; exact rfl; exact rfl; all_goals (intro h; (try simp only [reduceCtorEq, not_true_eq_false, not_false_eq_true, decide_eq_true_eq, decide_eq_false_iff_not, Bool.not_eq_true', Bool.not_eq_false', Bool.not_true, Bool.not_false, Int.not_lt, Int.not_le, ne_eq, Decidable.not_not] at h); (try (exfalso; omega))))
          | (apply wl_rem; exact rfl; exact rfl; omega; exact rfl)
          | (apply wl_row; (iterate 7 (exact rfl)); intro b1)
          | (apply wl_box; exact rfl; exact rfl; exact rfl; intro b1))
        | (show WC _ _ _ _ _ _; first
          | refine WC.seq ?_
          | (apply WC.region; exact rfl)
          | (apply WC.condT; exact rfl)
          | (apply WC.condF; exact rfl)
          | (apply WC.cond; exact rfl; all_goals (intro h; (try simp only [reduceCtorEq, not_true_eq_false, not_false_eq_true, decide_eq_true_eq, decide_eq_false_iff_not, Bool.not_eq_true', Bool.not_eq_false', Bool.not_true, Bool.not_false, Int.not_lt, Int.not_le, ne_eq, Decidable.not_not] at h); (try (exfalso; omega))))
          | refine WC.block ?_
          | refine WC.skip ?_
          | refine WC.ret ?_
          | refine WC.exit ?_)
        | refine Qseq.nm ?_
        | refine Qseq.r ?_
        | refine Qseq.x ?_
        | refine Qblock.nm ?_
        | refine Qblock.r ?_
        | (apply Qblock.t; exact rfl)
        | (apply Qblock.f; exact rfl)
        | refine Qmx.r ?_
        | refine Qmx.nm ?_
        | (apply Qmx.f; exact rfl)
        | refine Qmn.r ?_
        | refine Qmn.x ?_
        | refine Qloop.r ?_
        | refine Qloop.x ?_
        | (apply Qfn.one; exact rfl)
        | (apply Qfn.two; exact rfl; exact rfl)
        | (apply Qfn.three; exact rfl; exact rfl; exact rfl)
        | refine Qfn.zero ?_
        | refine Qfn.zeroN ?_)
      (refine wl_call rfl rfl rfl (same_spec (xs := wrapM zs) (ys := wrapM zs) (by omega) (by omega)) (by repeat (first | exact Take.nil | (apply Take.keepI; focus ((repeat (first | exact Pick.here | apply Pick.there)); done)) | (apply Take.cons; focus ((repeat (first | exact Pick.here | apply Pick.there)); done)) | (apply Take.pure; (first | assumption | omega)))) ?_)
      rintro _ _ ⟨rfl, rfl⟩
      repeat' (first
        | (show WL _ _ _ _ _ _ _; first
          | (apply wl_calc; exact rfl; exact True.intro; exact rfl)
          | refine WL.nil ?_
          | (apply wl_ld; exact rfl; exact rfl; ((repeat (first | exact Pick.here | apply Pick.there))); exact rfl; exact rfl)
          | (apply wl_calc; exact rfl; ((try simp only [inR]); omega); exact rfl)
          | (apply wl_store; exact rfl; exact rfl; exact rfl; ((repeat (first | exact Pick.here | apply Pick.there))); exact rfl)
          | (apply wl_ixI; exact rfl; exact rfl; exact rfl; exact rfl; exact rfl; ((repeat (first | exact Pick.here | apply Pick.there))); exact rfl; exact rfl; omega; exact rfl)
          | (apply wl_ldEI; exact rfl; exact rfl; ((repeat (first | exact Pick.here | apply Pick.there))); exact rfl; assumption; exact rfl; exact rfl)
          | (apply wl_fldE; exact rfl; exact rfl; exact rfl; exact rfl; exact rfl)
          | (apply wl_ixO; exact rfl; exact rfl; exact rfl; exact rfl; exact rfl; ((repeat (first | exact Pick.here | apply Pick.there))); exact rfl; exact rfl; omega; exact rfl)
          | (apply wl_ldEO; exact rfl; exact rfl; ((repeat (first | exact Pick.here | apply Pick.there))); exact rfl; assumption; exact rfl; exact rfl)
          | (apply wl_guard; exact rfl; exact rfl; exact rfl; exact rfl)
          | (apply wl_gno; exact rfl; exact rfl; exact rfl; exact rfl; exact rfl)
          | (apply wl_gsplit; exact rfl; exact rfl; exact rfl; exact rfl; all_goals (intro h; (try simp only [reduceCtorEq, not_true_eq_false, not_false_eq_true, decide_eq_true_eq, decide_eq_false_iff_not, Bool.not_eq_true', Bool.not_eq_false', Bool.not_true, Bool.not_false, Int.not_lt, Int.not_le, ne_eq, Decidable.not_not] at h); (try (exfalso; omega))))
          | (apply wl_rem; exact rfl; exact rfl; omega; exact rfl)
          | (apply wl_row; (iterate 7 (exact rfl)); intro b1)
          | (apply wl_box; exact rfl; exact rfl; exact rfl; intro b1))
        | (show WC _ _ _ _ _ _; first
          | refine WC.seq ?_
          | (apply WC.region; exact rfl)
          | (apply WC.condT; exact rfl)
          | (apply WC.condF; exact rfl)
          | (apply WC.cond; exact rfl; all_goals (intro h; (try simp only [reduceCtorEq, not_true_eq_false, not_false_eq_true, decide_eq_true_eq, decide_eq_false_iff_not, Bool.not_eq_true', Bool.not_eq_false', Bool.not_true, Bool.not_false, Int.not_lt, Int.not_le, ne_eq, Decidable.not_not] at h); (try (exfalso; omega))))
          | refine WC.block ?_
          | refine WC.skip ?_
          | refine WC.ret ?_
          | refine WC.exit ?_)
        | refine Qseq.nm ?_
        | refine Qseq.r ?_
        | refine Qseq.x ?_
        | refine Qblock.nm ?_
        | refine Qblock.r ?_
        | (apply Qblock.t; exact rfl)
        | (apply Qblock.f; exact rfl)
        | refine Qmx.r ?_
        | refine Qmx.nm ?_
        | (apply Qmx.f; exact rfl)
        | refine Qmn.r ?_
        | refine Qmn.x ?_
        | refine Qloop.r ?_
        | refine Qloop.x ?_
        | (apply Qfn.one; exact rfl)
        | (apply Qfn.two; exact rfl; exact rfl)
        | (apply Qfn.three; exact rfl; exact rfl; exact rfl)
        | refine Qfn.zero ?_
        | refine Qfn.zeroN ?_)
      (refine wl_call rfl rfl rfl (wakes04_spec) (by repeat (first | exact Take.nil | (apply Take.keepI; focus ((repeat (first | exact Pick.here | apply Pick.there)); done)) | (apply Take.cons; focus ((repeat (first | exact Pick.here | apply Pick.there)); done)) | (apply Take.pure; (first | assumption | omega)))) ?_)
      rintro _ _ ⟨rfl, rfl⟩
      repeat' (first
        | (show WL _ _ _ _ _ _ _; first
          | (apply wl_calc; exact rfl; exact True.intro; exact rfl)
          | refine WL.nil ?_
          | (apply wl_ld; exact rfl; exact rfl; ((repeat (first | exact Pick.here | apply Pick.there))); exact rfl; exact rfl)
          | (apply wl_calc; exact rfl; ((try simp only [inR]); omega); exact rfl)
          | (apply wl_store; exact rfl; exact rfl; exact rfl; ((repeat (first | exact Pick.here | apply Pick.there))); exact rfl)
          | (apply wl_ixI; exact rfl; exact rfl; exact rfl; exact rfl; exact rfl; ((repeat (first | exact Pick.here | apply Pick.there))); exact rfl; exact rfl; omega; exact rfl)
          | (apply wl_ldEI; exact rfl; exact rfl; ((repeat (first | exact Pick.here | apply Pick.there))); exact rfl; assumption; exact rfl; exact rfl)
          | (apply wl_fldE; exact rfl; exact rfl; exact rfl; exact rfl; exact rfl)
          | (apply wl_ixO; exact rfl; exact rfl; exact rfl; exact rfl; exact rfl; ((repeat (first | exact Pick.here | apply Pick.there))); exact rfl; exact rfl; omega; exact rfl)
          | (apply wl_ldEO; exact rfl; exact rfl; ((repeat (first | exact Pick.here | apply Pick.there))); exact rfl; assumption; exact rfl; exact rfl)
          | (apply wl_guard; exact rfl; exact rfl; exact rfl; exact rfl)
          | (apply wl_gno; exact rfl; exact rfl; exact rfl; exact rfl; exact rfl)
          | (apply wl_gsplit; exact rfl; exact rfl; exact rfl; exact rfl; all_goals (intro h; (try simp only [reduceCtorEq, not_true_eq_false, not_false_eq_true, decide_eq_true_eq, decide_eq_false_iff_not, Bool.not_eq_true', Bool.not_eq_false', Bool.not_true, Bool.not_false, Int.not_lt, Int.not_le, ne_eq, Decidable.not_not] at h); (try (exfalso; omega))))
          | (apply wl_rem; exact rfl; exact rfl; omega; exact rfl)
          | (apply wl_row; (iterate 7 (exact rfl)); intro b1)
          | (apply wl_box; exact rfl; exact rfl; exact rfl; intro b1))
        | (show WC _ _ _ _ _ _; first
          | refine WC.seq ?_
          | (apply WC.region; exact rfl)
          | (apply WC.condT; exact rfl)
          | (apply WC.condF; exact rfl)
          | (apply WC.cond; exact rfl; all_goals (intro h; (try simp only [reduceCtorEq, not_true_eq_false, not_false_eq_true, decide_eq_true_eq, decide_eq_false_iff_not, Bool.not_eq_true', Bool.not_eq_false', Bool.not_true, Bool.not_false, Int.not_lt, Int.not_le, ne_eq, Decidable.not_not] at h); (try (exfalso; omega))))
          | refine WC.block ?_
          | refine WC.skip ?_
          | refine WC.ret ?_
          | refine WC.exit ?_)
        | refine Qseq.nm ?_
        | refine Qseq.r ?_
        | refine Qseq.x ?_
        | refine Qblock.nm ?_
        | refine Qblock.r ?_
        | (apply Qblock.t; exact rfl)
        | (apply Qblock.f; exact rfl)
        | refine Qmx.r ?_
        | refine Qmx.nm ?_
        | (apply Qmx.f; exact rfl)
        | refine Qmn.r ?_
        | refine Qmn.x ?_
        | refine Qloop.r ?_
        | refine Qloop.x ?_
        | (apply Qfn.one; exact rfl)
        | (apply Qfn.two; exact rfl; exact rfl)
        | (apply Qfn.three; exact rfl; exact rfl; exact rfl)
        | refine Qfn.zero ?_
        | refine Qfn.zeroN ?_)
      exact ⟨[], Ent.nil _, by simp, rfl⟩
end Go.Proofs.Ytidmolpkcfhkaaa
