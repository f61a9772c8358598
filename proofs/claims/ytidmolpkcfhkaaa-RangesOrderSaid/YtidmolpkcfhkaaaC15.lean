/- Contracts: sets of places. -/
import Derived.Test.YtidmolpkcfhkaaaK18
import Derived.Test.YtidmolpkcfhkaaaM2
import Derived.Test.YtidmolpkcfhkaaaC1
namespace Go.Proofs.Ytidmolpkcfhkaaa
set_option linter.unusedSectionVars false
set_option linter.unusedVariables false
set_option linter.unusedSimpArgs false
open Go
def ER : Enc Rg := { sz := 2, f := fun x => [.int .i64 x.1, .int .i64 x.2], len := fun _ => rfl, one := fun _ => rfl, ok := fun _ => True }
def SETc (a : Option Addr) (c : Nat) (l : List Rg) : List Value := [.slice a l.length c]
theorem count_le : ∀ {l : List Rg}, Canon l → 0 ≤ countM l ∧ countM l ≤ 1099511627776
  | [], _ => by simp [countM]
  | [r], h => by have := h.head; unfold RgOk at this; simp [countM]; omega
  | r :: q :: l, h => by
    have ih := count_le h.tail
    have key : ∀ {q : Rg} {l : List Rg}, Canon (q :: l) → countM (q :: l) ≤ 1099511627776 - q.1 := by
      intro q l
      induction l generalizing q with
      | nil => intro h; have := h.head; unfold RgOk at this; simp [countM]; omega
      | cons s l ih =>
        intro h
        have h1 := ih h.tail
        have h2 := h.head
        have h3 := (List.pairwise_cons.1 h.sep).1 s (by simp)
        unfold RgOk at h2
        have h4 : countM (q :: s :: l) = (q.2 - q.1) + countM (s :: l) := by simp [countM]
        omega
    have h1 := key h
    have h2 := h.head
    unfold RgOk at h2
    have h4 : countM (r :: q :: l) = (r.2 - r.1) + countM (q :: l) := by simp [countM]
    omega
theorem count_take {l : List Rg} {i : Nat} {x : Rg} (h : l[(i : Int).toNat]? = some x) : countM (l.take (i + 1)) = countM (l.take i) + (x.2 - x.1) := by
  rw [takeI h]; simp [countM]
theorem Canon.take {l : List Rg} (h : Canon l) (i : Nat) : Canon (l.take i) := ⟨fun r hr => h.ok r (List.mem_of_mem_take hr), h.sep.sublist (List.take_sublist i l)⟩
attribute [local irreducible] Decidable.decide Qfn Qseq Qblock Qloop Qmx Qmn WL WC OpT Pick Ent QuietT WT WA ISl OSl Blk IBlk
variable {P : Program} [hP : IsP P]
instance eqRg : EqS2 P 87 := by
  rw [hP.eq]
  exact EqS2.of (by kernel_rfl) (by kernel_rfl) (by kernel_rfl) (by kernel_rfl) (by kernel_rfl)
theorem snew_spec : Spec P 67 [] [] fun r R => ∃ b, r = .pointer (some ⟨b, 0, none⟩) ∧ R = [Blk b 114 (SETc none 0 [])] := by
  refine Spec.of (fn := Try.f67) (by rw [hP.eq]; exact Try.func67) (by kernel_rfl) rfl Try.ntmps67 rfl rfl ?_
  repeat' (first
    | (show WL _ _ _ _ _ _ _; first
      | (apply wl_calc; exact rfl; exact True.intro; exact rfl)
      | refine WL.nil ?_
      | (apply wl_ld; exact rfl; exact rfl; ((repeat (first | exact Pick.here | apply Pick.there))); exact rfl; exact rfl)
      | (apply wl_calc; exact rfl; ((try simp only [inR]); omega); exact rfl)
      | (apply wl_store; exact rfl; exact rfl; exact rfl; ((repeat (first | exact Pick.here | apply Pick.there))); exact rfl)
      | (apply wl_ixI; exact rfl; exact rfl; exact rfl; exact rfl; exact rfl; ((repeat (first | exact Pick.here | apply Pick.there))); exact rfl; (first | exact rfl | omega); omega; exact rfl)
      | (apply wl_ldEI; exact rfl; exact rfl; ((repeat (first | exact Pick.here | apply Pick.there))); exact rfl; assumption; exact rfl; exact rfl)
      | (apply wl_fldE; exact rfl; exact rfl; exact rfl; exact rfl; exact rfl)
      | (apply wl_ixO; exact rfl; exact rfl; exact rfl; exact rfl; exact rfl; ((repeat (first | exact Pick.here | apply Pick.there))); exact rfl; (first | exact rfl | omega); omega; exact rfl)
      | (apply wl_ldEO; exact rfl; exact rfl; ((repeat (first | exact Pick.here | apply Pick.there))); exact rfl; assumption; exact rfl; exact rfl)
      | (apply wl_guard; exact rfl; exact rfl; exact rfl; exact rfl)
      | (apply wl_gno; exact rfl; exact rfl; exact rfl; exact rfl; exact rfl)
      | (apply wl_gsplit; exact rfl; exact rfl; exact rfl; exact rfl; all_goals (intro h; (try simp only [reduceCtorEq, not_true_eq_false, not_false_eq_true, decide_eq_true_eq, decide_eq_false_iff_not, Bool.not_eq_true', Bool.not_eq_false', Bool.not_true, Bool.not_false, Int.not_lt, Int.not_le, ne_eq, Decidable.not_not] at h); (try (exfalso; omega))))
      | (apply wl_rem; exact rfl; exact rfl; omega; exact rfl)
      | (apply wl_row; (iterate 7 (exact rfl)); intro b1)
      | (apply wl_box; exact rfl; exact rfl; exact rfl; intro b1)
      | (apply wl_alloc; exact rfl; exact rfl; intro b1)
      | (apply wl_eqlS; exact rfl; exact rfl; exact rfl)
      | (apply wl_neqS; exact rfl; exact rfl; exact rfl))
    | (show WC _ _ _ _ _ _; first
      | refine WC.seq ?_
      | (apply WC.region; exact rfl)
      | (apply WC.condT; exact rfl)
      | (apply WC.condF; exact rfl)
      | (apply WC.cond; exact rfl; all_goals (intro h; (try simp only [reduceCtorEq, not_true_eq_false, not_false_eq_true, decide_eq_true_eq, decide_eq_false_iff_not, Bool.not_eq_true', Bool.not_eq_false', Bool.not_true, Bool.not_false, Int.not_lt, Int.not_le, ne_eq, Decidable.not_not] at h); (try (exfalso; omega))))
      | refine WC.block ?_
      | refine WC.skip ?_
      | refine WC.ret ?_
      | refine WC.exit ?_)
    | refine Qseq.nm ?_
    | refine Qseq.r ?_
    | refine Qseq.x ?_
    | refine Qblock.nm ?_
    | refine Qblock.r ?_
    | (apply Qblock.t; exact rfl)
    | (apply Qblock.f; exact rfl)
    | refine Qmx.r ?_
    | refine Qmx.nm ?_
    | (apply Qmx.f; exact rfl)
    | refine Qmn.r ?_
    | refine Qmn.x ?_
    | refine Qloop.r ?_
    | refine Qloop.x ?_
    | (apply Qfn.one; exact rfl)
    | (apply Qfn.two; exact rfl; exact rfl)
    | (apply Qfn.three; exact rfl; exact rfl; exact rfl)
    | (apply Qfn.cellt; exact rfl; exact rfl; ((repeat (first | exact Pick.here | apply Pick.there))); exact rfl; exact rfl)
    | refine Qfn.zero ?_
    | refine Qfn.zeroN ?_)
  exact ⟨_, Ent.refl _, b1, rfl, rfl⟩
theorem swithin_spec (f t : Int) : Spec P 96 [.int .i64 f, .int .i64 t] [] fun r R => r = .tuple ⟨[.int .i64 (max 0 f), .int .i64 (min t 1099511627776)]⟩ ∧ R = [] := by
  refine Spec.of (fn := Try.f96) (by rw [hP.eq]; exact Try.func96) (by kernel_rfl) rfl Try.ntmps96 rfl rfl ?_
  repeat' (first
    | (show WL _ _ _ _ _ _ _; first
      | (apply wl_calc; exact rfl; exact True.intro; exact rfl)
      | refine WL.nil ?_
      | (apply wl_ld; exact rfl; exact rfl; ((repeat (first | exact Pick.here | apply Pick.there))); exact rfl; exact rfl)
      | (apply wl_calc; exact rfl; ((try simp only [inR]); omega); exact rfl)
      | (apply wl_store; exact rfl; exact rfl; exact rfl; ((repeat (first | exact Pick.here | apply Pick.there))); exact rfl)
      | (apply wl_ixI; exact rfl; exact rfl; exact rfl; exact rfl; exact rfl; ((repeat (first | exact Pick.here | apply Pick.there))); exact rfl; (first | exact rfl | omega); omega; exact rfl)
      | (apply wl_ldEI; exact rfl; exact rfl; ((repeat (first | exact Pick.here | apply Pick.there))); exact rfl; assumption; exact rfl; exact rfl)
      | (apply wl_fldE; exact rfl; exact rfl; exact rfl; exact rfl; exact rfl)
      | (apply wl_ixO; exact rfl; exact rfl; exact rfl; exact rfl; exact rfl; ((repeat (first | exact Pick.here | apply Pick.there))); exact rfl; (first | exact rfl | omega); omega; exact rfl)
      | (apply wl_ldEO; exact rfl; exact rfl; ((repeat (first | exact Pick.here | apply Pick.there))); exact rfl; assumption; exact rfl; exact rfl)
      | (apply wl_guard; exact rfl; exact rfl; exact rfl; exact rfl)
      | (apply wl_gno; exact rfl; exact rfl; exact rfl; exact rfl; exact rfl)
      | (apply wl_gsplit; exact rfl; exact rfl; exact rfl; exact rfl; all_goals (intro h; (try simp only [reduceCtorEq, not_true_eq_false, not_false_eq_true, decide_eq_true_eq, decide_eq_false_iff_not, Bool.not_eq_true', Bool.not_eq_false', Bool.not_true, Bool.not_false, Int.not_lt, Int.not_le, ne_eq, Decidable.not_not] at h); (try (exfalso; omega))))
      | (apply wl_rem; exact rfl; exact rfl; omega; exact rfl)
      | (apply wl_row; (iterate 7 (exact rfl)); intro b1)
      | (apply wl_box; exact rfl; exact rfl; exact rfl; intro b1)
      | (apply wl_alloc; exact rfl; exact rfl; intro b1)
      | (apply wl_eqlS; exact rfl; exact rfl; exact rfl)
      | (apply wl_neqS; exact rfl; exact rfl; exact rfl))
    | (show WC _ _ _ _ _ _; first
      | refine WC.seq ?_
      | (apply WC.region; exact rfl)
      | (apply WC.condT; exact rfl)
      | (apply WC.condF; exact rfl)
      | (apply WC.cond; exact rfl; all_goals (intro h; (try simp only [reduceCtorEq, not_true_eq_false, not_false_eq_true, decide_eq_true_eq, decide_eq_false_iff_not, Bool.not_eq_true', Bool.not_eq_false', Bool.not_true, Bool.not_false, Int.not_lt, Int.not_le, ne_eq, Decidable.not_not] at h); (try (exfalso; omega))))
      | refine WC.block ?_
      | refine WC.skip ?_
      | refine WC.ret ?_
      | refine WC.exit ?_)
    | refine Qseq.nm ?_
    | refine Qseq.r ?_
    | refine Qseq.x ?_
    | refine Qblock.nm ?_
    | refine Qblock.r ?_
    | (apply Qblock.t; exact rfl)
    | (apply Qblock.f; exact rfl)
    | refine Qmx.r ?_
    | refine Qmx.nm ?_
    | (apply Qmx.f; exact rfl)
    | refine Qmn.r ?_
    | refine Qmn.x ?_
    | refine Qloop.r ?_
    | refine Qloop.x ?_
    | (apply Qfn.one; exact rfl)
    | (apply Qfn.two; exact rfl; exact rfl)
    | (apply Qfn.three; exact rfl; exact rfl; exact rfl)
    | (apply Qfn.cellt; exact rfl; exact rfl; ((repeat (first | exact Pick.here | apply Pick.there))); exact rfl; exact rfl)
    | refine Qfn.zero ?_
    | refine Qfn.zeroN ?_)
  exact ⟨_, Ent.refl _, rfl, rfl⟩
theorem sclone_spec {a : Option Addr} {c : Nat} {l : List Rg} (hl : l.length ≤ 1000000) : Spec P 100 [.slice a l.length c] [ISl ER a c l] fun r R => ∃ a' c', r = .slice a' l.length c' ∧ R = [OSl ER 87 a' c' l] := by
  refine Spec.fact (fn_ok (fn := Try.f100) (by rw [hP.eq]; exact Try.func100) (by kernel_rfl) rfl) (by (repeat (first | exact Pick.here | apply Pick.there))) ISl.facts ?_
  rintro ⟨hx, hc, hn⟩
  refine Spec.of (fn := Try.f100) (by rw [hP.eq]; exact Try.func100) (by kernel_rfl) rfl Try.ntmps100 rfl rfl ?_
  repeat' (first
    | (show WL _ _ _ _ _ _ _; first
      | (apply wl_calc; exact rfl; exact True.intro; exact rfl)
      | refine WL.nil ?_
      | (apply wl_ld; exact rfl; exact rfl; ((repeat (first | exact Pick.here | apply Pick.there))); exact rfl; exact rfl)
      | (apply wl_calc; exact rfl; ((try simp only [inR]); omega); exact rfl)
      | (apply wl_store; exact rfl; exact rfl; exact rfl; ((repeat (first | exact Pick.here | apply Pick.there))); exact rfl)
      | (apply wl_ixI; exact rfl; exact rfl; exact rfl; exact rfl; exact rfl; ((repeat (first | exact Pick.here | apply Pick.there))); exact rfl; (first | exact rfl | omega); omega; exact rfl)
      | (apply wl_ldEI; exact rfl; exact rfl; ((repeat (first | exact Pick.here | apply Pick.there))); exact rfl; assumption; exact rfl; exact rfl)
      | (apply wl_fldE; exact rfl; exact rfl; exact rfl; exact rfl; exact rfl)
      | (apply wl_ixO; exact rfl; exact rfl; exact rfl; exact rfl; exact rfl; ((repeat (first | exact Pick.here | apply Pick.there))); exact rfl; (first | exact rfl | omega); omega; exact rfl)
      | (apply wl_ldEO; exact rfl; exact rfl; ((repeat (first | exact Pick.here | apply Pick.there))); exact rfl; assumption; exact rfl; exact rfl)
      | (apply wl_guard; exact rfl; exact rfl; exact rfl; exact rfl)
      | (apply wl_gno; exact rfl; exact rfl; exact rfl; exact rfl; exact rfl)
      | (apply wl_gsplit; exact rfl; exact rfl; exact rfl; exact rfl; all_goals (intro h; (try simp only [reduceCtorEq, not_true_eq_false, not_false_eq_true, decide_eq_true_eq, decide_eq_false_iff_not, Bool.not_eq_true', Bool.not_eq_false', Bool.not_true, Bool.not_false, Int.not_lt, Int.not_le, ne_eq, Decidable.not_not] at h); (try (exfalso; omega))))
      | (apply wl_rem; exact rfl; exact rfl; omega; exact rfl)
      | (apply wl_row; (iterate 7 (exact rfl)); intro b1)
      | (apply wl_box; exact rfl; exact rfl; exact rfl; intro b1)
      | (apply wl_alloc; exact rfl; exact rfl; intro b1)
      | (apply wl_eqlS; exact rfl; exact rfl; exact rfl)
      | (apply wl_neqS; exact rfl; exact rfl; exact rfl))
    | (show WC _ _ _ _ _ _; first
      | refine WC.seq ?_
      | (apply WC.region; exact rfl)
      | (apply WC.condT; exact rfl)
      | (apply WC.condF; exact rfl)
      | (apply WC.cond; exact rfl; all_goals (intro h; (try simp only [reduceCtorEq, not_true_eq_false, not_false_eq_true, decide_eq_true_eq, decide_eq_false_iff_not, Bool.not_eq_true', Bool.not_eq_false', Bool.not_true, Bool.not_false, Int.not_lt, Int.not_le, ne_eq, Decidable.not_not] at h); (try (exfalso; omega))))
      | refine WC.block ?_
      | refine WC.skip ?_
      | refine WC.ret ?_
      | refine WC.exit ?_)
    | refine Qseq.nm ?_
    | refine Qseq.r ?_
    | refine Qseq.x ?_
    | refine Qblock.nm ?_
    | refine Qblock.r ?_
    | (apply Qblock.t; exact rfl)
    | (apply Qblock.f; exact rfl)
    | refine Qmx.r ?_
    | refine Qmx.nm ?_
    | (apply Qmx.f; exact rfl)
    | refine Qmn.r ?_
    | refine Qmn.x ?_
    | refine Qloop.r ?_
    | refine Qloop.x ?_
    | (apply Qfn.one; exact rfl)
    | (apply Qfn.two; exact rfl; exact rfl)
    | (apply Qfn.three; exact rfl; exact rfl; exact rfl)
    | (apply Qfn.cellt; exact rfl; exact rfl; ((repeat (first | exact Pick.here | apply Pick.there))); exact rfl; exact rfl)
    | refine Qfn.zero ?_
    | refine Qfn.zeroN ?_)
  · have ha : a = none := by cases a with | none => rfl | some x => cases h
    obtain rfl := hn ha
    exact ⟨_, (OSl.nilE ER 87 _).trans (Take.fin (Pre := [OSl ER 87 none 0 []]) (by repeat (first | exact Take.nil | (apply Take.keepI; focus ((repeat (first | exact Pick.here | apply Pick.there)); done)) | (apply Take.cons; focus ((repeat (first | exact Pick.here | apply Pick.there)); done)) | (apply Take.pure; (first | assumption | omega))))), none, 0, rfl, rfl⟩
  · refine WL.osl ER [] (by (repeat (first | exact Pick.here | apply Pick.there))) rfl rfl (by simp) ?_
    (apply wl_appendI (xs := []) (zs := l); (iterate 6 (exact rfl)); (apply Ent.pick; ((repeat (first | exact Pick.here | apply Pick.there))); exact Ent.refl _); ((repeat (first | exact Pick.here | apply Pick.there))); (iterate 7 (exact rfl)); (show (0 + _) * 16 ≤ _; omega); (rfl); intro a1 c1)
    repeat' (first
      | (show WL _ _ _ _ _ _ _; first
        | (apply wl_calc; exact rfl; exact True.intro; exact rfl)
        | refine WL.nil ?_
        | (apply wl_ld; exact rfl; exact rfl; ((repeat (first | exact Pick.here | apply Pick.there))); exact rfl; exact rfl)
        | (apply wl_calc; exact rfl; ((try simp only [inR]); omega); exact rfl)
        | (apply wl_store; exact rfl; exact rfl; exact rfl; ((repeat (first | exact Pick.here | apply Pick.there))); exact rfl)
        | (apply wl_ixI; exact rfl; exact rfl; exact rfl; exact rfl; exact rfl; ((repeat (first | exact Pick.here | apply Pick.there))); exact rfl; (first | exact rfl | omega); omega; exact rfl)
        | (apply wl_ldEI; exact rfl; exact rfl; ((repeat (first | exact Pick.here | apply Pick.there))); exact rfl; assumption; exact rfl; exact rfl)
        | (apply wl_fldE; exact rfl; exact rfl; exact rfl; exact rfl; exact rfl)
        | (apply wl_ixO; exact rfl; exact rfl; exact rfl; exact rfl; exact rfl; ((repeat (first | exact Pick.here | apply Pick.there))); exact rfl; (first | exact rfl | omega); omega; exact rfl)
        | (apply wl_ldEO; exact rfl; exact rfl; ((repeat (first | exact Pick.here | apply Pick.there))); exact rfl; assumption; exact rfl; exact rfl)
        | (apply wl_guard; exact rfl; exact rfl; exact rfl; exact rfl)
        | (apply wl_gno; exact rfl; exact rfl; exact rfl; exact rfl; exact rfl)
        | (apply wl_gsplit; exact rfl; exact rfl; exact rfl; exact rfl; all_goals (intro h; (try simp only [reduceCtorEq, not_true_eq_false, not_false_eq_true, decide_eq_true_eq, decide_eq_false_iff_not, Bool.not_eq_true', Bool.not_eq_false', Bool.not_true, Bool.not_false, Int.not_lt, Int.not_le, ne_eq, Decidable.not_not] at h); (try (exfalso; omega))))
        | (apply wl_rem; exact rfl; exact rfl; omega; exact rfl)
        | (apply wl_row; (iterate 7 (exact rfl)); intro b1)
        | (apply wl_box; exact rfl; exact rfl; exact rfl; intro b1)
        | (apply wl_alloc; exact rfl; exact rfl; intro b1)
        | (apply wl_eqlS; exact rfl; exact rfl; exact rfl)
        | (apply wl_neqS; exact rfl; exact rfl; exact rfl))
      | (show WC _ _ _ _ _ _; first
        | refine WC.seq ?_
        | (apply WC.region; exact rfl)
        | (apply WC.condT; exact rfl)
        | (apply WC.condF; exact rfl)
        | (apply WC.cond; exact rfl; all_goals (intro h; (try simp only [reduceCtorEq, not_true_eq_false, not_false_eq_true, decide_eq_true_eq, decide_eq_false_iff_not, Bool.not_eq_true', Bool.not_eq_false', Bool.not_true, Bool.not_false, Int.not_lt, Int.not_le, ne_eq, Decidable.not_not] at h); (try (exfalso; omega))))
        | refine WC.block ?_
        | refine WC.skip ?_
        | refine WC.ret ?_
        | refine WC.exit ?_)
      | refine Qseq.nm ?_
      | refine Qseq.r ?_
      | refine Qseq.x ?_
      | refine Qblock.nm ?_
      | refine Qblock.r ?_
      | (apply Qblock.t; exact rfl)
      | (apply Qblock.f; exact rfl)
      | refine Qmx.r ?_
      | refine Qmx.nm ?_
      | (apply Qmx.f; exact rfl)
      | refine Qmn.r ?_
      | refine Qmn.x ?_
      | refine Qloop.r ?_
      | refine Qloop.x ?_
      | (apply Qfn.one; exact rfl)
      | (apply Qfn.two; exact rfl; exact rfl)
      | (apply Qfn.three; exact rfl; exact rfl; exact rfl)
      | (apply Qfn.cellt; exact rfl; exact rfl; ((repeat (first | exact Pick.here | apply Pick.there))); exact rfl; exact rfl)
      | refine Qfn.zero ?_
      | refine Qfn.zeroN ?_)
    exact ⟨_, Take.fin (by repeat (first | exact Take.nil | (apply Take.keepI; focus ((repeat (first | exact Pick.here | apply Pick.there)); done)) | (apply Take.cons; focus ((repeat (first | exact Pick.here | apply Pick.there)); done)) | (apply Take.pure; (first | assumption | omega)))), a1, c1, rfl, rfl⟩
theorem sall_spec {b : Nat} {a : Option Addr} {c : Nat} {l : List Rg} (hl : l.length ≤ 1000000) : Spec P 69 [.pointer (some ⟨b, 0, none⟩)] [Blk b 114 (SETc a c l), ISl ER a c l]
    fun r R => ∃ a' c', r = .slice a' l.length c' ∧ R = [OSl ER 87 a' c' l, Blk b 114 (SETc a c l)] := by
  refine Spec.of (fn := Try.f69) (by rw [hP.eq]; exact Try.func69) (by kernel_rfl) rfl Try.ntmps69 rfl rfl ?_
  repeat' (first
    | (show WL _ _ _ _ _ _ _; first
      | (apply wl_calc; exact rfl; exact True.intro; exact rfl)
      | refine WL.nil ?_
      | (apply wl_ld; exact rfl; exact rfl; ((repeat (first | exact Pick.here | apply Pick.there))); exact rfl; exact rfl)
      | (apply wl_calc; exact rfl; ((try simp only [inR]); omega); exact rfl)
      | (apply wl_store; exact rfl; exact rfl; exact rfl; ((repeat (first | exact Pick.here | apply Pick.there))); exact rfl)
      | (apply wl_ixI; exact rfl; exact rfl; exact rfl; exact rfl; exact rfl; ((repeat (first | exact Pick.here | apply Pick.there))); exact rfl; (first | exact rfl | omega); omega; exact rfl)
      | (apply wl_ldEI; exact rfl; exact rfl; ((repeat (first | exact Pick.here | apply Pick.there))); exact rfl; assumption; exact rfl; exact rfl)
      | (apply wl_fldE; exact rfl; exact rfl; exact rfl; exact rfl; exact rfl)
      | (apply wl_ixO; exact rfl; exact rfl; exact rfl; exact rfl; exact rfl; ((repeat (first | exact Pick.here | apply Pick.there))); exact rfl; (first | exact rfl | omega); omega; exact rfl)
      | (apply wl_ldEO; exact rfl; exact rfl; ((repeat (first | exact Pick.here | apply Pick.there))); exact rfl; assumption; exact rfl; exact rfl)
      | (apply wl_guard; exact rfl; exact rfl; exact rfl; exact rfl)
      | (apply wl_gno; exact rfl; exact rfl; exact rfl; exact rfl; exact rfl)
      | (apply wl_gsplit; exact rfl; exact rfl; exact rfl; exact rfl; all_goals (intro h; (try simp only [reduceCtorEq, not_true_eq_false, not_false_eq_true, decide_eq_true_eq, decide_eq_false_iff_not, Bool.not_eq_true', Bool.not_eq_false', Bool.not_true, Bool.not_false, Int.not_lt, Int.not_le, ne_eq, Decidable.not_not] at h); (try (exfalso; omega))))
      | (apply wl_rem; exact rfl; exact rfl; omega; exact rfl)
      | (apply wl_row; (iterate 7 (exact rfl)); intro b1)
      | (apply wl_box; exact rfl; exact rfl; exact rfl; intro b1)
      | (apply wl_alloc; exact rfl; exact rfl; intro b1)
      | (apply wl_eqlS; exact rfl; exact rfl; exact rfl)
      | (apply wl_neqS; exact rfl; exact rfl; exact rfl))
    | (show WC _ _ _ _ _ _; first
      | refine WC.seq ?_
      | (apply WC.region; exact rfl)
      | (apply WC.condT; exact rfl)
      | (apply WC.condF; exact rfl)
      | (apply WC.cond; exact rfl; all_goals (intro h; (try simp only [reduceCtorEq, not_true_eq_false, not_false_eq_true, decide_eq_true_eq, decide_eq_false_iff_not, Bool.not_eq_true', Bool.not_eq_false', Bool.not_true, Bool.not_false, Int.not_lt, Int.not_le, ne_eq, Decidable.not_not] at h); (try (exfalso; omega))))
      | refine WC.block ?_
      | refine WC.skip ?_
      | refine WC.ret ?_
      | refine WC.exit ?_)
    | refine Qseq.nm ?_
    | refine Qseq.r ?_
    | refine Qseq.x ?_
    | refine Qblock.nm ?_
    | refine Qblock.r ?_
    | (apply Qblock.t; exact rfl)
    | (apply Qblock.f; exact rfl)
    | refine Qmx.r ?_
    | refine Qmx.nm ?_
    | (apply Qmx.f; exact rfl)
    | refine Qmn.r ?_
    | refine Qmn.x ?_
    | refine Qloop.r ?_
    | refine Qloop.x ?_
    | (apply Qfn.one; exact rfl)
    | (apply Qfn.two; exact rfl; exact rfl)
    | (apply Qfn.three; exact rfl; exact rfl; exact rfl)
    | (apply Qfn.cellt; exact rfl; exact rfl; ((repeat (first | exact Pick.here | apply Pick.there))); exact rfl; exact rfl)
    | refine Qfn.zero ?_
    | refine Qfn.zeroN ?_)
  (refine wl_call rfl rfl rfl (sclone_spec (l := l) hl) (by repeat (first | exact Take.nil | (apply Take.keepI; focus ((repeat (first | exact Pick.here | apply Pick.there)); done)) | (apply Take.cons; focus ((repeat (first | exact Pick.here | apply Pick.there)); done)) | (apply Take.pure; (first | assumption | omega)))) ?_)
  rintro _ _ ⟨na, nc, rfl, rfl⟩
  repeat' (first
    | (show WL _ _ _ _ _ _ _; first
      | (apply wl_calc; exact rfl; exact True.intro; exact rfl)
      | refine WL.nil ?_
      | (apply wl_ld; exact rfl; exact rfl; ((repeat (first | exact Pick.here | apply Pick.there))); exact rfl; exact rfl)
      | (apply wl_calc; exact rfl; ((try simp only [inR]); omega); exact rfl)
      | (apply wl_store; exact rfl; exact rfl; exact rfl; ((repeat (first | exact Pick.here | apply Pick.there))); exact rfl)
      | (apply wl_ixI; exact rfl; exact rfl; exact rfl; exact rfl; exact rfl; ((repeat (first | exact Pick.here | apply Pick.there))); exact rfl; (first | exact rfl | omega); omega; exact rfl)
      | (apply wl_ldEI; exact rfl; exact rfl; ((repeat (first | exact Pick.here | apply Pick.there))); exact rfl; assumption; exact rfl; exact rfl)
      | (apply wl_fldE; exact rfl; exact rfl; exact rfl; exact rfl; exact rfl)
      | (apply wl_ixO; exact rfl; exact rfl; exact rfl; exact rfl; exact rfl; ((repeat (first | exact Pick.here | apply Pick.there))); exact rfl; (first | exact rfl | omega); omega; exact rfl)
      | (apply wl_ldEO; exact rfl; exact rfl; ((repeat (first | exact Pick.here | apply Pick.there))); exact rfl; assumption; exact rfl; exact rfl)
      | (apply wl_guard; exact rfl; exact rfl; exact rfl; exact rfl)
      | (apply wl_gno; exact rfl; exact rfl; exact rfl; exact rfl; exact rfl)
      | (apply wl_gsplit; exact rfl; exact rfl; exact rfl; exact rfl; all_goals (intro h; (try simp only [reduceCtorEq, not_true_eq_false, not_false_eq_true, decide_eq_true_eq, decide_eq_false_iff_not, Bool.not_eq_true', Bool.not_eq_false', Bool.not_true, Bool.not_false, Int.not_lt, Int.not_le, ne_eq, Decidable.not_not] at h); (try (exfalso; omega))))
      | (apply wl_rem; exact rfl; exact rfl; omega; exact rfl)
      | (apply wl_row; (iterate 7 (exact rfl)); intro b1)
      | (apply wl_box; exact rfl; exact rfl; exact rfl; intro b1)
      | (apply wl_alloc; exact rfl; exact rfl; intro b1)
      | (apply wl_eqlS; exact rfl; exact rfl; exact rfl)
      | (apply wl_neqS; exact rfl; exact rfl; exact rfl))
    | (show WC _ _ _ _ _ _; first
      | refine WC.seq ?_
      | (apply WC.region; exact rfl)
      | (apply WC.condT; exact rfl)
      | (apply WC.condF; exact rfl)
      | (apply WC.cond; exact rfl; all_goals (intro h; (try simp only [reduceCtorEq, not_true_eq_false, not_false_eq_true, decide_eq_true_eq, decide_eq_false_iff_not, Bool.not_eq_true', Bool.not_eq_false', Bool.not_true, Bool.not_false, Int.not_lt, Int.not_le, ne_eq, Decidable.not_not] at h); (try (exfalso; omega))))
      | refine WC.block ?_
      | refine WC.skip ?_
      | refine WC.ret ?_
      | refine WC.exit ?_)
    | refine Qseq.nm ?_
    | refine Qseq.r ?_
    | refine Qseq.x ?_
    | refine Qblock.nm ?_
    | refine Qblock.r ?_
    | (apply Qblock.t; exact rfl)
    | (apply Qblock.f; exact rfl)
    | refine Qmx.r ?_
    | refine Qmx.nm ?_
    | (apply Qmx.f; exact rfl)
    | refine Qmn.r ?_
    | refine Qmn.x ?_
    | refine Qloop.r ?_
    | refine Qloop.x ?_
    | (apply Qfn.one; exact rfl)
    | (apply Qfn.two; exact rfl; exact rfl)
    | (apply Qfn.three; exact rfl; exact rfl; exact rfl)
    | (apply Qfn.cellt; exact rfl; exact rfl; ((repeat (first | exact Pick.here | apply Pick.there))); exact rfl; exact rfl)
    | refine Qfn.zero ?_
    | refine Qfn.zeroN ?_)
  exact ⟨_, Take.fin (by repeat (first | exact Take.nil | (apply Take.keepI; focus ((repeat (first | exact Pick.here | apply Pick.there)); done)) | (apply Take.cons; focus ((repeat (first | exact Pick.here | apply Pick.there)); done)) | (apply Take.pure; (first | assumption | omega)))), na, nc, rfl, rfl⟩
theorem scount_spec {b : Nat} {a : Option Addr} {c : Nat} {l : List Rg} (hl : l.length ≤ 1000000) (hc : Canon l) : Spec P 70 [.pointer (some ⟨b, 0, none⟩)] [Blk b 114 (SETc a c l), ISl ER a c l]
    fun r R => r = .int .i64 (countM l) ∧ R = [Blk b 114 (SETc a c l)] := by
  refine Spec.of (fn := Try.f70) (by rw [hP.eq]; exact Try.func70) (by kernel_rfl) rfl Try.ntmps70 rfl rfl ?_
  repeat' (first
    | (show WL _ _ _ _ _ _ _; first
      | (apply wl_calc; exact rfl; exact True.intro; exact rfl)
      | refine WL.nil ?_
      | (apply wl_ld; exact rfl; exact rfl; ((repeat (first | exact Pick.here | apply Pick.there))); exact rfl; exact rfl)
      | (apply wl_calc; exact rfl; ((try simp only [inR]); omega); exact rfl)
      | (apply wl_store; exact rfl; exact rfl; exact rfl; ((repeat (first | exact Pick.here | apply Pick.there))); exact rfl)
      | (apply wl_ixI; exact rfl; exact rfl; exact rfl; exact rfl; exact rfl; ((repeat (first | exact Pick.here | apply Pick.there))); exact rfl; (first | exact rfl | omega); omega; exact rfl)
      | (apply wl_ldEI; exact rfl; exact rfl; ((repeat (first | exact Pick.here | apply Pick.there))); exact rfl; assumption; exact rfl; exact rfl)
      | (apply wl_fldE; exact rfl; exact rfl; exact rfl; exact rfl; exact rfl)
      | (apply wl_ixO; exact rfl; exact rfl; exact rfl; exact rfl; exact rfl; ((repeat (first | exact Pick.here | apply Pick.there))); exact rfl; (first | exact rfl | omega); omega; exact rfl)
      | (apply wl_ldEO; exact rfl; exact rfl; ((repeat (first | exact Pick.here | apply Pick.there))); exact rfl; assumption; exact rfl; exact rfl)
      | (apply wl_guard; exact rfl; exact rfl; exact rfl; exact rfl)
      | (apply wl_gno; exact rfl; exact rfl; exact rfl; exact rfl; exact rfl)
      | (apply wl_gsplit; exact rfl; exact rfl; exact rfl; exact rfl; all_goals (intro h; (try simp only [reduceCtorEq, not_true_eq_false, not_false_eq_true, decide_eq_true_eq, decide_eq_false_iff_not, Bool.not_eq_true', Bool.not_eq_false', Bool.not_true, Bool.not_false, Int.not_lt, Int.not_le, ne_eq, Decidable.not_not] at h); (try (exfalso; omega))))
      | (apply wl_rem; exact rfl; exact rfl; omega; exact rfl)
      | (apply wl_row; (iterate 7 (exact rfl)); intro b1)
      | (apply wl_box; exact rfl; exact rfl; exact rfl; intro b1)
      | (apply wl_alloc; exact rfl; exact rfl; intro b1)
      | (apply wl_eqlS; exact rfl; exact rfl; exact rfl)
      | (apply wl_neqS; exact rfl; exact rfl; exact rfl))
    | (show WC _ _ _ _ _ _; first
      | refine WC.seq ?_
      | (apply WC.region; exact rfl)
      | (apply WC.condT; exact rfl)
      | (apply WC.condF; exact rfl)
      | (apply WC.cond; exact rfl; all_goals (intro h; (try simp only [reduceCtorEq, not_true_eq_false, not_false_eq_true, decide_eq_true_eq, decide_eq_false_iff_not, Bool.not_eq_true', Bool.not_eq_false', Bool.not_true, Bool.not_false, Int.not_lt, Int.not_le, ne_eq, Decidable.not_not] at h); (try (exfalso; omega))))
      | refine WC.block ?_
      | refine WC.skip ?_
      | refine WC.ret ?_
      | refine WC.exit ?_)
    | refine Qseq.nm ?_
    | refine Qseq.r ?_
    | refine Qseq.x ?_
    | refine Qblock.nm ?_
    | refine Qblock.r ?_
    | (apply Qblock.t; exact rfl)
    | (apply Qblock.f; exact rfl)
    | refine Qmx.r ?_
    | refine Qmx.nm ?_
    | (apply Qmx.f; exact rfl)
    | refine Qmn.r ?_
    | refine Qmn.x ?_
    | refine Qloop.r ?_
    | refine Qloop.x ?_
    | (apply Qfn.one; exact rfl)
    | (apply Qfn.two; exact rfl; exact rfl)
    | (apply Qfn.three; exact rfl; exact rfl; exact rfl)
    | (apply Qfn.cellt; exact rfl; exact rfl; ((repeat (first | exact Pick.here | apply Pick.there))); exact rfl; exact rfl)
    | refine Qfn.zero ?_
    | refine Qfn.zeroN ?_)
  refine WC.loopU (fun k d D => ∃ i : Nat, (i ≤ l.length) ∧ k = l.length - i ∧ d = [(3, .int .i64 (countM (l.take i))), (11, .int .i64 i)] ∧ D = []) rfl (by repeat (first | exact trivial | refine ⟨rfl, ?_⟩)) (by repeat (first | exact Take.nil | (apply Take.keepI; focus ((repeat (first | exact Pick.here | apply Pick.there)); done)) | (apply Take.cons; focus ((repeat (first | exact Pick.here | apply Pick.there)); done)) | (apply Take.pure; (first | assumption | omega)))) ⟨0, by omega, rfl, rfl, rfl⟩ ?_
  rintro _ _ _ ⟨i, hi, rfl, rfl, rfl⟩
  have hb := count_le (hc.take i)
  repeat' (first
    | (show WL _ _ _ _ _ _ _; first
      | (apply wl_calc; exact rfl; exact True.intro; exact rfl)
      | refine WL.nil ?_
      | (apply wl_ld; exact rfl; exact rfl; ((repeat (first | exact Pick.here | apply Pick.there))); exact rfl; exact rfl)
      | (apply wl_calc; exact rfl; ((try simp only [inR]); omega); exact rfl)
      | (apply wl_store; exact rfl; exact rfl; exact rfl; ((repeat (first | exact Pick.here | apply Pick.there))); exact rfl)
      | (apply wl_ixI; exact rfl; exact rfl; exact rfl; exact rfl; exact rfl; ((repeat (first | exact Pick.here | apply Pick.there))); exact rfl; (first | exact rfl | omega); omega; exact rfl)
      | (apply wl_ldEI; exact rfl; exact rfl; ((repeat (first | exact Pick.here | apply Pick.there))); exact rfl; assumption; exact rfl; exact rfl)
      | (apply wl_fldE; exact rfl; exact rfl; exact rfl; exact rfl; exact rfl)
      | (apply wl_ixO; exact rfl; exact rfl; exact rfl; exact rfl; exact rfl; ((repeat (first | exact Pick.here | apply Pick.there))); exact rfl; (first | exact rfl | omega); omega; exact rfl)
      | (apply wl_ldEO; exact rfl; exact rfl; ((repeat (first | exact Pick.here | apply Pick.there))); exact rfl; assumption; exact rfl; exact rfl)
      | (apply wl_guard; exact rfl; exact rfl; exact rfl; exact rfl)
      | (apply wl_gno; exact rfl; exact rfl; exact rfl; exact rfl; exact rfl)
      | (apply wl_gsplit; exact rfl; exact rfl; exact rfl; exact rfl; all_goals (intro h; (try simp only [reduceCtorEq, not_true_eq_false, not_false_eq_true, decide_eq_true_eq, decide_eq_false_iff_not, Bool.not_eq_true', Bool.not_eq_false', Bool.not_true, Bool.not_false, Int.not_lt, Int.not_le, ne_eq, Decidable.not_not] at h); (try (exfalso; omega))))
      | (apply wl_rem; exact rfl; exact rfl; omega; exact rfl)
      | (apply wl_row; (iterate 7 (exact rfl)); intro b1)
      | (apply wl_box; exact rfl; exact rfl; exact rfl; intro b1)
      | (apply wl_alloc; exact rfl; exact rfl; intro b1)
      | (apply wl_eqlS; exact rfl; exact rfl; exact rfl)
      | (apply wl_neqS; exact rfl; exact rfl; exact rfl))
    | (show WC _ _ _ _ _ _; first
      | refine WC.seq ?_
      | (apply WC.region; exact rfl)
      | (apply WC.condT; exact rfl)
      | (apply WC.condF; exact rfl)
      | (apply WC.cond; exact rfl; all_goals (intro h; (try simp only [reduceCtorEq, not_true_eq_false, not_false_eq_true, decide_eq_true_eq, decide_eq_false_iff_not, Bool.not_eq_true', Bool.not_eq_false', Bool.not_true, Bool.not_false, Int.not_lt, Int.not_le, ne_eq, Decidable.not_not] at h); (try (exfalso; omega))))
      | refine WC.block ?_
      | refine WC.skip ?_
      | refine WC.ret ?_
      | refine WC.exit ?_)
    | refine Qseq.nm ?_
    | refine Qseq.r ?_
    | refine Qseq.x ?_
    | refine Qblock.nm ?_
    | refine Qblock.r ?_
    | (apply Qblock.t; exact rfl)
    | (apply Qblock.f; exact rfl)
    | refine Qmx.r ?_
    | refine Qmx.nm ?_
    | (apply Qmx.f; exact rfl)
    | refine Qmn.r ?_
    | refine Qmn.x ?_
    | refine Qloop.r ?_
    | refine Qloop.x ?_
    | (apply Qfn.one; exact rfl)
    | (apply Qfn.two; exact rfl; exact rfl)
    | (apply Qfn.three; exact rfl; exact rfl; exact rfl)
    | (apply Qfn.cellt; exact rfl; exact rfl; ((repeat (first | exact Pick.here | apply Pick.there))); exact rfl; exact rfl)
    | refine Qfn.zero ?_
    | refine Qfn.zeroN ?_)
  · obtain ⟨x, hx⟩ := getI (i := i) (xs := l) (by omega)
    have hxo := hc.ok x (List.mem_of_getElem? hx)
    unfold RgOk at hxo
    have hct := count_take hx
    repeat' (first
      | (show WL _ _ _ _ _ _ _; first
        | (apply wl_calc; exact rfl; exact True.intro; exact rfl)
        | refine WL.nil ?_
        | (apply wl_ld; exact rfl; exact rfl; ((repeat (first | exact Pick.here | apply Pick.there))); exact rfl; exact rfl)
        | (apply wl_calc; exact rfl; ((try simp only [inR]); omega); exact rfl)
        | (apply wl_store; exact rfl; exact rfl; exact rfl; ((repeat (first | exact Pick.here | apply Pick.there))); exact rfl)
        | (apply wl_ixI; exact rfl; exact rfl; exact rfl; exact rfl; exact rfl; ((repeat (first | exact Pick.here | apply Pick.there))); exact rfl; (first | exact rfl | omega); omega; exact rfl)
        | (apply wl_ldEI; exact rfl; exact rfl; ((repeat (first | exact Pick.here | apply Pick.there))); exact rfl; assumption; exact rfl; exact rfl)
        | (apply wl_fldE; exact rfl; exact rfl; exact rfl; exact rfl; exact rfl)
        | (apply wl_ixO; exact rfl; exact rfl; exact rfl; exact rfl; exact rfl; ((repeat (first | exact Pick.here | apply Pick.there))); exact rfl; (first | exact rfl | omega); omega; exact rfl)
        | (apply wl_ldEO; exact rfl; exact rfl; ((repeat (first | exact Pick.here | apply Pick.there))); exact rfl; assumption; exact rfl; exact rfl)
        | (apply wl_guard; exact rfl; exact rfl; exact rfl; exact rfl)
        | (apply wl_gno; exact rfl; exact rfl; exact rfl; exact rfl; exact rfl)
        | (apply wl_gsplit; exact rfl; exact rfl; exact rfl; exact rfl; all_goals (intro h; (try simp only [reduceCtorEq, not_true_eq_false, not_false_eq_true, decide_eq_true_eq, decide_eq_false_iff_not, Bool.not_eq_true', Bool.not_eq_false', Bool.not_true, Bool.not_false, Int.not_lt, Int.not_le, ne_eq, Decidable.not_not] at h); (try (exfalso; omega))))
        | (apply wl_rem; exact rfl; exact rfl; omega; exact rfl)
        | (apply wl_row; (iterate 7 (exact rfl)); intro b1)
        | (apply wl_box; exact rfl; exact rfl; exact rfl; intro b1)
        | (apply wl_alloc; exact rfl; exact rfl; intro b1)
        | (apply wl_eqlS; exact rfl; exact rfl; exact rfl)
        | (apply wl_neqS; exact rfl; exact rfl; exact rfl))
      | (show WC _ _ _ _ _ _; first
        | refine WC.seq ?_
        | (apply WC.region; exact rfl)
        | (apply WC.condT; exact rfl)
        | (apply WC.condF; exact rfl)
        | (apply WC.cond; exact rfl; all_goals (intro h; (try simp only [reduceCtorEq, not_true_eq_false, not_false_eq_true, decide_eq_true_eq, decide_eq_false_iff_not, Bool.not_eq_true', Bool.not_eq_false', Bool.not_true, Bool.not_false, Int.not_lt, Int.not_le, ne_eq, Decidable.not_not] at h); (try (exfalso; omega))))
        | refine WC.block ?_
        | refine WC.skip ?_
        | refine WC.ret ?_
        | refine WC.exit ?_)
      | refine Qseq.nm ?_
      | refine Qseq.r ?_
      | refine Qseq.x ?_
      | refine Qblock.nm ?_
      | refine Qblock.r ?_
      | (apply Qblock.t; exact rfl)
      | (apply Qblock.f; exact rfl)
      | refine Qmx.r ?_
      | refine Qmx.nm ?_
      | (apply Qmx.f; exact rfl)
      | refine Qmn.r ?_
      | refine Qmn.x ?_
      | refine Qloop.r ?_
      | refine Qloop.x ?_
      | (apply Qfn.one; exact rfl)
      | (apply Qfn.two; exact rfl; exact rfl)
      | (apply Qfn.three; exact rfl; exact rfl; exact rfl)
      | (apply Qfn.cellt; exact rfl; exact rfl; ((repeat (first | exact Pick.here | apply Pick.there))); exact rfl; exact rfl)
      | refine Qfn.zero ?_
      | refine Qfn.zeroN ?_)
    refine Qloop.againU (l.length - (i + 1)) (by omega) ⟨i + 1, by omega, rfl, rfl, rfl⟩ (by rw [hct, show countM (l.take i) + (x.2 - x.1) = countM (l.take i) + x.2 - x.1 by omega]; repeat (first | exact trivial | refine ⟨rfl, ?_⟩)) (by repeat (first | exact Take.nil | (apply Take.keepI; focus ((repeat (first | exact Pick.here | apply Pick.there)); done)) | (apply Take.cons; focus ((repeat (first | exact Pick.here | apply Pick.there)); done)) | (apply Take.pure; (first | assumption | omega))))
  · rw [List.take_of_length_le (by omega)]
    exact ⟨_, Take.fin (by repeat (first | exact Take.nil | (apply Take.keepI; focus ((repeat (first | exact Pick.here | apply Pick.there)); done)) | (apply Take.cons; focus ((repeat (first | exact Pick.here | apply Pick.there)); done)) | (apply Take.pure; (first | assumption | omega)))), rfl, rfl⟩
def firstV : List Rg → Value
  | [] => .tuple ⟨[.agg ⟨[.int .i64 0, .int .i64 0]⟩, .bool false]⟩
  | r :: _ => .tuple ⟨[.agg ⟨[.int .i64 r.1, .int .i64 r.2]⟩, .bool true]⟩
theorem sfirst_spec {b : Nat} {a : Option Addr} {c : Nat} {l : List Rg} : Spec P 71 [.pointer (some ⟨b, 0, none⟩)] [Blk b 114 (SETc a c l), ISl ER a c l]
    fun r R => r = firstV l ∧ R = [Blk b 114 (SETc a c l)] := by
  refine Spec.of (fn := Try.f71) (by rw [hP.eq]; exact Try.func71) (by kernel_rfl) rfl Try.ntmps71 rfl rfl ?_
  repeat' (first
    | (show WL _ _ _ _ _ _ _; first
      | (apply wl_calc; exact rfl; exact True.intro; exact rfl)
      | refine WL.nil ?_
      | (apply wl_ld; exact rfl; exact rfl; ((repeat (first | exact Pick.here | apply Pick.there))); exact rfl; exact rfl)
      | (apply wl_calc; exact rfl; ((try simp only [inR]); omega); exact rfl)
      | (apply wl_store; exact rfl; exact rfl; exact rfl; ((repeat (first | exact Pick.here | apply Pick.there))); exact rfl)
      | (apply wl_ixI; exact rfl; exact rfl; exact rfl; exact rfl; exact rfl; ((repeat (first | exact Pick.here | apply Pick.there))); exact rfl; (first | exact rfl | omega); omega; exact rfl)
      | (apply wl_ldEI; exact rfl; exact rfl; ((repeat (first | exact Pick.here | apply Pick.there))); exact rfl; assumption; exact rfl; exact rfl)
      | (apply wl_fldE; exact rfl; exact rfl; exact rfl; exact rfl; exact rfl)
      | (apply wl_ixO; exact rfl; exact rfl; exact rfl; exact rfl; exact rfl; ((repeat (first | exact Pick.here | apply Pick.there))); exact rfl; (first | exact rfl | omega); omega; exact rfl)
      | (apply wl_ldEO; exact rfl; exact rfl; ((repeat (first | exact Pick.here | apply Pick.there))); exact rfl; assumption; exact rfl; exact rfl)
      | (apply wl_guard; exact rfl; exact rfl; exact rfl; exact rfl)
      | (apply wl_gno; exact rfl; exact rfl; exact rfl; exact rfl; exact rfl)
      | (apply wl_gsplit; exact rfl; exact rfl; exact rfl; exact rfl; all_goals (intro h; (try simp only [reduceCtorEq, not_true_eq_false, not_false_eq_true, decide_eq_true_eq, decide_eq_false_iff_not, Bool.not_eq_true', Bool.not_eq_false', Bool.not_true, Bool.not_false, Int.not_lt, Int.not_le, ne_eq, Decidable.not_not] at h); (try (exfalso; omega))))
      | (apply wl_rem; exact rfl; exact rfl; omega; exact rfl)
      | (apply wl_row; (iterate 7 (exact rfl)); intro b1)
      | (apply wl_box; exact rfl; exact rfl; exact rfl; intro b1)
      | (apply wl_alloc; exact rfl; exact rfl; intro b1)
      | (apply wl_eqlS; exact rfl; exact rfl; exact rfl)
      | (apply wl_neqS; exact rfl; exact rfl; exact rfl))
    | (show WC _ _ _ _ _ _; first
      | refine WC.seq ?_
      | (apply WC.region; exact rfl)
      | (apply WC.condT; exact rfl)
      | (apply WC.condF; exact rfl)
      | (apply WC.cond; exact rfl; all_goals (intro h; (try simp only [reduceCtorEq, not_true_eq_false, not_false_eq_true, decide_eq_true_eq, decide_eq_false_iff_not, Bool.not_eq_true', Bool.not_eq_false', Bool.not_true, Bool.not_false, Int.not_lt, Int.not_le, ne_eq, Decidable.not_not] at h); (try (exfalso; omega))))
      | refine WC.block ?_
      | refine WC.skip ?_
      | refine WC.ret ?_
      | refine WC.exit ?_)
    | refine Qseq.nm ?_
    | refine Qseq.r ?_
    | refine Qseq.x ?_
    | refine Qblock.nm ?_
    | refine Qblock.r ?_
    | (apply Qblock.t; exact rfl)
    | (apply Qblock.f; exact rfl)
    | refine Qmx.r ?_
    | refine Qmx.nm ?_
    | (apply Qmx.f; exact rfl)
    | refine Qmn.r ?_
    | refine Qmn.x ?_
    | refine Qloop.r ?_
    | refine Qloop.x ?_
    | (apply Qfn.one; exact rfl)
    | (apply Qfn.two; exact rfl; exact rfl)
    | (apply Qfn.three; exact rfl; exact rfl; exact rfl)
    | (apply Qfn.cellt; exact rfl; exact rfl; ((repeat (first | exact Pick.here | apply Pick.there))); exact rfl; exact rfl)
    | refine Qfn.zero ?_
    | refine Qfn.zeroN ?_)
  · obtain rfl : l = [] := List.eq_nil_of_length_eq_zero (by omega)
    exact ⟨_, Take.fin (by repeat (first | exact Take.nil | (apply Take.keepI; focus ((repeat (first | exact Pick.here | apply Pick.there)); done)) | (apply Take.cons; focus ((repeat (first | exact Pick.here | apply Pick.there)); done)) | (apply Take.pure; (first | assumption | omega)))), rfl, rfl⟩
  · obtain ⟨x, l, rfl⟩ : ∃ x q, l = x :: q := by cases l with | nil => exact absurd rfl h | cons x q => exact ⟨x, q, rfl⟩
    have hl0 : (x :: l).length = l.length + 1 := rfl
    have hx0 : (x :: l)[(0 : Int).toNat]? = some x := rfl
    repeat' (first
      | (show WL _ _ _ _ _ _ _; first
        | (apply wl_calc; exact rfl; exact True.intro; exact rfl)
        | refine WL.nil ?_
        | (apply wl_ld; exact rfl; exact rfl; ((repeat (first | exact Pick.here | apply Pick.there))); exact rfl; exact rfl)
        | (apply wl_calc; exact rfl; ((try simp only [inR]); omega); exact rfl)
        | (apply wl_store; exact rfl; exact rfl; exact rfl; ((repeat (first | exact Pick.here | apply Pick.there))); exact rfl)
        | (apply wl_ixI; exact rfl; exact rfl; exact rfl; exact rfl; exact rfl; ((repeat (first | exact Pick.here | apply Pick.there))); exact rfl; (first | exact rfl | omega); omega; exact rfl)
        | (apply wl_ldEI; exact rfl; exact rfl; ((repeat (first | exact Pick.here | apply Pick.there))); exact rfl; assumption; exact rfl; exact rfl)
        | (apply wl_fldE; exact rfl; exact rfl; exact rfl; exact rfl; exact rfl)
        | (apply wl_ixO; exact rfl; exact rfl; exact rfl; exact rfl; exact rfl; ((repeat (first | exact Pick.here | apply Pick.there))); exact rfl; (first | exact rfl | omega); omega; exact rfl)
        | (apply wl_ldEO; exact rfl; exact rfl; ((repeat (first | exact Pick.here | apply Pick.there))); exact rfl; assumption; exact rfl; exact rfl)
        | (apply wl_guard; exact rfl; exact rfl; exact rfl; exact rfl)
        | (apply wl_gno; exact rfl; exact rfl; exact rfl; exact rfl; exact rfl)
        | (apply wl_gsplit; exact rfl; exact rfl; exact rfl; exact rfl; all_goals (intro h; (try simp only [reduceCtorEq, not_true_eq_false, not_false_eq_true, decide_eq_true_eq, decide_eq_false_iff_not, Bool.not_eq_true', Bool.not_eq_false', Bool.not_true, Bool.not_false, Int.not_lt, Int.not_le, ne_eq, Decidable.not_not] at h); (try (exfalso; omega))))
        | (apply wl_rem; exact rfl; exact rfl; omega; exact rfl)
        | (apply wl_row; (iterate 7 (exact rfl)); intro b1)
        | (apply wl_box; exact rfl; exact rfl; exact rfl; intro b1)
        | (apply wl_alloc; exact rfl; exact rfl; intro b1)
        | (apply wl_eqlS; exact rfl; exact rfl; exact rfl)
        | (apply wl_neqS; exact rfl; exact rfl; exact rfl))
      | (show WC _ _ _ _ _ _; first
        | refine WC.seq ?_
        | (apply WC.region; exact rfl)
        | (apply WC.condT; exact rfl)
        | (apply WC.condF; exact rfl)
        | (apply WC.cond; exact rfl; all_goals (intro h; (try simp only [reduceCtorEq, not_true_eq_false, not_false_eq_true, decide_eq_true_eq, decide_eq_false_iff_not, Bool.not_eq_true', Bool.not_eq_false', Bool.not_true, Bool.not_false, Int.not_lt, Int.not_le, ne_eq, Decidable.not_not] at h); (try (exfalso; omega))))
        | refine WC.block ?_
        | refine WC.skip ?_
        | refine WC.ret ?_
        | refine WC.exit ?_)
      | refine Qseq.nm ?_
      | refine Qseq.r ?_
      | refine Qseq.x ?_
      | refine Qblock.nm ?_
      | refine Qblock.r ?_
      | (apply Qblock.t; exact rfl)
      | (apply Qblock.f; exact rfl)
      | refine Qmx.r ?_
      | refine Qmx.nm ?_
      | (apply Qmx.f; exact rfl)
      | refine Qmn.r ?_
      | refine Qmn.x ?_
      | refine Qloop.r ?_
      | refine Qloop.x ?_
      | (apply Qfn.one; exact rfl)
      | (apply Qfn.two; exact rfl; exact rfl)
      | (apply Qfn.three; exact rfl; exact rfl; exact rfl)
      | (apply Qfn.cellt; exact rfl; exact rfl; ((repeat (first | exact Pick.here | apply Pick.there))); exact rfl; exact rfl)
      | refine Qfn.zero ?_
      | refine Qfn.zeroN ?_)
    exact ⟨_, Take.fin (by repeat (first | exact Take.nil | (apply Take.keepI; focus ((repeat (first | exact Pick.here | apply Pick.there)); done)) | (apply Take.cons; focus ((repeat (first | exact Pick.here | apply Pick.there)); done)) | (apply Take.pure; (first | assumption | omega)))), rfl, rfl⟩
theorem sfront_spec {b : Nat} {a : Option Addr} {c : Nat} {l : List Rg} : Spec P 73 [.pointer (some ⟨b, 0, none⟩)] [Blk b 114 (SETc a c l), ISl ER a c l]
    fun r R => r = .int .i64 (frontM l) ∧ R = [Blk b 114 (SETc a c l)] := by
  refine Spec.of (fn := Try.f73) (by rw [hP.eq]; exact Try.func73) (by kernel_rfl) rfl Try.ntmps73 rfl rfl ?_
  repeat' (first
    | (show WL _ _ _ _ _ _ _; first
      | (apply wl_calc; exact rfl; exact True.intro; exact rfl)
      | refine WL.nil ?_
      | (apply wl_ld; exact rfl; exact rfl; ((repeat (first | exact Pick.here | apply Pick.there))); exact rfl; exact rfl)
      | (apply wl_calc; exact rfl; ((try simp only [inR]); omega); exact rfl)
      | (apply wl_store; exact rfl; exact rfl; exact rfl; ((repeat (first | exact Pick.here | apply Pick.there))); exact rfl)
      | (apply wl_ixI; exact rfl; exact rfl; exact rfl; exact rfl; exact rfl; ((repeat (first | exact Pick.here | apply Pick.there))); exact rfl; (first | exact rfl | omega); omega; exact rfl)
      | (apply wl_ldEI; exact rfl; exact rfl; ((repeat (first | exact Pick.here | apply Pick.there))); exact rfl; assumption; exact rfl; exact rfl)
      | (apply wl_fldE; exact rfl; exact rfl; exact rfl; exact rfl; exact rfl)
      | (apply wl_ixO; exact rfl; exact rfl; exact rfl; exact rfl; exact rfl; ((repeat (first | exact Pick.here | apply Pick.there))); exact rfl; (first | exact rfl | omega); omega; exact rfl)
      | (apply wl_ldEO; exact rfl; exact rfl; ((repeat (first | exact Pick.here | apply Pick.there))); exact rfl; assumption; exact rfl; exact rfl)
      | (apply wl_guard; exact rfl; exact rfl; exact rfl; exact rfl)
      | (apply wl_gno; exact rfl; exact rfl; exact rfl; exact rfl; exact rfl)
      | (apply wl_gsplit; exact rfl; exact rfl; exact rfl; exact rfl; all_goals (intro h; (try simp only [reduceCtorEq, not_true_eq_false, not_false_eq_true, decide_eq_true_eq, decide_eq_false_iff_not, Bool.not_eq_true', Bool.not_eq_false', Bool.not_true, Bool.not_false, Int.not_lt, Int.not_le, ne_eq, Decidable.not_not] at h); (try (exfalso; omega))))
      | (apply wl_rem; exact rfl; exact rfl; omega; exact rfl)
      | (apply wl_row; (iterate 7 (exact rfl)); intro b1)
      | (apply wl_box; exact rfl; exact rfl; exact rfl; intro b1)
      | (apply wl_alloc; exact rfl; exact rfl; intro b1)
      | (apply wl_eqlS; exact rfl; exact rfl; exact rfl)
      | (apply wl_neqS; exact rfl; exact rfl; exact rfl))
    | (show WC _ _ _ _ _ _; first
      | refine WC.seq ?_
      | (apply WC.region; exact rfl)
      | (apply WC.condT; exact rfl)
      | (apply WC.condF; exact rfl)
      | (apply WC.cond; exact rfl; all_goals (intro h; (try simp only [reduceCtorEq, not_true_eq_false, not_false_eq_true, decide_eq_true_eq, decide_eq_false_iff_not, Bool.not_eq_true', Bool.not_eq_false', Bool.not_true, Bool.not_false, Int.not_lt, Int.not_le, ne_eq, Decidable.not_not] at h); (try (exfalso; omega))))
      | refine WC.block ?_
      | refine WC.skip ?_
      | refine WC.ret ?_
      | refine WC.exit ?_)
    | refine Qseq.nm ?_
    | refine Qseq.r ?_
    | refine Qseq.x ?_
    | refine Qblock.nm ?_
    | refine Qblock.r ?_
    | (apply Qblock.t; exact rfl)
    | (apply Qblock.f; exact rfl)
    | refine Qmx.r ?_
    | refine Qmx.nm ?_
    | (apply Qmx.f; exact rfl)
    | refine Qmn.r ?_
    | refine Qmn.x ?_
    | refine Qloop.r ?_
    | refine Qloop.x ?_
    | (apply Qfn.one; exact rfl)
    | (apply Qfn.two; exact rfl; exact rfl)
    | (apply Qfn.three; exact rfl; exact rfl; exact rfl)
    | (apply Qfn.cellt; exact rfl; exact rfl; ((repeat (first | exact Pick.here | apply Pick.there))); exact rfl; exact rfl)
    | refine Qfn.zero ?_
    | refine Qfn.zeroN ?_)
  (refine wl_call rfl rfl rfl (sfirst_spec) (by repeat (first | exact Take.nil | (apply Take.keepI; focus ((repeat (first | exact Pick.here | apply Pick.there)); done)) | (apply Take.cons; focus ((repeat (first | exact Pick.here | apply Pick.there)); done)) | (apply Take.pure; (first | assumption | omega)))) ?_)
  rintro _ _ ⟨rfl, rfl⟩
  cases l with
  | nil =>
    rw [firstV]
    repeat' (first
      | (show WL _ _ _ _ _ _ _; first
        | (apply wl_calc; exact rfl; exact True.intro; exact rfl)
        | refine WL.nil ?_
        | (apply wl_ld; exact rfl; exact rfl; ((repeat (first | exact Pick.here | apply Pick.there))); exact rfl; exact rfl)
        | (apply wl_calc; exact rfl; ((try simp only [inR]); omega); exact rfl)
        | (apply wl_store; exact rfl; exact rfl; exact rfl; ((repeat (first | exact Pick.here | apply Pick.there))); exact rfl)
        | (apply wl_ixI; exact rfl; exact rfl; exact rfl; exact rfl; exact rfl; ((repeat (first | exact Pick.here | apply Pick.there))); exact rfl; (first | exact rfl | omega); omega; exact rfl)
        | (apply wl_ldEI; exact rfl; exact rfl; ((repeat (first | exact Pick.here | apply Pick.there))); exact rfl; assumption; exact rfl; exact rfl)
        | (apply wl_fldE; exact rfl; exact rfl; exact rfl; exact rfl; exact rfl)
        | (apply wl_ixO; exact rfl; exact rfl; exact rfl; exact rfl; exact rfl; ((repeat (first | exact Pick.here | apply Pick.there))); exact rfl; (first | exact rfl | omega); omega; exact rfl)
        | (apply wl_ldEO; exact rfl; exact rfl; ((repeat (first | exact Pick.here | apply Pick.there))); exact rfl; assumption; exact rfl; exact rfl)
        | (apply wl_guard; exact rfl; exact rfl; exact rfl; exact rfl)
        | (apply wl_gno; exact rfl; exact rfl; exact rfl; exact rfl; exact rfl)
        | (apply wl_gsplit; exact rfl; exact rfl; exact rfl; exact rfl; all_goals (intro h; (try simp only [reduceCtorEq, not_true_eq_false, not_false_eq_true, decide_eq_true_eq, decide_eq_false_iff_not, Bool.not_eq_true', Bool.not_eq_false', Bool.not_true, Bool.not_false, Int.not_lt, Int.not_le, ne_eq, Decidable.not_not] at h); (try (exfalso; omega))))
        | (apply wl_rem; exact rfl; exact rfl; omega; exact rfl)
        | (apply wl_row; (iterate 7 (exact rfl)); intro b1)
        | (apply wl_box; exact rfl; exact rfl; exact rfl; intro b1)
        | (apply wl_alloc; exact rfl; exact rfl; intro b1)
        | (apply wl_eqlS; exact rfl; exact rfl; exact rfl)
        | (apply wl_neqS; exact rfl; exact rfl; exact rfl))
      | (show WC _ _ _ _ _ _; first
        | refine WC.seq ?_
        | (apply WC.region; exact rfl)
        | (apply WC.condT; exact rfl)
        | (apply WC.condF; exact rfl)
        | (apply WC.cond; exact rfl; all_goals (intro h; (try simp only [reduceCtorEq, not_true_eq_false, not_false_eq_true, decide_eq_true_eq, decide_eq_false_iff_not, Bool.not_eq_true', Bool.not_eq_false', Bool.not_true, Bool.not_false, Int.not_lt, Int.not_le, ne_eq, Decidable.not_not] at h); (try (exfalso; omega))))
        | refine WC.block ?_
        | refine WC.skip ?_
        | refine WC.ret ?_
        | refine WC.exit ?_)
      | refine Qseq.nm ?_
      | refine Qseq.r ?_
      | refine Qseq.x ?_
      | refine Qblock.nm ?_
      | refine Qblock.r ?_
      | (apply Qblock.t; exact rfl)
      | (apply Qblock.f; exact rfl)
      | refine Qmx.r ?_
      | refine Qmx.nm ?_
      | (apply Qmx.f; exact rfl)
      | refine Qmn.r ?_
      | refine Qmn.x ?_
      | refine Qloop.r ?_
      | refine Qloop.x ?_
      | (apply Qfn.one; exact rfl)
      | (apply Qfn.two; exact rfl; exact rfl)
      | (apply Qfn.three; exact rfl; exact rfl; exact rfl)
      | (apply Qfn.cellt; exact rfl; exact rfl; ((repeat (first | exact Pick.here | apply Pick.there))); exact rfl; exact rfl)
      | refine Qfn.zero ?_
      | refine Qfn.zeroN ?_)
    exact ⟨_, Take.fin (by repeat (first | exact Take.nil | (apply Take.keepI; focus ((repeat (first | exact Pick.here | apply Pick.there)); done)) | (apply Take.cons; focus ((repeat (first | exact Pick.here | apply Pick.there)); done)) | (apply Take.pure; (first | assumption | omega)))), rfl, rfl⟩
  | cons x l =>
    rw [firstV]
    repeat' (first
      | (show WL _ _ _ _ _ _ _; first
        | (apply wl_calc; exact rfl; exact True.intro; exact rfl)
        | refine WL.nil ?_
        | (apply wl_ld; exact rfl; exact rfl; ((repeat (first | exact Pick.here | apply Pick.there))); exact rfl; exact rfl)
        | (apply wl_calc; exact rfl; ((try simp only [inR]); omega); exact rfl)
        | (apply wl_store; exact rfl; exact rfl; exact rfl; ((repeat (first | exact Pick.here | apply Pick.there))); exact rfl)
        | (apply wl_ixI; exact rfl; exact rfl; exact rfl; exact rfl; exact rfl; ((repeat (first | exact Pick.here | apply Pick.there))); exact rfl; (first | exact rfl | omega); omega; exact rfl)
        | (apply wl_ldEI; exact rfl; exact rfl; ((repeat (first | exact Pick.here | apply Pick.there))); exact rfl; assumption; exact rfl; exact rfl)
        | (apply wl_fldE; exact rfl; exact rfl; exact rfl; exact rfl; exact rfl)
        | (apply wl_ixO; exact rfl; exact rfl; exact rfl; exact rfl; exact rfl; ((repeat (first | exact Pick.here | apply Pick.there))); exact rfl; (first | exact rfl | omega); omega; exact rfl)
        | (apply wl_ldEO; exact rfl; exact rfl; ((repeat (first | exact Pick.here | apply Pick.there))); exact rfl; assumption; exact rfl; exact rfl)
        | (apply wl_guard; exact rfl; exact rfl; exact rfl; exact rfl)
        | (apply wl_gno; exact rfl; exact rfl; exact rfl; exact rfl; exact rfl)
        | (apply wl_gsplit; exact rfl; exact rfl; exact rfl; exact rfl; all_goals (intro h; (try simp only [reduceCtorEq, not_true_eq_false, not_false_eq_true, decide_eq_true_eq, decide_eq_false_iff_not, Bool.not_eq_true', Bool.not_eq_false', Bool.not_true, Bool.not_false, Int.not_lt, Int.not_le, ne_eq, Decidable.not_not] at h); (try (exfalso; omega))))
        | (apply wl_rem; exact rfl; exact rfl; omega; exact rfl)
        | (apply wl_row; (iterate 7 (exact rfl)); intro b1)
        | (apply wl_box; exact rfl; exact rfl; exact rfl; intro b1)
        | (apply wl_alloc; exact rfl; exact rfl; intro b1)
        | (apply wl_eqlS; exact rfl; exact rfl; exact rfl)
        | (apply wl_neqS; exact rfl; exact rfl; exact rfl))
      | (show WC _ _ _ _ _ _; first
        | refine WC.seq ?_
        | (apply WC.region; exact rfl)
        | (apply WC.condT; exact rfl)
        | (apply WC.condF; exact rfl)
        | (apply WC.cond; exact rfl; all_goals (intro h; (try simp only [reduceCtorEq, not_true_eq_false, not_false_eq_true, decide_eq_true_eq, decide_eq_false_iff_not, Bool.not_eq_true', Bool.not_eq_false', Bool.not_true, Bool.not_false, Int.not_lt, Int.not_le, ne_eq, Decidable.not_not] at h); (try (exfalso; omega))))
        | refine WC.block ?_
        | refine WC.skip ?_
        | refine WC.ret ?_
        | refine WC.exit ?_)
      | refine Qseq.nm ?_
      | refine Qseq.r ?_
      | refine Qseq.x ?_
      | refine Qblock.nm ?_
      | refine Qblock.r ?_
      | (apply Qblock.t; exact rfl)
      | (apply Qblock.f; exact rfl)
      | refine Qmx.r ?_
      | refine Qmx.nm ?_
      | (apply Qmx.f; exact rfl)
      | refine Qmn.r ?_
      | refine Qmn.x ?_
      | refine Qloop.r ?_
      | refine Qloop.x ?_
      | (apply Qfn.one; exact rfl)
      | (apply Qfn.two; exact rfl; exact rfl)
      | (apply Qfn.three; exact rfl; exact rfl; exact rfl)
      | (apply Qfn.cellt; exact rfl; exact rfl; ((repeat (first | exact Pick.here | apply Pick.there))); exact rfl; exact rfl)
      | refine Qfn.zero ?_
      | refine Qfn.zeroN ?_)
    · exact ⟨_, Take.fin (by repeat (first | exact Take.nil | (apply Take.keepI; focus ((repeat (first | exact Pick.here | apply Pick.there)); done)) | (apply Take.cons; focus ((repeat (first | exact Pick.here | apply Pick.there)); done)) | (apply Take.pure; (first | assumption | omega)))), by rw [frontM, if_pos ‹_›], rfl⟩
    · exact ⟨_, Take.fin (by repeat (first | exact Take.nil | (apply Take.keepI; focus ((repeat (first | exact Pick.here | apply Pick.there)); done)) | (apply Take.cons; focus ((repeat (first | exact Pick.here | apply Pick.there)); done)) | (apply Take.pure; (first | assumption | omega)))), by rw [frontM, if_neg ‹_›], rfl⟩
/-- Is the place in this range? -/
def coversM (f t : Int) (r : Rg) : Bool := decide (r.1 ≤ f) && decide (t ≤ r.2)
theorem has1_spec {b4 b5 : Nat} {T4 T5 : TypeId} (f t : Int) (x : Rg) : Spec P 102 [.agg ⟨[.int .i64 x.1, .int .i64 x.2]⟩, .pointer (some ⟨b4, 0, none⟩), .pointer (some ⟨b5, 0, none⟩)] [Blk b4 T4 [.int .i64 f], Blk b5 T5 [.int .i64 t]]
    fun r R => r = .bool (coversM f t x) ∧ R = [Blk b4 T4 [.int .i64 f], Blk b5 T5 [.int .i64 t]] := by
  refine Spec.of (fn := Try.f102) (by rw [hP.eq]; exact Try.func102) (by kernel_rfl) rfl Try.ntmps102 rfl rfl ?_
  repeat' (first
    | (show WL _ _ _ _ _ _ _; first
      | (apply wl_calc; exact rfl; exact True.intro; exact rfl)
      | refine WL.nil ?_
      | (apply wl_ld; exact rfl; exact rfl; ((repeat (first | exact Pick.here | apply Pick.there))); exact rfl; exact rfl)
      | (apply wl_calc; exact rfl; ((try simp only [inR]); omega); exact rfl)
      | (apply wl_store; exact rfl; exact rfl; exact rfl; ((repeat (first | exact Pick.here | apply Pick.there))); exact rfl)
      | (apply wl_ixI; exact rfl; exact rfl; exact rfl; exact rfl; exact rfl; ((repeat (first | exact Pick.here | apply Pick.there))); exact rfl; (first | exact rfl | omega); omega; exact rfl)
      | (apply wl_ldEI; exact rfl; exact rfl; ((repeat (first | exact Pick.here | apply Pick.there))); exact rfl; assumption; exact rfl; exact rfl)
      | (apply wl_fldE; exact rfl; exact rfl; exact rfl; exact rfl; exact rfl)
      | (apply wl_ixO; exact rfl; exact rfl; exact rfl; exact rfl; exact rfl; ((repeat (first | exact Pick.here | apply Pick.there))); exact rfl; (first | exact rfl | omega); omega; exact rfl)
      | (apply wl_ldEO; exact rfl; exact rfl; ((repeat (first | exact Pick.here | apply Pick.there))); exact rfl; assumption; exact rfl; exact rfl)
      | (apply wl_guard; exact rfl; exact rfl; exact rfl; exact rfl)
      | (apply wl_gno; exact rfl; exact rfl; exact rfl; exact rfl; exact rfl)
      | (apply wl_gsplit; exact rfl; exact rfl; exact rfl; exact rfl; all_goals (intro h; (try simp only [reduceCtorEq, not_true_eq_false, not_false_eq_true, decide_eq_true_eq, decide_eq_false_iff_not, Bool.not_eq_true', Bool.not_eq_false', Bool.not_true, Bool.not_false, Int.not_lt, Int.not_le, ne_eq, Decidable.not_not] at h); (try (exfalso; omega))))
      | (apply wl_rem; exact rfl; exact rfl; omega; exact rfl)
      | (apply wl_row; (iterate 7 (exact rfl)); intro b1)
      | (apply wl_box; exact rfl; exact rfl; exact rfl; intro b1)
      | (apply wl_alloc; exact rfl; exact rfl; intro b1)
      | (apply wl_eqlS; exact rfl; exact rfl; exact rfl)
      | (apply wl_neqS; exact rfl; exact rfl; exact rfl))
    | (show WC _ _ _ _ _ _; first
      | refine WC.seq ?_
      | (apply WC.region; exact rfl)
      | (apply WC.condT; exact rfl)
      | (apply WC.condF; exact rfl)
      | (apply WC.cond; exact rfl; all_goals (intro h; (try simp only [reduceCtorEq, not_true_eq_false, not_false_eq_true, decide_eq_true_eq, decide_eq_false_iff_not, Bool.not_eq_true', Bool.not_eq_false', Bool.not_true, Bool.not_false, Int.not_lt, Int.not_le, ne_eq, Decidable.not_not] at h); (try (exfalso; omega))))
      | refine WC.block ?_
      | refine WC.skip ?_
      | refine WC.ret ?_
      | refine WC.exit ?_)
    | refine Qseq.nm ?_
    | refine Qseq.r ?_
    | refine Qseq.x ?_
    | refine Qblock.nm ?_
    | refine Qblock.r ?_
    | (apply Qblock.t; exact rfl)
    | (apply Qblock.f; exact rfl)
    | refine Qmx.r ?_
    | refine Qmx.nm ?_
    | (apply Qmx.f; exact rfl)
    | refine Qmn.r ?_
    | refine Qmn.x ?_
    | refine Qloop.r ?_
    | refine Qloop.x ?_
    | (apply Qfn.one; exact rfl)
    | (apply Qfn.two; exact rfl; exact rfl)
    | (apply Qfn.three; exact rfl; exact rfl; exact rfl)
    | (apply Qfn.cellt; exact rfl; exact rfl; ((repeat (first | exact Pick.here | apply Pick.there))); exact rfl; exact rfl)
    | refine Qfn.zero ?_
    | refine Qfn.zeroN ?_)
  · exact ⟨_, Take.fin (by repeat (first | exact Take.nil | (apply Take.keepI; focus ((repeat (first | exact Pick.here | apply Pick.there)); done)) | (apply Take.cons; focus ((repeat (first | exact Pick.here | apply Pick.there)); done)) | (apply Take.pure; (first | assumption | omega)))), by unfold coversM; rw [decide_eq_true (by assumption : x.1 ≤ f), Bool.true_and], rfl⟩
  · exact ⟨_, Take.fin (by repeat (first | exact Take.nil | (apply Take.keepI; focus ((repeat (first | exact Pick.here | apply Pick.there)); done)) | (apply Take.cons; focus ((repeat (first | exact Pick.here | apply Pick.there)); done)) | (apply Take.pure; (first | assumption | omega)))), by unfold coversM; rw [decide_eq_false (by omega), Bool.false_and], rfl⟩
theorem sindex_spec {b4 b5 : Nat} {T4 T5 : TypeId} {a : Option Addr} {c : Nat} {l : List Rg} (hl : l.length ≤ 1000000) (f t : Int) :
    Spec P 110 [.slice a l.length c, .func (.func 102) ⟨[]⟩ ⟨[.pointer (some ⟨b4, 0, none⟩), .pointer (some ⟨b5, 0, none⟩)]⟩] [Blk b4 T4 [.int .i64 f], Blk b5 T5 [.int .i64 t], ISl ER a c l]
      fun r R => (∃ z : Int, r = .int .i64 z ∧ (0 ≤ z ↔ l.any (coversM f t) = true)) ∧ R = [Blk b4 T4 [.int .i64 f], Blk b5 T5 [.int .i64 t]] := by
  refine Spec.of (fn := Try.f110) (by rw [hP.eq]; exact Try.func110) (by kernel_rfl) rfl Try.ntmps110 rfl rfl ?_
  repeat' (first
    | (show WL _ _ _ _ _ _ _; first
      | (apply wl_calc; exact rfl; exact True.intro; exact rfl)
      | refine WL.nil ?_
      | (apply wl_ld; exact rfl; exact rfl; ((repeat (first | exact Pick.here | apply Pick.there))); exact rfl; exact rfl)
      | (apply wl_calc; exact rfl; ((try simp only [inR]); omega); exact rfl)
      | (apply wl_store; exact rfl; exact rfl; exact rfl; ((repeat (first | exact Pick.here | apply Pick.there))); exact rfl)
      | (apply wl_ixI; exact rfl; exact rfl; exact rfl; exact rfl; exact rfl; ((repeat (first | exact Pick.here | apply Pick.there))); exact rfl; (first | exact rfl | omega); omega; exact rfl)
      | (apply wl_ldEI; exact rfl; exact rfl; ((repeat (first | exact Pick.here | apply Pick.there))); exact rfl; assumption; exact rfl; exact rfl)
      | (apply wl_fldE; exact rfl; exact rfl; exact rfl; exact rfl; exact rfl)
      | (apply wl_ixO; exact rfl; exact rfl; exact rfl; exact rfl; exact rfl; ((repeat (first | exact Pick.here | apply Pick.there))); exact rfl; (first | exact rfl | omega); omega; exact rfl)
      | (apply wl_ldEO; exact rfl; exact rfl; ((repeat (first | exact Pick.here | apply Pick.there))); exact rfl; assumption; exact rfl; exact rfl)
      | (apply wl_guard; exact rfl; exact rfl; exact rfl; exact rfl)
      | (apply wl_gno; exact rfl; exact rfl; exact rfl; exact rfl; exact rfl)
      | (apply wl_gsplit; exact rfl; exact rfl; exact rfl; exact rfl; all_goals (intro h; (try simp only [reduceCtorEq, not_true_eq_false, not_false_eq_true, decide_eq_true_eq, decide_eq_false_iff_not, Bool.not_eq_true', Bool.not_eq_false', Bool.not_true, Bool.not_false, Int.not_lt, Int.not_le, ne_eq, Decidable.not_not] at h); (try (exfalso; omega))))
      | (apply wl_rem; exact rfl; exact rfl; omega; exact rfl)
      | (apply wl_row; (iterate 7 (exact rfl)); intro b1)
      | (apply wl_box; exact rfl; exact rfl; exact rfl; intro b1)
      | (apply wl_alloc; exact rfl; exact rfl; intro b1)
      | (apply wl_eqlS; exact rfl; exact rfl; exact rfl)
      | (apply wl_neqS; exact rfl; exact rfl; exact rfl))
    | (show WC _ _ _ _ _ _; first
      | refine WC.seq ?_
      | (apply WC.region; exact rfl)
      | (apply WC.condT; exact rfl)
      | (apply WC.condF; exact rfl)
      | (apply WC.cond; exact rfl; all_goals (intro h; (try simp only [reduceCtorEq, not_true_eq_false, not_false_eq_true, decide_eq_true_eq, decide_eq_false_iff_not, Bool.not_eq_true', Bool.not_eq_false', Bool.not_true, Bool.not_false, Int.not_lt, Int.not_le, ne_eq, Decidable.not_not] at h); (try (exfalso; omega))))
      | refine WC.block ?_
      | refine WC.skip ?_
      | refine WC.ret ?_
      | refine WC.exit ?_)
    | refine Qseq.nm ?_
    | refine Qseq.r ?_
    | refine Qseq.x ?_
    | refine Qblock.nm ?_
    | refine Qblock.r ?_
    | (apply Qblock.t; exact rfl)
    | (apply Qblock.f; exact rfl)
    | refine Qmx.r ?_
    | refine Qmx.nm ?_
    | (apply Qmx.f; exact rfl)
    | refine Qmn.r ?_
    | refine Qmn.x ?_
    | refine Qloop.r ?_
    | refine Qloop.x ?_
    | (apply Qfn.one; exact rfl)
    | (apply Qfn.two; exact rfl; exact rfl)
    | (apply Qfn.three; exact rfl; exact rfl; exact rfl)
    | (apply Qfn.cellt; exact rfl; exact rfl; ((repeat (first | exact Pick.here | apply Pick.there))); exact rfl; exact rfl)
    | refine Qfn.zero ?_
    | refine Qfn.zeroN ?_)
  refine WC.loopU (fun k d D => ∃ i : Nat, (i ≤ l.length ∧ (l.take i).any (coversM f t) = false) ∧ k = l.length - i ∧ d = [(8, .int .i64 i)] ∧ D = [Blk b4 T4 [.int .i64 f], Blk b5 T5 [.int .i64 t]]) (D0 := [Blk b4 T4 [.int .i64 f], Blk b5 T5 [.int .i64 t]]) rfl (by repeat (first | exact trivial | refine ⟨rfl, ?_⟩)) (by repeat (first | exact Take.nil | (apply Take.keepI; focus ((repeat (first | exact Pick.here | apply Pick.there)); done)) | (apply Take.cons; focus ((repeat (first | exact Pick.here | apply Pick.there)); done)) | (apply Take.pure; (first | assumption | omega)))) ⟨0, by simp, rfl, rfl, rfl⟩ ?_
  rintro _ _ _ ⟨i, ⟨hi, hn⟩, rfl, rfl, rfl⟩
  repeat' (first
    | (show WL _ _ _ _ _ _ _; first
      | (apply wl_calc; exact rfl; exact True.intro; exact rfl)
      | refine WL.nil ?_
      | (apply wl_ld; exact rfl; exact rfl; ((repeat (first | exact Pick.here | apply Pick.there))); exact rfl; exact rfl)
      | (apply wl_calc; exact rfl; ((try simp only [inR]); omega); exact rfl)
      | (apply wl_store; exact rfl; exact rfl; exact rfl; ((repeat (first | exact Pick.here | apply Pick.there))); exact rfl)
      | (apply wl_ixI; exact rfl; exact rfl; exact rfl; exact rfl; exact rfl; ((repeat (first | exact Pick.here | apply Pick.there))); exact rfl; (first | exact rfl | omega); omega; exact rfl)
      | (apply wl_ldEI; exact rfl; exact rfl; ((repeat (first | exact Pick.here | apply Pick.there))); exact rfl; assumption; exact rfl; exact rfl)
      | (apply wl_fldE; exact rfl; exact rfl; exact rfl; exact rfl; exact rfl)
      | (apply wl_ixO; exact rfl; exact rfl; exact rfl; exact rfl; exact rfl; ((repeat (first | exact Pick.here | apply Pick.there))); exact rfl; (first | exact rfl | omega); omega; exact rfl)
      | (apply wl_ldEO; exact rfl; exact rfl; ((repeat (first | exact Pick.here | apply Pick.there))); exact rfl; assumption; exact rfl; exact rfl)
      | (apply wl_guard; exact rfl; exact rfl; exact rfl; exact rfl)
      | (apply wl_gno; exact rfl; exact rfl; exact rfl; exact rfl; exact rfl)
      | (apply wl_gsplit; exact rfl; exact rfl; exact rfl; exact rfl; all_goals (intro h; (try simp only [reduceCtorEq, not_true_eq_false, not_false_eq_true, decide_eq_true_eq, decide_eq_false_iff_not, Bool.not_eq_true', Bool.not_eq_false', Bool.not_true, Bool.not_false, Int.not_lt, Int.not_le, ne_eq, Decidable.not_not] at h); (try (exfalso; omega))))
      | (apply wl_rem; exact rfl; exact rfl; omega; exact rfl)
      | (apply wl_row; (iterate 7 (exact rfl)); intro b1)
      | (apply wl_box; exact rfl; exact rfl; exact rfl; intro b1)
      | (apply wl_alloc; exact rfl; exact rfl; intro b1)
      | (apply wl_eqlS; exact rfl; exact rfl; exact rfl)
      | (apply wl_neqS; exact rfl; exact rfl; exact rfl))
    | (show WC _ _ _ _ _ _; first
      | refine WC.seq ?_
      | (apply WC.region; exact rfl)
      | (apply WC.condT; exact rfl)
      | (apply WC.condF; exact rfl)
      | (apply WC.cond; exact rfl; all_goals (intro h; (try simp only [reduceCtorEq, not_true_eq_false, not_false_eq_true, decide_eq_true_eq, decide_eq_false_iff_not, Bool.not_eq_true', Bool.not_eq_false', Bool.not_true, Bool.not_false, Int.not_lt, Int.not_le, ne_eq, Decidable.not_not] at h); (try (exfalso; omega))))
      | refine WC.block ?_
      | refine WC.skip ?_
      | refine WC.ret ?_
      | refine WC.exit ?_)
    | refine Qseq.nm ?_
    | refine Qseq.r ?_
    | refine Qseq.x ?_
    | refine Qblock.nm ?_
    | refine Qblock.r ?_
    | (apply Qblock.t; exact rfl)
    | (apply Qblock.f; exact rfl)
    | refine Qmx.r ?_
    | refine Qmx.nm ?_
    | (apply Qmx.f; exact rfl)
    | refine Qmn.r ?_
    | refine Qmn.x ?_
    | refine Qloop.r ?_
    | refine Qloop.x ?_
    | (apply Qfn.one; exact rfl)
    | (apply Qfn.two; exact rfl; exact rfl)
    | (apply Qfn.three; exact rfl; exact rfl; exact rfl)
    | (apply Qfn.cellt; exact rfl; exact rfl; ((repeat (first | exact Pick.here | apply Pick.there))); exact rfl; exact rfl)
    | refine Qfn.zero ?_
    | refine Qfn.zeroN ?_)
  · obtain ⟨x, hx⟩ := getI (i := i) (xs := l) (by omega)
    repeat' (first
      | (show WL _ _ _ _ _ _ _; first
        | (apply wl_calc; exact rfl; exact True.intro; exact rfl)
        | refine WL.nil ?_
        | (apply wl_ld; exact rfl; exact rfl; ((repeat (first | exact Pick.here | apply Pick.there))); exact rfl; exact rfl)
        | (apply wl_calc; exact rfl; ((try simp only [inR]); omega); exact rfl)
        | (apply wl_store; exact rfl; exact rfl; exact rfl; ((repeat (first | exact Pick.here | apply Pick.there))); exact rfl)
        | (apply wl_ixI; exact rfl; exact rfl; exact rfl; exact rfl; exact rfl; ((repeat (first | exact Pick.here | apply Pick.there))); exact rfl; (first | exact rfl | omega); omega; exact rfl)
        | (apply wl_ldEI; exact rfl; exact rfl; ((repeat (first | exact Pick.here | apply Pick.there))); exact rfl; assumption; exact rfl; exact rfl)
        | (apply wl_fldE; exact rfl; exact rfl; exact rfl; exact rfl; exact rfl)
        | (apply wl_ixO; exact rfl; exact rfl; exact rfl; exact rfl; exact rfl; ((repeat (first | exact Pick.here | apply Pick.there))); exact rfl; (first | exact rfl | omega); omega; exact rfl)
        | (apply wl_ldEO; exact rfl; exact rfl; ((repeat (first | exact Pick.here | apply Pick.there))); exact rfl; assumption; exact rfl; exact rfl)
        | (apply wl_guard; exact rfl; exact rfl; exact rfl; exact rfl)
        | (apply wl_gno; exact rfl; exact rfl; exact rfl; exact rfl; exact rfl)
        | (apply wl_gsplit; exact rfl; exact rfl; exact rfl; exact rfl; all_goals (intro h; (try simp only [reduceCtorEq, not_true_eq_false, not_false_eq_true, decide_eq_true_eq, decide_eq_false_iff_not, Bool.not_eq_true', Bool.not_eq_false', Bool.not_true, Bool.not_false, Int.not_lt, Int.not_le, ne_eq, Decidable.not_not] at h); (try (exfalso; omega))))
        | (apply wl_rem; exact rfl; exact rfl; omega; exact rfl)
        | (apply wl_row; (iterate 7 (exact rfl)); intro b1)
        | (apply wl_box; exact rfl; exact rfl; exact rfl; intro b1)
        | (apply wl_alloc; exact rfl; exact rfl; intro b1)
        | (apply wl_eqlS; exact rfl; exact rfl; exact rfl)
        | (apply wl_neqS; exact rfl; exact rfl; exact rfl))
      | (show WC _ _ _ _ _ _; first
        | refine WC.seq ?_
        | (apply WC.region; exact rfl)
        | (apply WC.condT; exact rfl)
        | (apply WC.condF; exact rfl)
        | (apply WC.cond; exact rfl; all_goals (intro h; (try simp only [reduceCtorEq, not_true_eq_false, not_false_eq_true, decide_eq_true_eq, decide_eq_false_iff_not, Bool.not_eq_true', Bool.not_eq_false', Bool.not_true, Bool.not_false, Int.not_lt, Int.not_le, ne_eq, Decidable.not_not] at h); (try (exfalso; omega))))
        | refine WC.block ?_
        | refine WC.skip ?_
        | refine WC.ret ?_
        | refine WC.exit ?_)
      | refine Qseq.nm ?_
      | refine Qseq.r ?_
      | refine Qseq.x ?_
      | refine Qblock.nm ?_
      | refine Qblock.r ?_
      | (apply Qblock.t; exact rfl)
      | (apply Qblock.f; exact rfl)
      | refine Qmx.r ?_
      | refine Qmx.nm ?_
      | (apply Qmx.f; exact rfl)
      | refine Qmn.r ?_
      | refine Qmn.x ?_
      | refine Qloop.r ?_
      | refine Qloop.x ?_
      | (apply Qfn.one; exact rfl)
      | (apply Qfn.two; exact rfl; exact rfl)
      | (apply Qfn.three; exact rfl; exact rfl; exact rfl)
      | (apply Qfn.cellt; exact rfl; exact rfl; ((repeat (first | exact Pick.here | apply Pick.there))); exact rfl; exact rfl)
      | refine Qfn.zero ?_
      | refine Qfn.zeroN ?_)
    (refine wl_call rfl rfl rfl (has1_spec f t x) (by repeat (first | exact Take.nil | (apply Take.keepI; focus ((repeat (first | exact Pick.here | apply Pick.there)); done)) | (apply Take.cons; focus ((repeat (first | exact Pick.here | apply Pick.there)); done)) | (apply Take.pure; (first | assumption | omega)))) ?_)
    rintro _ _ ⟨rfl, rfl⟩
    repeat' (first
      | (show WL _ _ _ _ _ _ _; first
        | (apply wl_calc; exact rfl; exact True.intro; exact rfl)
        | refine WL.nil ?_
        | (apply wl_ld; exact rfl; exact rfl; ((repeat (first | exact Pick.here | apply Pick.there))); exact rfl; exact rfl)
        | (apply wl_calc; exact rfl; ((try simp only [inR]); omega); exact rfl)
        | (apply wl_store; exact rfl; exact rfl; exact rfl; ((repeat (first | exact Pick.here | apply Pick.there))); exact rfl)
        | (apply wl_ixI; exact rfl; exact rfl; exact rfl; exact rfl; exact rfl; ((repeat (first | exact Pick.here | apply Pick.there))); exact rfl; (first | exact rfl | omega); omega; exact rfl)
        | (apply wl_ldEI; exact rfl; exact rfl; ((repeat (first | exact Pick.here | apply Pick.there))); exact rfl; assumption; exact rfl; exact rfl)
        | (apply wl_fldE; exact rfl; exact rfl; exact rfl; exact rfl; exact rfl)
        | (apply wl_ixO; exact rfl; exact rfl; exact rfl; exact rfl; exact rfl; ((repeat (first | exact Pick.here | apply Pick.there))); exact rfl; (first | exact rfl | omega); omega; exact rfl)
        | (apply wl_ldEO; exact rfl; exact rfl; ((repeat (first | exact Pick.here | apply Pick.there))); exact rfl; assumption; exact rfl; exact rfl)
        | (apply wl_guard; exact rfl; exact rfl; exact rfl; exact rfl)
        | (apply wl_gno; exact rfl; exact rfl; exact rfl; exact rfl; exact rfl)
        | (apply wl_gsplit; exact rfl; exact rfl; exact rfl; exact rfl; all_goals (intro h; (try simp only [reduceCtorEq, not_true_eq_false, not_false_eq_true, decide_eq_true_eq, decide_eq_false_iff_not, Bool.not_eq_true', Bool.not_eq_false', Bool.not_true, Bool.not_false, Int.not_lt, Int.not_le, ne_eq, Decidable.not_not] at h); (try (exfalso; omega))))
        | (apply wl_rem; exact rfl; exact rfl; omega; exact rfl)
        | (apply wl_row; (iterate 7 (exact rfl)); intro b1)
        | (apply wl_box; exact rfl; exact rfl; exact rfl; intro b1)
        | (apply wl_alloc; exact rfl; exact rfl; intro b1)
        | (apply wl_eqlS; exact rfl; exact rfl; exact rfl)
        | (apply wl_neqS; exact rfl; exact rfl; exact rfl))
      | (show WC _ _ _ _ _ _; first
        | refine WC.seq ?_
        | (apply WC.region; exact rfl)
        | (apply WC.condT; exact rfl)
        | (apply WC.condF; exact rfl)
        | (apply WC.cond; exact rfl; all_goals (intro h; (try simp only [reduceCtorEq, not_true_eq_false, not_false_eq_true, decide_eq_true_eq, decide_eq_false_iff_not, Bool.not_eq_true', Bool.not_eq_false', Bool.not_true, Bool.not_false, Int.not_lt, Int.not_le, ne_eq, Decidable.not_not] at h); (try (exfalso; omega))))
        | refine WC.block ?_
        | refine WC.skip ?_
        | refine WC.ret ?_
        | refine WC.exit ?_)
      | refine Qseq.nm ?_
      | refine Qseq.r ?_
      | refine Qseq.x ?_
      | refine Qblock.nm ?_
      | refine Qblock.r ?_
      | (apply Qblock.t; exact rfl)
      | (apply Qblock.f; exact rfl)
      | refine Qmx.r ?_
      | refine Qmx.nm ?_
      | (apply Qmx.f; exact rfl)
      | refine Qmn.r ?_
      | refine Qmn.x ?_
      | refine Qloop.r ?_
      | refine Qloop.x ?_
      | (apply Qfn.one; exact rfl)
      | (apply Qfn.two; exact rfl; exact rfl)
      | (apply Qfn.three; exact rfl; exact rfl; exact rfl)
      | (apply Qfn.cellt; exact rfl; exact rfl; ((repeat (first | exact Pick.here | apply Pick.there))); exact rfl; exact rfl)
      | refine Qfn.zero ?_
      | refine Qfn.zeroN ?_)
    · exact ⟨_, Take.fin (by repeat (first | exact Take.nil | (apply Take.keepI; focus ((repeat (first | exact Pick.here | apply Pick.there)); done)) | (apply Take.cons; focus ((repeat (first | exact Pick.here | apply Pick.there)); done)) | (apply Take.pure; (first | assumption | omega)))), ⟨_, rfl, by
        rw [List.any_eq_true.2 ⟨x, List.mem_of_getElem? hx, by assumption⟩]
        simp⟩, rfl⟩
    · exact Qloop.againU (l.length - (i + 1)) (by omega) ⟨i + 1, ⟨by omega, by rw [takeI hx, List.any_append, hn]; simpa using ‹coversM f t x = false›⟩, rfl, rfl, rfl⟩ (by repeat (first | exact trivial | refine ⟨rfl, ?_⟩)) (by repeat (first | exact Take.nil | (apply Take.keepI; focus ((repeat (first | exact Pick.here | apply Pick.there)); done)) | (apply Take.cons; focus ((repeat (first | exact Pick.here | apply Pick.there)); done)) | (apply Take.pure; (first | assumption | omega))))
  · rw [List.take_of_length_le (by omega)] at hn
    exact ⟨_, Take.fin (by repeat (first | exact Take.nil | (apply Take.keepI; focus ((repeat (first | exact Pick.here | apply Pick.there)); done)) | (apply Take.cons; focus ((repeat (first | exact Pick.here | apply Pick.there)); done)) | (apply Take.pure; (first | assumption | omega)))), ⟨_, rfl, by rw [hn]; simp⟩, rfl⟩
theorem scontains_spec {b4 b5 : Nat} {T4 T5 : TypeId} {a : Option Addr} {c : Nat} {l : List Rg} (hl : l.length ≤ 1000000) (f t : Int) :
    Spec P 101 [.slice a l.length c, .func (.func 102) ⟨[]⟩ ⟨[.pointer (some ⟨b4, 0, none⟩), .pointer (some ⟨b5, 0, none⟩)]⟩] [Blk b4 T4 [.int .i64 f], Blk b5 T5 [.int .i64 t], ISl ER a c l]
      fun r R => r = .bool (l.any (coversM f t)) ∧ R = [Blk b4 T4 [.int .i64 f], Blk b5 T5 [.int .i64 t]] := by
  refine Spec.of (fn := Try.f101) (by rw [hP.eq]; exact Try.func101) (by kernel_rfl) rfl Try.ntmps101 rfl rfl ?_
  repeat' (first
    | (show WL _ _ _ _ _ _ _; first
      | (apply wl_calc; exact rfl; exact True.intro; exact rfl)
      | refine WL.nil ?_
      | (apply wl_ld; exact rfl; exact rfl; ((repeat (first | exact Pick.here | apply Pick.there))); exact rfl; exact rfl)
      | (apply wl_calc; exact rfl; ((try simp only [inR]); omega); exact rfl)
      | (apply wl_store; exact rfl; exact rfl; exact rfl; ((repeat (first | exact Pick.here | apply Pick.there))); exact rfl)
      | (apply wl_ixI; exact rfl; exact rfl; exact rfl; exact rfl; exact rfl; ((repeat (first | exact Pick.here | apply Pick.there))); exact rfl; (first | exact rfl | omega); omega; exact rfl)
      | (apply wl_ldEI; exact rfl; exact rfl; ((repeat (first | exact Pick.here | apply Pick.there))); exact rfl; assumption; exact rfl; exact rfl)
      | (apply wl_fldE; exact rfl; exact rfl; exact rfl; exact rfl; exact rfl)
      | (apply wl_ixO; exact rfl; exact rfl; exact rfl; exact rfl; exact rfl; ((repeat (first | exact Pick.here | apply Pick.there))); exact rfl; (first | exact rfl | omega); omega; exact rfl)
      | (apply wl_ldEO; exact rfl; exact rfl; ((repeat (first | exact Pick.here | apply Pick.there))); exact rfl; assumption; exact rfl; exact rfl)
      | (apply wl_guard; exact rfl; exact rfl; exact rfl; exact rfl)
      | (apply wl_gno; exact rfl; exact rfl; exact rfl; exact rfl; exact rfl)
      | (apply wl_gsplit; exact rfl; exact rfl; exact rfl; exact rfl; all_goals (intro h; (try simp only [reduceCtorEq, not_true_eq_false, not_false_eq_true, decide_eq_true_eq, decide_eq_false_iff_not, Bool.not_eq_true', Bool.not_eq_false', Bool.not_true, Bool.not_false, Int.not_lt, Int.not_le, ne_eq, Decidable.not_not] at h); (try (exfalso; omega))))
      | (apply wl_rem; exact rfl; exact rfl; omega; exact rfl)
      | (apply wl_row; (iterate 7 (exact rfl)); intro b1)
      | (apply wl_box; exact rfl; exact rfl; exact rfl; intro b1)
      | (apply wl_alloc; exact rfl; exact rfl; intro b1)
      | (apply wl_eqlS; exact rfl; exact rfl; exact rfl)
      | (apply wl_neqS; exact rfl; exact rfl; exact rfl))
    | (show WC _ _ _ _ _ _; first
      | refine WC.seq ?_
      | (apply WC.region; exact rfl)
      | (apply WC.condT; exact rfl)
      | (apply WC.condF; exact rfl)
      | (apply WC.cond; exact rfl; all_goals (intro h; (try simp only [reduceCtorEq, not_true_eq_false, not_false_eq_true, decide_eq_true_eq, decide_eq_false_iff_not, Bool.not_eq_true', Bool.not_eq_false', Bool.not_true, Bool.not_false, Int.not_lt, Int.not_le, ne_eq, Decidable.not_not] at h); (try (exfalso; omega))))
      | refine WC.block ?_
      | refine WC.skip ?_
      | refine WC.ret ?_
      | refine WC.exit ?_)
    | refine Qseq.nm ?_
    | refine Qseq.r ?_
    | refine Qseq.x ?_
    | refine Qblock.nm ?_
    | refine Qblock.r ?_
    | (apply Qblock.t; exact rfl)
    | (apply Qblock.f; exact rfl)
    | refine Qmx.r ?_
    | refine Qmx.nm ?_
    | (apply Qmx.f; exact rfl)
    | refine Qmn.r ?_
    | refine Qmn.x ?_
    | refine Qloop.r ?_
    | refine Qloop.x ?_
    | (apply Qfn.one; exact rfl)
    | (apply Qfn.two; exact rfl; exact rfl)
    | (apply Qfn.three; exact rfl; exact rfl; exact rfl)
    | (apply Qfn.cellt; exact rfl; exact rfl; ((repeat (first | exact Pick.here | apply Pick.there))); exact rfl; exact rfl)
    | refine Qfn.zero ?_
    | refine Qfn.zeroN ?_)
  (refine wl_call rfl rfl rfl (sindex_spec hl f t) (by repeat (first | exact Take.nil | (apply Take.keepI; focus ((repeat (first | exact Pick.here | apply Pick.there)); done)) | (apply Take.cons; focus ((repeat (first | exact Pick.here | apply Pick.there)); done)) | (apply Take.pure; (first | assumption | omega)))) ?_)
  rintro _ _ ⟨⟨z, rfl, hz⟩, rfl⟩
  repeat' (first
    | (show WL _ _ _ _ _ _ _; first
      | (apply wl_calc; exact rfl; exact True.intro; exact rfl)
      | refine WL.nil ?_
      | (apply wl_ld; exact rfl; exact rfl; ((repeat (first | exact Pick.here | apply Pick.there))); exact rfl; exact rfl)
      | (apply wl_calc; exact rfl; ((try simp only [inR]); omega); exact rfl)
      | (apply wl_store; exact rfl; exact rfl; exact rfl; ((repeat (first | exact Pick.here | apply Pick.there))); exact rfl)
      | (apply wl_ixI; exact rfl; exact rfl; exact rfl; exact rfl; exact rfl; ((repeat (first | exact Pick.here | apply Pick.there))); exact rfl; (first | exact rfl | omega); omega; exact rfl)
      | (apply wl_ldEI; exact rfl; exact rfl; ((repeat (first | exact Pick.here | apply Pick.there))); exact rfl; assumption; exact rfl; exact rfl)
      | (apply wl_fldE; exact rfl; exact rfl; exact rfl; exact rfl; exact rfl)
      | (apply wl_ixO; exact rfl; exact rfl; exact rfl; exact rfl; exact rfl; ((repeat (first | exact Pick.here | apply Pick.there))); exact rfl; (first | exact rfl | omega); omega; exact rfl)
      | (apply wl_ldEO; exact rfl; exact rfl; ((repeat (first | exact Pick.here | apply Pick.there))); exact rfl; assumption; exact rfl; exact rfl)
      | (apply wl_guard; exact rfl; exact rfl; exact rfl; exact rfl)
      | (apply wl_gno; exact rfl; exact rfl; exact rfl; exact rfl; exact rfl)
      | (apply wl_gsplit; exact rfl; exact rfl; exact rfl; exact rfl; all_goals (intro h; (try simp only [reduceCtorEq, not_true_eq_false, not_false_eq_true, decide_eq_true_eq, decide_eq_false_iff_not, Bool.not_eq_true', Bool.not_eq_false', Bool.not_true, Bool.not_false, Int.not_lt, Int.not_le, ne_eq, Decidable.not_not] at h); (try (exfalso; omega))))
      | (apply wl_rem; exact rfl; exact rfl; omega; exact rfl)
      | (apply wl_row; (iterate 7 (exact rfl)); intro b1)
      | (apply wl_box; exact rfl; exact rfl; exact rfl; intro b1)
      | (apply wl_alloc; exact rfl; exact rfl; intro b1)
      | (apply wl_eqlS; exact rfl; exact rfl; exact rfl)
      | (apply wl_neqS; exact rfl; exact rfl; exact rfl))
    | (show WC _ _ _ _ _ _; first
      | refine WC.seq ?_
      | (apply WC.region; exact rfl)
      | (apply WC.condT; exact rfl)
      | (apply WC.condF; exact rfl)
      | (apply WC.cond; exact rfl; all_goals (intro h; (try simp only [reduceCtorEq, not_true_eq_false, not_false_eq_true, decide_eq_true_eq, decide_eq_false_iff_not, Bool.not_eq_true', Bool.not_eq_false', Bool.not_true, Bool.not_false, Int.not_lt, Int.not_le, ne_eq, Decidable.not_not] at h); (try (exfalso; omega))))
      | refine WC.block ?_
      | refine WC.skip ?_
      | refine WC.ret ?_
      | refine WC.exit ?_)
    | refine Qseq.nm ?_
    | refine Qseq.r ?_
    | refine Qseq.x ?_
    | refine Qblock.nm ?_
    | refine Qblock.r ?_
    | (apply Qblock.t; exact rfl)
    | (apply Qblock.f; exact rfl)
    | refine Qmx.r ?_
    | refine Qmx.nm ?_
    | (apply Qmx.f; exact rfl)
    | refine Qmn.r ?_
    | refine Qmn.x ?_
    | refine Qloop.r ?_
    | refine Qloop.x ?_
    | (apply Qfn.one; exact rfl)
    | (apply Qfn.two; exact rfl; exact rfl)
    | (apply Qfn.three; exact rfl; exact rfl; exact rfl)
    | (apply Qfn.cellt; exact rfl; exact rfl; ((repeat (first | exact Pick.here | apply Pick.there))); exact rfl; exact rfl)
    | refine Qfn.zero ?_
    | refine Qfn.zeroN ?_)
  refine ⟨_, Take.fin (by repeat (first | exact Take.nil | (apply Take.keepI; focus ((repeat (first | exact Pick.here | apply Pick.there)); done)) | (apply Take.cons; focus ((repeat (first | exact Pick.here | apply Pick.there)); done)) | (apply Take.pure; (first | assumption | omega)))), ?_, rfl⟩
  rw [show decide (0 ≤ z) = l.any (coversM f t) from by
    cases hq : l.any (coversM f t)
    · exact decide_eq_false (by rw [hz, hq]; simp)
    · exact decide_eq_true (hz.2 hq)]
theorem shas_spec {b : Nat} {a : Option Addr} {c : Nat} {l : List Rg} (hl : l.length ≤ 1000000) (f t : Int) : Spec P 76 [.pointer (some ⟨b, 0, none⟩), .int .i64 f, .int .i64 t] [Blk b 114 (SETc a c l), ISl ER a c l]
    fun r R => r = .bool (hasM l f t) ∧ R = [Blk b 114 (SETc a c l)] := by
  refine Spec.of (fn := Try.f76) (by rw [hP.eq]; exact Try.func76) (by kernel_rfl) rfl Try.ntmps76 rfl rfl ?_
  repeat' (first
    | (show WL _ _ _ _ _ _ _; first
      | (apply wl_calc; exact rfl; exact True.intro; exact rfl)
      | refine WL.nil ?_
      | (apply wl_ld; exact rfl; exact rfl; ((repeat (first | exact Pick.here | apply Pick.there))); exact rfl; exact rfl)
      | (apply wl_calc; exact rfl; ((try simp only [inR]); omega); exact rfl)
      | (apply wl_store; exact rfl; exact rfl; exact rfl; ((repeat (first | exact Pick.here | apply Pick.there))); exact rfl)
      | (apply wl_ixI; exact rfl; exact rfl; exact rfl; exact rfl; exact rfl; ((repeat (first | exact Pick.here | apply Pick.there))); exact rfl; (first | exact rfl | omega); omega; exact rfl)
      | (apply wl_ldEI; exact rfl; exact rfl; ((repeat (first | exact Pick.here | apply Pick.there))); exact rfl; assumption; exact rfl; exact rfl)
      | (apply wl_fldE; exact rfl; exact rfl; exact rfl; exact rfl; exact rfl)
      | (apply wl_ixO; exact rfl; exact rfl; exact rfl; exact rfl; exact rfl; ((repeat (first | exact Pick.here | apply Pick.there))); exact rfl; (first | exact rfl | omega); omega; exact rfl)
      | (apply wl_ldEO; exact rfl; exact rfl; ((repeat (first | exact Pick.here | apply Pick.there))); exact rfl; assumption; exact rfl; exact rfl)
      | (apply wl_guard; exact rfl; exact rfl; exact rfl; exact rfl)
      | (apply wl_gno; exact rfl; exact rfl; exact rfl; exact rfl; exact rfl)
      | (apply wl_gsplit; exact rfl; exact rfl; exact rfl; exact rfl; all_goals (intro h; (try simp only [reduceCtorEq, not_true_eq_false, not_false_eq_true, decide_eq_true_eq, decide_eq_false_iff_not, Bool.not_eq_true', Bool.not_eq_false', Bool.not_true, Bool.not_false, Int.not_lt, Int.not_le, ne_eq, Decidable.not_not] at h); (try (exfalso; omega))))
      | (apply wl_rem; exact rfl; exact rfl; omega; exact rfl)
      | (apply wl_row; (iterate 7 (exact rfl)); intro b1)
      | (apply wl_box; exact rfl; exact rfl; exact rfl; intro b1)
      | (apply wl_alloc; exact rfl; exact rfl; intro b1)
      | (apply wl_eqlS; exact rfl; exact rfl; exact rfl)
      | (apply wl_neqS; exact rfl; exact rfl; exact rfl))
    | (show WC _ _ _ _ _ _; first
      | refine WC.seq ?_
      | (apply WC.region; exact rfl)
      | (apply WC.condT; exact rfl)
      | (apply WC.condF; exact rfl)
      | (apply WC.cond; exact rfl; all_goals (intro h; (try simp only [reduceCtorEq, not_true_eq_false, not_false_eq_true, decide_eq_true_eq, decide_eq_false_iff_not, Bool.not_eq_true', Bool.not_eq_false', Bool.not_true, Bool.not_false, Int.not_lt, Int.not_le, ne_eq, Decidable.not_not] at h); (try (exfalso; omega))))
      | refine WC.block ?_
      | refine WC.skip ?_
      | refine WC.ret ?_
      | refine WC.exit ?_)
    | refine Qseq.nm ?_
    | refine Qseq.r ?_
    | refine Qseq.x ?_
    | refine Qblock.nm ?_
    | refine Qblock.r ?_
    | (apply Qblock.t; exact rfl)
    | (apply Qblock.f; exact rfl)
    | refine Qmx.r ?_
    | refine Qmx.nm ?_
    | (apply Qmx.f; exact rfl)
    | refine Qmn.r ?_
    | refine Qmn.x ?_
    | refine Qloop.r ?_
    | refine Qloop.x ?_
    | (apply Qfn.one; exact rfl)
    | (apply Qfn.two; exact rfl; exact rfl)
    | (apply Qfn.three; exact rfl; exact rfl; exact rfl)
    | (apply Qfn.cellt; exact rfl; exact rfl; ((repeat (first | exact Pick.here | apply Pick.there))); exact rfl; exact rfl)
    | refine Qfn.zero ?_
    | refine Qfn.zeroN ?_)
  · (refine wl_call rfl rfl rfl (scontains_spec hl f t) (by repeat (first | exact Take.nil | (apply Take.keepI; focus ((repeat (first | exact Pick.here | apply Pick.there)); done)) | (apply Take.cons; focus ((repeat (first | exact Pick.here | apply Pick.there)); done)) | (apply Take.pure; (first | assumption | omega)))) ?_)
    rintro _ _ ⟨rfl, rfl⟩
    repeat' (first
      | (show WL _ _ _ _ _ _ _; first
        | (apply wl_calc; exact rfl; exact True.intro; exact rfl)
        | refine WL.nil ?_
        | (apply wl_ld; exact rfl; exact rfl; ((repeat (first | exact Pick.here | apply Pick.there))); exact rfl; exact rfl)
        | (apply wl_calc; exact rfl; ((try simp only [inR]); omega); exact rfl)
        | (apply wl_store; exact rfl; exact rfl; exact rfl; ((repeat (first | exact Pick.here | apply Pick.there))); exact rfl)
        | (apply wl_ixI; exact rfl; exact rfl; exact rfl; exact rfl; exact rfl; ((repeat (first | exact Pick.here | apply Pick.there))); exact rfl; (first | exact rfl | omega); omega; exact rfl)
        | (apply wl_ldEI; exact rfl; exact rfl; ((repeat (first | exact Pick.here | apply Pick.there))); exact rfl; assumption; exact rfl; exact rfl)
        | (apply wl_fldE; exact rfl; exact rfl; exact rfl; exact rfl; exact rfl)
        | (apply wl_ixO; exact rfl; exact rfl; exact rfl; exact rfl; exact rfl; ((repeat (first | exact Pick.here | apply Pick.there))); exact rfl; (first | exact rfl | omega); omega; exact rfl)
        | (apply wl_ldEO; exact rfl; exact rfl; ((repeat (first | exact Pick.here | apply Pick.there))); exact rfl; assumption; exact rfl; exact rfl)
        | (apply wl_guard; exact rfl; exact rfl; exact rfl; exact rfl)
        | (apply wl_gno; exact rfl; exact rfl; exact rfl; exact rfl; exact rfl)
        | (apply wl_gsplit; exact rfl; exact rfl; exact rfl; exact rfl; all_goals (intro h; (try simp only [reduceCtorEq, not_true_eq_false, not_false_eq_true, decide_eq_true_eq, decide_eq_false_iff_not, Bool.not_eq_true', Bool.not_eq_false', Bool.not_true, Bool.not_false, Int.not_lt, Int.not_le, ne_eq, Decidable.not_not] at h); (try (exfalso; omega))))
        | (apply wl_rem; exact rfl; exact rfl; omega; exact rfl)
        | (apply wl_row; (iterate 7 (exact rfl)); intro b1)
        | (apply wl_box; exact rfl; exact rfl; exact rfl; intro b1)
        | (apply wl_alloc; exact rfl; exact rfl; intro b1)
        | (apply wl_eqlS; exact rfl; exact rfl; exact rfl)
        | (apply wl_neqS; exact rfl; exact rfl; exact rfl))
      | (show WC _ _ _ _ _ _; first
        | refine WC.seq ?_
        | (apply WC.region; exact rfl)
        | (apply WC.condT; exact rfl)
        | (apply WC.condF; exact rfl)
        | (apply WC.cond; exact rfl; all_goals (intro h; (try simp only [reduceCtorEq, not_true_eq_false, not_false_eq_true, decide_eq_true_eq, decide_eq_false_iff_not, Bool.not_eq_true', Bool.not_eq_false', Bool.not_true, Bool.not_false, Int.not_lt, Int.not_le, ne_eq, Decidable.not_not] at h); (try (exfalso; omega))))
        | refine WC.block ?_
        | refine WC.skip ?_
        | refine WC.ret ?_
        | refine WC.exit ?_)
      | refine Qseq.nm ?_
      | refine Qseq.r ?_
      | refine Qseq.x ?_
      | refine Qblock.nm ?_
      | refine Qblock.r ?_
      | (apply Qblock.t; exact rfl)
      | (apply Qblock.f; exact rfl)
      | refine Qmx.r ?_
      | refine Qmx.nm ?_
      | (apply Qmx.f; exact rfl)
      | refine Qmn.r ?_
      | refine Qmn.x ?_
      | refine Qloop.r ?_
      | refine Qloop.x ?_
      | (apply Qfn.one; exact rfl)
      | (apply Qfn.two; exact rfl; exact rfl)
      | (apply Qfn.three; exact rfl; exact rfl; exact rfl)
      | (apply Qfn.cellt; exact rfl; exact rfl; ((repeat (first | exact Pick.here | apply Pick.there))); exact rfl; exact rfl)
      | refine Qfn.zero ?_
      | refine Qfn.zeroN ?_)
    refine ⟨_, Take.fin (by repeat (first | exact Take.nil | (apply Take.keepI; focus ((repeat (first | exact Pick.here | apply Pick.there)); done)) | (apply Take.cons; focus ((repeat (first | exact Pick.here | apply Pick.there)); done)) | (apply Take.pure; (first | assumption | omega)))), ?_, rfl⟩
    have hq : hasM l f t = l.any (coversM f t) := by
      unfold hasM; rw [decide_eq_false (by omega), Bool.false_or]; rfl
    rw [hq]
  · exact ⟨_, Take.fin (by repeat (first | exact Take.nil | (apply Take.keepI; focus ((repeat (first | exact Pick.here | apply Pick.there)); done)) | (apply Take.cons; focus ((repeat (first | exact Pick.here | apply Pick.there)); done)) | (apply Take.pure; (first | assumption | omega)))), by unfold hasM; rw [decide_eq_true (by assumption), Bool.true_or], rfl⟩
theorem cutP_eq {f t : Int} {r : Rg} (h : r.1 < r.2) : [(r.1, min r.2 f), (max r.1 t, r.2)].filter (fun q => decide (q.1 < q.2)) = cutP f t r := by
  unfold cutP
  rw [List.filter_cons, List.filter_cons, List.filter_nil]
  by_cases h1 : r.1 < f <;> by_cases h2 : t < r.2
  · rw [if_pos (decide_eq_true (by simp only; omega)), if_pos (decide_eq_true (by simp only; omega)), if_pos h1, if_pos h2]; rfl
  · rw [if_pos (decide_eq_true (by simp only; omega)), if_neg (by simp; omega), if_pos h1, if_neg h2]; rfl
  · rw [if_neg (by simp; omega), if_pos (decide_eq_true (by simp only; omega)), if_neg h1, if_pos h2]; rfl
  · rw [if_neg (by simp; omega), if_neg (by simp; omega), if_neg h1, if_neg h2]; rfl
theorem cutP_len (f t : Int) (r : Rg) : (cutP f t r).length ≤ 2 := by
  unfold cutP; split <;> split <;> simp
theorem cut_len (f t : Int) : ∀ l : List Rg, (l.flatMap (cutP f t)).length ≤ 2 * l.length
  | [] => by simp
  | r :: l => by
    have h1 := cutP_len f t r
    have h2 := cut_len f t l
    rw [List.flatMap_cons, List.length_append, List.length_cons]; omega
theorem scut_spec {b : Nat} {a : Option Addr} {c : Nat} {l : List Rg} (hl : l.length ≤ 1000000) (hc : Canon l) (f t : Int) : Spec P 72 [.pointer (some ⟨b, 0, none⟩), .int .i64 f, .int .i64 t] [Blk b 114 (SETc a c l), ISl ER a c l]
    fun r R => r = .tuple ⟨[]⟩ ∧ ∃ a' c', R = [Blk b 114 (SETc a' c' (cutM l f t)), ISl ER a' c' (cutM l f t)] := by
  refine Spec.of (fn := Try.f72) (by rw [hP.eq]; exact Try.func72) (by kernel_rfl) rfl Try.ntmps72 rfl rfl ?_
  repeat' (first
    | (show WL _ _ _ _ _ _ _; first
      | (apply wl_calc; exact rfl; exact True.intro; exact rfl)
      | refine WL.nil ?_
      | (apply wl_ld; exact rfl; exact rfl; ((repeat (first | exact Pick.here | apply Pick.there))); exact rfl; exact rfl)
      | (apply wl_calc; exact rfl; ((try simp only [inR]); omega); exact rfl)
      | (apply wl_store; exact rfl; exact rfl; exact rfl; ((repeat (first | exact Pick.here | apply Pick.there))); exact rfl)
      | (apply wl_ixI; exact rfl; exact rfl; exact rfl; exact rfl; exact rfl; ((repeat (first | exact Pick.here | apply Pick.there))); exact rfl; (first | exact rfl | omega); omega; exact rfl)
      | (apply wl_ldEI; exact rfl; exact rfl; ((repeat (first | exact Pick.here | apply Pick.there))); exact rfl; assumption; exact rfl; exact rfl)
      | (apply wl_fldE; exact rfl; exact rfl; exact rfl; exact rfl; exact rfl)
      | (apply wl_ixO; exact rfl; exact rfl; exact rfl; exact rfl; exact rfl; ((repeat (first | exact Pick.here | apply Pick.there))); exact rfl; (first | exact rfl | omega); omega; exact rfl)
      | (apply wl_ldEO; exact rfl; exact rfl; ((repeat (first | exact Pick.here | apply Pick.there))); exact rfl; assumption; exact rfl; exact rfl)
      | (apply wl_guard; exact rfl; exact rfl; exact rfl; exact rfl)
      | (apply wl_gno; exact rfl; exact rfl; exact rfl; exact rfl; exact rfl)
      | (apply wl_gsplit; exact rfl; exact rfl; exact rfl; exact rfl; all_goals (intro h; (try simp only [reduceCtorEq, not_true_eq_false, not_false_eq_true, decide_eq_true_eq, decide_eq_false_iff_not, Bool.not_eq_true', Bool.not_eq_false', Bool.not_true, Bool.not_false, Int.not_lt, Int.not_le, ne_eq, Decidable.not_not] at h); (try (exfalso; omega))))
      | (apply wl_rem; exact rfl; exact rfl; omega; exact rfl)
      | (apply wl_row; (iterate 7 (exact rfl)); intro b1)
      | (apply wl_box; exact rfl; exact rfl; exact rfl; intro b1)
      | (apply wl_alloc; exact rfl; exact rfl; intro b1)
      | (apply wl_eqlS; exact rfl; exact rfl; exact rfl)
      | (apply wl_neqS; exact rfl; exact rfl; exact rfl))
    | (show WC _ _ _ _ _ _; first
      | refine WC.seq ?_
      | (apply WC.region; exact rfl)
      | (apply WC.condT; exact rfl)
      | (apply WC.condF; exact rfl)
      | (apply WC.cond; exact rfl; all_goals (intro h; (try simp only [reduceCtorEq, not_true_eq_false, not_false_eq_true, decide_eq_true_eq, decide_eq_false_iff_not, Bool.not_eq_true', Bool.not_eq_false', Bool.not_true, Bool.not_false, Int.not_lt, Int.not_le, ne_eq, Decidable.not_not] at h); (try (exfalso; omega))))
      | refine WC.block ?_
      | refine WC.skip ?_
      | refine WC.ret ?_
      | refine WC.exit ?_)
    | refine Qseq.nm ?_
    | refine Qseq.r ?_
    | refine Qseq.x ?_
    | refine Qblock.nm ?_
    | refine Qblock.r ?_
    | (apply Qblock.t; exact rfl)
    | (apply Qblock.f; exact rfl)
    | refine Qmx.r ?_
    | refine Qmx.nm ?_
    | (apply Qmx.f; exact rfl)
    | refine Qmn.r ?_
    | refine Qmn.x ?_
    | refine Qloop.r ?_
    | refine Qloop.x ?_
    | (apply Qfn.one; exact rfl)
    | (apply Qfn.two; exact rfl; exact rfl)
    | (apply Qfn.three; exact rfl; exact rfl; exact rfl)
    | (apply Qfn.cellt; exact rfl; exact rfl; ((repeat (first | exact Pick.here | apply Pick.there))); exact rfl; exact rfl)
    | refine Qfn.zero ?_
    | refine Qfn.zeroN ?_)
  (refine wl_call rfl rfl rfl (swithin_spec f t) (by repeat (first | exact Take.nil | (apply Take.keepI; focus ((repeat (first | exact Pick.here | apply Pick.there)); done)) | (apply Take.cons; focus ((repeat (first | exact Pick.here | apply Pick.there)); done)) | (apply Take.pure; (first | assumption | omega)))) ?_)
  rintro _ _ ⟨rfl, rfl⟩
  repeat' (first
    | (show WL _ _ _ _ _ _ _; first
      | (apply wl_calc; exact rfl; exact True.intro; exact rfl)
      | refine WL.nil ?_
      | (apply wl_ld; exact rfl; exact rfl; ((repeat (first | exact Pick.here | apply Pick.there))); exact rfl; exact rfl)
      | (apply wl_calc; exact rfl; ((try simp only [inR]); omega); exact rfl)
      | (apply wl_store; exact rfl; exact rfl; exact rfl; ((repeat (first | exact Pick.here | apply Pick.there))); exact rfl)
      | (apply wl_ixI; exact rfl; exact rfl; exact rfl; exact rfl; exact rfl; ((repeat (first | exact Pick.here | apply Pick.there))); exact rfl; (first | exact rfl | omega); omega; exact rfl)
      | (apply wl_ldEI; exact rfl; exact rfl; ((repeat (first | exact Pick.here | apply Pick.there))); exact rfl; assumption; exact rfl; exact rfl)
      | (apply wl_fldE; exact rfl; exact rfl; exact rfl; exact rfl; exact rfl)
      | (apply wl_ixO; exact rfl; exact rfl; exact rfl; exact rfl; exact rfl; ((repeat (first | exact Pick.here | apply Pick.there))); exact rfl; (first | exact rfl | omega); omega; exact rfl)
      | (apply wl_ldEO; exact rfl; exact rfl; ((repeat (first | exact Pick.here | apply Pick.there))); exact rfl; assumption; exact rfl; exact rfl)
      | (apply wl_guard; exact rfl; exact rfl; exact rfl; exact rfl)
      | (apply wl_gno; exact rfl; exact rfl; exact rfl; exact rfl; exact rfl)
      | (apply wl_gsplit; exact rfl; exact rfl; exact rfl; exact rfl; all_goals (intro h; (try simp only [reduceCtorEq, not_true_eq_false, not_false_eq_true, decide_eq_true_eq, decide_eq_false_iff_not, Bool.not_eq_true', Bool.not_eq_false', Bool.not_true, Bool.not_false, Int.not_lt, Int.not_le, ne_eq, Decidable.not_not] at h); (try (exfalso; omega))))
      | (apply wl_rem; exact rfl; exact rfl; omega; exact rfl)
      | (apply wl_row; (iterate 7 (exact rfl)); intro b1)
      | (apply wl_box; exact rfl; exact rfl; exact rfl; intro b1)
      | (apply wl_alloc; exact rfl; exact rfl; intro b1)
      | (apply wl_eqlS; exact rfl; exact rfl; exact rfl)
      | (apply wl_neqS; exact rfl; exact rfl; exact rfl))
    | (show WC _ _ _ _ _ _; first
      | refine WC.seq ?_
      | (apply WC.region; exact rfl)
      | (apply WC.condT; exact rfl)
      | (apply WC.condF; exact rfl)
      | (apply WC.cond; exact rfl; all_goals (intro h; (try simp only [reduceCtorEq, not_true_eq_false, not_false_eq_true, decide_eq_true_eq, decide_eq_false_iff_not, Bool.not_eq_true', Bool.not_eq_false', Bool.not_true, Bool.not_false, Int.not_lt, Int.not_le, ne_eq, Decidable.not_not] at h); (try (exfalso; omega))))
      | refine WC.block ?_
      | refine WC.skip ?_
      | refine WC.ret ?_
      | refine WC.exit ?_)
    | refine Qseq.nm ?_
    | refine Qseq.r ?_
    | refine Qseq.x ?_
    | refine Qblock.nm ?_
    | refine Qblock.r ?_
    | (apply Qblock.t; exact rfl)
    | (apply Qblock.f; exact rfl)
    | refine Qmx.r ?_
    | refine Qmx.nm ?_
    | (apply Qmx.f; exact rfl)
    | refine Qmn.r ?_
    | refine Qmn.x ?_
    | refine Qloop.r ?_
    | refine Qloop.x ?_
    | (apply Qfn.one; exact rfl)
    | (apply Qfn.two; exact rfl; exact rfl)
    | (apply Qfn.three; exact rfl; exact rfl; exact rfl)
    | (apply Qfn.cellt; exact rfl; exact rfl; ((repeat (first | exact Pick.here | apply Pick.there))); exact rfl; exact rfl)
    | refine Qfn.zero ?_
    | refine Qfn.zeroN ?_)
  · have hk : cutM l f t = l := by unfold cutM; rw [if_neg (by omega)]
    rw [hk]
    exact ⟨_, Take.fin (by repeat (first | exact Take.nil | (apply Take.keepI; focus ((repeat (first | exact Pick.here | apply Pick.there)); done)) | (apply Take.cons; focus ((repeat (first | exact Pick.here | apply Pick.there)); done)) | (apply Take.pure; (first | assumption | omega)))), rfl, _, _, rfl⟩
  · have hk : cutM l f t = l.flatMap (cutP (max 0 f) (min t 1099511627776)) := by unfold cutM; rw [if_pos (by omega)]
    rw [hk]
    generalize max 0 f = f' at *
    generalize min t 1099511627776 = t' at *
    refine WC.ent (OSl.nilE ER 87 _) ?_
    refine WC.loopU (fun k d D => ∃ (i : Nat) (ao : Option Addr) (co : Nat), (i ≤ l.length) ∧ k = l.length - i ∧ d = [(6, .slice ao ((l.take i).flatMap (cutP f' t')).length co), (25, .int .i64 i)] ∧ D = [OSl ER 87 ao co ((l.take i).flatMap (cutP f' t'))])
      (D0 := [OSl ER 87 none 0 []]) rfl (by repeat (first | exact trivial | refine ⟨rfl, ?_⟩)) (by repeat (first | exact Take.nil | (apply Take.keepI; focus ((repeat (first | exact Pick.here | apply Pick.there)); done)) | (apply Take.cons; focus ((repeat (first | exact Pick.here | apply Pick.there)); done)) | (apply Take.pure; (first | assumption | omega)))) ⟨0, none, 0, by omega, rfl, rfl, rfl⟩ ?_
    rintro _ _ _ ⟨i, ao, co, hi, rfl, rfl, rfl⟩
    repeat' (first
      | (show WL _ _ _ _ _ _ _; first
        | (apply wl_calc; exact rfl; exact True.intro; exact rfl)
        | refine WL.nil ?_
        | (apply wl_ld; exact rfl; exact rfl; ((repeat (first | exact Pick.here | apply Pick.there))); exact rfl; exact rfl)
        | (apply wl_calc; exact rfl; ((try simp only [inR]); omega); exact rfl)
        | (apply wl_store; exact rfl; exact rfl; exact rfl; ((repeat (first | exact Pick.here | apply Pick.there))); exact rfl)
        | (apply wl_ixI; exact rfl; exact rfl; exact rfl; exact rfl; exact rfl; ((repeat (first | exact Pick.here | apply Pick.there))); exact rfl; (first | exact rfl | omega); omega; exact rfl)
        | (apply wl_ldEI; exact rfl; exact rfl; ((repeat (first | exact Pick.here | apply Pick.there))); exact rfl; assumption; exact rfl; exact rfl)
        | (apply wl_fldE; exact rfl; exact rfl; exact rfl; exact rfl; exact rfl)
        | (apply wl_ixO; exact rfl; exact rfl; exact rfl; exact rfl; exact rfl; ((repeat (first | exact Pick.here | apply Pick.there))); exact rfl; (first | exact rfl | omega); omega; exact rfl)
        | (apply wl_ldEO; exact rfl; exact rfl; ((repeat (first | exact Pick.here | apply Pick.there))); exact rfl; assumption; exact rfl; exact rfl)
        | (apply wl_guard; exact rfl; exact rfl; exact rfl; exact rfl)
        | (apply wl_gno; exact rfl; exact rfl; exact rfl; exact rfl; exact rfl)
        | (apply wl_gsplit; exact rfl; exact rfl; exact rfl; exact rfl; all_goals (intro h; (try simp only [reduceCtorEq, not_true_eq_false, not_false_eq_true, decide_eq_true_eq, decide_eq_false_iff_not, Bool.not_eq_true', Bool.not_eq_false', Bool.not_true, Bool.not_false, Int.not_lt, Int.not_le, ne_eq, Decidable.not_not] at h); (try (exfalso; omega))))
        | (apply wl_rem; exact rfl; exact rfl; omega; exact rfl)
        | (apply wl_row; (iterate 7 (exact rfl)); intro b1)
        | (apply wl_box; exact rfl; exact rfl; exact rfl; intro b1)
        | (apply wl_alloc; exact rfl; exact rfl; intro b1)
        | (apply wl_eqlS; exact rfl; exact rfl; exact rfl)
        | (apply wl_neqS; exact rfl; exact rfl; exact rfl))
      | (show WC _ _ _ _ _ _; first
        | refine WC.seq ?_
        | (apply WC.region; exact rfl)
        | (apply WC.condT; exact rfl)
        | (apply WC.condF; exact rfl)
        | (apply WC.cond; exact rfl; all_goals (intro h; (try simp only [reduceCtorEq, not_true_eq_false, not_false_eq_true, decide_eq_true_eq, decide_eq_false_iff_not, Bool.not_eq_true', Bool.not_eq_false', Bool.not_true, Bool.not_false, Int.not_lt, Int.not_le, ne_eq, Decidable.not_not] at h); (try (exfalso; omega))))
        | refine WC.block ?_
        | refine WC.skip ?_
        | refine WC.ret ?_
        | refine WC.exit ?_)
      | refine Qseq.nm ?_
      | refine Qseq.r ?_
      | refine Qseq.x ?_
      | refine Qblock.nm ?_
      | refine Qblock.r ?_
      | (apply Qblock.t; exact rfl)
      | (apply Qblock.f; exact rfl)
      | refine Qmx.r ?_
      | refine Qmx.nm ?_
      | (apply Qmx.f; exact rfl)
      | refine Qmn.r ?_
      | refine Qmn.x ?_
      | refine Qloop.r ?_
      | refine Qloop.x ?_
      | (apply Qfn.one; exact rfl)
      | (apply Qfn.two; exact rfl; exact rfl)
      | (apply Qfn.three; exact rfl; exact rfl; exact rfl)
      | (apply Qfn.cellt; exact rfl; exact rfl; ((repeat (first | exact Pick.here | apply Pick.there))); exact rfl; exact rfl)
      | refine Qfn.zero ?_
      | refine Qfn.zeroN ?_)
    · obtain ⟨x, hx⟩ := getI (i := i) (xs := l) (by omega)
      have hxo := hc.ok x (List.mem_of_getElem? hx)
      unfold RgOk at hxo
      have hcl := cut_len f' t' (l.take i)
      have htl : (l.take i).length ≤ i := by simp; omega
      have hsn : (l.take (i + 1)).flatMap (cutP f' t') = (l.take i).flatMap (cutP f' t') ++ [(x.1, min x.2 f'), (max x.1 t', x.2)].filter (fun q => decide (q.1 < q.2)) := by
        rw [takeI hx, List.flatMap_append, List.flatMap_singleton, cutP_eq hxo.2.1]
      generalize (l.take i).flatMap (cutP f' t') = acc at *
      generalize hacc : (l.take (i + 1)).flatMap (cutP f' t') = acc2 at *
      repeat' (first
        | (show WL _ _ _ _ _ _ _; first
          | (apply wl_calc; exact rfl; exact True.intro; exact rfl)
          | refine WL.nil ?_
          | (apply wl_ld; exact rfl; exact rfl; ((repeat (first | exact Pick.here | apply Pick.there))); exact rfl; exact rfl)
          | (apply wl_calc; exact rfl; ((try simp only [inR]); omega); exact rfl)
          | (apply wl_store; exact rfl; exact rfl; exact rfl; ((repeat (first | exact Pick.here | apply Pick.there))); exact rfl)
          | (apply wl_ixI; exact rfl; exact rfl; exact rfl; exact rfl; exact rfl; ((repeat (first | exact Pick.here | apply Pick.there))); exact rfl; (first | exact rfl | omega); omega; exact rfl)
          | (apply wl_ldEI; exact rfl; exact rfl; ((repeat (first | exact Pick.here | apply Pick.there))); exact rfl; assumption; exact rfl; exact rfl)
          | (apply wl_fldE; exact rfl; exact rfl; exact rfl; exact rfl; exact rfl)
          | (apply wl_ixO; exact rfl; exact rfl; exact rfl; exact rfl; exact rfl; ((repeat (first | exact Pick.here | apply Pick.there))); exact rfl; (first | exact rfl | omega); omega; exact rfl)
          | (apply wl_ldEO; exact rfl; exact rfl; ((repeat (first | exact Pick.here | apply Pick.there))); exact rfl; assumption; exact rfl; exact rfl)
          | (apply wl_guard; exact rfl; exact rfl; exact rfl; exact rfl)
          | (apply wl_gno; exact rfl; exact rfl; exact rfl; exact rfl; exact rfl)
          | (apply wl_gsplit; exact rfl; exact rfl; exact rfl; exact rfl; all_goals (intro h; (try simp only [reduceCtorEq, not_true_eq_false, not_false_eq_true, decide_eq_true_eq, decide_eq_false_iff_not, Bool.not_eq_true', Bool.not_eq_false', Bool.not_true, Bool.not_false, Int.not_lt, Int.not_le, ne_eq, Decidable.not_not] at h); (try (exfalso; omega))))
          | (apply wl_rem; exact rfl; exact rfl; omega; exact rfl)
          | (apply wl_row; (iterate 7 (exact rfl)); intro b1)
          | (apply wl_box; exact rfl; exact rfl; exact rfl; intro b1)
          | (apply wl_alloc; exact rfl; exact rfl; intro b1)
          | (apply wl_eqlS; exact rfl; exact rfl; exact rfl)
          | (apply wl_neqS; exact rfl; exact rfl; exact rfl))
        | (show WC _ _ _ _ _ _; first
          | refine WC.seq ?_
          | (apply WC.region; exact rfl)
          | (apply WC.condT; exact rfl)
          | (apply WC.condF; exact rfl)
          | (apply WC.cond; exact rfl; all_goals (intro h; (try simp only [reduceCtorEq, not_true_eq_false, not_false_eq_true, decide_eq_true_eq, decide_eq_false_iff_not, Bool.not_eq_true', Bool.not_eq_false', Bool.not_true, Bool.not_false, Int.not_lt, Int.not_le, ne_eq, Decidable.not_not] at h); (try (exfalso; omega))))
          | refine WC.block ?_
          | refine WC.skip ?_
          | refine WC.ret ?_
          | refine WC.exit ?_)
        | refine Qseq.nm ?_
        | refine Qseq.r ?_
        | refine Qseq.x ?_
        | refine Qblock.nm ?_
        | refine Qblock.r ?_
        | (apply Qblock.t; exact rfl)
        | (apply Qblock.f; exact rfl)
        | refine Qmx.r ?_
        | refine Qmx.nm ?_
        | (apply Qmx.f; exact rfl)
        | refine Qmn.r ?_
        | refine Qmn.x ?_
        | refine Qloop.r ?_
        | refine Qloop.x ?_
        | (apply Qfn.one; exact rfl)
        | (apply Qfn.two; exact rfl; exact rfl)
        | (apply Qfn.three; exact rfl; exact rfl; exact rfl)
        | (apply Qfn.cellt; exact rfl; exact rfl; ((repeat (first | exact Pick.here | apply Pick.there))); exact rfl; exact rfl)
        | refine Qfn.zero ?_
        | refine Qfn.zeroN ?_)
      refine WC.ent (Ent.share (b := b1) (cs := [.int .i64 x.1, .int .i64 (min x.2 f'), .int .i64 (max x.1 t'), .int .i64 x.2])) ?_
      refine WC.ent (Ent.addP (B := ISl ER (some ⟨b1, 0, none⟩) 2 [(x.1, min x.2 f'), (max x.1 t', x.2)]) (IBlk.pers b1 87 [.int .i64 x.1, .int .i64 (min x.2 f'), .int .i64 (max x.1 t'), .int .i64 x.2]) Pick.here (IBlk.isl ER [(x.1, min x.2 f'), (max x.1 t', x.2)] rfl (fun _ _ => trivial))) ?_
      obtain ⟨ps, hps⟩ : ∃ ps, ps = [(x.1, min x.2 f'), (max x.1 t', x.2)] := ⟨_, rfl⟩
      have hpl : ps.length = 2 := by rw [hps]; rfl
      rw [← hps] at hsn ⊢
      clear hps
      refine WC.loopU (fun k d D => ∃ (j : Nat) (out : List Rg) (ao : Option Addr) (co : Nat), (j ≤ 2 ∧ out = acc ++ (ps.take j).filter (fun q => decide (q.1 < q.2)) ∧ out.length ≤ acc.length + j) ∧ k = 2 - j ∧ d = [(6, .slice ao out.length co), (45, .int .i64 j)] ∧ D = [OSl ER 87 ao co out])
        (D0 := [OSl ER 87 ao co acc]) rfl (by repeat (first | exact trivial | refine ⟨rfl, ?_⟩)) (by repeat (first | exact Take.nil | (apply Take.keepI; focus ((repeat (first | exact Pick.here | apply Pick.there)); done)) | (apply Take.cons; focus ((repeat (first | exact Pick.here | apply Pick.there)); done)) | (apply Take.pure; (first | assumption | omega)))) ⟨0, acc, ao, co, ⟨by omega, by simp, by omega⟩, rfl, rfl, rfl⟩ ?_
      rintro _ _ _ ⟨j, out, ao, co, ⟨hj, ho, hol⟩, rfl, rfl, rfl⟩
      repeat' (first
        | (show WL _ _ _ _ _ _ _; first
          | (apply wl_calc; exact rfl; exact True.intro; exact rfl)
          | refine WL.nil ?_
          | (apply wl_ld; exact rfl; exact rfl; ((repeat (first | exact Pick.here | apply Pick.there))); exact rfl; exact rfl)
          | (apply wl_calc; exact rfl; ((try simp only [inR]); omega); exact rfl)
          | (apply wl_store; exact rfl; exact rfl; exact rfl; ((repeat (first | exact Pick.here | apply Pick.there))); exact rfl)
          | (apply wl_ixI; exact rfl; exact rfl; exact rfl; exact rfl; exact rfl; ((repeat (first | exact Pick.here | apply Pick.there))); exact rfl; (first | exact rfl | omega); omega; exact rfl)
          | (apply wl_ldEI; exact rfl; exact rfl; ((repeat (first | exact Pick.here | apply Pick.there))); exact rfl; assumption; exact rfl; exact rfl)
          | (apply wl_fldE; exact rfl; exact rfl; exact rfl; exact rfl; exact rfl)
          | (apply wl_ixO; exact rfl; exact rfl; exact rfl; exact rfl; exact rfl; ((repeat (first | exact Pick.here | apply Pick.there))); exact rfl; (first | exact rfl | omega); omega; exact rfl)
          | (apply wl_ldEO; exact rfl; exact rfl; ((repeat (first | exact Pick.here | apply Pick.there))); exact rfl; assumption; exact rfl; exact rfl)
          | (apply wl_guard; exact rfl; exact rfl; exact rfl; exact rfl)
          | (apply wl_gno; exact rfl; exact rfl; exact rfl; exact rfl; exact rfl)
          | (apply wl_gsplit; exact rfl; exact rfl; exact rfl; exact rfl; all_goals (intro h; (try simp only [reduceCtorEq, not_true_eq_false, not_false_eq_true, decide_eq_true_eq, decide_eq_false_iff_not, Bool.not_eq_true', Bool.not_eq_false', Bool.not_true, Bool.not_false, Int.not_lt, Int.not_le, ne_eq, Decidable.not_not] at h); (try (exfalso; omega))))
          | (apply wl_rem; exact rfl; exact rfl; omega; exact rfl)
          | (apply wl_row; (iterate 7 (exact rfl)); intro b1)
          | (apply wl_box; exact rfl; exact rfl; exact rfl; intro b1)
          | (apply wl_alloc; exact rfl; exact rfl; intro b1)
          | (apply wl_eqlS; exact rfl; exact rfl; exact rfl)
          | (apply wl_neqS; exact rfl; exact rfl; exact rfl))
        | (show WC _ _ _ _ _ _; first
          | refine WC.seq ?_
          | (apply WC.region; exact rfl)
          | (apply WC.condT; exact rfl)
          | (apply WC.condF; exact rfl)
          | (apply WC.cond; exact rfl; all_goals (intro h; (try simp only [reduceCtorEq, not_true_eq_false, not_false_eq_true, decide_eq_true_eq, decide_eq_false_iff_not, Bool.not_eq_true', Bool.not_eq_false', Bool.not_true, Bool.not_false, Int.not_lt, Int.not_le, ne_eq, Decidable.not_not] at h); (try (exfalso; omega))))
          | refine WC.block ?_
          | refine WC.skip ?_
          | refine WC.ret ?_
          | refine WC.exit ?_)
        | refine Qseq.nm ?_
        | refine Qseq.r ?_
        | refine Qseq.x ?_
        | refine Qblock.nm ?_
        | refine Qblock.r ?_
        | (apply Qblock.t; exact rfl)
        | (apply Qblock.f; exact rfl)
        | refine Qmx.r ?_
        | refine Qmx.nm ?_
        | (apply Qmx.f; exact rfl)
        | refine Qmn.r ?_
        | refine Qmn.x ?_
        | refine Qloop.r ?_
        | refine Qloop.x ?_
        | (apply Qfn.one; exact rfl)
        | (apply Qfn.two; exact rfl; exact rfl)
        | (apply Qfn.three; exact rfl; exact rfl; exact rfl)
        | (apply Qfn.cellt; exact rfl; exact rfl; ((repeat (first | exact Pick.here | apply Pick.there))); exact rfl; exact rfl)
        | refine Qfn.zero ?_
        | refine Qfn.zeroN ?_)
      · obtain ⟨y, hy⟩ := getI (i := j) (xs := ps) (by omega)
        have ht := takeI hy
        repeat' (first
          | (show WL _ _ _ _ _ _ _; first
            | (apply wl_calc; exact rfl; exact True.intro; exact rfl)
            | refine WL.nil ?_
            | (apply wl_ld; exact rfl; exact rfl; ((repeat (first | exact Pick.here | apply Pick.there))); exact rfl; exact rfl)
            | (apply wl_calc; exact rfl; ((try simp only [inR]); omega); exact rfl)
            | (apply wl_store; exact rfl; exact rfl; exact rfl; ((repeat (first | exact Pick.here | apply Pick.there))); exact rfl)
            | (apply wl_ixI; exact rfl; exact rfl; exact rfl; exact rfl; exact rfl; ((repeat (first | exact Pick.here | apply Pick.there))); exact rfl; (first | exact rfl | omega); omega; exact rfl)
            | (apply wl_ldEI; exact rfl; exact rfl; ((repeat (first | exact Pick.here | apply Pick.there))); exact rfl; assumption; exact rfl; exact rfl)
            | (apply wl_fldE; exact rfl; exact rfl; exact rfl; exact rfl; exact rfl)
            | (apply wl_ixO; exact rfl; exact rfl; exact rfl; exact rfl; exact rfl; ((repeat (first | exact Pick.here | apply Pick.there))); exact rfl; (first | exact rfl | omega); omega; exact rfl)
            | (apply wl_ldEO; exact rfl; exact rfl; ((repeat (first | exact Pick.here | apply Pick.there))); exact rfl; assumption; exact rfl; exact rfl)
            | (apply wl_guard; exact rfl; exact rfl; exact rfl; exact rfl)
            | (apply wl_gno; exact rfl; exact rfl; exact rfl; exact rfl; exact rfl)
            | (apply wl_gsplit; exact rfl; exact rfl; exact rfl; exact rfl; all_goals (intro h; (try simp only [reduceCtorEq, not_true_eq_false, not_false_eq_true, decide_eq_true_eq, decide_eq_false_iff_not, Bool.not_eq_true', Bool.not_eq_false', Bool.not_true, Bool.not_false, Int.not_lt, Int.not_le, ne_eq, Decidable.not_not] at h); (try (exfalso; omega))))
            | (apply wl_rem; exact rfl; exact rfl; omega; exact rfl)
            | (apply wl_row; (iterate 7 (exact rfl)); intro b1)
            | (apply wl_box; exact rfl; exact rfl; exact rfl; intro b1)
            | (apply wl_alloc; exact rfl; exact rfl; intro b1)
            | (apply wl_eqlS; exact rfl; exact rfl; exact rfl)
            | (apply wl_neqS; exact rfl; exact rfl; exact rfl))
          | (show WC _ _ _ _ _ _; first
            | refine WC.seq ?_
            | (apply WC.region; exact rfl)
            | (apply WC.condT; exact rfl)
            | (apply WC.condF; exact rfl)
            | (apply WC.cond; exact rfl; all_goals (intro h; (try simp only [reduceCtorEq, not_true_eq_false, not_false_eq_true, decide_eq_true_eq, decide_eq_false_iff_not, Bool.not_eq_true', Bool.not_eq_false', Bool.not_true, Bool.not_false, Int.not_lt, Int.not_le, ne_eq, Decidable.not_not] at h); (try (exfalso; omega))))
            | refine WC.block ?_
            | refine WC.skip ?_
            | refine WC.ret ?_
            | refine WC.exit ?_)
          | refine Qseq.nm ?_
          | refine Qseq.r ?_
          | refine Qseq.x ?_
          | refine Qblock.nm ?_
          | refine Qblock.r ?_
          | (apply Qblock.t; exact rfl)
          | (apply Qblock.f; exact rfl)
          | refine Qmx.r ?_
          | refine Qmx.nm ?_
          | (apply Qmx.f; exact rfl)
          | refine Qmn.r ?_
          | refine Qmn.x ?_
          | refine Qloop.r ?_
          | refine Qloop.x ?_
          | (apply Qfn.one; exact rfl)
          | (apply Qfn.two; exact rfl; exact rfl)
          | (apply Qfn.three; exact rfl; exact rfl; exact rfl)
          | (apply Qfn.cellt; exact rfl; exact rfl; ((repeat (first | exact Pick.here | apply Pick.there))); exact rfl; exact rfl)
          | refine Qfn.zero ?_
          | refine Qfn.zeroN ?_)
        · (apply wl_append1 (y); exact rfl; exact rfl; exact rfl; exact rfl; exact rfl; exact rfl; (apply Ent.pick; ((repeat (first | exact Pick.here | apply Pick.there))); exact Ent.refl _); ((repeat (first | exact Pick.here | apply Pick.there))); exact rfl; (trivial); exact rfl; exact rfl; exact rfl; exact rfl; exact rfl; exact rfl; (show (_ + 1) * 16 ≤ _; omega); exact rfl; intro a1 c1)
          repeat' (first
            | (show WL _ _ _ _ _ _ _; first
              | (apply wl_calc; exact rfl; exact True.intro; exact rfl)
              | refine WL.nil ?_
              | (apply wl_ld; exact rfl; exact rfl; ((repeat (first | exact Pick.here | apply Pick.there))); exact rfl; exact rfl)
              | (apply wl_calc; exact rfl; ((try simp only [inR]); omega); exact rfl)
              | (apply wl_store; exact rfl; exact rfl; exact rfl; ((repeat (first | exact Pick.here | apply Pick.there))); exact rfl)
              | (apply wl_ixI; exact rfl; exact rfl; exact rfl; exact rfl; exact rfl; ((repeat (first | exact Pick.here | apply Pick.there))); exact rfl; (first | exact rfl | omega); omega; exact rfl)
              | (apply wl_ldEI; exact rfl; exact rfl; ((repeat (first | exact Pick.here | apply Pick.there))); exact rfl; assumption; exact rfl; exact rfl)
              | (apply wl_fldE; exact rfl; exact rfl; exact rfl; exact rfl; exact rfl)
              | (apply wl_ixO; exact rfl; exact rfl; exact rfl; exact rfl; exact rfl; ((repeat (first | exact Pick.here | apply Pick.there))); exact rfl; (first | exact rfl | omega); omega; exact rfl)
              | (apply wl_ldEO; exact rfl; exact rfl; ((repeat (first | exact Pick.here | apply Pick.there))); exact rfl; assumption; exact rfl; exact rfl)
              | (apply wl_guard; exact rfl; exact rfl; exact rfl; exact rfl)
              | (apply wl_gno; exact rfl; exact rfl; exact rfl; exact rfl; exact rfl)
              | (apply wl_gsplit; exact rfl; exact rfl; exact rfl; exact rfl; all_goals (intro h; (try simp only [reduceCtorEq, not_true_eq_false, not_false_eq_true, decide_eq_true_eq, decide_eq_false_iff_not, Bool.not_eq_true', Bool.not_eq_false', Bool.not_true, Bool.not_false, Int.not_lt, Int.not_le, ne_eq, Decidable.not_not] at h); (try (exfalso; omega))))
              | (apply wl_rem; exact rfl; exact rfl; omega; exact rfl)
              | (apply wl_row; (iterate 7 (exact rfl)); intro b1)
              | (apply wl_box; exact rfl; exact rfl; exact rfl; intro b1)
              | (apply wl_alloc; exact rfl; exact rfl; intro b1)
              | (apply wl_eqlS; exact rfl; exact rfl; exact rfl)
              | (apply wl_neqS; exact rfl; exact rfl; exact rfl))
            | (show WC _ _ _ _ _ _; first
              | refine WC.seq ?_
              | (apply WC.region; exact rfl)
              | (apply WC.condT; exact rfl)
              | (apply WC.condF; exact rfl)
              | (apply WC.cond; exact rfl; all_goals (intro h; (try simp only [reduceCtorEq, not_true_eq_false, not_false_eq_true, decide_eq_true_eq, decide_eq_false_iff_not, Bool.not_eq_true', Bool.not_eq_false', Bool.not_true, Bool.not_false, Int.not_lt, Int.not_le, ne_eq, Decidable.not_not] at h); (try (exfalso; omega))))
              | refine WC.block ?_
              | refine WC.skip ?_
              | refine WC.ret ?_
              | refine WC.exit ?_)
            | refine Qseq.nm ?_
            | refine Qseq.r ?_
            | refine Qseq.x ?_
            | refine Qblock.nm ?_
            | refine Qblock.r ?_
            | (apply Qblock.t; exact rfl)
            | (apply Qblock.f; exact rfl)
            | refine Qmx.r ?_
            | refine Qmx.nm ?_
            | (apply Qmx.f; exact rfl)
            | refine Qmn.r ?_
            | refine Qmn.x ?_
            | refine Qloop.r ?_
            | refine Qloop.x ?_
            | (apply Qfn.one; exact rfl)
            | (apply Qfn.two; exact rfl; exact rfl)
            | (apply Qfn.three; exact rfl; exact rfl; exact rfl)
            | (apply Qfn.cellt; exact rfl; exact rfl; ((repeat (first | exact Pick.here | apply Pick.there))); exact rfl; exact rfl)
            | refine Qfn.zero ?_
            | refine Qfn.zeroN ?_)
          exact Qloop.againU (2 - (j + 1)) (by omega) ⟨j + 1, out ++ [y], _, _, ⟨by omega, by rw [ht, List.filter_append, ho, List.append_assoc]; congr 2; exact (List.filter_cons_of_pos (l := []) (p := fun q : Rg => decide (q.1 < q.2)) (decide_eq_true (by assumption))).symm, by rw [List.length_append]; show out.length + 1 ≤ _; omega⟩, rfl, rfl, rfl⟩ (by repeat (first | exact trivial | refine ⟨rfl, ?_⟩)) (by repeat (first | exact Take.nil | (apply Take.keepI; focus ((repeat (first | exact Pick.here | apply Pick.there)); done)) | (apply Take.cons; focus ((repeat (first | exact Pick.here | apply Pick.there)); done)) | (apply Take.pure; (first | assumption | omega))))
        · exact Qloop.againU (2 - (j + 1)) (by omega) ⟨j + 1, out, _, _, ⟨by omega, by rw [ht, List.filter_append, ho, List.filter_cons_of_neg (by simp; omega), List.filter_nil, List.append_nil], by omega⟩, rfl, rfl, rfl⟩ (by repeat (first | exact trivial | refine ⟨rfl, ?_⟩)) (by repeat (first | exact Take.nil | (apply Take.keepI; focus ((repeat (first | exact Pick.here | apply Pick.there)); done)) | (apply Take.cons; focus ((repeat (first | exact Pick.here | apply Pick.there)); done)) | (apply Take.pure; (first | assumption | omega))))
      · rw [List.take_of_length_le (by omega), ← hsn] at ho
        subst ho
        exact Qloop.againU (l.length - (i + 1)) (by omega) ⟨i + 1, _, _, by omega, rfl, by rw [hacc], by rw [hacc]⟩ (by repeat (first | exact trivial | refine ⟨rfl, ?_⟩)) (by repeat (first | exact Take.nil | (apply Take.keepI; focus ((repeat (first | exact Pick.here | apply Pick.there)); done)) | (apply Take.cons; focus ((repeat (first | exact Pick.here | apply Pick.there)); done)) | (apply Take.pure; (first | assumption | omega))))
    · rw [List.take_of_length_le (show l.length ≤ i by omega)]
      exact ⟨_, (Ent.sh (a := ao) (c := co) (by (repeat (first | exact Pick.here | apply Pick.there)))).trans (Take.fin (by repeat (first | exact Take.nil | (apply Take.keepI; focus ((repeat (first | exact Pick.here | apply Pick.there)); done)) | (apply Take.cons; focus ((repeat (first | exact Pick.here | apply Pick.there)); done)) | (apply Take.pure; (first | assumption | omega))))), rfl, _, _, rfl⟩
end Go.Proofs.Ytidmolpkcfhkaaa
