/- For each of the laws below: whatever the input, the law returns true, and its input reads as it did; without any condition. -/
import Derived.Test.YtnfpidnnmgedfaaEvLaw
import Derived.Test.YtnfpidnnmgedfaaSe2XAreEquivalentForms
import Derived.Test.YtnfpidnnmgedfaaMaXAreEquivalentForms
import Derived.Test.YtnfpidnnmgedfaaRows
namespace Go.Proofs.Ytnfpidnnmgedfaa
open Go Go.Ev Go.Sh Go.RowKit Go.ChangeAt

theorem Try.own : ownKnob Try.prog.godebug = none := by kernel_rfl
theorem Try.laidOut : laidOutB Try.prog = true := by kernel_rfl

theorem laws_FnExactAreEquivalentForms_by {α : Type} (n : Nat) (aX : Int) (aX1 : Int) (aX2 : Int) (aY : Int) (aY1 : Int) (aY2 : Int) (κ : Res → Option α) : byShape laws_FnExactAreEquivalentForms_sh (laws_FnExactAreEquivalentForms_run n) [.agg [.int .i64 aX, .int .i64 aX1, .int .i64 aX2], .agg [.int .i64 aY, .int .i64 aY1, .int .i64 aY2]] κ = laws_FnExactAreEquivalentForms n aX aX1 aX2 aY aY1 aY2 (fun v1 => κ ⟨[.bool v1], []⟩) := by kernel_rfl
theorem laws_FnExactAreEquivalentForms_runs (ds : List D) (h : FitDs [.agg 3, .agg 3] ds) : ∃ k, byShape laws_FnExactAreEquivalentForms_sh (laws_FnExactAreEquivalentForms_run k) ds some = some ⟨[.bool true], []⟩ := by
  obtain ⟨d0, ds0, e0, hf0, hs0⟩ := fits_cons h
  obtain ⟨l0_0, hl0_0, ed0, hb0⟩ := hf0
  obtain ⟨aX, l0_1, el0_0, hl0_1⟩ := len_succ hl0_0
  obtain ⟨aX1, l0_2, el0_1, hl0_2⟩ := len_succ hl0_1
  obtain ⟨aX2, l0_3, el0_2, hl0_3⟩ := len_succ hl0_2
  have el0_3 := len_zero hl0_3
  subst el0_3
  subst el0_2
  subst el0_1
  subst el0_0
  subst ed0
  obtain ⟨d1, ds1, e1, hf1, hs1⟩ := fits_cons hs0
  obtain ⟨l1_0, hl1_0, ed1, hb1⟩ := hf1
  obtain ⟨aY, l1_1, el1_0, hl1_1⟩ := len_succ hl1_0
  obtain ⟨aY1, l1_2, el1_1, hl1_2⟩ := len_succ hl1_1
  obtain ⟨aY2, l1_3, el1_2, hl1_3⟩ := len_succ hl1_2
  have el1_3 := len_zero hl1_3
  subst el1_3
  subst el1_2
  subst el1_1
  subst el1_0
  subst ed1
  have el := fits_nil hs1
  subst el
  subst e1
  subst e0
  exact ⟨1000101, (laws_FnExactAreEquivalentForms_by 1000101 aX aX1 aX2 aY aY1 aY2 some).trans (law_AreEquivalentForms 1000101 (by decide) aX aX1 aX2 aY aY1 aY2 _)⟩
set_option maxRecDepth 100000 in
theorem fnExactAreEquivalentForms_lifted (os : Os) (started : os.Started) (H : Type) (enc : TypeId × Value → H) :
    ReturnsInHanded {} Try.checked os 3 .any (Rows.fnExactAreEquivalentFormsSpec.pre6 enc Try.prog Try.f3 Rows.fnExactAreEquivalentFormsRow.domain false) (Rows.fnExactAreEquivalentFormsSpec.post enc Try.prog Try.f3 false true false false) := by
  refine returnsInHanded_of_change (C := Try.checked) Try.own started (by kernel_rfl) Try.func3
    (ChangeSpec.witness6 (enc := enc) (C := Try.checked) false ⟨#[], #[.agg #[.int .i64 0, .int .i64 0, .int .i64 0], .agg #[.int .i64 0, .int .i64 0, .int .i64 0]], []⟩ 8 (by kernel_rfl) (by kernel_rfl) (by kernel_rfl) (by kernel_rfl)) ?_
  intro W base args ds gs before hval hW hcnd _
  exact law_row (P := Try.prog) (fn := Try.f3) (tb := 4) Try.laidOut (by kernel_rfl) (by kernel_rfl) Try.underlying4 rfl laws_FnExactAreEquivalentForms_good (ks := [.agg 3, .agg 3]) (by kernel_rfl) laws_FnExactAreEquivalentForms_runs
    (fun ds h => match ds, h with | [_, _], _ => rfl) hval hW
theorem fnExactAreEquivalentForms_holds : Rows.FnExactAreEquivalentFormsSaid :=
  OpenClaim.holds_of_wide 3 Try.f3 rfl rfl rfl rfl rfl rfl rfl ⟨rfl, rfl, rfl, rfl, rfl⟩ rfl rfl rfl rfl rfl (by kernel_rfl) Try.func3 (by kernel_rfl)
    (of_decide_eq_true (by kernel_rfl)) (by unfold Func.isWrapper; first | (rw [if_pos (by decide +kernel)]; kernel_rfl) | (rw [if_neg (by decide +kernel)]; exact ⟨rfl, rfl⟩))
    (fun os started H enc _ => fnExactAreEquivalentForms_lifted os started H enc)

#print axioms fnExactAreEquivalentForms_holds
end Go.Proofs.Ytnfpidnnmgedfaa
