/- For each of the laws below: whatever the input, the law returns true, and its input reads as it did; without any condition. -/
import Derived.Test.YtnfpidnnmgedfaaEvLaw
import Derived.Test.YtnfpidnnmgedfaaSe3XCycleOfForm
import Derived.Test.YtnfpidnnmgedfaaMaXCycleOfForm
import Derived.Test.YtnfpidnnmgedfaaRows
namespace Go.Proofs.Ytnfpidnnmgedfaa
open Go Go.Ev Go.Sh Go.RowKit Go.ChangeAt

theorem Try.own : ownKnob Try.prog.godebug = none := by kernel_rfl
theorem Try.laidOut : laidOutB Try.prog = true := by kernel_rfl

theorem laws_FnExactCycleOfForm_by {α : Type} (n : Nat) (aX : Int) (aX1 : Int) (aX2 : Int) (κ : Res → Option α) : byShape laws_FnExactCycleOfForm_sh (laws_FnExactCycleOfForm_run n) [.agg [.int .i64 aX, .int .i64 aX1, .int .i64 aX2]] κ = laws_FnExactCycleOfForm n aX aX1 aX2 (fun v1 => κ ⟨[.bool v1], []⟩) := by kernel_rfl
theorem laws_FnExactCycleOfForm_runs (ds : List D) (h : FitDs [.agg 3] ds) : ∃ k, byShape laws_FnExactCycleOfForm_sh (laws_FnExactCycleOfForm_run k) ds some = some ⟨[.bool true], []⟩ := by
  obtain ⟨d0, ds0, e0, hf0, hs0⟩ := fits_cons h
  obtain ⟨l0_0, hl0_0, ed0, hb0⟩ := hf0
  obtain ⟨aX, l0_1, el0_0, hl0_1⟩ := len_succ hl0_0
  obtain ⟨aX1, l0_2, el0_1, hl0_2⟩ := len_succ hl0_1
  obtain ⟨aX2, l0_3, el0_2, hl0_3⟩ := len_succ hl0_2
  have el0_3 := len_zero hl0_3
  subst el0_3
  subst el0_2
  subst el0_1
  subst el0_0
  subst ed0
  have el := fits_nil hs0
  subst el
  subst e0
  exact ⟨1000101, (laws_FnExactCycleOfForm_by 1000101 aX aX1 aX2 some).trans (law_CycleOfForm 1000101 (by decide) aX aX1 aX2 _)⟩
set_option maxRecDepth 100000 in
theorem fnExactCycleOfForm_lifted (os : Os) (started : os.Started) (H : Type) (enc : TypeId × Value → H) :
    ReturnsInHanded {} Try.checked os 8 .any (Rows.fnExactCycleOfFormSpec.pre6 enc Try.prog Try.f8 Rows.fnExactCycleOfFormRow.domain false) (Rows.fnExactCycleOfFormSpec.post enc Try.prog Try.f8 false true false false) := by
  refine returnsInHanded_of_change (C := Try.checked) Try.own started (by kernel_rfl) Try.func8
    (ChangeSpec.witness6 (enc := enc) (C := Try.checked) false ⟨#[], #[.agg #[.int .i64 0, .int .i64 0, .int .i64 0]], []⟩ 8 (by kernel_rfl) (by kernel_rfl) (by kernel_rfl) (by kernel_rfl)) ?_
  intro W base args ds gs before hval hW hcnd _
  exact law_row (P := Try.prog) (fn := Try.f8) (tb := 4) Try.laidOut (by kernel_rfl) (by kernel_rfl) Try.underlying4 rfl laws_FnExactCycleOfForm_good (ks := [.agg 3]) (by kernel_rfl) laws_FnExactCycleOfForm_runs
    (fun ds h => match ds, h with | [_], _ => rfl) hval hW
theorem fnExactCycleOfForm_holds : Rows.FnExactCycleOfFormSaid :=
  OpenClaim.holds_of_wide 8 Try.f8 rfl rfl rfl rfl rfl rfl rfl ⟨rfl, rfl, rfl, rfl, rfl⟩ rfl rfl rfl rfl rfl (by kernel_rfl) Try.func8 (by kernel_rfl)
    (of_decide_eq_true (by kernel_rfl)) (by unfold Func.isWrapper; first | (rw [if_pos (by decide +kernel)]; kernel_rfl) | (rw [if_neg (by decide +kernel)]; exact ⟨rfl, rfl⟩))
    (fun os started H enc _ => fnExactCycleOfForm_lifted os started H enc)

#print axioms fnExactCycleOfForm_holds
end Go.Proofs.Ytnfpidnnmgedfaa
