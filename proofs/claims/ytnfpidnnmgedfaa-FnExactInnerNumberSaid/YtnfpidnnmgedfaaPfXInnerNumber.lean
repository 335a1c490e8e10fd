/- For each of the laws below: whatever the input, the law returns true, and its input reads as it did; without any condition. -/
import Derived.Test.YtnfpidnnmgedfaaEvLaw
import Derived.Test.YtnfpidnnmgedfaaSe3XInnerNumber
import Derived.Test.YtnfpidnnmgedfaaMaXInnerNumber
import Derived.Test.YtnfpidnnmgedfaaRows
namespace Go.Proofs.Ytnfpidnnmgedfaa
open Go Go.Ev Go.Sh Go.RowKit Go.ChangeAt

theorem Try.own : ownKnob Try.prog.godebug = none := by kernel_rfl
theorem Try.laidOut : laidOutB Try.prog = true := by kernel_rfl

theorem laws_FnExactInnerNumber_by {α : Type} (n : Nat) (aList : List (Int × Int)) (κ : Res → Option α) : byShape laws_FnExactInnerNumber_sh (laws_FnExactInnerNumber_run n) [.sl 29 .pt aList] κ = laws_FnExactInnerNumber n aList (fun v1 => κ ⟨[.bool v1], []⟩) := by kernel_rfl
theorem laws_FnExactInnerNumber_runs (ds : List D) (h : FitDs [.sl 29 .pt] ds) : ∃ k, byShape laws_FnExactInnerNumber_sh (laws_FnExactInnerNumber_run k) ds some = some ⟨[.bool true], []⟩ := by
  obtain ⟨d0, ds0, e0, hf0, hs0⟩ := fits_cons h
  obtain ⟨aList, ed0, hb0⟩ := hf0
  subst ed0
  have el := fits_nil hs0
  subst el
  subst e0
  exact ⟨1000000101, (laws_FnExactInnerNumber_by 1000000101 aList some).trans (law_InnerNumber 1000000101 (by decide) aList _ hb0.1)⟩
set_option maxRecDepth 100000 in
theorem fnExactInnerNumber_lifted (os : Os) (started : os.Started) (H : Type) (enc : TypeId × Value → H) :
    ReturnsInHanded {} Try.checked os 12 .any (Rows.fnExactInnerNumberSpec.pre6 enc Try.prog Try.f12 Rows.fnExactInnerNumberRow.domain false) (Rows.fnExactInnerNumberSpec.post enc Try.prog Try.f12 false true false false) := by
  refine returnsInHanded_of_change (C := Try.checked) Try.own started (by kernel_rfl) Try.func12
    (ChangeSpec.witness6 (enc := enc) (C := Try.checked) false ⟨#[], #[.slice none 0 0], []⟩ 8 (by kernel_rfl) (by kernel_rfl) (by kernel_rfl) (by kernel_rfl)) ?_
  intro W base args ds gs before hval hW hcnd _
  exact law_row (P := Try.prog) (fn := Try.f12) (tb := 4) Try.laidOut (by kernel_rfl) (by kernel_rfl) Try.underlying4 rfl laws_FnExactInnerNumber_good (ks := [.sl 29 .pt]) (by kernel_rfl) laws_FnExactInnerNumber_runs
    (fun ds h => match ds, h with | [_], _ => rfl) hval hW
theorem fnExactInnerNumber_holds : Rows.FnExactInnerNumberSaid :=
  OpenClaim.holds_of_wide 12 Try.f12 rfl rfl rfl rfl rfl rfl rfl ⟨rfl, rfl, rfl, rfl, rfl⟩ rfl rfl rfl rfl rfl (by kernel_rfl) Try.func12 (by kernel_rfl)
    (of_decide_eq_true (by kernel_rfl)) (by unfold Func.isWrapper; first | (rw [if_pos (by decide +kernel)]; kernel_rfl) | (rw [if_neg (by decide +kernel)]; exact ⟨rfl, rfl⟩))
    (fun os started H enc _ => fnExactInnerNumber_lifted os started H enc)

#print axioms fnExactInnerNumber_holds
end Go.Proofs.Ytnfpidnnmgedfaa
