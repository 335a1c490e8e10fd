/- For each of the laws below: whatever the input, the law returns true, and its input reads as it did; without any condition. -/
import Derived.Test.YtnfpidnnmgedfaaEvLaw
import Derived.Test.YtnfpidnnmgedfaaSe3XBorderNumber
import Derived.Test.YtnfpidnnmgedfaaMaXBorderNumber
import Derived.Test.YtnfpidnnmgedfaaRows
namespace Go.Proofs.Ytnfpidnnmgedfaa
open Go Go.Ev Go.Sh Go.RowKit Go.ChangeAt

theorem Try.own : ownKnob Try.prog.godebug = none := by kernel_rfl
theorem Try.laidOut : laidOutB Try.prog = true := by kernel_rfl

theorem laws_FnExactBorderNumber_by {α : Type} (n : Nat) (aList : List (Int × Int)) (κ : Res → Option α) : byShape laws_FnExactBorderNumber_sh (laws_FnExactBorderNumber_run n) [.sl 29 .pt aList] κ = laws_FnExactBorderNumber n aList (fun v1 => κ ⟨[.bool v1], []⟩) := by kernel_rfl
theorem laws_FnExactBorderNumber_runs (ds : List D) (h : FitDs [.sl 29 .pt] ds) : ∃ k, byShape laws_FnExactBorderNumber_sh (laws_FnExactBorderNumber_run k) ds some = some ⟨[.bool true], []⟩ := by
  obtain ⟨d0, ds0, e0, hf0, hs0⟩ := fits_cons h
  obtain ⟨aList, ed0, hb0⟩ := hf0
  subst ed0
  have el := fits_nil hs0
  subst el
  subst e0
  exact ⟨1000000101, (laws_FnExactBorderNumber_by 1000000101 aList some).trans (law_BorderNumber 1000000101 (by decide) aList _ hb0.1)⟩
set_option maxRecDepth 100000 in
theorem fnExactBorderNumber_lifted (os : Os) (started : os.Started) (H : Type) (enc : TypeId × Value → H) :
    ReturnsInHanded {} Try.checked os 9 .any (Rows.fnExactBorderNumberSpec.pre6 enc Try.prog Try.f9 Rows.fnExactBorderNumberRow.domain false) (Rows.fnExactBorderNumberSpec.post enc Try.prog Try.f9 false true false false) := by
  refine returnsInHanded_of_change (C := Try.checked) Try.own started (by kernel_rfl) Try.func9
    (ChangeSpec.witness6 (enc := enc) (C := Try.checked) false ⟨#[], #[.slice none 0 0], []⟩ 8 (by kernel_rfl) (by kernel_rfl) (by kernel_rfl) (by kernel_rfl)) ?_
  intro W base args ds gs before hval hW hcnd _
  exact law_row (P := Try.prog) (fn := Try.f9) (tb := 4) Try.laidOut (by kernel_rfl) (by kernel_rfl) Try.underlying4 rfl laws_FnExactBorderNumber_good (ks := [.sl 29 .pt]) (by kernel_rfl) laws_FnExactBorderNumber_runs
    (fun ds h => match ds, h with | [_], _ => rfl) hval hW
theorem fnExactBorderNumber_holds : Rows.FnExactBorderNumberSaid :=
  OpenClaim.holds_of_wide 9 Try.f9 rfl rfl rfl rfl rfl rfl rfl ⟨rfl, rfl, rfl, rfl, rfl⟩ rfl rfl rfl rfl rfl (by kernel_rfl) Try.func9 (by kernel_rfl)
    (of_decide_eq_true (by kernel_rfl)) (by unfold Func.isWrapper; first | (rw [if_pos (by decide +kernel)]; kernel_rfl) | (rw [if_neg (by decide +kernel)]; exact ⟨rfl, rfl⟩))
    (fun os started H enc _ => fnExactBorderNumber_lifted os started H enc)

#print axioms fnExactBorderNumber_holds
end Go.Proofs.Ytnfpidnnmgedfaa
