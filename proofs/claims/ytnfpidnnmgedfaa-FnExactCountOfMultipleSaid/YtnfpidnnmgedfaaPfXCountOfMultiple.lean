/- For each of the laws below: whatever the input, the law returns true, and its input reads as it did; without any condition. -/
import Derived.Test.YtnfpidnnmgedfaaEvLaw
import Derived.Test.YtnfpidnnmgedfaaSe3XCountOfMultiple
import Derived.Test.YtnfpidnnmgedfaaMaXCountOfMultiple
import Derived.Test.YtnfpidnnmgedfaaRows
namespace Go.Proofs.Ytnfpidnnmgedfaa
open Go Go.Ev Go.Sh Go.RowKit Go.ChangeAt

theorem Try.own : ownKnob Try.prog.godebug = none := by kernel_rfl
theorem Try.laidOut : laidOutB Try.prog = true := by kernel_rfl

theorem laws_FnExactCountOfMultiple_by {α : Type} (n : Nat) (aList : List (Int × Int)) (aK : Int) (κ : Res → Option α) : byShape laws_FnExactCountOfMultiple_sh (laws_FnExactCountOfMultiple_run n) [.sl 29 .pt aList, .int .i64 aK] κ = laws_FnExactCountOfMultiple n aList aK (fun v1 => κ ⟨[.bool v1], []⟩) := by kernel_rfl
theorem laws_FnExactCountOfMultiple_runs (ds : List D) (h : FitDs [.sl 29 .pt, .int] ds) : ∃ k, byShape laws_FnExactCountOfMultiple_sh (laws_FnExactCountOfMultiple_run k) ds some = some ⟨[.bool true], []⟩ := by
  obtain ⟨d0, ds0, e0, hf0, hs0⟩ := fits_cons h
  obtain ⟨aList, ed0, hb0⟩ := hf0
  subst ed0
  obtain ⟨d1, ds1, e1, hf1, hs1⟩ := fits_cons hs0
  obtain ⟨aK, ed1, hb1⟩ := hf1
  subst ed1
  have el := fits_nil hs1
  subst el
  subst e1
  subst e0
  exact ⟨1000000101, (laws_FnExactCountOfMultiple_by 1000000101 aList aK some).trans (law_CountOfMultiple 1000000101 (by decide) aList aK _ hb0.1)⟩
set_option maxRecDepth 100000 in
theorem fnExactCountOfMultiple_lifted (os : Os) (started : os.Started) (H : Type) (enc : TypeId × Value → H) :
    ReturnsInHanded {} Try.checked os 13 .any (Rows.fnExactCountOfMultipleSpec.pre6 enc Try.prog Try.f13 Rows.fnExactCountOfMultipleRow.domain false) (Rows.fnExactCountOfMultipleSpec.post enc Try.prog Try.f13 false true false false) := by
  refine returnsInHanded_of_change (C := Try.checked) Try.own started (by kernel_rfl) Try.func13
    (ChangeSpec.witness6 (enc := enc) (C := Try.checked) false ⟨#[], #[.slice none 0 0, .int .i64 0], []⟩ 8 (by kernel_rfl) (by kernel_rfl) (by kernel_rfl) (by kernel_rfl)) ?_
  intro W base args ds gs before hval hW hcnd _
  exact law_row (P := Try.prog) (fn := Try.f13) (tb := 4) Try.laidOut (by kernel_rfl) (by kernel_rfl) Try.underlying4 rfl laws_FnExactCountOfMultiple_good (ks := [.sl 29 .pt, .int]) (by kernel_rfl) laws_FnExactCountOfMultiple_runs
    (fun ds h => match ds, h with | [_, _], _ => rfl) hval hW
theorem fnExactCountOfMultiple_holds : Rows.FnExactCountOfMultipleSaid :=
  OpenClaim.holds_of_wide 13 Try.f13 rfl rfl rfl rfl rfl rfl rfl ⟨rfl, rfl, rfl, rfl, rfl⟩ rfl rfl rfl rfl rfl (by kernel_rfl) Try.func13 (by kernel_rfl)
    (of_decide_eq_true (by kernel_rfl)) (by unfold Func.isWrapper; first | (rw [if_pos (by decide +kernel)]; kernel_rfl) | (rw [if_neg (by decide +kernel)]; exact ⟨rfl, rfl⟩))
    (fun os started H enc _ => fnExactCountOfMultiple_lifted os started H enc)

#print axioms fnExactCountOfMultiple_holds
end Go.Proofs.Ytnfpidnnmgedfaa
