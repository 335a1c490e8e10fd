/- For each of the laws below: whatever the input, the law returns true, and its input reads as it did; without any condition. -/
import Derived.Test.YtfefgadhaafeiaaEvLaw
import Derived.Test.YtfefgadhaafeiaaSe
import Derived.Test.YtfefgadhaafeiaaMa
import Derived.Test.YtfefgadhaafeiaaRows
namespace Go.Proofs.Ytfefgadhaafeiaa
open Go Go.Ev Go.Sh Go.RowKit Go.ChangeAt

theorem Try.own : ownKnob Try.prog.godebug = none := by kernel_rfl
theorem Try.laidOut : laidOutB Try.prog = true := by kernel_rfl

theorem laws_FnExactNewDesk_by {α : Type} (n : Nat)  (κ : Res → Option α) : byShape laws_FnExactNewDesk_sh (laws_FnExactNewDesk_run n) [] κ = laws_FnExactNewDesk n (fun v1 => κ ⟨[.bool v1], []⟩) := by kernel_rfl
theorem laws_FnExactNewDesk_runs (ds : List D) (h : FitDs [] ds) : ∃ k, byShape laws_FnExactNewDesk_sh (laws_FnExactNewDesk_run k) ds some = some ⟨[.bool true], []⟩ := by
  have el := fits_nil h
  subst el
  exact ⟨0, (laws_FnExactNewDesk_by 0  some).trans (law_NewDesk 0 _)⟩
set_option maxRecDepth 100000 in
theorem fnExactNewDesk_lifted (os : Os) (started : os.Started) (H : Type) (enc : TypeId × Value → H) :
    ReturnsInHanded {} Try.checked os 8 .any (Rows.fnExactNewDeskSpec.pre6 enc Try.prog Try.f8 Rows.fnExactNewDeskRow.domain false) (Rows.fnExactNewDeskSpec.post enc Try.prog Try.f8 false true false false) := by
  refine returnsInHanded_of_change (C := Try.checked) Try.own started (by kernel_rfl) Try.func8
    (ChangeSpec.witness6 (enc := enc) (C := Try.checked) false ⟨#[], #[], []⟩ 8 (by kernel_rfl) (by kernel_rfl) (by kernel_rfl) (by kernel_rfl)) ?_
  intro W base args ds gs before hval hW hcnd _
  exact law_row (P := Try.prog) (fn := Try.f8) (tb := 4) Try.laidOut (by kernel_rfl) (by kernel_rfl) Try.underlying4 rfl laws_FnExactNewDesk_good (ks := []) (by kernel_rfl) laws_FnExactNewDesk_runs
    (fun ds h => match ds, h with | [], _ => rfl) hval hW
theorem fnExactNewDesk_holds : Rows.FnExactNewDeskSaid :=
  OpenClaim.holds_of_wide 8 Try.f8 rfl rfl rfl rfl rfl rfl rfl ⟨rfl, rfl, rfl, rfl, rfl⟩ rfl rfl rfl rfl rfl (by kernel_rfl) Try.func8 (by kernel_rfl)
    (of_decide_eq_true (by kernel_rfl)) (by unfold Func.isWrapper; first | (rw [if_pos (by decide +kernel)]; kernel_rfl) | (rw [if_neg (by decide +kernel)]; exact ⟨rfl, rfl⟩))
    (fun os started H enc _ => fnExactNewDesk_lifted os started H enc)

#print axioms fnExactNewDesk_holds
end Go.Proofs.Ytfefgadhaafeiaa
