/- For each of the laws below: whatever the input, the law returns true, and its input reads as it did; without any condition. -/
import Derived.Test.YtegnnbhphgeocaaEvLaw
import Derived.Test.YtegnnbhphgeocaaSe2XBestOfFirst
import Derived.Test.YtegnnbhphgeocaaMaXBestOfFirst
import Derived.Test.YtegnnbhphgeocaaRows
namespace Go.Proofs.Ytegnnbhphgeocaa
open Go Go.Ev Go.Sh Go.RowKit Go.ChangeAt

theorem Try.own : ownKnob Try.prog.godebug = none := by kernel_rfl
theorem Try.laidOut : laidOutB Try.prog = true := by kernel_rfl

theorem laws_FnExactBestOfFirst_by {α : Type} (n : Nat) (aP : Int) (aQ : Int) (aN : Int) (κ : Res → Option α) : byShape laws_FnExactBestOfFirst_sh (laws_FnExactBestOfFirst_run n) [.int .i64 aP, .int .i64 aQ, .int .i64 aN] κ = laws_FnExactBestOfFirst n aP aQ aN (fun v1 => κ ⟨[.bool v1], []⟩) := by kernel_rfl
theorem laws_FnExactBestOfFirst_runs (ds : List D) (h : FitDs [.int, .int, .int] ds) : ∃ k, byShape laws_FnExactBestOfFirst_sh (laws_FnExactBestOfFirst_run k) ds some = some ⟨[.bool true], []⟩ := by
  obtain ⟨d0, ds0, e0, hf0, hs0⟩ := fits_cons h
  obtain ⟨aP, ed0, hb0⟩ := hf0
  subst ed0
  obtain ⟨d1, ds1, e1, hf1, hs1⟩ := fits_cons hs0
  obtain ⟨aQ, ed1, hb1⟩ := hf1
  subst ed1
  obtain ⟨d2, ds2, e2, hf2, hs2⟩ := fits_cons hs1
  obtain ⟨aN, ed2, hb2⟩ := hf2
  subst ed2
  have el := fits_nil hs2
  subst el
  subst e2
  subst e1
  subst e0
  exact ⟨200001, (laws_FnExactBestOfFirst_by 200001 aP aQ aN some).trans (law_BestOfFirst 200001 (by decide) aP aQ aN _)⟩
set_option maxRecDepth 100000 in
theorem fnExactBestOfFirst_lifted (os : Os) (started : os.Started) (H : Type) (enc : TypeId × Value → H) :
    ReturnsInHanded {} Try.checked os 12 .any (Rows.fnExactBestOfFirstSpec.pre6 enc Try.prog Try.f12 Rows.fnExactBestOfFirstRow.domain false) (Rows.fnExactBestOfFirstSpec.post enc Try.prog Try.f12 false true false false) := by
  refine returnsInHanded_of_change (C := Try.checked) Try.own started (by kernel_rfl) Try.func12
    (ChangeSpec.witness6 (enc := enc) (C := Try.checked) false ⟨#[], #[.int .i64 0, .int .i64 0, .int .i64 0], []⟩ 8 (by kernel_rfl) (by kernel_rfl) (by kernel_rfl) (by kernel_rfl)) ?_
  intro W base args ds gs before hval hW hcnd _
  exact law_row (P := Try.prog) (fn := Try.f12) (tb := 4) Try.laidOut (by kernel_rfl) (by kernel_rfl) Try.underlying4 rfl laws_FnExactBestOfFirst_good (ks := [.int, .int, .int]) (by kernel_rfl) laws_FnExactBestOfFirst_runs
    (fun ds h => match ds, h with | [_, _, _], _ => rfl) hval hW
theorem fnExactBestOfFirst_holds : Rows.FnExactBestOfFirstSaid :=
  OpenClaim.holds_of_wide 12 Try.f12 rfl rfl rfl rfl rfl rfl rfl ⟨rfl, rfl, rfl, rfl, rfl⟩ rfl rfl rfl rfl rfl (by kernel_rfl) Try.func12 (by kernel_rfl)
    (of_decide_eq_true (by kernel_rfl)) (by unfold Func.isWrapper; first | (rw [if_pos (by decide +kernel)]; kernel_rfl) | (rw [if_neg (by decide +kernel)]; exact ⟨rfl, rfl⟩))
    (fun os started H enc _ => fnExactBestOfFirst_lifted os started H enc)

#print axioms fnExactBestOfFirst_holds
end Go.Proofs.Ytegnnbhphgeocaa
