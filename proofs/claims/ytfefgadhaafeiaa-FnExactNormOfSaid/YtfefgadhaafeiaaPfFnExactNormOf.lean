/- For each of the laws below: whatever the input, the law returns true, and its input reads as it did; without any condition. -/
import Derived.Test.YtfefgadhaafeiaaEvLaw
import Derived.Test.YtfefgadhaafeiaaSe
import Derived.Test.YtfefgadhaafeiaaMa
import Derived.Test.YtfefgadhaafeiaaRows
namespace Go.Proofs.Ytfefgadhaafeiaa
open Go Go.Ev Go.Sh Go.RowKit Go.ChangeAt

theorem Try.own : ownKnob Try.prog.godebug = none := by kernel_rfl
theorem Try.laidOut : laidOutB Try.prog = true := by kernel_rfl

theorem laws_FnExactNormOf_by {α : Type} (n : Nat) (aA : Int) (aA1 : Int) (κ : Res → Option α) : byShape laws_FnExactNormOf_sh (laws_FnExactNormOf_run n) [.agg [.int .i64 aA, .int .i64 aA1]] κ = laws_FnExactNormOf n aA aA1 (fun v1 => κ ⟨[.bool v1], []⟩) := by kernel_rfl
theorem laws_FnExactNormOf_runs (ds : List D) (h : FitDs [.agg 2] ds) : ∃ k, byShape laws_FnExactNormOf_sh (laws_FnExactNormOf_run k) ds some = some ⟨[.bool true], []⟩ := by
  obtain ⟨d0, ds0, e0, hf0, hs0⟩ := fits_cons h
  obtain ⟨l0_0, hl0_0, ed0, hb0⟩ := hf0
  obtain ⟨aA, l0_1, el0_0, hl0_1⟩ := len_succ hl0_0
  obtain ⟨aA1, l0_2, el0_1, hl0_2⟩ := len_succ hl0_1
  have el0_2 := len_zero hl0_2
  subst el0_2
  subst el0_1
  subst el0_0
  subst ed0
  have el := fits_nil hs0
  subst el
  subst e0
  exact ⟨0, (laws_FnExactNormOf_by 0 aA aA1 some).trans (law_NormOf 0 aA aA1 _)⟩
set_option maxRecDepth 100000 in
theorem fnExactNormOf_lifted (os : Os) (started : os.Started) (H : Type) (enc : TypeId × Value → H) :
    ReturnsInHanded {} Try.checked os 3 .any (Rows.fnExactNormOfSpec.pre6 enc Try.prog Try.f3 Rows.fnExactNormOfRow.domain false) (Rows.fnExactNormOfSpec.post enc Try.prog Try.f3 false true false false) := by
  refine returnsInHanded_of_change (C := Try.checked) Try.own started (by kernel_rfl) Try.func3
    (ChangeSpec.witness6 (enc := enc) (C := Try.checked) false ⟨#[], #[.agg #[.int .i64 0, .int .i64 0]], []⟩ 8 (by kernel_rfl) (by kernel_rfl) (by kernel_rfl) (by kernel_rfl)) ?_
  intro W base args ds gs before hval hW hcnd _
  exact law_row (P := Try.prog) (fn := Try.f3) (tb := 4) Try.laidOut (by kernel_rfl) (by kernel_rfl) Try.underlying4 rfl laws_FnExactNormOf_good (ks := [.agg 2]) (by kernel_rfl) laws_FnExactNormOf_runs
    (fun ds h => match ds, h with | [_], _ => rfl) hval hW
theorem fnExactNormOf_holds : Rows.FnExactNormOfSaid :=
  OpenClaim.holds_of_wide 3 Try.f3 rfl rfl rfl rfl rfl rfl rfl ⟨rfl, rfl, rfl, rfl, rfl⟩ rfl rfl rfl rfl rfl (by kernel_rfl) Try.func3 (by kernel_rfl)
    (of_decide_eq_true (by kernel_rfl)) (by unfold Func.isWrapper; first | (rw [if_pos (by decide +kernel)]; kernel_rfl) | (rw [if_neg (by decide +kernel)]; exact ⟨rfl, rfl⟩))
    (fun os started H enc _ => fnExactNormOf_lifted os started H enc)

#print axioms fnExactNormOf_holds
end Go.Proofs.Ytfefgadhaafeiaa
