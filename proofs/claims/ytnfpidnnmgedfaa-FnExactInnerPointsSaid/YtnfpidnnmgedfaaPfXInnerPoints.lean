/- For each of the laws below: whatever the input, the law returns true, and its input reads as it did; without any condition. -/
import Derived.Test.YtnfpidnnmgedfaaEvLaw
import Derived.Test.YtnfpidnnmgedfaaSe3XInnerPoints
import Derived.Test.YtnfpidnnmgedfaaMaXInnerPoints
import Derived.Test.YtnfpidnnmgedfaaRows
namespace Go.Proofs.Ytnfpidnnmgedfaa
open Go Go.Ev Go.Sh Go.RowKit Go.ChangeAt

theorem Try.own : ownKnob Try.prog.godebug = none := by kernel_rfl
theorem Try.laidOut : laidOutB Try.prog = true := by kernel_rfl

theorem laws_FnExactInnerPoints_by {α : Type} (n : Nat) (aT : Int) (aT1 : Int) (aT2 : Int) (aT3 : Int) (aT4 : Int) (aT5 : Int) (κ : Res → Option α) : byShape laws_FnExactInnerPoints_sh (laws_FnExactInnerPoints_run n) [.agg [.int .i64 aT, .int .i64 aT1, .int .i64 aT2, .int .i64 aT3, .int .i64 aT4, .int .i64 aT5]] κ = laws_FnExactInnerPoints n aT aT1 aT2 aT3 aT4 aT5 (fun v1 => κ ⟨[.bool v1], []⟩) := by kernel_rfl
theorem laws_FnExactInnerPoints_runs (ds : List D) (h : FitDs [.agg 6] ds) : ∃ k, byShape laws_FnExactInnerPoints_sh (laws_FnExactInnerPoints_run k) ds some = some ⟨[.bool true], []⟩ := by
  obtain ⟨d0, ds0, e0, hf0, hs0⟩ := fits_cons h
  obtain ⟨l0_0, hl0_0, ed0, hb0⟩ := hf0
  obtain ⟨aT, l0_1, el0_0, hl0_1⟩ := len_succ hl0_0
  obtain ⟨aT1, l0_2, el0_1, hl0_2⟩ := len_succ hl0_1
  obtain ⟨aT2, l0_3, el0_2, hl0_3⟩ := len_succ hl0_2
  obtain ⟨aT3, l0_4, el0_3, hl0_4⟩ := len_succ hl0_3
  obtain ⟨aT4, l0_5, el0_4, hl0_5⟩ := len_succ hl0_4
  obtain ⟨aT5, l0_6, el0_5, hl0_6⟩ := len_succ hl0_5
  have el0_6 := len_zero hl0_6
  subst el0_6
  subst el0_5
  subst el0_4
  subst el0_3
  subst el0_2
  subst el0_1
  subst el0_0
  subst ed0
  have el := fits_nil hs0
  subst el
  subst e0
  exact ⟨1000000001, (laws_FnExactInnerPoints_by 1000000001 aT aT1 aT2 aT3 aT4 aT5 some).trans (law_InnerPoints 1000000001 (by decide) aT aT1 aT2 aT3 aT4 aT5 _)⟩
set_option maxRecDepth 100000 in
theorem fnExactInnerPoints_lifted (os : Os) (started : os.Started) (H : Type) (enc : TypeId × Value → H) :
    ReturnsInHanded {} Try.checked os 11 .any (Rows.fnExactInnerPointsSpec.pre6 enc Try.prog Try.f11 Rows.fnExactInnerPointsRow.domain false) (Rows.fnExactInnerPointsSpec.post enc Try.prog Try.f11 false true false false) := by
  refine returnsInHanded_of_change (C := Try.checked) Try.own started (by kernel_rfl) Try.func11
    (ChangeSpec.witness6 (enc := enc) (C := Try.checked) false ⟨#[], #[.agg #[.int .i64 0, .int .i64 0, .int .i64 0, .int .i64 0, .int .i64 0, .int .i64 0]], []⟩ 8 (by kernel_rfl) (by kernel_rfl) (by kernel_rfl) (by kernel_rfl)) ?_
  intro W base args ds gs before hval hW hcnd _
  exact law_row (P := Try.prog) (fn := Try.f11) (tb := 4) Try.laidOut (by kernel_rfl) (by kernel_rfl) Try.underlying4 rfl laws_FnExactInnerPoints_good (ks := [.agg 6]) (by kernel_rfl) laws_FnExactInnerPoints_runs
    (fun ds h => match ds, h with | [_], _ => rfl) hval hW
theorem fnExactInnerPoints_holds : Rows.FnExactInnerPointsSaid :=
  OpenClaim.holds_of_wide 11 Try.f11 rfl rfl rfl rfl rfl rfl rfl ⟨rfl, rfl, rfl, rfl, rfl⟩ rfl rfl rfl rfl rfl (by kernel_rfl) Try.func11 (by kernel_rfl)
    (of_decide_eq_true (by kernel_rfl)) (by unfold Func.isWrapper; first | (rw [if_pos (by decide +kernel)]; kernel_rfl) | (rw [if_neg (by decide +kernel)]; exact ⟨rfl, rfl⟩))
    (fun os started H enc _ => fnExactInnerPoints_lifted os started H enc)

#print axioms fnExactInnerPoints_holds
end Go.Proofs.Ytnfpidnnmgedfaa
