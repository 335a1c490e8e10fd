/- For each of the laws below: whatever the input, the law returns true, and its input reads as it did; without any condition. -/
import Derived.Test.YtnfpidnnmgedfaaEvLaw
import Derived.Test.YtnfpidnnmgedfaaSe2XShapeOf
import Derived.Test.YtnfpidnnmgedfaaMaXShapeOf
import Derived.Test.YtnfpidnnmgedfaaRows
namespace Go.Proofs.Ytnfpidnnmgedfaa
open Go Go.Ev Go.Sh Go.RowKit Go.ChangeAt

theorem Try.own : ownKnob Try.prog.godebug = none := by kernel_rfl
theorem Try.laidOut : laidOutB Try.prog = true := by kernel_rfl

theorem laws_FnExactShapeOf_byF {α : Type} (F : Nat → Int → Int → Int → Int → Int → Int → Int → Int → (Bool → Option α) → Option α) (n : Nat) (aT : Int) (aT1 : Int) (aT2 : Int) (aT3 : Int) (aT4 : Int) (aT5 : Int) (aI : Int) (aJ : Int) (κ : Res → Option α) : byShape laws_FnExactShapeOf_sh (laws_FnExactShapeOf_runG F n) [.agg [.int .i64 aT, .int .i64 aT1, .int .i64 aT2, .int .i64 aT3, .int .i64 aT4, .int .i64 aT5], .int .i64 aI, .int .i64 aJ] κ = F n aT aT1 aT2 aT3 aT4 aT5 aI aJ (fun v1 => κ ⟨[.bool v1], []⟩) := by kernel_rfl
theorem laws_FnExactShapeOf_by {α : Type} (n : Nat) (aT : Int) (aT1 : Int) (aT2 : Int) (aT3 : Int) (aT4 : Int) (aT5 : Int) (aI : Int) (aJ : Int) (κ : Res → Option α) : byShape laws_FnExactShapeOf_sh (laws_FnExactShapeOf_run n) [.agg [.int .i64 aT, .int .i64 aT1, .int .i64 aT2, .int .i64 aT3, .int .i64 aT4, .int .i64 aT5], .int .i64 aI, .int .i64 aJ] κ = laws_FnExactShapeOf n aT aT1 aT2 aT3 aT4 aT5 aI aJ (fun v1 => κ ⟨[.bool v1], []⟩) := (congrArg (fun g => byShape laws_FnExactShapeOf_sh g [.agg [.int .i64 aT, .int .i64 aT1, .int .i64 aT2, .int .i64 aT3, .int .i64 aT4, .int .i64 aT5], .int .i64 aI, .int .i64 aJ] κ) (funext fun p => funext fun κ => laws_FnExactShapeOf_run.eq_1 n p κ)).trans (laws_FnExactShapeOf_byF laws_FnExactShapeOf n aT aT1 aT2 aT3 aT4 aT5 aI aJ κ)
theorem laws_FnExactShapeOf_runs (ds : List D) (h : FitDs [.agg 6, .int, .int] ds) : ∃ k, byShape laws_FnExactShapeOf_sh (laws_FnExactShapeOf_run k) ds some = some ⟨[.bool true], []⟩ := by
  obtain ⟨d0, ds0, e0, hf0, hs0⟩ := fits_cons h
  obtain ⟨l0_0, hl0_0, ed0, hb0⟩ := hf0
  obtain ⟨aT, l0_1, el0_0, hl0_1⟩ := len_succ hl0_0
  obtain ⟨aT1, l0_2, el0_1, hl0_2⟩ := len_succ hl0_1
  obtain ⟨aT2, l0_3, el0_2, hl0_3⟩ := len_succ hl0_2
  obtain ⟨aT3, l0_4, el0_3, hl0_4⟩ := len_succ hl0_3
  obtain ⟨aT4, l0_5, el0_4, hl0_5⟩ := len_succ hl0_4
  obtain ⟨aT5, l0_6, el0_5, hl0_6⟩ := len_succ hl0_5
  have el0_6 := len_zero hl0_6
  subst el0_6
  subst el0_5
  subst el0_4
  subst el0_3
  subst el0_2
  subst el0_1
  subst el0_0
  subst ed0
  obtain ⟨d1, ds1, e1, hf1, hs1⟩ := fits_cons hs0
  obtain ⟨aI, ed1, hb1⟩ := hf1
  subst ed1
  obtain ⟨d2, ds2, e2, hf2, hs2⟩ := fits_cons hs1
  obtain ⟨aJ, ed2, hb2⟩ := hf2
  subst ed2
  have el := fits_nil hs2
  subst el
  subst e2
  subst e1
  subst e0
  exact ⟨1000000001, (laws_FnExactShapeOf_by 1000000001 aT aT1 aT2 aT3 aT4 aT5 aI aJ some).trans (law_ShapeOf 1000000001 (by decide) aT aT1 aT2 aT3 aT4 aT5 aI aJ _)⟩
set_option maxRecDepth 100000 in
theorem fnExactShapeOf_lifted (os : Os) (started : os.Started) (H : Type) (enc : TypeId × Value → H) :
    ReturnsInHanded {} Try.checked os 6 .any (Rows.fnExactShapeOfSpec.pre6 enc Try.prog Try.f6 Rows.fnExactShapeOfRow.domain false) (Rows.fnExactShapeOfSpec.post enc Try.prog Try.f6 false true false false) := by
  refine returnsInHanded_of_change (C := Try.checked) Try.own started (by kernel_rfl) Try.func6
    (ChangeSpec.witness6 (enc := enc) (C := Try.checked) false ⟨#[], #[.agg #[.int .i64 0, .int .i64 0, .int .i64 0, .int .i64 0, .int .i64 0, .int .i64 0], .int .i64 0, .int .i64 0], []⟩ 8 (by kernel_rfl) (by kernel_rfl) (by kernel_rfl) (by kernel_rfl)) ?_
  intro W base args ds gs before hval hW hcnd _
  exact law_row (P := Try.prog) (fn := Try.f6) (tb := 4) Try.laidOut (by kernel_rfl) (by kernel_rfl) Try.underlying4 rfl laws_FnExactShapeOf_good (ks := [.agg 6, .int, .int]) (by kernel_rfl) laws_FnExactShapeOf_runs
    (fun ds h => match ds, h with | [_, _, _], _ => rfl) hval hW
theorem fnExactShapeOf_holds : Rows.FnExactShapeOfSaid :=
  OpenClaim.holds_of_wide 6 Try.f6 rfl rfl rfl rfl rfl rfl rfl ⟨rfl, rfl, rfl, rfl, rfl⟩ rfl rfl rfl rfl rfl (by kernel_rfl) Try.func6 (by kernel_rfl)
    (of_decide_eq_true (by kernel_rfl)) (by unfold Func.isWrapper; first | (rw [if_pos (by decide +kernel)]; kernel_rfl) | (rw [if_neg (by decide +kernel)]; exact ⟨rfl, rfl⟩))
    (fun os started H enc _ => fnExactShapeOf_lifted os started H enc)

#print axioms fnExactShapeOf_holds
end Go.Proofs.Ytnfpidnnmgedfaa
