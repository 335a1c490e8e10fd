/- For each of the laws below: whatever the input, the law returns true, and its input reads as it did; without any condition. -/
import Derived.Test.YtnfpidnnmgedfaaEvLaw
import Derived.Test.YtnfpidnnmgedfaaSe3XWidthFor
import Derived.Test.YtnfpidnnmgedfaaMaXWidthFor
import Derived.Test.YtnfpidnnmgedfaaRows
namespace Go.Proofs.Ytnfpidnnmgedfaa
open Go Go.Ev Go.Sh Go.RowKit Go.ChangeAt

theorem Try.own : ownKnob Try.prog.godebug = none := by kernel_rfl
theorem Try.laidOut : laidOutB Try.prog = true := by kernel_rfl

theorem laws_FnExactWidthFor_by {α : Type} (n : Nat) (aList : List (Int × Int)) (aU : Int) (aU1 : Int) (κ : Res → Option α) : byShape laws_FnExactWidthFor_sh (laws_FnExactWidthFor_run n) [.sl 29 .pt aList, .agg [.int .i64 aU, .int .i64 aU1]] κ = laws_FnExactWidthFor n aList aU aU1 (fun v1 => κ ⟨[.bool v1], []⟩) := by kernel_rfl
theorem laws_FnExactWidthFor_runs (ds : List D) (h : FitDs [.sl 29 .pt, .agg 2] ds) : ∃ k, byShape laws_FnExactWidthFor_sh (laws_FnExactWidthFor_run k) ds some = some ⟨[.bool true], []⟩ := by
  obtain ⟨d0, ds0, e0, hf0, hs0⟩ := fits_cons h
  obtain ⟨aList, ed0, hb0⟩ := hf0
  subst ed0
  obtain ⟨d1, ds1, e1, hf1, hs1⟩ := fits_cons hs0
  obtain ⟨l1_0, hl1_0, ed1, hb1⟩ := hf1
  obtain ⟨aU, l1_1, el1_0, hl1_1⟩ := len_succ hl1_0
  obtain ⟨aU1, l1_2, el1_1, hl1_2⟩ := len_succ hl1_1
  have el1_2 := len_zero hl1_2
  subst el1_2
  subst el1_1
  subst el1_0
  subst ed1
  have el := fits_nil hs1
  subst el
  subst e1
  subst e0
  exact ⟨1000000101, (laws_FnExactWidthFor_by 1000000101 aList aU aU1 some).trans (law_WidthFor 1000000101 (by decide) aList aU aU1 _ hb0.1)⟩
set_option maxRecDepth 100000 in
theorem fnExactWidthFor_lifted (os : Os) (started : os.Started) (H : Type) (enc : TypeId × Value → H) :
    ReturnsInHanded {} Try.checked os 14 .any (Rows.fnExactWidthForSpec.pre6 enc Try.prog Try.f14 Rows.fnExactWidthForRow.domain false) (Rows.fnExactWidthForSpec.post enc Try.prog Try.f14 false true false false) := by
  refine returnsInHanded_of_change (C := Try.checked) Try.own started (by kernel_rfl) Try.func14
    (ChangeSpec.witness6 (enc := enc) (C := Try.checked) false ⟨#[], #[.slice none 0 0, .agg #[.int .i64 0, .int .i64 0]], []⟩ 8 (by kernel_rfl) (by kernel_rfl) (by kernel_rfl) (by kernel_rfl)) ?_
  intro W base args ds gs before hval hW hcnd _
  exact law_row (P := Try.prog) (fn := Try.f14) (tb := 4) Try.laidOut (by kernel_rfl) (by kernel_rfl) Try.underlying4 rfl laws_FnExactWidthFor_good (ks := [.sl 29 .pt, .agg 2]) (by kernel_rfl) laws_FnExactWidthFor_runs
    (fun ds h => match ds, h with | [_, _], _ => rfl) hval hW
theorem fnExactWidthFor_holds : Rows.FnExactWidthForSaid :=
  OpenClaim.holds_of_wide 14 Try.f14 rfl rfl rfl rfl rfl rfl rfl ⟨rfl, rfl, rfl, rfl, rfl⟩ rfl rfl rfl rfl rfl (by kernel_rfl) Try.func14 (by kernel_rfl)
    (of_decide_eq_true (by kernel_rfl)) (by unfold Func.isWrapper; first | (rw [if_pos (by decide +kernel)]; kernel_rfl) | (rw [if_neg (by decide +kernel)]; exact ⟨rfl, rfl⟩))
    (fun os started H enc _ => fnExactWidthFor_lifted os started H enc)

#print axioms fnExactWidthFor_holds
end Go.Proofs.Ytnfpidnnmgedfaa
