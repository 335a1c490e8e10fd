/- For each of the laws below: whatever the input, the law returns true, and its input reads as it did; without any condition. -/
import Derived.Test.YtnfpidnnmgedfaaEvLaw
import Derived.Test.YtnfpidnnmgedfaaSe3XWhereInPolygon
import Derived.Test.YtnfpidnnmgedfaaMaXWhereInPolygon
import Derived.Test.YtnfpidnnmgedfaaRows
namespace Go.Proofs.Ytnfpidnnmgedfaa
open Go Go.Ev Go.Sh Go.RowKit Go.ChangeAt

theorem Try.own : ownKnob Try.prog.godebug = none := by kernel_rfl
theorem Try.laidOut : laidOutB Try.prog = true := by kernel_rfl

theorem laws_FnExactWhereInPolygon_by {α : Type} (n : Nat) (aList : List (Int × Int)) (aA : Int) (aA1 : Int) (κ : Res → Option α) : byShape laws_FnExactWhereInPolygon_sh (laws_FnExactWhereInPolygon_run n) [.sl 29 .pt aList, .agg [.int .i64 aA, .int .i64 aA1]] κ = laws_FnExactWhereInPolygon n aList aA aA1 (fun v1 => κ ⟨[.bool v1], []⟩) := by kernel_rfl
theorem laws_FnExactWhereInPolygon_runs (ds : List D) (h : FitDs [.sl 29 .pt, .agg 2] ds) : ∃ k, byShape laws_FnExactWhereInPolygon_sh (laws_FnExactWhereInPolygon_run k) ds some = some ⟨[.bool true], []⟩ := by
  obtain ⟨d0, ds0, e0, hf0, hs0⟩ := fits_cons h
  obtain ⟨aList, ed0, hb0⟩ := hf0
  subst ed0
  obtain ⟨d1, ds1, e1, hf1, hs1⟩ := fits_cons hs0
  obtain ⟨l1_0, hl1_0, ed1, hb1⟩ := hf1
  obtain ⟨aA, l1_1, el1_0, hl1_1⟩ := len_succ hl1_0
  obtain ⟨aA1, l1_2, el1_1, hl1_2⟩ := len_succ hl1_1
  have el1_2 := len_zero hl1_2
  subst el1_2
  subst el1_1
  subst el1_0
  subst ed1
  have el := fits_nil hs1
  subst el
  subst e1
  subst e0
  exact ⟨1048601, (laws_FnExactWhereInPolygon_by 1048601 aList aA aA1 some).trans (law_WhereInPolygon 1048601 (by decide) aList aA aA1 _ hb0.1)⟩
set_option maxRecDepth 100000 in
theorem fnExactWhereInPolygon_lifted (os : Os) (started : os.Started) (H : Type) (enc : TypeId × Value → H) :
    ReturnsInHanded {} Try.checked os 10 .any (Rows.fnExactWhereInPolygonSpec.pre6 enc Try.prog Try.f10 Rows.fnExactWhereInPolygonRow.domain false) (Rows.fnExactWhereInPolygonSpec.post enc Try.prog Try.f10 false true false false) := by
  refine returnsInHanded_of_change (C := Try.checked) Try.own started (by kernel_rfl) Try.func10
    (ChangeSpec.witness6 (enc := enc) (C := Try.checked) false ⟨#[], #[.slice none 0 0, .agg #[.int .i64 0, .int .i64 0]], []⟩ 8 (by kernel_rfl) (by kernel_rfl) (by kernel_rfl) (by kernel_rfl)) ?_
  intro W base args ds gs before hval hW hcnd _
  exact law_row (P := Try.prog) (fn := Try.f10) (tb := 4) Try.laidOut (by kernel_rfl) (by kernel_rfl) Try.underlying4 rfl laws_FnExactWhereInPolygon_good (ks := [.sl 29 .pt, .agg 2]) (by kernel_rfl) laws_FnExactWhereInPolygon_runs
    (fun ds h => match ds, h with | [_, _], _ => rfl) hval hW
theorem fnExactWhereInPolygon_holds : Rows.FnExactWhereInPolygonSaid :=
  OpenClaim.holds_of_wide 10 Try.f10 rfl rfl rfl rfl rfl rfl rfl ⟨rfl, rfl, rfl, rfl, rfl⟩ rfl rfl rfl rfl rfl (by kernel_rfl) Try.func10 (by kernel_rfl)
    (of_decide_eq_true (by kernel_rfl)) (by unfold Func.isWrapper; first | (rw [if_pos (by decide +kernel)]; kernel_rfl) | (rw [if_neg (by decide +kernel)]; exact ⟨rfl, rfl⟩))
    (fun os started H enc _ => fnExactWhereInPolygon_lifted os started H enc)

#print axioms fnExactWhereInPolygon_holds
end Go.Proofs.Ytnfpidnnmgedfaa
