/- For each of the laws below: whatever the input, the law returns true, and its input reads as it did; without any condition. -/
import Derived.Test.YtnfpidnnmgedfaaEvLaw
import Derived.Test.YtnfpidnnmgedfaaSe3XReducePair
import Derived.Test.YtnfpidnnmgedfaaMaXReducePair
import Derived.Test.YtnfpidnnmgedfaaRows
namespace Go.Proofs.Ytnfpidnnmgedfaa
open Go Go.Ev Go.Sh Go.RowKit Go.ChangeAt

theorem Try.own : ownKnob Try.prog.godebug = none := by kernel_rfl
theorem Try.laidOut : laidOutB Try.prog = true := by kernel_rfl

theorem laws_FnExactReducePair_by {α : Type} (n : Nat) (aA : Int) (aA1 : Int) (aB : Int) (aB1 : Int) (κ : Res → Option α) : byShape laws_FnExactReducePair_sh (laws_FnExactReducePair_run n) [.agg [.int .i64 aA, .int .i64 aA1], .agg [.int .i64 aB, .int .i64 aB1]] κ = laws_FnExactReducePair n aA aA1 aB aB1 (fun v1 => κ ⟨[.bool v1], []⟩) := by kernel_rfl
theorem laws_FnExactReducePair_runs (ds : List D) (h : FitDs [.agg 2, .agg 2] ds) : ∃ k, byShape laws_FnExactReducePair_sh (laws_FnExactReducePair_run k) ds some = some ⟨[.bool true], []⟩ := by
  obtain ⟨d0, ds0, e0, hf0, hs0⟩ := fits_cons h
  obtain ⟨l0_0, hl0_0, ed0, hb0⟩ := hf0
  obtain ⟨aA, l0_1, el0_0, hl0_1⟩ := len_succ hl0_0
  obtain ⟨aA1, l0_2, el0_1, hl0_2⟩ := len_succ hl0_1
  have el0_2 := len_zero hl0_2
  subst el0_2
  subst el0_1
  subst el0_0
  subst ed0
  obtain ⟨d1, ds1, e1, hf1, hs1⟩ := fits_cons hs0
  obtain ⟨l1_0, hl1_0, ed1, hb1⟩ := hf1
  obtain ⟨aB, l1_1, el1_0, hl1_1⟩ := len_succ hl1_0
  obtain ⟨aB1, l1_2, el1_1, hl1_2⟩ := len_succ hl1_1
  have el1_2 := len_zero hl1_2
  subst el1_2
  subst el1_1
  subst el1_0
  subst ed1
  have el := fits_nil hs1
  subst el
  subst e1
  subst e0
  exact ⟨8000000000002, (laws_FnExactReducePair_by 8000000000002 aA aA1 aB aB1 some).trans (law_ReducePair 8000000000002 (by decide) aA aA1 aB aB1 _)⟩
set_option maxRecDepth 100000 in
theorem fnExactReducePair_lifted (os : Os) (started : os.Started) (H : Type) (enc : TypeId × Value → H) :
    ReturnsInHanded {} Try.checked os 4 .any (Rows.fnExactReducePairSpec.pre6 enc Try.prog Try.f4 Rows.fnExactReducePairRow.domain false) (Rows.fnExactReducePairSpec.post enc Try.prog Try.f4 false true false false) := by
  refine returnsInHanded_of_change (C := Try.checked) Try.own started (by kernel_rfl) Try.func4
    (ChangeSpec.witness6 (enc := enc) (C := Try.checked) false ⟨#[], #[.agg #[.int .i64 0, .int .i64 0], .agg #[.int .i64 0, .int .i64 0]], []⟩ 8 (by kernel_rfl) (by kernel_rfl) (by kernel_rfl) (by kernel_rfl)) ?_
  intro W base args ds gs before hval hW hcnd _
  exact law_row (P := Try.prog) (fn := Try.f4) (tb := 4) Try.laidOut (by kernel_rfl) (by kernel_rfl) Try.underlying4 rfl laws_FnExactReducePair_good (ks := [.agg 2, .agg 2]) (by kernel_rfl) laws_FnExactReducePair_runs
    (fun ds h => match ds, h with | [_, _], _ => rfl) hval hW
theorem fnExactReducePair_holds : Rows.FnExactReducePairSaid :=
  OpenClaim.holds_of_wide 4 Try.f4 rfl rfl rfl rfl rfl rfl rfl ⟨rfl, rfl, rfl, rfl, rfl⟩ rfl rfl rfl rfl rfl (by kernel_rfl) Try.func4 (by kernel_rfl)
    (of_decide_eq_true (by kernel_rfl)) (by unfold Func.isWrapper; first | (rw [if_pos (by decide +kernel)]; kernel_rfl) | (rw [if_neg (by decide +kernel)]; exact ⟨rfl, rfl⟩))
    (fun os started H enc _ => fnExactReducePair_lifted os started H enc)

#print axioms fnExactReducePair_holds
end Go.Proofs.Ytnfpidnnmgedfaa
