/- For each of the laws below: whatever the input, the law returns true, and its input reads as it did; without any condition. -/
import Derived.Test.YtgfnlccaleialaaEvLaw
import Derived.Test.YtgfnlccaleialaaSe2XMapPolygon
import Derived.Test.YtgfnlccaleialaaMaXMapPolygon
import Derived.Test.YtgfnlccaleialaaRows
namespace Go.Proofs.Ytgfnlccaleialaa
open Go Go.Ev Go.Sh Go.RowKit Go.ChangeAt

theorem Try.own : ownKnob Try.prog.godebug = none := by kernel_rfl
theorem Try.laidOut : laidOutB Try.prog = true := by kernel_rfl

theorem laws_FnExactMapPolygon_by {α : Type} (F : T48 α) (n : Nat) (aM : Int) (aM1 : Int) (aM2 : Int) (aM3 : Int) (aList : List (Int × Int)) (aB : Int) (aB1 : Int) (κ : Res → Option α) : byShape S47.sh (callS S47 F n) [.agg [.int .i64 aM, .int .i64 aM1, .int .i64 aM2, .int .i64 aM3], .sl 22 .pt aList, .agg [.int .i64 aB, .int .i64 aB1]] κ = F n aM aM1 aM2 aM3 aList aB aB1 (fun v1 => κ ⟨[.bool v1], []⟩) := by kernel_rfl
theorem laws_FnExactMapPolygon_runs (ds : List D) (h : FitDs [.agg 4, .sl 22 .pt, .agg 2] ds) : ∃ k, byShape S47.sh (callS S47 laws_FnExactMapPolygon k) ds some = some ⟨[.bool true], []⟩ := by
  obtain ⟨d0, ds0, e0, hf0, hs0⟩ := fits_cons h
  obtain ⟨l0_0, hl0_0, ed0, hb0⟩ := hf0
  obtain ⟨aM, l0_1, el0_0, hl0_1⟩ := len_succ hl0_0
  obtain ⟨aM1, l0_2, el0_1, hl0_2⟩ := len_succ hl0_1
  obtain ⟨aM2, l0_3, el0_2, hl0_3⟩ := len_succ hl0_2
  obtain ⟨aM3, l0_4, el0_3, hl0_4⟩ := len_succ hl0_3
  have el0_4 := len_zero hl0_4
  subst el0_4
  subst el0_3
  subst el0_2
  subst el0_1
  subst el0_0
  subst ed0
  obtain ⟨d1, ds1, e1, hf1, hs1⟩ := fits_cons hs0
  obtain ⟨aList, ed1, hb1⟩ := hf1
  subst ed1
  obtain ⟨d2, ds2, e2, hf2, hs2⟩ := fits_cons hs1
  obtain ⟨l2_0, hl2_0, ed2, hb2⟩ := hf2
  obtain ⟨aB, l2_1, el2_0, hl2_1⟩ := len_succ hl2_0
  obtain ⟨aB1, l2_2, el2_1, hl2_2⟩ := len_succ hl2_1
  have el2_2 := len_zero hl2_2
  subst el2_2
  subst el2_1
  subst el2_0
  subst ed2
  have el := fits_nil hs2
  subst el
  subst e2
  subst e1
  subst e0
  exact ⟨3000001, (laws_FnExactMapPolygon_by laws_FnExactMapPolygon 3000001 aM aM1 aM2 aM3 aList aB aB1 some).trans (law_MapPolygon 3000001 (by decide) aM aM1 aM2 aM3 aList aB aB1 _ hb1.1)⟩
set_option maxRecDepth 100000 in
theorem fnExactMapPolygon_lifted (os : Os) (started : os.Started) (H : Type) (enc : TypeId × Value → H) :
    ReturnsInHanded {} Try.checked os 3 .any (Rows.fnExactMapPolygonSpec.pre6 enc Try.prog Try.f3 Rows.fnExactMapPolygonRow.domain false) (Rows.fnExactMapPolygonSpec.post enc Try.prog Try.f3 false true false false) := by
  refine returnsInHanded_of_change (C := Try.checked) Try.own started (by kernel_rfl) Try.func3
    (ChangeSpec.witness6 (enc := enc) (C := Try.checked) false ⟨#[], #[.agg #[.int .i64 0, .int .i64 0, .int .i64 0, .int .i64 0], .slice none 0 0, .agg #[.int .i64 0, .int .i64 0]], []⟩ 8 (by kernel_rfl) (by kernel_rfl) (by kernel_rfl) (by kernel_rfl)) ?_
  intro W base args ds gs before hval hW hcnd _
  exact law_row (P := Try.prog) (fn := Try.f3) (tb := 4) Try.laidOut (by kernel_rfl) (by kernel_rfl) Try.underlying4 rfl h3_good (ks := [.agg 4, .sl 22 .pt, .agg 2]) (by kernel_rfl) laws_FnExactMapPolygon_runs
    (fun ds h => match ds, h with | [_, _, _], _ => rfl) hval hW
set_option maxHeartbeats 100000000 in
set_option maxRecDepth 100000 in
theorem fnExactMapPolygon_closed : joinedFacts Try.prog 3 Try.f3 Rows.fnExactMapPolygonSpec Rows.fnExactMapPolygonRow = true := by
  unfold joinedFacts
  repeat (with_reducible refine Bool.and_eq_true_iff.2 ⟨?_, by as_aux_lemma => kernel_rfl⟩)
  as_aux_lemma => kernel_rfl
theorem fnExactMapPolygon_named : Try.prog.funcNamed Rows.fnExactMapPolygonRow.func = some 3 := by kernel_rfl
theorem fnExactMapPolygon_inst : Try.f3.isInstance Try.prog Rows.fnExactMapPolygonRow.origin Rows.fnExactMapPolygonRow.targs := of_decide_eq_true (by kernel_rfl)
theorem fnExactMapPolygon_wrap : Try.f3.isWrapper Try.prog Rows.fnExactMapPolygonRow.wrapper Rows.fnExactMapPolygonRow.mainSum := by unfold Func.isWrapper; first | (rw [if_pos (by decide +kernel)]; kernel_rfl) | (rw [if_neg (by decide +kernel)]; exact ⟨rfl, rfl⟩)
theorem fnExactMapPolygon_holds : Rows.FnExactMapPolygonSaid :=
  OpenClaim.holds_of_wide 3 Try.f3 rfl rfl rfl rfl rfl rfl rfl ⟨rfl, rfl, rfl, rfl, rfl⟩ rfl rfl rfl rfl rfl fnExactMapPolygon_named Try.func3 fnExactMapPolygon_closed fnExactMapPolygon_inst fnExactMapPolygon_wrap
    (fun os started H enc _ => fnExactMapPolygon_lifted os started H enc)

#print axioms fnExactMapPolygon_holds
end Go.Proofs.Ytgfnlccaleialaa
