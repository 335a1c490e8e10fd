/- For each of the laws below: whatever the input, the law returns true, and its input reads as it did; without any condition. -/
import Derived.Test.YtjekmhinmcniaaaEvLaw
import Derived.Test.YtjekmhinmcniaaaSe3XAreEqualTriangles
import Derived.Test.YtjekmhinmcniaaaMaXAreEqualTriangles
import Derived.Test.YtjekmhinmcniaaaRows
namespace Go.Proofs.Ytjekmhinmcniaaa
open Go Go.Ev Go.Sh Go.RowKit Go.ChangeAt

theorem Try.own : ownKnob Try.prog.godebug = none := by kernel_rfl
theorem Try.laidOut : laidOutB Try.prog = true := by kernel_rfl

theorem laws_FnExactAreEqualTriangles_byF {α : Type} (F : Nat → Int → Int → Int → Int → Int → Int → Int → Int → Int → Int → Int → Int → (Bool → Option α) → Option α) (n : Nat) (aT : Int) (aT1 : Int) (aT2 : Int) (aT3 : Int) (aT4 : Int) (aT5 : Int) (aU : Int) (aU1 : Int) (aU2 : Int) (aU3 : Int) (aU4 : Int) (aU5 : Int) (κ : Res → Option α) : byShape laws_FnExactAreEqualTriangles_sh (laws_FnExactAreEqualTriangles_runG F n) [.agg [.int .i64 aT, .int .i64 aT1, .int .i64 aT2, .int .i64 aT3, .int .i64 aT4, .int .i64 aT5], .agg [.int .i64 aU, .int .i64 aU1, .int .i64 aU2, .int .i64 aU3, .int .i64 aU4, .int .i64 aU5]] κ = F n aT aT1 aT2 aT3 aT4 aT5 aU aU1 aU2 aU3 aU4 aU5 (fun v1 => κ ⟨[.bool v1], []⟩) := by kernel_rfl
theorem laws_FnExactAreEqualTriangles_by {α : Type} (n : Nat) (aT : Int) (aT1 : Int) (aT2 : Int) (aT3 : Int) (aT4 : Int) (aT5 : Int) (aU : Int) (aU1 : Int) (aU2 : Int) (aU3 : Int) (aU4 : Int) (aU5 : Int) (κ : Res → Option α) : byShape laws_FnExactAreEqualTriangles_sh (laws_FnExactAreEqualTriangles_run n) [.agg [.int .i64 aT, .int .i64 aT1, .int .i64 aT2, .int .i64 aT3, .int .i64 aT4, .int .i64 aT5], .agg [.int .i64 aU, .int .i64 aU1, .int .i64 aU2, .int .i64 aU3, .int .i64 aU4, .int .i64 aU5]] κ = laws_FnExactAreEqualTriangles n aT aT1 aT2 aT3 aT4 aT5 aU aU1 aU2 aU3 aU4 aU5 (fun v1 => κ ⟨[.bool v1], []⟩) := (congrArg (fun g => byShape laws_FnExactAreEqualTriangles_sh g [.agg [.int .i64 aT, .int .i64 aT1, .int .i64 aT2, .int .i64 aT3, .int .i64 aT4, .int .i64 aT5], .agg [.int .i64 aU, .int .i64 aU1, .int .i64 aU2, .int .i64 aU3, .int .i64 aU4, .int .i64 aU5]] κ) (funext fun p => funext fun κ => laws_FnExactAreEqualTriangles_run.eq_1 n p κ)).trans (laws_FnExactAreEqualTriangles_byF laws_FnExactAreEqualTriangles n aT aT1 aT2 aT3 aT4 aT5 aU aU1 aU2 aU3 aU4 aU5 κ)
theorem laws_FnExactAreEqualTriangles_runs (ds : List D) (h : FitDs [.agg 6, .agg 6] ds) : ∃ k, byShape laws_FnExactAreEqualTriangles_sh (laws_FnExactAreEqualTriangles_run k) ds some = some ⟨[.bool true], []⟩ := by
  obtain ⟨d0, ds0, e0, hf0, hs0⟩ := fits_cons h
  obtain ⟨l0_0, hl0_0, ed0, hb0⟩ := hf0
  obtain ⟨aT, l0_1, el0_0, hl0_1⟩ := len_succ hl0_0
  obtain ⟨aT1, l0_2, el0_1, hl0_2⟩ := len_succ hl0_1
  obtain ⟨aT2, l0_3, el0_2, hl0_3⟩ := len_succ hl0_2
  obtain ⟨aT3, l0_4, el0_3, hl0_4⟩ := len_succ hl0_3
  obtain ⟨aT4, l0_5, el0_4, hl0_5⟩ := len_succ hl0_4
  obtain ⟨aT5, l0_6, el0_5, hl0_6⟩ := len_succ hl0_5
  have el0_6 := len_zero hl0_6
  subst el0_6
  subst el0_5
  subst el0_4
  subst el0_3
  subst el0_2
  subst el0_1
  subst el0_0
  subst ed0
  obtain ⟨d1, ds1, e1, hf1, hs1⟩ := fits_cons hs0
  obtain ⟨l1_0, hl1_0, ed1, hb1⟩ := hf1
  obtain ⟨aU, l1_1, el1_0, hl1_1⟩ := len_succ hl1_0
  obtain ⟨aU1, l1_2, el1_1, hl1_2⟩ := len_succ hl1_1
  obtain ⟨aU2, l1_3, el1_2, hl1_3⟩ := len_succ hl1_2
  obtain ⟨aU3, l1_4, el1_3, hl1_4⟩ := len_succ hl1_3
  obtain ⟨aU4, l1_5, el1_4, hl1_5⟩ := len_succ hl1_4
  obtain ⟨aU5, l1_6, el1_5, hl1_6⟩ := len_succ hl1_5
  have el1_6 := len_zero hl1_6
  subst el1_6
  subst el1_5
  subst el1_4
  subst el1_3
  subst el1_2
  subst el1_1
  subst el1_0
  subst ed1
  have el := fits_nil hs1
  subst el
  subst e1
  subst e0
  exact ⟨1000000101, (laws_FnExactAreEqualTriangles_by 1000000101 aT aT1 aT2 aT3 aT4 aT5 aU aU1 aU2 aU3 aU4 aU5 some).trans (law_AreEqualTriangles 1000000101 (by decide) aT aT1 aT2 aT3 aT4 aT5 aU aU1 aU2 aU3 aU4 aU5 _)⟩
set_option maxRecDepth 100000 in
theorem fnExactAreEqualTriangles_lifted (os : Os) (started : os.Started) (H : Type) (enc : TypeId × Value → H) :
    ReturnsInHanded {} Try.checked os 3 .any (Rows.fnExactAreEqualTrianglesSpec.pre6 enc Try.prog Try.f3 Rows.fnExactAreEqualTrianglesRow.domain false) (Rows.fnExactAreEqualTrianglesSpec.post enc Try.prog Try.f3 false true false false) := by
  refine returnsInHanded_of_change (C := Try.checked) Try.own started (by kernel_rfl) Try.func3
    (ChangeSpec.witness6 (enc := enc) (C := Try.checked) false ⟨#[], #[.agg #[.int .i64 0, .int .i64 0, .int .i64 0, .int .i64 0, .int .i64 0, .int .i64 0], .agg #[.int .i64 0, .int .i64 0, .int .i64 0, .int .i64 0, .int .i64 0, .int .i64 0]], []⟩ 8 (by kernel_rfl) (by kernel_rfl) (by kernel_rfl) (by kernel_rfl)) ?_
  intro W base args ds gs before hval hW hcnd _
  exact law_row (P := Try.prog) (fn := Try.f3) (tb := 4) Try.laidOut (by kernel_rfl) (by kernel_rfl) Try.underlying4 rfl laws_FnExactAreEqualTriangles_good (ks := [.agg 6, .agg 6]) (by kernel_rfl) laws_FnExactAreEqualTriangles_runs
    (fun ds h => match ds, h with | [_, _], _ => rfl) hval hW
set_option maxHeartbeats 100000000 in
set_option maxRecDepth 100000 in
theorem fnExactAreEqualTriangles_closed : joinedFacts Try.prog 3 Try.f3 Rows.fnExactAreEqualTrianglesSpec Rows.fnExactAreEqualTrianglesRow = true := by
  unfold joinedFacts
  repeat (with_reducible refine Bool.and_eq_true_iff.2 ⟨?_, by as_aux_lemma => kernel_rfl⟩)
  as_aux_lemma => kernel_rfl
theorem fnExactAreEqualTriangles_named : Try.prog.funcNamed Rows.fnExactAreEqualTrianglesRow.func = some 3 := by kernel_rfl
theorem fnExactAreEqualTriangles_inst : Try.f3.isInstance Try.prog Rows.fnExactAreEqualTrianglesRow.origin Rows.fnExactAreEqualTrianglesRow.targs := of_decide_eq_true (by kernel_rfl)
theorem fnExactAreEqualTriangles_wrap : Try.f3.isWrapper Try.prog Rows.fnExactAreEqualTrianglesRow.wrapper Rows.fnExactAreEqualTrianglesRow.mainSum := by unfold Func.isWrapper; first | (rw [if_pos (by decide +kernel)]; kernel_rfl) | (rw [if_neg (by decide +kernel)]; exact ⟨rfl, rfl⟩)
theorem fnExactAreEqualTriangles_holds : Rows.FnExactAreEqualTrianglesSaid :=
  OpenClaim.holds_of_wide 3 Try.f3 rfl rfl rfl rfl rfl rfl rfl ⟨rfl, rfl, rfl, rfl, rfl⟩ rfl rfl rfl rfl rfl fnExactAreEqualTriangles_named Try.func3 fnExactAreEqualTriangles_closed fnExactAreEqualTriangles_inst fnExactAreEqualTriangles_wrap
    (fun os started H enc _ => fnExactAreEqualTriangles_lifted os started H enc)

#print axioms fnExactAreEqualTriangles_holds
end Go.Proofs.Ytjekmhinmcniaaa
