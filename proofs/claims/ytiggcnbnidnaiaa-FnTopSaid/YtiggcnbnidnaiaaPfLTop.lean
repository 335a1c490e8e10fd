/- For each of the laws below: whatever the input, the law returns true, and its input reads as it did; without any condition. -/
import Derived.Test.YtiggcnbnidnaiaaEvLaw
import Derived.Test.YtiggcnbnidnaiaaSe2LTop
import Derived.Test.YtiggcnbnidnaiaaMaLTop
import Derived.Test.YtiggcnbnidnaiaaRows
namespace Go.Proofs.Ytiggcnbnidnaiaa
open Go Go.Ev Go.Sh Go.RowKit Go.ChangeAt
theorem Try.own : ownKnob Try.prog.godebug = none := by kernel_rfl
theorem Try.laidOut : laidOutB Try.prog = true := by kernel_rfl
theorem afP {α : Type} (F : T0 α) (n : Nat) (code : List Int) (κ : Res → Option α) : aZ S0.sh (bY S0 F n) [.sl 5 (.int .u8) code] κ = F n code (fun v1 => κ ⟨[.bool v1], []⟩) := by kernel_rfl
theorem aeD (ds : List D) (h : abC [.sl 5 (.int .u8)] ds) : ∃ k, aZ S0.sh (bY S0 Ry k) ds some = some ⟨[.bool true], []⟩ := by
 obtain ⟨d0, ds0, e0, hf0, hs0⟩ := aji h
 obtain ⟨code, ed0, hb0⟩ := hf0
 subst ed0
 have el := alM hs0
 subst el
 subst e0
 exact ⟨1000000101, (afP Ry 1000000101 code some).trans (ajU 1000000101 (by decide) code _ (fun x hx => hb0.2 x hx))⟩
set_option maxRecDepth 100000 in
theorem af5 (os : Os) (started : os.Started) (H : Type) (enc : TypeId × Value → H) :
 ReturnsInHanded {} Try.checked os 3 .any (Rows.fnTopSpec.pre6 enc Try.prog Try.f3 Rows.fnTopRow.domain false) (Rows.fnTopSpec.post enc Try.prog Try.f3 false true false false) := by
 refine returnsInHanded_of_change (C := Try.checked) Try.own started (by kernel_rfl) Try.func3
  (ChangeSpec.witness6 (enc := enc) (C := Try.checked) false ⟨#[], #[.slice none 0 0], []⟩ 8 (by kernel_rfl) (by kernel_rfl) (by kernel_rfl) (by kernel_rfl)) ?_
 intro W base args ds gs before hval hW hcnd _
 letI : Inhabited aQ := ⟨⟨False⟩⟩
 exact amM (P := Try.prog) (fn := Try.f3) (tb := 4) Try.laidOut (by kernel_rfl) (by kernel_rfl) Try.underlying4 rfl (ane (fun h => h)) (ks := [.sl 5 (.int .u8)]) (by kernel_rfl) aeD
  (fun ds h => match ds, h with | [_], _ => rfl) hval hW
set_option maxHeartbeats 100000000 in
set_option maxRecDepth 100000 in
theorem af9 : joinedFacts Try.prog 3 Try.f3 Rows.fnTopSpec Rows.fnTopRow = true := by
 unfold joinedFacts
 repeat (with_reducible refine Bool.and_eq_true_iff.2 ⟨?_, by as_aux_lemma => kernel_rfl⟩)
 as_aux_lemma => kernel_rfl
theorem ahR : Try.prog.funcNamed Rows.fnTopRow.func = some 3 := by kernel_rfl
theorem ai2 : Try.f3.isInstance Try.prog Rows.fnTopRow.origin Rows.fnTopRow.targs := of_decide_eq_true (by kernel_rfl)
theorem aiI : Try.f3.isWrapper Try.prog Rows.fnTopRow.wrapper Rows.fnTopRow.mainSum := by unfold Func.isWrapper; first | (rw [if_pos (by decide +kernel)]; kernel_rfl) | (rw [if_neg (by decide +kernel)]; exact ⟨rfl, rfl⟩)
theorem fnTop_holds : Rows.FnTopSaid :=
 OpenClaim.holds_of_wide 3 Try.f3 rfl rfl rfl rfl rfl rfl rfl ⟨rfl, rfl, rfl, rfl, rfl⟩ rfl rfl rfl rfl rfl ahR Try.func3 af9 ai2 aiI
  (fun os started H enc _ => af5 os started H enc)
#print axioms fnTop_holds
end Go.Proofs.Ytiggcnbnidnaiaa
