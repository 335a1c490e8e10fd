/- For each of the laws below: whatever the input, the law returns true, and its input reads as it did; without any condition. -/
import Derived.Test.YtbopdbpjmlmngaaGreatEvLaw
import Derived.Test.YtbopdbpjmlmngaaGreatSe2LPolygons
import Derived.Test.YtbopdbpjmlmngaaGreatMaLPolygons
import Derived.Test.YtbopdbpjmlmngaaGreatRows
namespace Go.Proofs.YtbopdbpjmlmngaaGreat
open Go Go.Ev Go.Sh Go.RowKit Go.ChangeAt
theorem Tryz.own : ownKnob Tryz.prog.godebug = none := by kernel_rfl
theorem Tryz.laidOut : laidOutB Tryz.prog = true := by kernel_rfl
theorem ajh {α : Type} (F : T0 α) (n : Nat) (code : List Int) (κ : Res → Option α) : aQ S0.sh (bK S0 F n) [.sl 5 (.int .u8) code] κ = F n code (fun v1 => κ ⟨[.bool v1], []⟩) := by kernel_rfl
theorem ahT (ds : List D) (h : ahY [.sl 5 (.int .u8)] ds) : ∃ k, aQ S0.sh (bK S0 WZ k) ds some = some ⟨[.bool true], []⟩ := by
 obtain ⟨d0, ds0, e0, hf0, hs0⟩ := aub h
 obtain ⟨code, ed0, hb0⟩ := hf0
 subst ed0
 have el := ayp hs0
 subst el
 subst e0
 exact ⟨1000000201, (ajh WZ 1000000201 code some).trans (amo 1000000201 (by decide) code _ (fun x hx => hb0.2 x hx))⟩
set_option maxRecDepth 100000 in
theorem ajI (os : Os) (started : os.Started) (H : Type) (enc : TypeId × Value → H) :
 ReturnsInHanded {} Tryz.checked os 3 .any (Rows.fnPolygonsSpec.pre6 enc Tryz.prog Tryz.f3 Rows.fnPolygonsRow.domain false) (Rows.fnPolygonsSpec.post enc Tryz.prog Tryz.f3 false true false false) := by
 refine returnsInHanded_of_change (C := Tryz.checked) Tryz.own started (by kernel_rfl) Tryz.func3
  (ChangeSpec.witness6 (enc := enc) (C := Tryz.checked) false ⟨#[], #[.slice none 0 0], []⟩ 8 (by kernel_rfl) (by kernel_rfl) (by kernel_rfl) (by kernel_rfl)) ?_
 intro W base args ds gs before hval hW hcnd _
 exact azM (P := Tryz.prog) (fn := Tryz.f3) (tb := 4) Tryz.laidOut (by kernel_rfl) (by kernel_rfl) Tryz.underlying4 rfl az1 (ks := [.sl 5 (.int .u8)]) (by kernel_rfl) ahT
  (fun ds h => match ds, h with | [_], _ => rfl) hval hW
set_option maxHeartbeats 100000000 in
set_option maxRecDepth 100000 in
theorem ajJ : joinedFacts Tryz.prog 3 Tryz.f3 Rows.fnPolygonsSpec Rows.fnPolygonsRow = true := by
 unfold joinedFacts
 repeat (with_reducible refine Bool.and_eq_true_iff.2 ⟨?_, by as_aux_lemma => kernel_rfl⟩)
 as_aux_lemma => kernel_rfl
theorem aks : Tryz.prog.funcNamed Rows.fnPolygonsRow.func = some 3 := by kernel_rfl
theorem ak2 : Tryz.f3.isInstance Tryz.prog Rows.fnPolygonsRow.origin Rows.fnPolygonsRow.targs := of_decide_eq_true (by kernel_rfl)
theorem akZ : Tryz.f3.isWrapper Tryz.prog Rows.fnPolygonsRow.wrapper Rows.fnPolygonsRow.mainSum := by unfold Func.isWrapper; first | (rw [if_pos (by decide +kernel)]; kernel_rfl) | (rw [if_neg (by decide +kernel)]; exact ⟨rfl, rfl⟩)
theorem fnPolygons_holds : Rows.FnPolygonsSaid :=
 OpenClaim.holds_of_wide 3 Tryz.f3 rfl rfl rfl rfl rfl rfl rfl ⟨rfl, rfl, rfl, rfl, rfl⟩ rfl rfl rfl rfl rfl aks Tryz.func3 ajJ ak2 akZ
  (fun os started H enc _ => ajI os started H enc)
#print axioms fnPolygons_holds
end Go.Proofs.YtbopdbpjmlmngaaGreat
