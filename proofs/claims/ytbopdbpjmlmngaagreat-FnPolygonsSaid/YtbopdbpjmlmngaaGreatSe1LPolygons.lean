/- The program's functions hold to their readings without memory: printed by a program of ours. -/
import Derived.Test.YtbopdbpjmlmngaaGreatSeLPolygons
namespace Go.Proofs.YtbopdbpjmlmngaaGreat
open Go Go.Ev Go.Sh Go.Proofs
variable {α : Type}
abbrev h4_x : Nat → Ctx α := ctxS false M eqs jt0 [] []
theorem h4_g (n : Nat) : GenF (α := α) Tryz.prog Tryz.f4 S0 (h4_x n) n (alP) := by intro _ _; kernel_rfl
theorem azp : ∀ n, aW (α := α) Tryz.prog 4 (aQ S0.sh (bK S0 kX n)) := aJ Tryz.func4 (by kernel_rfl) (by kernel_rfl) (by kernel_rfl) aj (fun n => h4_g n) rfl allN allN
def auO : Tpl := ⟨(.sl 0 :: (.any :: (.any :: (.ptr 704 0 0 :: (.int .i64 :: (anyN 33 [])))))), [(0, .rows 0 5 (.int .u8)), (704, .mix 2 80 [.sl 0, .int .i64, .int .u64])], [], false⟩
def au3 : PcS := nK [.int, .rows (.int .u8), .int, .int] [0]
abbrev ayy (G3 : T1 α) : Nat → Ctx α := ctxS false M eqs jt0 [] [lpT 3 auO au3 R1 G3]
theorem aAG (G3 : T1 α) (n : Nat) : GenL (α := α) Tryz.prog Tryz.f34 S1 (ayy G3 n) 3 auO au3 n G3 (fun k => aaI (G3 k) k) := by intro _ _ _ _ _ _; kernel_rfl
theorem aDU (G3 : T1 α) (n : Nat) : GenF (α := α) Tryz.prog Tryz.f34 S1 (ayy G3 n) n (ahf G3) := by intro _ _; kernel_rfl
theorem acZ : ∀ n, aW (α := α) Tryz.prog 34 (aQ S1.sh (bK S1 sV n)) := aJ Tryz.func34 (by kernel_rfl) (by kernel_rfl) (by kernel_rfl) aj (fun n => aDU GK n) rfl allN (allC (iq (by kernel_rfl) (fun n => (GK.eq_2 ..).symm) (fun n => aAG GK n)) allN)
abbrev aF8 : Nat → Ctx α := ctxS false M eqs jt0 [] []
theorem aGQ (n : Nat) : GenF (α := α) Tryz.prog Tryz.f61 S2 (aF8 n) n (ahx) := by intro _ _ _ _ _; kernel_rfl
theorem Xk : ∀ n, aW (α := α) Tryz.prog 61 (aQ S2.sh (bK S2 kK n)) := aJ Tryz.func61 (by kernel_rfl) (by kernel_rfl) (by kernel_rfl) aj (fun n => aGQ n) rfl allN allN
abbrev aFh (F0 : T3 α) : Nat → Ctx α := ctxS false M eqs jt0 [⟨61, S2, F0⟩] []
theorem aEA (F0 : T3 α) (n : Nat) : GenF (α := α) Tryz.prog Tryz.f65 S3 (aFh F0 n) n (aeg F0) := by intro _ _ _ _ _; kernel_rfl
theorem acT : ∀ n, aW (α := α) Tryz.prog 65 (aQ S3.sh (bK S3 sW n)) := aJ Tryz.func65 (by kernel_rfl) (by kernel_rfl) (by kernel_rfl) aj (fun n => aEA kK n) rfl (allC Xk allN) allN
abbrev aGI (F0 : T3 α) : Nat → Ctx α := ctxS false M eqs jt0 [⟨61, S2, F0⟩] []
theorem aFx (F0 : T3 α) (n : Nat) : GenF (α := α) Tryz.prog Tryz.f64 S4 (aGI F0 n) n (aa1 F0) := by intro _ _ _ _ _; kernel_rfl
theorem ahW : ∀ n, aW (α := α) Tryz.prog 64 (aQ S4.sh (bK S4 pW n)) := aJ Tryz.func64 (by kernel_rfl) (by kernel_rfl) (by kernel_rfl) aj (fun n => aFx kK n) rfl (allC Xk allN) allN
abbrev aDT : Nat → Ctx α := ctxS false M eqs jt0 [] []
theorem aGv (n : Nat) : GenF (α := α) Tryz.prog Tryz.f81 S5 (aDT n) n (acW) := by intro _ _ _ _ _; kernel_rfl
theorem akr : ∀ n, aW (α := α) Tryz.prog 81 (aQ S5.sh (bK S5 uj n)) := aJ Tryz.func81 (by kernel_rfl) (by kernel_rfl) (by kernel_rfl) aj (fun n => aGv n) rfl allN allN
abbrev aFZ : Nat → Ctx α := ctxS false M eqs jt0 [] []
theorem aFc (n : Nat) : GenF (α := α) Tryz.prog Tryz.f87 S6 (aFZ n) n (Fj) := by intro _ _ _ _ _ _; kernel_rfl
theorem ad4 : ∀ n, aW (α := α) Tryz.prog 87 (aQ S6.sh (bK S6 jy n)) := aJ Tryz.func87 (by kernel_rfl) (by kernel_rfl) (by kernel_rfl) aj (fun n => aFc n) rfl allN allN
abbrev aAz : Nat → Ctx α := ctxS false M eqs jt0 [] []
theorem aCn (n : Nat) : GenF (α := α) Tryz.prog Tryz.f117 S7 (aAz n) n (Vj) := by intro _ _ _ _ _; kernel_rfl
theorem agC : ∀ n, aW (α := α) Tryz.prog 117 (aQ S7.sh (bK S7 uQ n)) := aJ Tryz.func117 (by kernel_rfl) (by kernel_rfl) (by kernel_rfl) aj (fun n => aCn n) rfl allN allN
abbrev aB0 : Nat → Ctx α := ctxS false M eqs jt0 [] []
theorem aA7 (n : Nat) : GenF (α := α) Tryz.prog Tryz.f135 S7 (aB0 n) n (ae9) := by intro _ _ _ _ _; kernel_rfl
theorem awg : ∀ n, aW (α := α) Tryz.prog 135 (aQ S7.sh (bK S7 Rz n)) := aJ Tryz.func135 (by kernel_rfl) (by kernel_rfl) (by kernel_rfl) aj (fun n => aA7 n) rfl allN allN
def arF : Tpl := ⟨(.sl 0 :: (.any :: (.any :: (.ptr 192 0 0 :: (.int .i64 :: (anyN 106 [])))))), [(0, .rows 0 35 .pt), (192, .ints 2 35 .i64 2)], [], false⟩
def aqN : PcS := nK [.int, .rows .pt, .int, .int] [0]
def aos : Tpl := ⟨(.sl 0 :: (.any :: (.any :: (.ptr 192 0 0 :: (.any :: (.sl 2240 :: (.ptr 384 0 0 :: (.ptr 448 0 0 :: (.bool :: (.int .i64 :: (anyN 101 []))))))))))), [(0, .rows 0 35 .pt), (192, .ints 2 35 .i64 2), (2240, .rows 2 35 .pt), (384, .ints 2 35 .i64 2), (448, .ints 2 35 .i64 2)], [], false⟩
def aoK : PcS := nK [.bool, .int, .rows .pt, .int, .int, .rows .pt, .int, .int, .int, .int] [4]
def apx : Tpl := ⟨(.sl 0 :: (.any :: (.any :: (.ptr 192 0 0 :: (.any :: (.sl 2240 :: (anyN 105 []))))))), [(0, .rows 0 35 .pt), (192, .ints 2 35 .i64 2), (2240, .rows 2 35 .pt)], [], false⟩
def aoA : PcS := nK [.rows .pt, .int, .int, .rows .pt] []
abbrev alH (F0 : T6 α) (F1 : T7 α) (F2 : T8 α) (F3 : T8 α) (G5 : T9 α) (G13 : T10 α) (G10 : T11 α) : Nat → Ctx α := ctxS false M eqs jt0 [⟨81, S5, F0⟩, ⟨87, S6, F1⟩, ⟨117, S7, F2⟩, ⟨135, S7, F3⟩] [lpT 5 arF aqN R6 G5, lpT 13 aos aoK R6 G13, lpT 10 apx aoA R6 G10]
theorem azm (F0 : T6 α) (F1 : T7 α) (F2 : T8 α) (F3 : T8 α) (G5 : T9 α) (G13 : T10 α) (G10 : T11 α) (n : Nat) : GenL (α := α) Tryz.prog Tryz.f114 S8 (alH F0 F1 F2 F3 G5 G13 G10 n) 5 arF aqN n G5 (fun k => TJ F0 (G5 k) k) := by intro _ _ _ _ _ _; kernel_rfl
theorem axy (F0 : T6 α) (F1 : T7 α) (F2 : T8 α) (F3 : T8 α) (G5 : T9 α) (G13 : T10 α) (G10 : T11 α) (n : Nat) : GenL (α := α) Tryz.prog Tryz.f114 S8 (alH F0 F1 F2 F3 G5 G13 G10 n) 13 aos aoK n G13 (fun k => Yv F1 F2 F3 (G13 k) k) := by intro _ _ _ _ _ _ _ _ _ _ _ _; kernel_rfl
theorem awR (F0 : T6 α) (F1 : T7 α) (F2 : T8 α) (F3 : T8 α) (G5 : T9 α) (G13 : T10 α) (G10 : T11 α) (n : Nat) : GenL (α := α) Tryz.prog Tryz.f114 S8 (alH F0 F1 F2 F3 G5 G13 G10 n) 10 apx aoA n G10 (fun k => Yy G13 (G10 k) k) := by intro _ _ _ _ _ _; kernel_rfl
theorem aCz (F0 : T6 α) (F1 : T7 α) (F2 : T8 α) (F3 : T8 α) (G5 : T9 α) (G13 : T10 α) (G10 : T11 α) (n : Nat) : GenF (α := α) Tryz.prog Tryz.f114 S8 (alH F0 F1 F2 F3 G5 G13 G10 n) n (ad2 G5 G10) := by intro _ _; kernel_rfl
theorem amx : ∀ n, aW (α := α) Tryz.prog 114 (aQ S8.sh (bK S8 Ey n)) := aJ Tryz.func114 (by kernel_rfl) (by kernel_rfl) (by kernel_rfl) aj (fun n => aCz uj jy uQ Rz yQ uw uy n) rfl (allC akr (allC ad4 (allC agC (allC awg allN)))) (allC (iq (by kernel_rfl) (fun n => (yQ.eq_2 ..).symm) (fun n => azm uj jy uQ Rz yQ uw uy n)) (allC (iq (by kernel_rfl) (fun n => (uw.eq_2 ..).symm) (fun n => axy uj jy uQ Rz yQ uw uy n)) (allC (iq (by kernel_rfl) (fun n => (uy.eq_2 ..).symm) (fun n => awR uj jy uQ Rz yQ uw uy n)) allN)))
abbrev aEL : Nat → Ctx α := ctxS false M eqs jt0 [] []
theorem aEg (n : Nat) : GenF (α := α) Tryz.prog Tryz.f71 S9 (aEL n) n (af0) := by intro _ _ _ _; kernel_rfl
theorem ahE : ∀ n, aW (α := α) Tryz.prog 71 (aQ S9.sh (bK S9 FX n)) := aJ Tryz.func71 (by kernel_rfl) (by kernel_rfl) (by kernel_rfl) aj (fun n => aEg n) rfl allN allN
abbrev aBR (F0 : T13 α) : Nat → Ctx α := ctxS false M eqs jt0 [⟨71, S9, F0⟩] []
theorem aBi (F0 : T13 α) (n : Nat) : GenF (α := α) Tryz.prog Tryz.f116 S10 (aBR F0 n) n (adS F0) := by intro _ _; kernel_rfl
theorem am3 : ∀ n, aW (α := α) Tryz.prog 116 (aQ S10.sh (bK S10 UZ n)) := aJ Tryz.func116 (by kernel_rfl) (by kernel_rfl) (by kernel_rfl) aj (fun n => aBi FX n) rfl (allC ahE allN) allN
abbrev aGs (F0 : T14 α) : Nat → Ctx α := ctxS false M eqs jt0 [⟨116, S10, F0⟩] []
theorem aGP (F0 : T14 α) (n : Nat) : GenF (α := α) Tryz.prog Tryz.f68 S11 (aGs F0 n) n (agl F0) := by intro _ _ _; kernel_rfl
theorem ahN : ∀ n, aW (α := α) Tryz.prog 68 (aQ S11.sh (bK S11 Dk n)) := aJ Tryz.func68 (by kernel_rfl) (by kernel_rfl) (by kernel_rfl) aj (fun n => aGP UZ n) rfl (allC am3 allN) allN
abbrev aGz (F0 : T7 α) (F1 : T8 α) : Nat → Ctx α := ctxS false M eqs jt0 [⟨87, S6, F0⟩, ⟨117, S7, F1⟩] []
theorem aFb (F0 : T7 α) (F1 : T8 α) (n : Nat) : GenF (α := α) Tryz.prog Tryz.f85 S12 (aGz F0 F1 n) n (aej F0 F1) := by intro _ _ _ _ _ _ _; kernel_rfl
theorem axz : ∀ n, aW (α := α) Tryz.prog 85 (aQ S12.sh (bK S12 aac n)) := aJ Tryz.func85 (by kernel_rfl) (by kernel_rfl) (by kernel_rfl) aj (fun n => aFb jy uQ n) rfl (allC ad4 (allC agC allN)) allN
abbrev aGf : Nat → Ctx α := ctxS false M eqs jt0 [] []
theorem aE8 (n : Nat) : GenF (α := α) Tryz.prog Tryz.f86 S13 (aGf n) n (adZ) := by intro _ _ _; kernel_rfl
theorem awr : ∀ n, aW (α := α) Tryz.prog 86 (aQ S13.sh (bK S13 aaj n)) := aJ Tryz.func86 (by kernel_rfl) (by kernel_rfl) (by kernel_rfl) aj (fun n => aE8 n) rfl allN allN
def asP : Tpl := ⟨(.sl 0 :: (.any :: (.any :: (.int .i64 :: (.int .i64 :: (.int .i64 :: (anyN 75 []))))))), [(0, .rows 0 35 .pt)], [], false⟩
def avy : PcS := nK [.int, .int, .int, .rows .pt] [0]
abbrev ayx (F0 : T13 α) (F1 : T15 α) (F2 : T16 α) (F3 : T7 α) (F4 : T17 α) (G6 : T18 α) : Nat → Ctx α := ctxS false M eqs jt0 [⟨71, S9, F0⟩, ⟨68, S11, F1⟩, ⟨85, S12, F2⟩, ⟨87, S6, F3⟩, ⟨86, S13, F4⟩] [lpT 6 asP avy R0 G6]
theorem aCX (F0 : T13 α) (F1 : T15 α) (F2 : T16 α) (F3 : T7 α) (F4 : T17 α) (G6 : T18 α) (n : Nat) : GenL (α := α) Tryz.prog Tryz.f43 S14 (ayx F0 F1 F2 F3 F4 G6 n) 6 asP avy n G6 (fun k => ab1 F0 F1 F2 F3 F4 (G6 k) k) := by intro _ _ _ _ _ _; kernel_rfl
theorem aEm (F0 : T13 α) (F1 : T15 α) (F2 : T16 α) (F3 : T7 α) (F4 : T17 α) (G6 : T18 α) (n : Nat) : GenF (α := α) Tryz.prog Tryz.f43 S14 (ayx F0 F1 F2 F3 F4 G6 n) n (afJ G6) := by intro _ _; kernel_rfl
theorem abD : ∀ n, aW (α := α) Tryz.prog 43 (aQ S14.sh (bK S14 uK n)) := aJ Tryz.func43 (by kernel_rfl) (by kernel_rfl) (by kernel_rfl) aj (fun n => aEm FX Dk aac jy aaj LX n) rfl (allC ahE (allC ahN (allC axz (allC ad4 (allC awr allN))))) (allC (iq (by kernel_rfl) (fun n => (LX.eq_2 ..).symm) (fun n => aCX FX Dk aac jy aaj LX n)) allN)
abbrev aD3 (F0 : T12 α) (F1 : T19 α) : Nat → Ctx α := ctxS false M eqs jt0 [⟨114, S8, F0⟩, ⟨43, S14, F1⟩] []
theorem aDK (F0 : T12 α) (F1 : T19 α) (n : Nat) : GenF (α := α) Tryz.prog Tryz.f67 S15 (aD3 F0 F1 n) n (acb F0 F1) := by intro _ _; kernel_rfl
theorem anO : ∀ n, aW (α := α) Tryz.prog 67 (aQ S15.sh (bK S15 vW n)) := aJ Tryz.func67 (by kernel_rfl) (by kernel_rfl) (by kernel_rfl) aj (fun n => aDK Ey uK n) rfl (allC amx (allC abD allN)) allN
def av9 : Tpl := ⟨(.ptr 0 0 0 :: (.int .i64 :: (.any :: (.any :: (.any :: (.int .i64 :: (.sl 896 :: (.int .i64 :: (anyN 32 []))))))))), [(0, .mix 1 80 [.sl 1, .int .i64, .int .u64]), (896, .rows 2 35 .pt), (1, .rows 0 5 (.int .u8))], [], false⟩
def av5 : PcS := nK [.int, .int, .int, .int, .int, .rows .pt, .rows (.int .u8)] [2]
def asU : Tpl := ⟨(.ptr 0 0 0 :: (.int .i64 :: (.any :: (.any :: (.any :: (.int .i64 :: (anyN 34 []))))))), [(0, .mix 1 80 [.sl 1, .int .i64, .int .u64]), (1, .rows 0 5 (.int .u8))], [], false⟩
def atA : PcS := nK [.int, .int, .int, .int, .rows (.int .u8)] [0]
abbrev arO (F0 : T3 α) (F1 : T5 α) (F2 : T20 α) (G6 : T21 α) (G2 : T22 α) : Nat → Ctx α := ctxS false M eqs jt0 [⟨61, S2, F0⟩, ⟨64, S4, F1⟩, ⟨67, S15, F2⟩] [lpT 6 av9 av5 R8 G6, lpT 2 asU atA R8 G2]
theorem aCE (F0 : T3 α) (F1 : T5 α) (F2 : T20 α) (G6 : T21 α) (G2 : T22 α) (n : Nat) : GenL (α := α) Tryz.prog Tryz.f76 S16 (arO F0 F1 F2 G6 G2 n) 6 av9 av5 n G6 (fun k => XZ F1 (G6 k) k) := by intro _ _ _ _ _ _ _ _ _ _ _ _ _; kernel_rfl
theorem aBP (F0 : T3 α) (F1 : T5 α) (F2 : T20 α) (G6 : T21 α) (G2 : T22 α) (n : Nat) : GenL (α := α) Tryz.prog Tryz.f76 S16 (arO F0 F1 F2 G6 G2 n) 2 asU atA n G2 (fun k => Vz F0 F2 G6 (G2 k) k) := by intro _ _ _ _ _ _ _ _ _ _ _; kernel_rfl
theorem aFQ (F0 : T3 α) (F1 : T5 α) (F2 : T20 α) (G6 : T21 α) (G2 : T22 α) (n : Nat) : GenF (α := α) Tryz.prog Tryz.f76 S16 (arO F0 F1 F2 G6 G2 n) n (acX G2) := by intro _ _ _ _ _; kernel_rfl
theorem awv : ∀ n, aW (α := α) Tryz.prog 76 (aQ S16.sh (bK S16 aag n)) := aJ Tryz.func76 (by kernel_rfl) (by kernel_rfl) (by kernel_rfl) aj (fun n => aFQ kK pW vW zq rW n) rfl (allC Xk (allC ahW (allC anO allN))) (allC (iq (by kernel_rfl) (fun n => (zq.eq_2 ..).symm) (fun n => aCE kK pW vW zq rW n)) (allC (iq (by kernel_rfl) (fun n => (rW.eq_2 ..).symm) (fun n => aBP kK pW vW zq rW n)) allN))
abbrev aFk (F0 : T3 α) (F1 : T4 α) : Nat → Ctx α := ctxS false M eqs jt0 [⟨61, S2, F0⟩, ⟨65, S3, F1⟩] []
theorem aFm (F0 : T3 α) (F1 : T4 α) (n : Nat) : GenF (α := α) Tryz.prog Tryz.f75 S17 (aFk F0 F1 n) n (aga F0 F1) := by intro _ _ _ _; kernel_rfl
theorem aya : ∀ n, aW (α := α) Tryz.prog 75 (aQ S17.sh (bK S17 ad7 n)) := aJ Tryz.func75 (by kernel_rfl) (by kernel_rfl) (by kernel_rfl) aj (fun n => aFm kK sW n) rfl (allC Xk (allC acT allN)) allN
abbrev aDm (F0 : T3 α) (F1 : T4 α) : Nat → Ctx α := ctxS false M eqs jt0 [⟨61, S2, F0⟩, ⟨65, S3, F1⟩] []
theorem aCC (F0 : T3 α) (F1 : T4 α) (n : Nat) : GenF (α := α) Tryz.prog Tryz.f75 S18 (aDm F0 F1 n) n (ae0 F0 F1) := by intro _ _ _ _ _; kernel_rfl
theorem avS : ∀ n, aW (α := α) Tryz.prog 75 (aQ S18.sh (bK S18 aaV n)) := aJ Tryz.func75 (by kernel_rfl) (by kernel_rfl) (by kernel_rfl) aj (fun n => aCC kK sW n) rfl (allC Xk (allC acT allN)) allN
abbrev aFs (F0 : T4 α) (F1 : T23 α) (F2 : T24 α) (F3 : T25 α) : Nat → Ctx α := ctxS false M eqs jt0 [⟨65, S3, F0⟩, ⟨76, S16, F1⟩, ⟨75, S17, F2⟩, ⟨75, S18, F3⟩] []
theorem aGu (F0 : T4 α) (F1 : T23 α) (F2 : T24 α) (F3 : T25 α) (n : Nat) : GenF (α := α) Tryz.prog Tryz.f33 S19 (aFs F0 F1 F2 F3 n) n (ael F0 F1 F2 F3) := by intro _ _ _ _; kernel_rfl
theorem adV : ∀ n, aW (α := α) Tryz.prog 33 (aQ S19.sh (bK S19 vX n)) := aJ Tryz.func33 (by kernel_rfl) (by kernel_rfl) (by kernel_rfl) aj (fun n => aGu sW aag ad7 aaV n) rfl (allC acT (allC awv (allC aya (allC avS allN)))) allN
abbrev h5_x (F0 : T2 α) (F1 : T24 α) : Nat → Ctx α := ctxS false M eqs jt0 [⟨34, S1, F0⟩, ⟨33, S19, F1⟩] []
theorem h5_g (F0 : T2 α) (F1 : T24 α) (n : Nat) : GenF (α := α) Tryz.prog Tryz.f5 S20 (h5_x F0 F1 n) n (ach F0 F1) := by intro _ _; kernel_rfl
theorem az4 : ∀ n, aW (α := α) Tryz.prog 5 (aQ S20.sh (bK S20 bY n)) := aJ Tryz.func5 (by kernel_rfl) (by kernel_rfl) (by kernel_rfl) aj (fun n => h5_g sV vX n) rfl (allC acZ (allC adV allN)) allN
abbrev aGb : Nat → Ctx α := ctxS false M eqs jt0 [] []
theorem aEf (n : Nat) : GenF (α := α) Tryz.prog Tryz.f38 S9 (aGb n) n (ajb) := by intro _ _ _ _; kernel_rfl
theorem agq : ∀ n, aW (α := α) Tryz.prog 38 (aQ S9.sh (bK S9 Sj n)) := aJ Tryz.func38 (by kernel_rfl) (by kernel_rfl) (by kernel_rfl) aj (fun n => aEf n) rfl allN allN
abbrev aET (F0 : T13 α) : Nat → Ctx α := ctxS false M eqs jt0 [⟨38, S9, F0⟩] []
theorem aGJ (F0 : T13 α) (n : Nat) : GenF (α := α) Tryz.prog Tryz.f41 S11 (aET F0 n) n (adC F0) := by intro _ _ _; kernel_rfl
theorem apq : ∀ n, aW (α := α) Tryz.prog 41 (aQ S11.sh (bK S11 aap n)) := aJ Tryz.func41 (by kernel_rfl) (by kernel_rfl) (by kernel_rfl) aj (fun n => aGJ Sj n) rfl (allC agq allN) allN
abbrev aGo (F0 : T15 α) : Nat → Ctx α := ctxS false M eqs jt0 [⟨41, S11, F0⟩] []
theorem aEx (F0 : T15 α) (n : Nat) : GenF (α := α) Tryz.prog Tryz.f40 S11 (aGo F0 n) n (abr F0) := by intro _ _ _; kernel_rfl
theorem axJ : ∀ n, aW (α := α) Tryz.prog 40 (aQ S11.sh (bK S11 TK n)) := aJ Tryz.func40 (by kernel_rfl) (by kernel_rfl) (by kernel_rfl) aj (fun n => aEx aap n) rfl (allC apq allN) allN
def atr : Tpl := ⟨(.sl 0 :: (.fn 40 [] :: (anyN 5 (.int .i64 :: (.int .i64 :: (anyN 10 [])))))), [(0, .rows 0 35 .pt)], [], false⟩
def atm : PcS := nK [.int, .int, .rows .pt] [0]
abbrev ayJ (F0 : T15 α) (G2 : T27 α) : Nat → Ctx α := ctxS false M eqs jt0 [⟨40, S11, F0⟩] [lpT 2 atr atm R5 G2]
theorem aBc (F0 : T15 α) (G2 : T27 α) (n : Nat) : GenL (α := α) Tryz.prog Tryz.f82 S21 (ayJ F0 G2 n) 2 atr atm n G2 (fun k => qQ F0 (G2 k) k) := by intro _ _ _ _ _; kernel_rfl
theorem aFF (F0 : T15 α) (G2 : T27 α) (n : Nat) : GenF (α := α) Tryz.prog Tryz.f82 S21 (ayJ F0 G2 n) n (qy G2) := by intro _ _; kernel_rfl
theorem awo : ∀ n, aW (α := α) Tryz.prog 82 (aQ S21.sh (bK S21 nY n)) := aJ Tryz.func82 (by kernel_rfl) (by kernel_rfl) (by kernel_rfl) aj (fun n => aFF TK jJ n) rfl (allC axJ allN) (allC (iq (by kernel_rfl) (fun n => (jJ.eq_2 ..).symm) (fun n => aBc TK jJ n)) allN)
abbrev aEa (F0 : T28 α) : Nat → Ctx α := ctxS false M eqs jt0 [⟨82, S21, F0⟩] []
theorem aF9 (F0 : T28 α) (n : Nat) : GenF (α := α) Tryz.prog Tryz.f39 S22 (aEa F0 n) n (pY F0) := by intro _ _; kernel_rfl
theorem axa : ∀ n, aW (α := α) Tryz.prog 39 (aQ S22.sh (bK S22 mW n)) := aJ Tryz.func39 (by kernel_rfl) (by kernel_rfl) (by kernel_rfl) aj (fun n => aF9 nY n) rfl (allC awo allN) allN
abbrev aGw : Nat → Ctx α := ctxS false M eqs jt0 [] []
theorem aF7 (n : Nat) : GenF (α := α) Tryz.prog Tryz.f83 S23 (aGw n) n (Hz) := by intro _ _ _; kernel_rfl
theorem ahV : ∀ n, aW (α := α) Tryz.prog 83 (aQ S23.sh (bK S23 lY n)) := aJ Tryz.func83 (by kernel_rfl) (by kernel_rfl) (by kernel_rfl) aj (fun n => aF7 n) rfl allN allN
abbrev aEX : Nat → Ctx α := ctxS false M eqs jt0 [] []
theorem aGV (n : Nat) : GenF (α := α) Tryz.prog Tryz.f56 S6 (aEX n) n (LY) := by intro _ _ _ _ _ _; kernel_rfl
theorem anV : ∀ n, aW (α := α) Tryz.prog 56 (aQ S6.sh (bK S6 yX n)) := aJ Tryz.func56 (by kernel_rfl) (by kernel_rfl) (by kernel_rfl) aj (fun n => aGV n) rfl allN allN
abbrev aDO (F0 : T7 α) : Nat → Ctx α := ctxS false M eqs jt0 [⟨56, S6, F0⟩] []
theorem aGr (F0 : T7 α) (n : Nat) : GenF (α := α) Tryz.prog Tryz.f98 S24 (aDO F0 n) n (Qz F0) := by intro _ _ _ _ _; kernel_rfl
theorem af9 : ∀ n, aW (α := α) Tryz.prog 98 (aQ S24.sh (bK S24 oJ n)) := aJ Tryz.func98 (by kernel_rfl) (by kernel_rfl) (by kernel_rfl) aj (fun n => aGr yX n) rfl (allC anV allN) allN
abbrev aFi : Nat → Ctx α := ctxS false M eqs jt0 [] []
theorem aEW (n : Nat) : GenF (α := α) Tryz.prog Tryz.f96 S7 (aFi n) n (aaG) := by intro _ _ _ _ _; kernel_rfl
theorem af7 : ∀ n, aW (α := α) Tryz.prog 96 (aQ S7.sh (bK S7 FQ n)) := aJ Tryz.func96 (by kernel_rfl) (by kernel_rfl) (by kernel_rfl) aj (fun n => aEW n) rfl allN allN
abbrev aGN (F0 : T30 α) (F1 : T8 α) : Nat → Ctx α := ctxS false M eqs jt0 [⟨98, S24, F0⟩, ⟨96, S7, F1⟩] []
theorem aGE (F0 : T30 α) (F1 : T8 α) (n : Nat) : GenF (α := α) Tryz.prog Tryz.f84 S12 (aGN F0 F1 n) n (agO F0 F1) := by intro _ _ _ _ _ _ _; kernel_rfl
theorem akp : ∀ n, aW (α := α) Tryz.prog 84 (aQ S12.sh (bK S12 Gz n)) := aJ Tryz.func84 (by kernel_rfl) (by kernel_rfl) (by kernel_rfl) aj (fun n => aGE oJ FQ n) rfl (allC af9 (allC af7 allN)) allN
def atc : Tpl := ⟨(.sl 0 :: (.any :: (.any :: (.int .i64 :: (.ptr 256 0 0 :: (.ptr 320 0 0 :: (.any :: (.any :: (.sl 0 :: (.int .i64 :: (.int .i64 :: (anyN 7 (.sl 0 :: (.int .i64 :: (.int .i64 :: (anyN 25 [])))))))))))))))), [(0, .rows 0 35 .pt), (256, .ints 2 35 .i64 2), (320, .ints 2 35 .i64 2)], [], false⟩
def atN : PcS := nK [.int, .int, .int, .int, .int, .rows .pt, .int, .int, .int, .int] [2]
def at7 : Tpl := ⟨(.sl 0 :: (anyN 7 (.sl 0 :: (.int .i64 :: (.int .i64 :: (anyN 35 [])))))), [(0, .rows 0 35 .pt)], [], false⟩
def awj : PcS := nK [.int, .int, .rows .pt] [0]
abbrev ar8 (F0 : T29 α) (F1 : T16 α) (G6 : T31 α) (G2 : T32 α) : Nat → Ctx α := ctxS false M eqs jt0 [⟨83, S23, F0⟩, ⟨84, S12, F1⟩] [lpT 6 atc atN R0 G6, lpT 2 at7 awj R0 G2]
theorem aCf (F0 : T29 α) (F1 : T16 α) (G6 : T31 α) (G2 : T32 α) (n : Nat) : GenL (α := α) Tryz.prog Tryz.f42 S14 (ar8 F0 F1 G6 G2 n) 6 atc atN n G6 (fun k => MZ F1 (G6 k) k) := by intro _ _ _ _ _ _ _ _ _ _ _ _; kernel_rfl
theorem aAp (F0 : T29 α) (F1 : T16 α) (G6 : T31 α) (G2 : T32 α) (n : Nat) : GenL (α := α) Tryz.prog Tryz.f42 S14 (ar8 F0 F1 G6 G2 n) 2 at7 awj n G2 (fun k => MJ F0 G6 (G2 k) k) := by intro _ _ _ _ _; kernel_rfl
theorem aD4 (F0 : T29 α) (F1 : T16 α) (G6 : T31 α) (G2 : T32 α) (n : Nat) : GenF (α := α) Tryz.prog Tryz.f42 S14 (ar8 F0 F1 G6 G2 n) n (Zv G2) := by intro _ _; kernel_rfl
theorem axm : ∀ n, aW (α := α) Tryz.prog 42 (aQ S14.sh (bK S14 Uk n)) := aJ Tryz.func42 (by kernel_rfl) (by kernel_rfl) (by kernel_rfl) aj (fun n => aD4 lY Gz tK qK n) rfl (allC ahV (allC akp allN)) (allC (iq (by kernel_rfl) (fun n => (tK.eq_2 ..).symm) (fun n => aCf lY Gz tK qK n)) (allC (iq (by kernel_rfl) (fun n => (qK.eq_2 ..).symm) (fun n => aAp lY Gz tK qK n)) allN))
abbrev h9_x (F0 : T13 α) (F1 : T19 α) (F2 : T19 α) : Nat → Ctx α := ctxS false M eqs jt0 [⟨38, S9, F0⟩, ⟨39, S22, F1⟩, ⟨42, S14, F2⟩] []
theorem h9_g (F0 : T13 α) (F1 : T19 α) (F2 : T19 α) (n : Nat) : GenF (α := α) Tryz.prog Tryz.f9 S14 (h9_x F0 F1 F2 n) n (acH F0 F1 F2) := by intro _ _; kernel_rfl
theorem VW : ∀ n, aW (α := α) Tryz.prog 9 (aQ S14.sh (bK S14 ay n)) := aJ Tryz.func9 (by kernel_rfl) (by kernel_rfl) (by kernel_rfl) aj (fun n => h9_g Sj mW Uk n) rfl (allC agq (allC axa (allC axm allN))) allN
abbrev aCk : Nat → Ctx α := ctxS false M eqs jt0 [] []
theorem aBL (n : Nat) : GenF (α := α) Tryz.prog Tryz.f125 S10 (aCk n) n (YK) := by intro _ _; kernel_rfl
theorem avJ : ∀ n, aW (α := α) Tryz.prog 125 (aQ S10.sh (bK S10 WQ n)) := aJ Tryz.func125 (by kernel_rfl) (by kernel_rfl) (by kernel_rfl) aj (fun n => aBL n) rfl allN allN
abbrev aCg (F0 : T14 α) : Nat → Ctx α := ctxS false M eqs jt0 [⟨125, S10, F0⟩] []
theorem aCU (F0 : T14 α) (n : Nat) : GenF (α := α) Tryz.prog Tryz.f102 S25 (aCg F0 n) n (Uy F0) := by intro _ _ _; kernel_rfl
theorem anf : ∀ n, aW (α := α) Tryz.prog 102 (aQ S25.sh (bK S25 xq n)) := aJ Tryz.func102 (by kernel_rfl) (by kernel_rfl) (by kernel_rfl) aj (fun n => aCU WQ n) rfl (allC avJ allN) allN
def arE : Tpl := ⟨(.any :: (.any :: (.any :: (.int .i64 :: (.any :: (.any :: (.sl 0 :: (.int .i64 :: (.int .i64 :: (anyN 9 [])))))))))), [(0, .rows 0 3 (.int .i64))], [], false⟩
def aq6 : PcS := nK [.int, .int, .int, .rows (.int .i64)] [0]
abbrev atF (G3 : T33 α) : Nat → Ctx α := ctxS false M eqs jt0 [] [lpT 3 arE aq6 R5 G3]
theorem azA (G3 : T33 α) (n : Nat) : GenL (α := α) Tryz.prog Tryz.f119 S26 (atF G3 n) 3 arE aq6 n G3 (fun k => ZX (G3 k) k) := by intro _ _ _ _ _ _; kernel_rfl
theorem aB6 (G3 : T33 α) (n : Nat) : GenF (α := α) Tryz.prog Tryz.f119 S26 (atF G3 n) n (af8 G3) := by intro _ _; kernel_rfl
theorem au9 : ∀ n, aW (α := α) Tryz.prog 119 (aQ S26.sh (bK S26 adf n)) := aJ Tryz.func119 (by kernel_rfl) (by kernel_rfl) (by kernel_rfl) aj (fun n => aB6 Lj n) rfl allN (allC (iq (by kernel_rfl) (fun n => (Lj.eq_2 ..).symm) (fun n => azA Lj n)) allN)
abbrev aDL (F0 : T17 α) (F1 : T34 α) : Nat → Ctx α := ctxS false M eqs jt0 [⟨102, S25, F0⟩, ⟨119, S26, F1⟩] []
theorem aEb (F0 : T17 α) (F1 : T34 α) (n : Nat) : GenF (α := α) Tryz.prog Tryz.f79 S7 (aDL F0 F1 n) n (acl F0 F1) := by intro _ _ _ _ _; kernel_rfl
theorem akm : ∀ n, aW (α := α) Tryz.prog 79 (aQ S7.sh (bK S7 oZ n)) := aJ Tryz.func79 (by kernel_rfl) (by kernel_rfl) (by kernel_rfl) aj (fun n => aEb xq adf n) rfl (allC anf (allC au9 allN)) allN
def auV : Tpl := ⟨(.sl 0 :: (.fn 79 [] :: (.any :: (.any :: (.ptr 256 0 0 :: (.ptr 320 0 0 :: (.int .i64 :: (anyN 26 [])))))))), [(0, .rows 0 35 .pt), (256, .ints 2 35 .i64 2), (320, .ints 2 35 .i64 2)], [], false⟩
def avq : PcS := nK [.int, .rows .pt, .int, .int, .int, .int] [0]
abbrev ay1 (F0 : T8 α) (G5 : T35 α) : Nat → Ctx α := ctxS false M eqs jt0 [⟨79, S7, F0⟩] [lpT 5 auV avq R4 G5]
theorem aA3 (F0 : T8 α) (G5 : T35 α) (n : Nat) : GenL (α := α) Tryz.prog Tryz.f78 S27 (ay1 F0 G5 n) 5 auV avq n G5 (fun k => mZ F0 (G5 k) k) := by intro _ _ _ _ _ _ _ _; kernel_rfl
theorem aDQ (F0 : T8 α) (G5 : T35 α) (n : Nat) : GenF (α := α) Tryz.prog Tryz.f78 S27 (ay1 F0 G5 n) n (rV G5) := by intro _ _; kernel_rfl
theorem awQ : ∀ n, aW (α := α) Tryz.prog 78 (aQ S27.sh (bK S27 lQ n)) := aJ Tryz.func78 (by kernel_rfl) (by kernel_rfl) (by kernel_rfl) aj (fun n => aDQ oZ iZ n) rfl (allC akm allN) (allC (iq (by kernel_rfl) (fun n => (iZ.eq_2 ..).symm) (fun n => aA3 oZ iZ n)) allN)
def avY : Tpl := ⟨(.sl 0 :: (.any :: (.any :: (.ptr 192 0 0 :: (.any :: (.any :: (.any :: (.int .i64 :: (.int .i64 :: (anyN 10 [])))))))))), [(0, .rows 0 35 .pt), (192, .ints 2 35 .i64 2)], [], false⟩
def avN : PcS := nK [.int, .int, .rows .pt, .int, .int] [0]
abbrev ay4 (G2 : T37 α) : Nat → Ctx α := ctxS false M eqs jt0 [] [lpT 2 avY avN R5 G2]
theorem aA4 (G2 : T37 α) (n : Nat) : GenL (α := α) Tryz.prog Tryz.f77 S28 (ay4 G2 n) 2 avY avN n G2 (fun k => Bz (G2 k) k) := by intro _ _ _ _ _ _ _; kernel_rfl
theorem aFu (G2 : T37 α) (n : Nat) : GenF (α := α) Tryz.prog Tryz.f77 S28 (ay4 G2 n) n (Dz G2) := by intro _ _ _ _; kernel_rfl
theorem awu : ∀ n, aW (α := α) Tryz.prog 77 (aQ S28.sh (bK S28 uV n)) := aJ Tryz.func77 (by kernel_rfl) (by kernel_rfl) (by kernel_rfl) aj (fun n => aFu lw n) rfl allN (allC (iq (by kernel_rfl) (fun n => (lw.eq_2 ..).symm) (fun n => aA4 lw n)) allN)
abbrev aDq : Nat → Ctx α := ctxS false M eqs jt0 [] []
theorem aA8 (n : Nat) : GenF (α := α) Tryz.prog Tryz.f120 S29 (aDq n) n (Bj) := by intro _ _; kernel_rfl
theorem ata : ∀ n, aW (α := α) Tryz.prog 120 (aQ S29.sh (bK S29 wK n)) := aJ Tryz.func120 (by kernel_rfl) (by kernel_rfl) (by kernel_rfl) aj (fun n => aA8 n) rfl allN allN
abbrev aEU (F0 : T39 α) : Nat → Ctx α := ctxS false M eqs jt0 [⟨120, S29, F0⟩] []
theorem aDY (F0 : T39 α) (n : Nat) : GenF (α := α) Tryz.prog Tryz.f80 S30 (aEU F0 n) n (zV F0) := by intro _ _ _; kernel_rfl
theorem anK : ∀ n, aW (α := α) Tryz.prog 80 (aQ S30.sh (bK S30 iQ n)) := aJ Tryz.func80 (by kernel_rfl) (by kernel_rfl) (by kernel_rfl) aj (fun n => aDY wK n) rfl (allC ata allN) allN
abbrev aGW (F0 : T36 α) (F1 : T38 α) (F2 : T40 α) : Nat → Ctx α := ctxS false M eqs jt0 [⟨78, S27, F0⟩, ⟨77, S28, F1⟩, ⟨80, S30, F2⟩] []
theorem aDS (F0 : T36 α) (F1 : T38 α) (F2 : T40 α) (n : Nat) : GenF (α := α) Tryz.prog Tryz.f35 S8 (aGW F0 F1 F2 n) n (YV F0 F1 F2) := by intro _ _; kernel_rfl
theorem axp : ∀ n, aW (α := α) Tryz.prog 35 (aQ S8.sh (bK S8 KX n)) := aJ Tryz.func35 (by kernel_rfl) (by kernel_rfl) (by kernel_rfl) aj (fun n => aDS lQ uV iQ n) rfl (allC awQ (allC awu (allC anK allN))) allN
abbrev h6_x (F0 : T19 α) (F1 : T12 α) : Nat → Ctx α := ctxS false M eqs jt0 [⟨9, S14, F0⟩, ⟨35, S8, F1⟩] []
theorem h6_g (F0 : T19 α) (F1 : T12 α) (n : Nat) : GenF (α := α) Tryz.prog Tryz.f6 S15 (h6_x F0 F1 n) n (aaZ F0 F1) := by intro _ _; kernel_rfl
theorem azs : ∀ n, aW (α := α) Tryz.prog 6 (aQ S15.sh (bK S15 fK n)) := aJ Tryz.func6 (by kernel_rfl) (by kernel_rfl) (by kernel_rfl) aj (fun n => h6_g ay KX n) rfl (allC VW (allC axp allN)) allN
abbrev aDN (F0 : T19 α) : Nat → Ctx α := ctxS false M eqs jt0 [⟨43, S14, F0⟩] []
theorem aGh (F0 : T19 α) (n : Nat) : GenF (α := α) Tryz.prog Tryz.f36 S31 (aDN F0 n) n (Jj F0) := by intro _ _; kernel_rfl
theorem ah4 : ∀ n, aW (α := α) Tryz.prog 36 (aQ S31.sh (bK S31 tZ n)) := aJ Tryz.func36 (by kernel_rfl) (by kernel_rfl) (by kernel_rfl) aj (fun n => aGh uK n) rfl (allC abD allN) allN
def atG : Tpl := ⟨(.sl 0 :: (.any :: (.any :: (.int .i64 :: (.int .i64 :: (anyN 25 [])))))), [(0, .rows 0 35 .pt)], [], false⟩
def avk : PcS := nK [.int, .int, .rows .pt] [0]
abbrev ayP (F0 : T6 α) (G3 : T41 α) : Nat → Ctx α := ctxS false M eqs jt0 [⟨81, S5, F0⟩] [lpT 3 atG avk R6 G3]
theorem aAU (F0 : T6 α) (G3 : T41 α) (n : Nat) : GenL (α := α) Tryz.prog Tryz.f37 S8 (ayP F0 G3 n) 3 atG avk n G3 (fun k => Yw F0 (G3 k) k) := by intro _ _ _ _ _; kernel_rfl
theorem aD9 (F0 : T6 α) (G3 : T41 α) (n : Nat) : GenF (α := α) Tryz.prog Tryz.f37 S8 (ayP F0 G3 n) n (adn G3) := by intro _ _; kernel_rfl
theorem awE : ∀ n, aW (α := α) Tryz.prog 37 (aQ S8.sh (bK S8 aaQ n)) := aJ Tryz.func37 (by kernel_rfl) (by kernel_rfl) (by kernel_rfl) aj (fun n => aD9 uj Ew n) rfl (allC akr allN) (allC (iq (by kernel_rfl) (fun n => (Ew.eq_2 ..).symm) (fun n => aAU uj Ew n)) allN)
abbrev h7_x (F0 : T28 α) (F1 : T12 α) : Nat → Ctx α := ctxS false M eqs jt0 [⟨36, S31, F0⟩, ⟨37, S8, F1⟩] []
theorem h7_g (F0 : T28 α) (F1 : T12 α) (n : Nat) : GenF (α := α) Tryz.prog Tryz.f7 S15 (h7_x F0 F1 n) n (aa3 F0 F1) := by intro _ _; kernel_rfl
theorem azP : ∀ n, aW (α := α) Tryz.prog 7 (aQ S15.sh (bK S15 fV n)) := aJ Tryz.func7 (by kernel_rfl) (by kernel_rfl) (by kernel_rfl) aj (fun n => h7_g tZ aaQ n) rfl (allC ah4 (allC awE allN)) allN
abbrev h8_x : Nat → Ctx α := ctxS false M eqs jt0 [] []
theorem h8_g (n : Nat) : GenF (α := α) Tryz.prog Tryz.f8 S32 (h8_x n) n (ade) := by intro _; kernel_rfl
theorem azl : ∀ n, aW (α := α) Tryz.prog 8 (aQ S32.sh (bK S32 gJ n)) := aJ Tryz.func8 (by kernel_rfl) (by kernel_rfl) (by kernel_rfl) aj (fun n => h8_g n) rfl allN allN
abbrev aEI (F0 : T19 α) : Nat → Ctx α := ctxS false M eqs jt0 [⟨43, S14, F0⟩] []
theorem aEc (F0 : T19 α) (n : Nat) : GenF (α := α) Tryz.prog Tryz.f10 S14 (aEI F0 n) n (acG F0) := by intro _ _; kernel_rfl
theorem axj : ∀ n, aW (α := α) Tryz.prog 10 (aQ S14.sh (bK S14 gX n)) := aJ Tryz.func10 (by kernel_rfl) (by kernel_rfl) (by kernel_rfl) aj (fun n => aEc uK n) rfl (allC abD allN) allN
abbrev aCh (F0 : T13 α) : Nat → Ctx α := ctxS false M eqs jt0 [⟨38, S9, F0⟩] []
theorem aBB (F0 : T13 α) (n : Nat) : GenF (α := α) Tryz.prog Tryz.f101 S10 (aCh F0 n) n (aes F0) := by intro _ _; kernel_rfl
theorem auG : ∀ n, aW (α := α) Tryz.prog 101 (aQ S10.sh (bK S10 abp n)) := aJ Tryz.func101 (by kernel_rfl) (by kernel_rfl) (by kernel_rfl) aj (fun n => aBB Sj n) rfl (allC agq allN) allN
abbrev aFN (F0 : T14 α) : Nat → Ctx α := ctxS false M eqs jt0 [⟨101, S10, F0⟩] []
theorem aFj (F0 : T14 α) (n : Nat) : GenF (α := α) Tryz.prog Tryz.f51 S11 (aFN F0 n) n (aei F0) := by intro _ _ _; kernel_rfl
theorem akD : ∀ n, aW (α := α) Tryz.prog 51 (aQ S11.sh (bK S11 IQ n)) := aJ Tryz.func51 (by kernel_rfl) (by kernel_rfl) (by kernel_rfl) aj (fun n => aFj abp n) rfl (allC auG allN) allN
abbrev aFt (F0 : T15 α) : Nat → Ctx α := ctxS false M eqs jt0 [⟨51, S11, F0⟩] []
theorem aFg (F0 : T15 α) (n : Nat) : GenF (α := α) Tryz.prog Tryz.f88 S11 (aFt F0 n) n (adt F0) := by intro _ _ _; kernel_rfl
theorem aw7 : ∀ n, aW (α := α) Tryz.prog 88 (aQ S11.sh (bK S11 aaN n)) := aJ Tryz.func88 (by kernel_rfl) (by kernel_rfl) (by kernel_rfl) aj (fun n => aFg IQ n) rfl (allC akD allN) allN
def arG : Tpl := ⟨(.sl 0 :: (.fn 88 [] :: (anyN 5 (.int .i64 :: (.int .i64 :: (anyN 10 [])))))), [(0, .rows 0 35 .pt)], [], false⟩
def aqP : PcS := nK [.int, .int, .rows .pt] [0]
abbrev asK (F0 : T15 α) (G2 : T27 α) : Nat → Ctx α := ctxS false M eqs jt0 [⟨88, S11, F0⟩] [lpT 2 arG aqP R5 G2]
theorem aAk (F0 : T15 α) (G2 : T27 α) (n : Nat) : GenL (α := α) Tryz.prog Tryz.f82 S33 (asK F0 G2 n) 2 arG aqP n G2 (fun k => rY F0 (G2 k) k) := by intro _ _ _ _ _; kernel_rfl
theorem aBr (F0 : T15 α) (G2 : T27 α) (n : Nat) : GenF (α := α) Tryz.prog Tryz.f82 S33 (asK F0 G2 n) n (rq G2) := by intro _ _; kernel_rfl
theorem asT : ∀ n, aW (α := α) Tryz.prog 82 (aQ S33.sh (bK S33 oQ n)) := aJ Tryz.func82 (by kernel_rfl) (by kernel_rfl) (by kernel_rfl) aj (fun n => aBr aaN jZ n) rfl (allC aw7 allN) (allC (iq (by kernel_rfl) (fun n => (jZ.eq_2 ..).symm) (fun n => aAk aaN jZ n)) allN)
abbrev aBe (F0 : T28 α) : Nat → Ctx α := ctxS false M eqs jt0 [⟨82, S33, F0⟩] []
theorem aBJ (F0 : T28 α) (n : Nat) : GenF (α := α) Tryz.prog Tryz.f39 S34 (aBe F0 n) n (qj F0) := by intro _ _; kernel_rfl
theorem auF : ∀ n, aW (α := α) Tryz.prog 39 (aQ S34.sh (bK S34 nV n)) := aJ Tryz.func39 (by kernel_rfl) (by kernel_rfl) (by kernel_rfl) aj (fun n => aBJ oQ n) rfl (allC asT allN) allN
abbrev aGR (F0 : T19 α) : Nat → Ctx α := ctxS false M eqs jt0 [⟨39, S34, F0⟩] []
theorem aEO (F0 : T19 α) (n : Nat) : GenF (α := α) Tryz.prog Tryz.f44 S14 (aGR F0 n) n (ae4 F0) := by intro _ _; kernel_rfl
theorem ahL : ∀ n, aW (α := α) Tryz.prog 44 (aQ S14.sh (bK S14 xw n)) := aJ Tryz.func44 (by kernel_rfl) (by kernel_rfl) (by kernel_rfl) aj (fun n => aEO nV n) rfl (allC auF allN) allN
abbrev aFS : Nat → Ctx α := ctxS true M eqs jt0 [] []
theorem aGL (n : Nat) : GenF (α := α) Tryz.prog Tryz.f89 S35 (aFS n) n (yV) := by intro _ _; kernel_rfl
theorem axW : ∀ n, aW (α := α) Tryz.prog 89 (aQ S35.sh (bK S35 vV n)) := aJ Tryz.func89 (by kernel_rfl) (by kernel_rfl) (by kernel_rfl) aj (fun n => aGL n) rfl allN allN
def apH : Go.Shelf.Ren := ⟨fun | 6 => 90 | 15 => 122 | 14 => 121 | 28 => 145 | 29 => 146 | 20 => 137 | 21 => 138 | 22 => 139 | 23 => 140 | 24 => 141 | 25 => 142 | 26 => 143 | 27 => 144 | 46 => 150 | 47 => 151 | 48 => 152 | 49 => 153 | 50 => 154 | 57 => 155 | n => n, fun | 22 => 24 | 24 => 35 | 25 => 83 | 3 => 3 | 39 => 102 | 0 => 0 | 53 => 126 | 55 => 78 | 4 => 4 | 46 => 119 | 45 => 118 | 50 => 123 | 5 => 5 | 9 => 9 | 66 => 128 | 70 => 132 | 76 => 134 | 77 => 135 | n => n, fun | n => n⟩
theorem aqE : Go.Proofs.SlLaysF0.n6 Tryz.prog apH := {
 mixed := by kernel_rfl,
 f6 := ⟨Tryz.f90.name, by decide, Tryz.func90.trans (congrArg some (by kernel_rfl))⟩,
 f14 := ⟨Tryz.f121.name, by decide, Tryz.func121.trans (congrArg some (by kernel_rfl))⟩,
 f15 := Tryz.func122.trans (congrArg some (by kernel_rfl)),
 f20 := ⟨Tryz.f137.name, by decide, Tryz.func137.trans (congrArg some (by kernel_rfl))⟩,
 f21 := ⟨Tryz.f138.name, by decide, Tryz.func138.trans (congrArg some (by kernel_rfl))⟩,
 f22 := ⟨Tryz.f139.name, by decide, Tryz.func139.trans (congrArg some (by kernel_rfl))⟩,
 f23 := ⟨Tryz.f140.name, by decide, Tryz.func140.trans (congrArg some (by kernel_rfl))⟩,
 f24 := ⟨Tryz.f141.name, by decide, Tryz.func141.trans (congrArg some (by kernel_rfl))⟩,
 f25 := ⟨Tryz.f142.name, by decide, Tryz.func142.trans (congrArg some (by kernel_rfl))⟩,
 f26 := ⟨Tryz.f143.name, by decide, Tryz.func143.trans (congrArg some (by kernel_rfl))⟩,
 f27 := ⟨Tryz.f144.name, by decide, Tryz.func144.trans (congrArg some (by kernel_rfl))⟩,
 f28 := Tryz.func145.trans (congrArg some (by kernel_rfl)),
 f29 := Tryz.func146.trans (congrArg some (by kernel_rfl)),
 f46 := ⟨Tryz.f150.name, by decide, Tryz.func150.trans (congrArg some (by kernel_rfl))⟩,
 f47 := Tryz.func151.trans (congrArg some (by kernel_rfl)),
 f48 := Tryz.func152.trans (congrArg some (by kernel_rfl)),
 f49 := ⟨Tryz.f153.name, by decide, Tryz.func153.trans (congrArg some (by kernel_rfl))⟩,
 f50 := ⟨Tryz.f154.name, by decide, Tryz.func154.trans (congrArg some (by kernel_rfl))⟩,
 f57 := ⟨Tryz.f155.name, by decide, Tryz.func155.trans (congrArg some (by kernel_rfl))⟩,
 t0 := Tryz.underlying0,
 a0 := Tryz.isAgg0,
 z0 := Tryz.sizeOf0,
 v0 := Tryz.zeroValue0,
 t3 := Tryz.underlying3,
 a3 := Tryz.isAgg3,
 z3 := Tryz.sizeOf3,
 v3 := Tryz.zeroValue3,
 t4 := Tryz.underlying4,
 a4 := Tryz.isAgg4,
 z4 := Tryz.sizeOf4,
 v4 := Tryz.zeroValue4,
 t5 := Tryz.underlying5,
 a5 := Tryz.isAgg5,
 z5 := Tryz.sizeOf5,
 v5 := Tryz.zeroValue5,
 t9 := Tryz.underlying9,
 a9 := Tryz.isAgg9,
 z9 := Tryz.sizeOf9,
 v9 := Tryz.zeroValue9,
 t22 := Tryz.underlying24,
 a22 := Tryz.isAgg24,
 z22 := Tryz.sizeOf24,
 v22 := Tryz.zeroValue24,
 t25 := Tryz.underlying83,
 a25 := Tryz.isAgg83,
 z25 := Tryz.sizeOf83,
 v25 := Tryz.zeroValue83,
 t39 := Tryz.underlying102,
 a39 := Tryz.isAgg102,
 z39 := Tryz.sizeOf102,
 v39 := Tryz.zeroValue102,
 t45 := Tryz.underlying118,
 a45 := Tryz.isAgg118,
 z45 := Tryz.sizeOf118,
 v45 := Tryz.zeroValue118,
 t46 := Tryz.underlying119,
 a46 := Tryz.isAgg119,
 z46 := Tryz.sizeOf119,
 v46 := Tryz.zeroValue119,
 t50 := Tryz.underlying123,
 a50 := Tryz.isAgg123,
 z50 := Tryz.sizeOf123,
 v50 := Tryz.zeroValue123,
 t53 := Tryz.underlying126,
 a53 := Tryz.isAgg126,
 z53 := Tryz.sizeOf126,
 v53 := Tryz.zeroValue126,
 t55 := Tryz.underlying78,
 a55 := Tryz.isAgg78,
 z55 := Tryz.sizeOf78,
 v55 := Tryz.zeroValue78,
 t66 := Tryz.underlying128,
 a66 := Tryz.isAgg128,
 z66 := Tryz.sizeOf128,
 v66 := Tryz.zeroValue128,
 t70 := Tryz.underlying132,
 a70 := Tryz.isAgg132,
 z70 := Tryz.sizeOf132,
 v70 := Tryz.zeroValue132,
 t76 := Tryz.underlying134,
 a76 := Tryz.isAgg134,
 z76 := Tryz.sizeOf134,
 v76 := Tryz.zeroValue134,
 t77 := Tryz.underlying135,
 a77 := Tryz.isAgg135,
 z77 := Tryz.sizeOf135,
 v77 := Tryz.zeroValue135 }
theorem awS : ∀ n, aW (α := α) Tryz.prog 90 (aQ S36.sh (bK S36 mX n)) := anp aqE (fun _ _ => rfl)
abbrev aEZ : Nat → Ctx α := ctxS false M eqs jt0 [] []
theorem aE0 (n : Nat) : GenF (α := α) Tryz.prog Tryz.f91 S37 (aEZ n) n (Jy) := by intro _; kernel_rfl
theorem aym : ∀ n, aW (α := α) Tryz.prog 91 (aQ S37.sh (bK S37 wV n)) := aJ Tryz.func91 (by kernel_rfl) (by kernel_rfl) (by kernel_rfl) aj (fun n => aE0 n) rfl allN allN
abbrev aE3 : Nat → Ctx α := ctxS false M eqs jt0 [] []
theorem aEo (n : Nat) : GenF (α := α) Tryz.prog Tryz.f92 S38 (aE3 n) n (adr) := by intro _; kernel_rfl
theorem axn : ∀ n, aW (α := α) Tryz.prog 92 (aQ S38.sh (bK S38 IK n)) := aJ Tryz.func92 (by kernel_rfl) (by kernel_rfl) (by kernel_rfl) aj (fun n => aEo n) rfl allN allN
abbrev aFG : Nat → Ctx α := ctxS false M eqs jt0 [] []
theorem aEp (n : Nat) : GenF (α := α) Tryz.prog Tryz.f93 S39 (aFG n) n (Aj) := by intro _; kernel_rfl
theorem ayn : ∀ n, aW (α := α) Tryz.prog 93 (aQ S39.sh (bK S39 lq n)) := aJ Tryz.func93 (by kernel_rfl) (by kernel_rfl) (by kernel_rfl) aj (fun n => aEp n) rfl allN allN
abbrev aDF : Nat → Ctx α := ctxS false M eqs jt0 [] []
theorem aBW (n : Nat) : GenF (α := α) Tryz.prog Tryz.f123 S29 (aDF n) n (wz) := by intro _ _; kernel_rfl
theorem aug : ∀ n, aW (α := α) Tryz.prog 123 (aQ S29.sh (bK S29 uZ n)) := aJ Tryz.func123 (by kernel_rfl) (by kernel_rfl) (by kernel_rfl) aj (fun n => aBW n) rfl allN allN
abbrev aF3 (F0 : T39 α) : Nat → Ctx α := ctxS false M eqs jt0 [⟨123, S29, F0⟩] []
theorem aGH (F0 : T39 α) (n : Nat) : GenF (α := α) Tryz.prog Tryz.f94 S40 (aF3 F0 n) n (vZ F0) := by intro _ _ _; kernel_rfl
theorem axP : ∀ n, aW (α := α) Tryz.prog 94 (aQ S40.sh (bK S40 kJ n)) := aJ Tryz.func94 (by kernel_rfl) (by kernel_rfl) (by kernel_rfl) aj (fun n => aGH uZ n) rfl (allC aug allN) allN
theorem atd : ∀ n, aW (α := α) Tryz.prog 90 (aQ S41.sh (bK S41 iK n)) := avu (t := .pt) aqE rfl Tryz.isAgg35 Tryz.sizeOf35 (akm (α := Int)) (by intro _ _ _; kernel_rfl) (fun _ _ _ => rfl)
def aqy : Tpl := ⟨(.sl 0 :: (.any :: (.any :: (.int .i64 :: (.sub 0 :: (.int .i64 :: (anyN 55 []))))))), [(0, .rows 1 35 .pt)], [], false⟩
def aqk : PcS := nK [.int, .nat, .nat, .int, .rows .pt] [2]
def aqK : Tpl := ⟨(.sl 0 :: (.any :: (.any :: (.int .i64 :: (anyN 57 []))))), [(0, .rows 1 35 .pt)], [], false⟩
def aqY : PcS := nK [.int, .rows .pt] [0]
abbrev aph (G9 : T46 α) (G4 : T47 α) : Nat → Ctx α := ctxS false M eqs jt0 [] [lpT 9 aqy aqk R15 G9, lpT 4 aqK aqY R15 G4]
theorem azr (G9 : T46 α) (G4 : T47 α) (n : Nat) : GenL (α := α) Tryz.prog Tryz.f91 S42 (aph G9 G4 n) 9 aqy aqk n G9 (fun k => qw (G9 k) k) := by intro _ _ _ _ _ _ _ _; kernel_rfl
theorem az8 (G9 : T46 α) (G4 : T47 α) (n : Nat) : GenL (α := α) Tryz.prog Tryz.f91 S42 (aph G9 G4 n) 4 aqK aqY n G4 (fun k => vz G9 (G4 k) k) := by intro _ _ _ _ _; kernel_rfl
theorem aCK (G9 : T46 α) (G4 : T47 α) (n : Nat) : GenF (α := α) Tryz.prog Tryz.f91 S42 (aph G9 G4 n) n (DK G4) := by intro _ _; kernel_rfl
theorem asI : ∀ n, aW (α := α) Tryz.prog 91 (aQ S42.sh (bK S42 lW n)) := aJ Tryz.func91 (by kernel_rfl) (by kernel_rfl) (by kernel_rfl) aj (fun n => aCK jY kW n) rfl allN (allC (iq (by kernel_rfl) (fun n => (jY.eq_2 ..).symm) (fun n => azr jY kW n)) (allC (iq (by kernel_rfl) (fun n => (kW.eq_2 ..).symm) (fun n => az8 jY kW n)) allN))
def ark : Tpl := ⟨(.any :: (.any :: (.any :: (.sl 384 :: (.any :: (.ptr 320 0 0 :: (.any :: (.sl 0 :: (.int .i64 :: (.int .i64 :: (anyN 39 []))))))))))), [(384, .rows 2 35 .pt), (320, .ints 2 35 .i64 2), (0, .rows 0 35 .pt)], [(3, 384, 35, .pt)], false⟩
def aq1 : PcS := nK [.int, .int, .rows .pt, .int, .int, .rows .pt] [2]
def aqv : Tpl := ⟨(.any :: (.any :: (.any :: (.sl 384 :: (.any :: (.any :: (.any :: (.sl 0 :: (.int .i64 :: (.int .i64 :: (anyN 39 []))))))))))), [(384, .rows 2 35 .pt), (0, .rows 0 35 .pt)], [], false⟩
def aqC : PcS := nK [.int, .int, .rows .pt, .rows .pt] [0]
abbrev apk (F0 : T16 α) (G5 : T48 α) (G3 : T49 α) : Nat → Ctx α := ctxS false M eqs jt0 [⟨84, S12, F0⟩] [lpT 5 ark aq1 R6 G5, lpT 3 aqv aqC R6 G3]
theorem az6 (F0 : T16 α) (G5 : T48 α) (G3 : T49 α) (n : Nat) : GenL (α := α) Tryz.prog Tryz.f92 S8 (apk F0 G5 G3 n) 5 ark aq1 n G5 (fun k => aah F0 (G5 k) k) := by intro _ _ _ _ _ _ _ _; kernel_rfl
theorem azY (F0 : T16 α) (G5 : T48 α) (G3 : T49 α) (n : Nat) : GenL (α := α) Tryz.prog Tryz.f92 S8 (apk F0 G5 G3 n) 3 aqv aqC n G3 (fun k => ace G5 (G3 k) k) := by intro _ _ _ _ _ _; kernel_rfl
theorem aCP (F0 : T16 α) (G5 : T48 α) (G3 : T49 α) (n : Nat) : GenF (α := α) Tryz.prog Tryz.f92 S8 (apk F0 G5 G3 n) n (afH G3) := by intro _ _; kernel_rfl
theorem atM : ∀ n, aW (α := α) Tryz.prog 92 (aQ S8.sh (bK S8 aas n)) := aJ Tryz.func92 (by kernel_rfl) (by kernel_rfl) (by kernel_rfl) aj (fun n => aCP Gz FY IY n) rfl (allC akp allN) (allC (iq (by kernel_rfl) (fun n => (FY.eq_2 ..).symm) (fun n => az6 Gz FY IY n)) (allC (iq (by kernel_rfl) (fun n => (IY.eq_2 ..).symm) (fun n => azY Gz FY IY n)) allN))
def arK : Tpl := ⟨(.sl 0 :: (.any :: (.int .i64 :: (.int .i64 :: (anyN 24 []))))), [(0, .rows 1 35 .pt)], [], false⟩
def arD : PcS := nK [.int, .int, .rows .pt] [0]
abbrev aum (G1 : T41 α) : Nat → Ctx α := ctxS false M eqs jt0 [] [lpT 1 arK arD R14 G1]
theorem azS (G1 : T41 α) (n : Nat) : GenL (α := α) Tryz.prog Tryz.f93 S43 (aum G1 n) 1 arK arD n G1 (fun k => rZ (G1 k) k) := by intro _ _ _ _ _ _; kernel_rfl
theorem aBn (G1 : T41 α) (n : Nat) : GenF (α := α) Tryz.prog Tryz.f93 S43 (aum G1 n) n (Dq G1) := by intro _ _; kernel_rfl
theorem av1 : ∀ n, aW (α := α) Tryz.prog 93 (aQ S43.sh (bK S43 pq n)) := aJ Tryz.func93 (by kernel_rfl) (by kernel_rfl) (by kernel_rfl) aj (fun n => aBn kV n) rfl allN (allC (iq (by kernel_rfl) (fun n => (kV.eq_2 ..).symm) (fun n => azS kV n)) allN)
abbrev aFe (F0 : T43 α) (F1 : T44 α) (F2 : T44 α) (F3 : T45 α) (F4 : T44 α) (F5 : T40 α) (F6 : T19 α) (F7 : T12 α) (F8 : T12 α) (F9 : T12 α) (F10 : T12 α) : Nat → Ctx α := ctxS false M eqs jt0 [⟨89, S35, F0⟩, ⟨90, S36, F1⟩, ⟨91, S37, F2⟩, ⟨92, S38, F3⟩, ⟨93, S39, F4⟩, ⟨94, S40, F5⟩, ⟨9, S14, F6⟩, ⟨90, S41, F7⟩, ⟨91, S42, F8⟩, ⟨92, S8, F9⟩, ⟨93, S43, F10⟩] []
theorem aD1 (F0 : T43 α) (F1 : T44 α) (F2 : T44 α) (F3 : T45 α) (F4 : T44 α) (F5 : T40 α) (F6 : T19 α) (F7 : T12 α) (F8 : T12 α) (F9 : T12 α) (F10 : T12 α) (n : Nat) : GenF (α := α) Tryz.prog Tryz.f45 S15 (aFe F0 F1 F2 F3 F4 F5 F6 F7 F8 F9 F10 n) n (aeD F0 F1 F2 F3 F4 F5 F6 F7 F8 F9 F10) := by intro _ _; kernel_rfl
theorem aoV : ∀ n, aW (α := α) Tryz.prog 45 (aQ S15.sh (bK S15 EY n)) := aJ Tryz.func45 (by kernel_rfl) (by kernel_rfl) (by kernel_rfl) aj (fun n => aD1 vV mX wV IK lq kJ ay iK lW aas pq n) rfl (allC axW (allC awS (allC aym (allC axn (allC ayn (allC axP (allC VW (allC atd (allC asI (allC atM (allC av1 allN))))))))))) allN
abbrev aDZ (F0 : T19 α) (F1 : T20 α) : Nat → Ctx α := ctxS false M eqs jt0 [⟨44, S14, F0⟩, ⟨45, S15, F1⟩] []
theorem aE1 (F0 : T19 α) (F1 : T20 α) (n : Nat) : GenF (α := α) Tryz.prog Tryz.f11 S15 (aDZ F0 F1 n) n (acE F0 F1) := by intro _ _; kernel_rfl
theorem axq : ∀ n, aW (α := α) Tryz.prog 11 (aQ S15.sh (bK S15 iJ n)) := aJ Tryz.func11 (by kernel_rfl) (by kernel_rfl) (by kernel_rfl) aj (fun n => aE1 xw EY n) rfl (allC ahL (allC aoV allN)) allN
def au2 : Tpl := ⟨(.sl 0 :: (.fn 96 [] :: (.any :: (.any :: (.any :: (.int .i64 :: (.any :: (.any :: (.sl 0 :: (.int .i64 :: (.int .i64 :: (anyN 14 [])))))))))))), [(0, .rows 0 35 .pt)], [], false⟩
def auH : PcS := nK [.int, .int, .int, .rows .pt] [0]
abbrev ayT (F0 : T29 α) (F1 : T8 α) (G3 : T50 α) : Nat → Ctx α := ctxS false M eqs jt0 [⟨83, S23, F0⟩, ⟨96, S7, F1⟩] [lpT 3 au2 auH R5 G3]
theorem aCo (F0 : T29 α) (F1 : T8 α) (G3 : T50 α) (n : Nat) : GenL (α := α) Tryz.prog Tryz.f95 S44 (ayT F0 F1 G3 n) 3 au2 auH n G3 (fun k => CQ F0 F1 (G3 k) k) := by intro _ _ _ _ _ _; kernel_rfl
theorem aFR (F0 : T29 α) (F1 : T8 α) (G3 : T50 α) (n : Nat) : GenF (α := α) Tryz.prog Tryz.f95 S44 (ayT F0 F1 G3 n) n (Wq G3) := by intro _ _; kernel_rfl
theorem awZ : ∀ n, aW (α := α) Tryz.prog 95 (aQ S44.sh (bK S44 OQ n)) := aJ Tryz.func95 (by kernel_rfl) (by kernel_rfl) (by kernel_rfl) aj (fun n => aFR lY FQ ny n) rfl (allC ahV (allC af7 allN)) (allC (iq (by kernel_rfl) (fun n => (ny.eq_2 ..).symm) (fun n => aCo lY FQ ny n)) allN)
abbrev aDH (F0 : T28 α) : Nat → Ctx α := ctxS false M eqs jt0 [⟨95, S44, F0⟩] []
theorem aEG (F0 : T28 α) (n : Nat) : GenF (α := α) Tryz.prog Tryz.f47 S45 (aDH F0 n) n (adN F0) := by intro _ _; kernel_rfl
theorem akg : ∀ n, aW (α := α) Tryz.prog 47 (aQ S45.sh (bK S45 DX n)) := aJ Tryz.func47 (by kernel_rfl) (by kernel_rfl) (by kernel_rfl) aj (fun n => aEG OQ n) rfl (allC awZ allN) allN
abbrev aFO (F0 : T19 α) (F1 : T28 α) : Nat → Ctx α := ctxS false M eqs jt0 [⟨9, S14, F0⟩, ⟨47, S45, F1⟩] []
theorem aGd (F0 : T19 α) (F1 : T28 α) (n : Nat) : GenF (α := α) Tryz.prog Tryz.f46 S46 (aFO F0 F1 n) n (EJ F0 F1) := by intro _ _; kernel_rfl
theorem axS : ∀ n, aW (α := α) Tryz.prog 46 (aQ S46.sh (bK S46 yx n)) := aJ Tryz.func46 (by kernel_rfl) (by kernel_rfl) (by kernel_rfl) aj (fun n => aGd ay DX n) rfl (allC VW (allC akg allN)) allN
abbrev aGT (F0 : T36 α) : Nat → Ctx α := ctxS false M eqs jt0 [⟨46, S46, F0⟩] []
theorem aES (F0 : T36 α) (n : Nat) : GenF (α := α) Tryz.prog Tryz.f12 S47 (aGT F0 n) n (aaC F0) := by intro _ _; kernel_rfl
theorem axb : ∀ n, aW (α := α) Tryz.prog 12 (aQ S47.sh (bK S47 fQ n)) := aJ Tryz.func12 (by kernel_rfl) (by kernel_rfl) (by kernel_rfl) aj (fun n => aES yx n) rfl (allC axS allN) allN
abbrev aCW : Nat → Ctx α := ctxS false M eqs jt0 [] []
theorem aA9 (n : Nat) : GenF (α := α) Tryz.prog Tryz.f100 S48 (aCW n) n (aeF) := by intro _ _; kernel_rfl
theorem aeY : ∀ n, aW (α := α) Tryz.prog 100 (aQ S48.sh (bK S48 Aw n)) := aJ Tryz.func100 (by kernel_rfl) (by kernel_rfl) (by kernel_rfl) aj (fun n => aA9 n) rfl allN allN
def ard : Tpl := ⟨(.int .i64 :: (.int .i64 :: (anyN 11 []))), [], [], false⟩
def aq8 : PcS := nK [.int, .int] [0]
abbrev auz (F0 : T51 α) (G1 : T52 α) : Nat → Ctx α := ctxS false M eqs jt0 [⟨100, S48, F0⟩] [lpT 1 ard aq8 R5 G1]
theorem aAa (F0 : T51 α) (G1 : T52 α) (n : Nat) : GenL (α := α) Tryz.prog Tryz.f124 S25 (auz F0 G1 n) 1 ard aq8 n G1 (fun k => adq (G1 k) k) := by intro _ _ _ _; kernel_rfl
theorem aC9 (F0 : T51 α) (G1 : T52 α) (n : Nat) : GenF (α := α) Tryz.prog Tryz.f124 S25 (auz F0 G1 n) n (ahX F0 G1) := by intro _ _ _; kernel_rfl
theorem asX : ∀ n, aW (α := α) Tryz.prog 124 (aQ S25.sh (bK S25 af1 n)) := aJ Tryz.func124 (by kernel_rfl) (by kernel_rfl) (by kernel_rfl) aj (fun n => aC9 Aw Ry n) rfl (allC aeY allN) (allC (iq (by kernel_rfl) (fun n => (Ry.eq_2 ..).symm) (fun n => aAa Aw Ry n)) allN)
abbrev aFJ (F0 : T17 α) : Nat → Ctx α := ctxS false M eqs jt0 [⟨124, S25, F0⟩] []
theorem aDW (F0 : T17 α) (n : Nat) : GenF (α := α) Tryz.prog Tryz.f99 S13 (aFJ F0 n) n (Uz F0) := by intro _ _ _; kernel_rfl
theorem an9 : ∀ n, aW (α := α) Tryz.prog 99 (aQ S13.sh (bK S13 GX n)) := aJ Tryz.func99 (by kernel_rfl) (by kernel_rfl) (by kernel_rfl) aj (fun n => aDW af1 n) rfl (allC asX allN) allN
abbrev aGn (F0 : T30 α) (F1 : T17 α) : Nat → Ctx α := ctxS false M eqs jt0 [⟨98, S24, F0⟩, ⟨99, S13, F1⟩] []
theorem aD0 (F0 : T30 α) (F1 : T17 α) (n : Nat) : GenF (α := α) Tryz.prog Tryz.f97 S7 (aGn F0 F1 n) n (VQ F0 F1) := by intro _ _ _ _ _; kernel_rfl
theorem aw3 : ∀ n, aW (α := α) Tryz.prog 97 (aQ S7.sh (bK S7 JX n)) := aJ Tryz.func97 (by kernel_rfl) (by kernel_rfl) (by kernel_rfl) aj (fun n => aD0 oJ GX n) rfl (allC af9 (allC an9 allN)) allN
def aqx : Tpl := ⟨(.sl 0 :: (.fn 97 [] :: (.any :: (.any :: (.any :: (.int .i64 :: (.any :: (.any :: (.sl 0 :: (.int .i64 :: (.int .i64 :: (anyN 14 [])))))))))))), [(0, .rows 0 35 .pt)], [], false⟩
def arA : PcS := nK [.int, .int, .int, .rows .pt] [0]
abbrev avb (F0 : T29 α) (F1 : T8 α) (G3 : T50 α) : Nat → Ctx α := ctxS false M eqs jt0 [⟨83, S23, F0⟩, ⟨97, S7, F1⟩] [lpT 3 aqx arA R5 G3]
theorem azK (F0 : T29 α) (F1 : T8 α) (G3 : T50 α) (n : Nat) : GenL (α := α) Tryz.prog Tryz.f95 S49 (avb F0 F1 G3 n) 3 aqx arA n G3 (fun k => tJ F0 F1 (G3 k) k) := by intro _ _ _ _ _ _; kernel_rfl
theorem aAH (F0 : T29 α) (F1 : T8 α) (G3 : T50 α) (n : Nat) : GenF (α := α) Tryz.prog Tryz.f95 S49 (avb F0 F1 G3 n) n (Ij G3) := by intro _ _; kernel_rfl
theorem auN : ∀ n, aW (α := α) Tryz.prog 95 (aQ S49.sh (bK S49 AX n)) := aJ Tryz.func95 (by kernel_rfl) (by kernel_rfl) (by kernel_rfl) aj (fun n => aAH lY JX jv n) rfl (allC ahV (allC aw3 allN)) (allC (iq (by kernel_rfl) (fun n => (jv.eq_2 ..).symm) (fun n => azK lY JX jv n)) allN)
abbrev aED (F0 : T28 α) : Nat → Ctx α := ctxS false M eqs jt0 [⟨95, S49, F0⟩] []
theorem aGc (F0 : T28 α) (n : Nat) : GenF (α := α) Tryz.prog Tryz.f48 S45 (aED F0 n) n (ac3 F0) := by intro _ _; kernel_rfl
theorem akh : ∀ n, aW (α := α) Tryz.prog 48 (aQ S45.sh (bK S45 zX n)) := aJ Tryz.func48 (by kernel_rfl) (by kernel_rfl) (by kernel_rfl) aj (fun n => aGc AX n) rfl (allC auN allN) allN
abbrev aCt (F0 : T19 α) (F1 : T28 α) : Nat → Ctx α := ctxS false M eqs jt0 [⟨9, S14, F0⟩, ⟨48, S45, F1⟩] []
theorem aAN (F0 : T19 α) (F1 : T28 α) (n : Nat) : GenF (α := α) Tryz.prog Tryz.f46 S50 (aCt F0 F1 n) n (CX F0 F1) := by intro _ _; kernel_rfl
theorem aud : ∀ n, aW (α := α) Tryz.prog 46 (aQ S50.sh (bK S50 xy n)) := aJ Tryz.func46 (by kernel_rfl) (by kernel_rfl) (by kernel_rfl) aj (fun n => aAN ay zX n) rfl (allC VW (allC akh allN)) allN
abbrev aFl (F0 : T36 α) : Nat → Ctx α := ctxS false M eqs jt0 [⟨46, S50, F0⟩] []
theorem aEY (F0 : T36 α) (n : Nat) : GenF (α := α) Tryz.prog Tryz.f13 S47 (aFl F0 n) n (aaY F0) := by intro _ _; kernel_rfl
theorem axe : ∀ n, aW (α := α) Tryz.prog 13 (aQ S47.sh (bK S47 gQ n)) := aJ Tryz.func13 (by kernel_rfl) (by kernel_rfl) (by kernel_rfl) aj (fun n => aEY xy n) rfl (allC aud allN) allN
abbrev aE9 (F0 : T28 α) (F1 : T28 α) : Nat → Ctx α := ctxS false M eqs jt0 [⟨47, S45, F0⟩, ⟨48, S45, F1⟩] []
theorem aF0 (F0 : T28 α) (F1 : T28 α) (n : Nat) : GenF (α := α) Tryz.prog Tryz.f49 S45 (aE9 F0 F1 n) n (RZ F0 F1) := by intro _ _; kernel_rfl
theorem axU : ∀ n, aW (α := α) Tryz.prog 49 (aQ S45.sh (bK S45 Ov n)) := aJ Tryz.func49 (by kernel_rfl) (by kernel_rfl) (by kernel_rfl) aj (fun n => aF0 DX zX n) rfl (allC akg (allC akh allN)) allN
abbrev aCV (F0 : T19 α) (F1 : T28 α) : Nat → Ctx α := ctxS false M eqs jt0 [⟨9, S14, F0⟩, ⟨49, S45, F1⟩] []
theorem aBk (F0 : T19 α) (F1 : T28 α) (n : Nat) : GenF (α := α) Tryz.prog Tryz.f46 S51 (aCV F0 F1 n) n (xJ F0 F1) := by intro _ _; kernel_rfl
theorem avW : ∀ n, aW (α := α) Tryz.prog 46 (aQ S51.sh (bK S51 uY n)) := aJ Tryz.func46 (by kernel_rfl) (by kernel_rfl) (by kernel_rfl) aj (fun n => aBk ay Ov n) rfl (allC VW (allC axU allN)) allN
abbrev aEQ (F0 : T36 α) : Nat → Ctx α := ctxS false M eqs jt0 [⟨46, S51, F0⟩] []
theorem aGK (F0 : T36 α) (n : Nat) : GenF (α := α) Tryz.prog Tryz.f14 S47 (aEQ F0 n) n (Vk F0) := by intro _ _; kernel_rfl
theorem axg : ∀ n, aW (α := α) Tryz.prog 14 (aQ S47.sh (bK S47 fZ n)) := aJ Tryz.func14 (by kernel_rfl) (by kernel_rfl) (by kernel_rfl) aj (fun n => aGK uY n) rfl (allC avW allN) allN
abbrev aFE (F0 : T19 α) (F1 : T13 α) (F2 : T28 α) (F3 : T28 α) : Nat → Ctx α := ctxS false M eqs jt0 [⟨9, S14, F0⟩, ⟨38, S9, F1⟩, ⟨47, S45, F2⟩, ⟨48, S45, F3⟩] []
theorem aEv (F0 : T19 α) (F1 : T13 α) (F2 : T28 α) (F3 : T28 α) (n : Nat) : GenF (α := α) Tryz.prog Tryz.f15 S52 (aFE F0 F1 F2 F3 n) n (Oq F0 F1 F2 F3) := by intro _ _ _; kernel_rfl
theorem axw : ∀ n, aW (α := α) Tryz.prog 15 (aQ S52.sh (bK S52 ax n)) := aJ Tryz.func15 (by kernel_rfl) (by kernel_rfl) (by kernel_rfl) aj (fun n => aEv ay Sj DX zX n) rfl (allC VW (allC agq (allC akg (allC akh allN)))) allN
abbrev aD7 (F0 : T30 α) (F1 : T8 α) (F2 : T51 α) : Nat → Ctx α := ctxS false M eqs jt0 [⟨98, S24, F0⟩, ⟨96, S7, F1⟩, ⟨100, S48, F2⟩] []
theorem aGS (F0 : T30 α) (F1 : T8 α) (F2 : T51 α) (n : Nat) : GenF (α := α) Tryz.prog Tryz.f50 S12 (aD7 F0 F1 F2 n) n (agZ F0 F1 F2) := by intro _ _ _ _ _ _ _; kernel_rfl
theorem awp : ∀ n, aW (α := α) Tryz.prog 50 (aQ S12.sh (bK S12 aeW n)) := aJ Tryz.func50 (by kernel_rfl) (by kernel_rfl) (by kernel_rfl) aj (fun n => aGS oJ FQ Aw n) rfl (allC af9 (allC af7 (allC aeY allN))) allN
abbrev aFL (F0 : T19 α) (F1 : T16 α) : Nat → Ctx α := ctxS false M eqs jt0 [⟨44, S14, F0⟩, ⟨50, S12, F1⟩] []
theorem aF4 (F0 : T19 α) (F1 : T16 α) (n : Nat) : GenF (α := α) Tryz.prog Tryz.f16 S53 (aFL F0 F1 n) n (ae2 F0 F1) := by intro _ _ _ _ _ _ _; kernel_rfl
theorem awF : ∀ n, aW (α := α) Tryz.prog 16 (aQ S53.sh (bK S53 jQ n)) := aJ Tryz.func16 (by kernel_rfl) (by kernel_rfl) (by kernel_rfl) aj (fun n => aF4 xw aeW n) rfl (allC ahL (allC awp allN)) allN
def avi : Tpl := ⟨(.sl 0 :: (.any :: (.any :: (.ptr 192 0 0 :: (.any :: (.int .i64 :: (.any :: (.any :: (.sl 0 :: (.int .i64 :: (.int .i64 :: (anyN 15 [])))))))))))), [(0, .rows 0 35 .pt), (192, .ints 2 35 .i64 2)], [], false⟩
def aun : PcS := nK [.int, .int, .int, .rows .pt, .int, .int] [0]
abbrev ay9 (F0 : T29 α) (F1 : T16 α) (F2 : T17 α) (G3 : T54 α) : Nat → Ctx α := ctxS false M eqs jt0 [⟨83, S23, F0⟩, ⟨84, S12, F1⟩, ⟨102, S25, F2⟩] [lpT 3 avi aun R5 G3]
theorem aCp (F0 : T29 α) (F1 : T16 α) (F2 : T17 α) (G3 : T54 α) (n : Nat) : GenL (α := α) Tryz.prog Tryz.f52 S28 (ay9 F0 F1 F2 G3 n) 3 avi aun n G3 (fun k => OV F0 F1 F2 (G3 k) k) := by intro _ _ _ _ _ _ _ _; kernel_rfl
theorem aFK (F0 : T29 α) (F1 : T16 α) (F2 : T17 α) (G3 : T54 α) (n : Nat) : GenF (α := α) Tryz.prog Tryz.f52 S28 (ay9 F0 F1 F2 G3 n) n (RJ G3) := by intro _ _ _ _; kernel_rfl
theorem awN : ∀ n, aW (α := α) Tryz.prog 52 (aQ S28.sh (bK S28 PQ n)) := aJ Tryz.func52 (by kernel_rfl) (by kernel_rfl) (by kernel_rfl) aj (fun n => aFK lY Gz xq xX n) rfl (allC ahV (allC akp (allC anf allN))) (allC (iq (by kernel_rfl) (fun n => (xX.eq_2 ..).symm) (fun n => aCp lY Gz xq xX n)) allN)
abbrev aEi (F0 : T19 α) (F1 : T15 α) (F2 : T38 α) : Nat → Ctx α := ctxS false M eqs jt0 [⟨9, S14, F0⟩, ⟨51, S11, F1⟩, ⟨52, S28, F2⟩] []
theorem aEr (F0 : T19 α) (F1 : T15 α) (F2 : T38 α) (n : Nat) : GenF (α := α) Tryz.prog Tryz.f17 S54 (aEi F0 F1 F2 n) n (QZ F0 F1 F2) := by intro _ _ _ _; kernel_rfl
theorem awz : ∀ n, aW (α := α) Tryz.prog 17 (aQ S54.sh (bK S54 cZ n)) := aJ Tryz.func17 (by kernel_rfl) (by kernel_rfl) (by kernel_rfl) aj (fun n => aEr ay IQ PQ n) rfl (allC VW (allC akD (allC awN allN))) allN
abbrev aGx (F0 : T19 α) : Nat → Ctx α := ctxS false M eqs jt0 [⟨44, S14, F0⟩] []
theorem aF6 (F0 : T19 α) (n : Nat) : GenF (α := α) Tryz.prog Tryz.f53 S55 (aGx F0 n) n (adv F0) := by intro _ _ _ _ _; kernel_rfl
theorem aw4 : ∀ n, aW (α := α) Tryz.prog 53 (aQ S55.sh (bK S55 VV n)) := aJ Tryz.func53 (by kernel_rfl) (by kernel_rfl) (by kernel_rfl) aj (fun n => aF6 xw n) rfl (allC ahL allN) allN
abbrev aAs (F0 : T8 α) : Nat → Ctx α := ctxS false M eqs jt0 [⟨96, S7, F0⟩] []
theorem aAr (F0 : T8 α) (n : Nat) : GenF (α := α) Tryz.prog Tryz.f103 S56 (aAs F0 n) n (acm F0) := by intro _ _ _ _ _; kernel_rfl
theorem awd : ∀ n, aW (α := α) Tryz.prog 103 (aQ S56.sh (bK S56 abe n)) := aJ Tryz.func103 (by kernel_rfl) (by kernel_rfl) (by kernel_rfl) aj (fun n => aAr FQ n) rfl (allC af7 allN) allN
abbrev aGB (F0 : T8 α) (F1 : T51 α) : Nat → Ctx α := ctxS false M eqs jt0 [⟨103, S56, F0⟩, ⟨100, S48, F1⟩] []
theorem aGM (F0 : T8 α) (F1 : T51 α) (n : Nat) : GenF (α := α) Tryz.prog Tryz.f54 S55 (aGB F0 F1 n) n (Tj F0 F1) := by intro _ _ _ _ _; kernel_rfl
theorem ayo : ∀ n, aW (α := α) Tryz.prog 54 (aQ S55.sh (bK S55 DJ n)) := aJ Tryz.func54 (by kernel_rfl) (by kernel_rfl) (by kernel_rfl) aj (fun n => aGM abe Aw n) rfl (allC awd (allC aeY allN)) allN
abbrev aGm : Nat → Ctx α := ctxS false M eqs jt0 [] []
theorem aEd (n : Nat) : GenF (α := α) Tryz.prog Tryz.f55 S57 (aGm n) n (aa4) := by intro _ _ _ _ _ _ _; kernel_rfl
theorem aw5 : ∀ n, aW (α := α) Tryz.prog 55 (aQ S57.sh (bK S57 LW n)) := aJ Tryz.func55 (by kernel_rfl) (by kernel_rfl) (by kernel_rfl) aj (fun n => aEd n) rfl allN allN
abbrev aEl (F0 : T15 α) : Nat → Ctx α := ctxS false M eqs jt0 [⟨41, S11, F0⟩] []
theorem aEj (F0 : T15 α) (n : Nat) : GenF (α := α) Tryz.prog Tryz.f57 S11 (aEl F0 n) n (aa0 F0) := by intro _ _ _; kernel_rfl
theorem ayk : ∀ n, aW (α := α) Tryz.prog 57 (aQ S11.sh (bK S11 Qw n)) := aJ Tryz.func57 (by kernel_rfl) (by kernel_rfl) (by kernel_rfl) aj (fun n => aEj aap n) rfl (allC apq allN) allN
def aqw : Tpl := ⟨(.sl 0 :: (.fn 57 [] :: (anyN 5 (.int .i64 :: (.int .i64 :: (anyN 10 [])))))), [(0, .rows 0 35 .pt)], [], false⟩
def aqF : PcS := nK [.int, .int, .rows .pt] [0]
abbrev asH (F0 : T15 α) (G2 : T27 α) : Nat → Ctx α := ctxS false M eqs jt0 [⟨57, S11, F0⟩] [lpT 2 aqw aqF R5 G2]
theorem azg (F0 : T15 α) (G2 : T27 α) (n : Nat) : GenL (α := α) Tryz.prog Tryz.f82 S58 (asH F0 G2 n) 2 aqw aqF n G2 (fun k => pV F0 (G2 k) k) := by intro _ _ _ _ _; kernel_rfl
theorem aBG (F0 : T15 α) (G2 : T27 α) (n : Nat) : GenF (α := α) Tryz.prog Tryz.f82 S58 (asH F0 G2 n) n (qW G2) := by intro _ _; kernel_rfl
theorem atI : ∀ n, aW (α := α) Tryz.prog 82 (aQ S58.sh (bK S58 mY n)) := aJ Tryz.func82 (by kernel_rfl) (by kernel_rfl) (by kernel_rfl) aj (fun n => aBG Qw iy n) rfl (allC ayk allN) (allC (iq (by kernel_rfl) (fun n => (iy.eq_2 ..).symm) (fun n => azg Qw iy n)) allN)
abbrev aCq (F0 : T28 α) : Nat → Ctx α := ctxS false M eqs jt0 [⟨82, S58, F0⟩] []
theorem aA1 (F0 : T28 α) (n : Nat) : GenF (α := α) Tryz.prog Tryz.f39 S59 (aCq F0 n) n (oz F0) := by intro _ _; kernel_rfl
theorem aue : ∀ n, aW (α := α) Tryz.prog 39 (aQ S59.sh (bK S59 jV n)) := aJ Tryz.func39 (by kernel_rfl) (by kernel_rfl) (by kernel_rfl) aj (fun n => aA1 mY n) rfl (allC atI allN) allN
def atX : Tpl := ⟨(.any :: (.any :: (.any :: (.ptr 192 0 0 :: (.any :: (.ptr 320 0 0 :: (.any :: (.any :: (.sl 1856 :: (anyN 21 (.sl 64 :: (.int .i64 :: (.int .i64 :: (anyN 18 [])))))))))))))), [(192, .ints 2 38 .i64 4), (320, .ints 2 35 .i64 2), (1856, .rows 2 35 .pt), (64, .rows 0 35 .pt)], [], false⟩
def as3 : PcS := nK [.int, .int, .int, .int, .int, .int, .int, .int, .rows .pt, .rows .pt] [1]
abbrev ayX (F0 : T6 α) (F1 : T19 α) (F2 : T15 α) (F3 : T6 α) (F4 : T53 α) (F5 : T7 α) (F6 : T19 α) (F7 : T20 α) (G7 : T56 α) : Nat → Ctx α := ctxS false M eqs jt0 [⟨53, S55, F0⟩, ⟨9, S14, F1⟩, ⟨51, S11, F2⟩, ⟨54, S55, F3⟩, ⟨55, S57, F4⟩, ⟨56, S6, F5⟩, ⟨39, S59, F6⟩, ⟨45, S15, F7⟩] [lpT 7 atX as3 R7 G7]
theorem aDc (F0 : T6 α) (F1 : T19 α) (F2 : T15 α) (F3 : T6 α) (F4 : T53 α) (F5 : T7 α) (F6 : T19 α) (F7 : T20 α) (G7 : T56 α) (n : Nat) : GenL (α := α) Tryz.prog Tryz.f18 S60 (ayX F0 F1 F2 F3 F4 F5 F6 F7 G7 n) 7 atX as3 n G7 (fun k => Uj F4 F5 (G7 k) k) := by intro _ _ _ _ _ _ _ _ _ _ _ _; kernel_rfl
theorem aFP (F0 : T6 α) (F1 : T19 α) (F2 : T15 α) (F3 : T6 α) (F4 : T53 α) (F5 : T7 α) (F6 : T19 α) (F7 : T20 α) (G7 : T56 α) (n : Nat) : GenF (α := α) Tryz.prog Tryz.f18 S60 (ayX F0 F1 F2 F3 F4 F5 F6 F7 G7 n) n (ZQ F0 F1 F2 F3 F6 F7 G7) := by intro _ _ _ _ _ _ _ _; kernel_rfl
theorem ax9 : ∀ n, aW (α := α) Tryz.prog 18 (aQ S60.sh (bK S60 fJ n)) := aJ Tryz.func18 (by kernel_rfl) (by kernel_rfl) (by kernel_rfl) aj (fun n => aFP VV ay IQ DJ LW yX jV EY BQ n) rfl (allC aw4 (allC VW (allC akD (allC ayo (allC aw5 (allC anV (allC aue (allC aoV allN)))))))) (allC (iq (by kernel_rfl) (fun n => (BQ.eq_2 ..).symm) (fun n => aDc VV ay IQ DJ LW yX jV EY BQ n)) allN)
abbrev aDz : Nat → Ctx α := ctxS false M eqs jt0 [] []
theorem aCN (n : Nat) : GenF (α := α) Tryz.prog Tryz.f82 S61 (aDz n) n (xW) := by intro _; kernel_rfl
theorem asD : ∀ n, aW (α := α) Tryz.prog 82 (aQ S61.sh (bK S61 qY n)) := aJ Tryz.func82 (by kernel_rfl) (by kernel_rfl) (by kernel_rfl) aj (fun n => aCN n) rfl allN allN
abbrev aCa (F0 : T58 α) : Nat → Ctx α := ctxS false M eqs jt0 [⟨82, S61, F0⟩] []
theorem aBC (F0 : T58 α) (n : Nat) : GenF (α := α) Tryz.prog Tryz.f39 S62 (aCa F0 n) n (wW F0) := by intro _; kernel_rfl
theorem avz : ∀ n, aW (α := α) Tryz.prog 39 (aQ S62.sh (bK S62 pJ n)) := aJ Tryz.func39 (by kernel_rfl) (by kernel_rfl) (by kernel_rfl) aj (fun n => aBC qY n) rfl (allC asD allN) allN
abbrev aAM : Nat → Ctx α := ctxS false M eqs jt0 [] []
theorem aC0 (n : Nat) : GenF (α := α) Tryz.prog Tryz.f42 S63 (aAM n) n (abB) := by intro _; kernel_rfl
theorem au8 : ∀ n, aW (α := α) Tryz.prog 42 (aQ S63.sh (bK S63 YW n)) := aJ Tryz.func42 (by kernel_rfl) (by kernel_rfl) (by kernel_rfl) aj (fun n => aC0 n) rfl allN allN
abbrev aF2 (F0 : T13 α) (F1 : T42 α) (F2 : T42 α) : Nat → Ctx α := ctxS false M eqs jt0 [⟨38, S9, F0⟩, ⟨39, S62, F1⟩, ⟨42, S63, F2⟩] []
theorem aDP (F0 : T13 α) (F1 : T42 α) (F2 : T42 α) (n : Nat) : GenF (α := α) Tryz.prog Tryz.f9 S63 (aF2 F0 F1 F2 n) n (adO F0 F1 F2) := by intro _; kernel_rfl
theorem awK : ∀ n, aW (α := α) Tryz.prog 9 (aQ S63.sh (bK S63 acj n)) := aJ Tryz.func9 (by kernel_rfl) (by kernel_rfl) (by kernel_rfl) aj (fun n => aDP Sj pJ YW n) rfl (allC agq (allC avz (allC au8 allN))) allN
abbrev aC2 (F0 : T17 α) : Nat → Ctx α := ctxS false M eqs jt0 [⟨99, S13, F0⟩] []
theorem aBE (F0 : T17 α) (n : Nat) : GenF (α := α) Tryz.prog Tryz.f126 S64 (aC2 F0 n) n (YZ F0) := by intro _ _ _; kernel_rfl
theorem asN : ∀ n, aW (α := α) Tryz.prog 126 (aQ S64.sh (bK S64 Fz n)) := aJ Tryz.func126 (by kernel_rfl) (by kernel_rfl) (by kernel_rfl) aj (fun n => aBE GX n) rfl (allC an9 allN) allN
abbrev aA6 : Nat → Ctx α := ctxS false M eqs jt0 [] []
theorem aCl (n : Nat) : GenF (α := α) Tryz.prog Tryz.f130 S25 (aA6 n) n (afL) := by intro _ _ _; kernel_rfl
theorem am8 : ∀ n, aW (α := α) Tryz.prog 130 (aQ S25.sh (bK S25 XW n)) := aJ Tryz.func130 (by kernel_rfl) (by kernel_rfl) (by kernel_rfl) aj (fun n => aCl n) rfl allN allN
abbrev aAB (F0 : T17 α) : Nat → Ctx α := ctxS false M eqs jt0 [⟨130, S25, F0⟩] []
theorem aCb (F0 : T17 α) (n : Nat) : GenF (α := α) Tryz.prog Tryz.f147 S25 (aAB F0 n) n (aij F0) := by intro _ _ _; kernel_rfl
theorem amI : ∀ n, aW (α := α) Tryz.prog 147 (aQ S25.sh (bK S25 abq n)) := aJ Tryz.func147 (by kernel_rfl) (by kernel_rfl) (by kernel_rfl) aj (fun n => aCb XW n) rfl (allC am8 allN) allN
def aqR : Tpl := ⟨(.any :: (.int .i64 :: (.any :: (.any :: (.any :: (.int .i64 :: (.int .i64 :: (.int .i64 :: (.int .i64 :: (anyN 25 [])))))))))), [], [], false⟩
def arB : PcS := nK [.int, .int, .int, .int, .int] [0]
abbrev atl (F0 : T17 α) (G2 : T60 α) : Nat → Ctx α := ctxS false M eqs jt0 [⟨147, S25, F0⟩] [lpT 2 aqR arB R5 G2]
theorem azB (F0 : T17 α) (G2 : T60 α) (n : Nat) : GenL (α := α) Tryz.prog Tryz.f148 S25 (atl F0 G2 n) 2 aqR arB n G2 (fun k => aa6 (G2 k) k) := by intro _ _ _ _ _ _ _; kernel_rfl
theorem aDB (F0 : T17 α) (G2 : T60 α) (n : Nat) : GenF (α := α) Tryz.prog Tryz.f148 S25 (atl F0 G2 n) n (afc F0 G2) := by intro _ _ _; kernel_rfl
theorem atJ : ∀ n, aW (α := α) Tryz.prog 148 (aQ S25.sh (bK S25 aev n)) := aJ Tryz.func148 (by kernel_rfl) (by kernel_rfl) (by kernel_rfl) aj (fun n => aDB abq JJ n) rfl (allC amI allN) (allC (iq (by kernel_rfl) (fun n => (JJ.eq_2 ..).symm) (fun n => azB abq JJ n)) allN)
abbrev aBl (F0 : T51 α) (F1 : T17 α) (F2 : T17 α) : Nat → Ctx α := ctxS false M eqs jt0 [⟨100, S48, F0⟩, ⟨148, S25, F1⟩, ⟨147, S25, F2⟩] []
theorem aCF (F0 : T51 α) (F1 : T17 α) (F2 : T17 α) (n : Nat) : GenF (α := α) Tryz.prog Tryz.f127 S64 (aBl F0 F1 F2 n) n (Yk F0 F1 F2) := by intro _ _ _; kernel_rfl
theorem as8 : ∀ n, aW (α := α) Tryz.prog 127 (aQ S64.sh (bK S64 yY n)) := aJ Tryz.func127 (by kernel_rfl) (by kernel_rfl) (by kernel_rfl) aj (fun n => aCF Aw aev abq n) rfl (allC aeY (allC atJ (allC amI allN))) allN
abbrev aBh (F0 : T30 α) (F1 : T8 α) : Nat → Ctx α := ctxS false M eqs jt0 [⟨98, S24, F0⟩, ⟨96, S7, F1⟩] []
theorem aCG (F0 : T30 α) (F1 : T8 α) (n : Nat) : GenF (α := α) Tryz.prog Tryz.f128 S65 (aBh F0 F1 n) n (VZ F0 F1) := by intro _ _ _ _ _ _ _ _; kernel_rfl
theorem ato : ∀ n, aW (α := α) Tryz.prog 128 (aQ S65.sh (bK S65 uX n)) := aJ Tryz.func128 (by kernel_rfl) (by kernel_rfl) (by kernel_rfl) aj (fun n => aCG oJ FQ n) rfl (allC af9 (allC af7 allN)) allN
abbrev aCH : Nat → Ctx α := ctxS false M eqs jt0 [] []
theorem aBV (n : Nat) : GenF (α := α) Tryz.prog Tryz.f129 S48 (aCH n) n (agS) := by intro _ _; kernel_rfl
theorem atV : ∀ n, aW (α := α) Tryz.prog 129 (aQ S48.sh (bK S48 ac6 n)) := aJ Tryz.func129 (by kernel_rfl) (by kernel_rfl) (by kernel_rfl) aj (fun n => aBV n) rfl allN allN
def aqa : Tpl := ⟨(anyN 5 (.fn 128 [.ptr 64 0 0, .ptr 256 0 0, .ptr 192 0 0] :: (anyN 4 (.int .i64 :: (.sl 2944 :: (.int .i64 :: (anyN 43 (.sl 0 :: (.int .i64 :: (.int .i64 :: (anyN 23 []))))))))))), [(64, .mix 2 24 [.sl 0]), (256, .ints 2 35 .i64 2), (192, .ints 2 35 .i64 2), (2944, .rows 2 35 .pt), (0, .rows 0 35 .pt)], [], false⟩
def aqs : PcS := nK [.int, .int, .int, .int, .int, .int, .int, .int, .rows .pt, .rows .pt] [0]
abbrev awm (F0 : T30 α) (F1 : T59 α) (F2 : T59 α) (F3 : T61 α) (F4 : T51 α) (F5 : T51 α) (F6 : T17 α) (G9 : T62 α) : Nat → Ctx α := ctxS false M eqs jt0 [⟨98, S24, F0⟩, ⟨126, S64, F1⟩, ⟨127, S64, F2⟩, ⟨128, S65, F3⟩, ⟨129, S48, F4⟩, ⟨100, S48, F5⟩, ⟨130, S25, F6⟩] [lpT 9 aqa aqs R6 G9]
theorem aAl (F0 : T30 α) (F1 : T59 α) (F2 : T59 α) (F3 : T61 α) (F4 : T51 α) (F5 : T51 α) (F6 : T17 α) (G9 : T62 α) (n : Nat) : GenL (α := α) Tryz.prog Tryz.f104 S8 (awm F0 F1 F2 F3 F4 F5 F6 G9 n) 9 aqa aqs n G9 (fun k => abV F3 (G9 k) k) := by intro _ _ _ _ _ _ _ _ _ _ _ _; kernel_rfl
theorem aBI (F0 : T30 α) (F1 : T59 α) (F2 : T59 α) (F3 : T61 α) (F4 : T51 α) (F5 : T51 α) (F6 : T17 α) (G9 : T62 α) (n : Nat) : GenF (α := α) Tryz.prog Tryz.f104 S8 (awm F0 F1 F2 F3 F4 F5 F6 G9 n) n (agb F0 F1 F2 F3 F4 F5 F6 G9) := by intro _ _; kernel_rfl
theorem as4 : ∀ n, aW (α := α) Tryz.prog 104 (aQ S8.sh (bK S8 Kw n)) := aJ Tryz.func104 (by kernel_rfl) (by kernel_rfl) (by kernel_rfl) aj (fun n => aBI oJ Fz yY uX ac6 Aw XW Iq n) rfl (allC af9 (allC asN (allC as8 (allC ato (allC atV (allC aeY (allC am8 allN))))))) (allC (iq (by kernel_rfl) (fun n => (Iq.eq_2 ..).symm) (fun n => aAl oJ Fz yY uX ac6 Aw XW Iq n)) allN)
def aqQ : Tpl := ⟨(.sl 0 :: (.sl 64 :: (.fn 79 [] :: (anyN 8 (.sl 0 :: (.int .i64 :: (.int .i64 :: (anyN 25 [])))))))), [(0, .rows 0 35 .pt), (64, .rows 0 35 .pt)], [], false⟩
def aqj : PcS := nK [.int, .int, .rows .pt, .rows .pt] [0]
abbrev auk (F0 : T8 α) (G2 : T63 α) : Nat → Ctx α := ctxS false M eqs jt0 [⟨79, S7, F0⟩] [lpT 2 aqQ aqj R5 G2]
theorem azx (F0 : T8 α) (G2 : T63 α) (n : Nat) : GenL (α := α) Tryz.prog Tryz.f105 S66 (auk F0 G2 n) 2 aqQ aqj n G2 (fun k => iV F0 (G2 k) k) := by intro _ _ _ _ _ _; kernel_rfl
theorem aAA (F0 : T8 α) (G2 : T63 α) (n : Nat) : GenF (α := α) Tryz.prog Tryz.f105 S66 (auk F0 G2 n) n (lZ G2) := by intro _ _ _; kernel_rfl
theorem ava : ∀ n, aW (α := α) Tryz.prog 105 (aQ S66.sh (bK S66 aX n)) := aJ Tryz.func105 (by kernel_rfl) (by kernel_rfl) (by kernel_rfl) aj (fun n => aAA oZ dX n) rfl (allC akm allN) (allC (iq (by kernel_rfl) (fun n => (dX.eq_2 ..).symm) (fun n => azx oZ dX n)) allN)
abbrev aCc : Nat → Ctx α := ctxS false M eqs jt0 [] []
theorem aBU (n : Nat) : GenF (α := α) Tryz.prog Tryz.f106 S8 (aCc n) n (Dj) := by intro _ _; kernel_rfl
theorem auv : ∀ n, aW (α := α) Tryz.prog 106 (aQ S8.sh (bK S8 lV n)) := aJ Tryz.func106 (by kernel_rfl) (by kernel_rfl) (by kernel_rfl) aj (fun n => aBU n) rfl allN allN
def arz : Tpl := ⟨(.sl 0 :: (.any :: (.int .i64 :: (.int .i64 :: (anyN 24 []))))), [(0, .rows 1 35 .pt)], [], false⟩
def art : PcS := nK [.int, .int, .rows .pt] [0]
abbrev au4 (G1 : T41 α) : Nat → Ctx α := ctxS false M eqs jt0 [] [lpT 1 arz art R14 G1]
theorem azU (G1 : T41 α) (n : Nat) : GenL (α := α) Tryz.prog Tryz.f107 S43 (au4 G1 n) 1 arz art n G1 (fun k => pK (G1 k) k) := by intro _ _ _ _ _ _; kernel_rfl
theorem aDu (G1 : T41 α) (n : Nat) : GenF (α := α) Tryz.prog Tryz.f107 S43 (au4 G1 n) n (BK G1) := by intro _ _; kernel_rfl
theorem auD : ∀ n, aW (α := α) Tryz.prog 107 (aQ S43.sh (bK S43 kz n)) := aJ Tryz.func107 (by kernel_rfl) (by kernel_rfl) (by kernel_rfl) aj (fun n => aDu jK n) rfl allN (allC (iq (by kernel_rfl) (fun n => (jK.eq_2 ..).symm) (fun n => azU jK n)) allN)
abbrev aCy : Nat → Ctx α := ctxS false M eqs jt0 [] []
theorem aBF (n : Nat) : GenF (α := α) Tryz.prog Tryz.f82 S67 (aCy n) n (yZ) := by intro _; kernel_rfl
theorem as1 : ∀ n, aW (α := α) Tryz.prog 82 (aQ S67.sh (bK S67 rX n)) := aJ Tryz.func82 (by kernel_rfl) (by kernel_rfl) (by kernel_rfl) aj (fun n => aBF n) rfl allN allN
abbrev aAq (F0 : T58 α) : Nat → Ctx α := ctxS false M eqs jt0 [⟨82, S67, F0⟩] []
theorem aCA (F0 : T58 α) (n : Nat) : GenF (α := α) Tryz.prog Tryz.f39 S68 (aAq F0 n) n (xY F0) := by intro _; kernel_rfl
theorem av3 : ∀ n, aW (α := α) Tryz.prog 39 (aQ S68.sh (bK S68 qV n)) := aJ Tryz.func39 (by kernel_rfl) (by kernel_rfl) (by kernel_rfl) aj (fun n => aCA rX n) rfl (allC as1 allN) allN
abbrev aBQ (F0 : T42 α) : Nat → Ctx α := ctxS false M eqs jt0 [⟨39, S68, F0⟩] []
theorem aAW (F0 : T42 α) (n : Nat) : GenF (α := α) Tryz.prog Tryz.f44 S63 (aBQ F0 n) n (agr F0) := by intro _; kernel_rfl
theorem am6 : ∀ n, aW (α := α) Tryz.prog 44 (aQ S63.sh (bK S63 Ny n)) := aJ Tryz.func44 (by kernel_rfl) (by kernel_rfl) (by kernel_rfl) aj (fun n => aAW qV n) rfl (allC av3 allN) allN
def aup : Tpl := ⟨(.sl 0 :: (.any :: (.any :: (.any :: (.sl 2944 :: (.any :: (.any :: (.lit .i64 0 :: (.any :: (.any :: (.int .i64 :: (.int .i64 :: (anyN 30 []))))))))))))), [(0, .rows 0 35 .pt), (2944, .rows 2 35 .pt)], [(4, 2944, 35, .pt)], true⟩
def avQ : PcS := nK [.int, .int, .rows .pt, .rows .pt] [2]
def ajT : Tpl := ⟨(.sl 2176 :: (.any :: (.any :: (.any :: (.sl 66944 :: (.any :: (.any :: (.lit .i64 1 :: (.any :: (.any :: (.int .i64 :: (.int .i64 :: (anyN 30 []))))))))))))), [(2176, .rows 2 35 .pt), (66944, .rows 2 35 .pt)], [(4, 66944, 35, .pt)], false⟩
def ajV : PcS := nK [.int, .int, .rows .pt, .rows .pt] [2]
abbrev asa (F0 : T40 α) (F1 : T12 α) (F2 : T64 α) (F3 : T12 α) (F4 : T12 α) (F5 : T19 α) (F6 : T42 α) (G5 : T65 α) (G100005 : T65 α) : Nat → Ctx α := ctxS false M eqs jt0 [⟨80, S30, F0⟩, ⟨104, S8, F1⟩, ⟨105, S66, F2⟩, ⟨106, S8, F3⟩, ⟨107, S43, F4⟩, ⟨44, S14, F5⟩, ⟨44, S63, F6⟩] [lpT 5 aup avQ R7 G5, lpT 100005 ajT ajV R7 G100005]
theorem aDf (F0 : T40 α) (F1 : T12 α) (F2 : T64 α) (F3 : T12 α) (F4 : T12 α) (F5 : T19 α) (F6 : T42 α) (G5 : T65 α) (G100005 : T65 α) (n : Nat) : GenL (α := α) Tryz.prog Tryz.f58 S15 (asa F0 F1 F2 F3 F4 F5 F6 G5 G100005 n) 5 aup avQ n G5 (fun k => VJ F0 F1 F2 (G5 k) k) := by intro _ _ _ _ _ _; kernel_rfl
theorem ap6 (F0 : T40 α) (F1 : T12 α) (F2 : T64 α) (F3 : T12 α) (F4 : T12 α) (F5 : T19 α) (F6 : T42 α) (G5 : T65 α) (G100005 : T65 α) (n : Nat) : GenL (α := α) Tryz.prog Tryz.f58 S15 (asa F0 F1 F2 F3 F4 F5 F6 G5 G100005 n) 100005 ajT ajV n G100005 (fun k => Nk F0 F1 F2 (G100005 k) k) := by intro _ _ _ _ _ _; kernel_rfl
theorem aFz (F0 : T40 α) (F1 : T12 α) (F2 : T64 α) (F3 : T12 α) (F4 : T12 α) (F5 : T19 α) (F6 : T42 α) (G5 : T65 α) (G100005 : T65 α) (n : Nat) : GenF (α := α) Tryz.prog Tryz.f58 S15 (asa F0 F1 F2 F3 F4 F5 F6 G5 G100005 n) n (aab F0 F1 F2 F3 F4 F5 F6 G5 G100005) := by intro _ _; kernel_rfl
theorem akd : ∀ n, aW (α := α) Tryz.prog 58 (aQ S15.sh (bK S15 ww n)) := aJ Tryz.func58 (by kernel_rfl) (by kernel_rfl) (by kernel_rfl) aj (fun n => aFz iQ Kw aX lV kz xw Ny tq oW n) rfl (allC anK (allC as4 (allC ava (allC auv (allC auD (allC ahL (allC am6 allN))))))) (allC (iq (by kernel_rfl) (fun n => (tq.eq_2 ..).symm) (fun n => aDf iQ Kw aX lV kz xw Ny tq oW n)) (allC (iq (by kernel_rfl) (fun n => (oW.eq_2 ..).symm) (fun n => ap6 iQ Kw aX lV kz xw Ny tq oW n)) allN))
abbrev azZ : Nat → Ctx α := ctxS false M eqs jt0 [] []
theorem az5 (n : Nat) : GenF (α := α) Tryz.prog Tryz.f106 S37 (azZ n) n (Jk) := by intro _; kernel_rfl
theorem arV : ∀ n, aW (α := α) Tryz.prog 106 (aQ S37.sh (bK S37 CY n)) := aJ Tryz.func106 (by kernel_rfl) (by kernel_rfl) (by kernel_rfl) aj (fun n => az5 n) rfl allN allN
abbrev aAm : Nat → Ctx α := ctxS false M eqs jt0 [] []
theorem azC (n : Nat) : GenF (α := α) Tryz.prog Tryz.f107 S39 (aAm n) n (Iz) := by intro _; kernel_rfl
theorem asj : ∀ n, aW (α := α) Tryz.prog 107 (aQ S39.sh (bK S39 Aq n)) := aJ Tryz.func107 (by kernel_rfl) (by kernel_rfl) (by kernel_rfl) aj (fun n => azC n) rfl allN allN
abbrev aAZ (F0 : T44 α) (F1 : T44 α) (F2 : T42 α) : Nat → Ctx α := ctxS false M eqs jt0 [⟨106, S37, F0⟩, ⟨107, S39, F1⟩, ⟨44, S63, F2⟩] []
theorem aBw (F0 : T44 α) (F1 : T44 α) (F2 : T42 α) (n : Nat) : GenF (α := α) Tryz.prog Tryz.f58 S69 (aAZ F0 F1 F2 n) n (abL F0 F1 F2) := by intro _; kernel_rfl
theorem avf : ∀ n, aW (α := α) Tryz.prog 58 (aQ S69.sh (bK S69 Xx n)) := aJ Tryz.func58 (by kernel_rfl) (by kernel_rfl) (by kernel_rfl) aj (fun n => aBw CY Aq Ny n) rfl (allC arV (allC asj (allC am6 allN))) allN
abbrev aGg : Nat → Ctx α := ctxS false M eqs jt0 [] []
theorem aGA (n : Nat) : GenF (α := α) Tryz.prog Tryz.f59 S32 (aGg n) n (JQ) := by intro _; kernel_rfl
theorem an0 : ∀ n, aW (α := α) Tryz.prog 59 (aQ S32.sh (bK S32 qx n)) := aJ Tryz.func59 (by kernel_rfl) (by kernel_rfl) (by kernel_rfl) aj (fun n => aGA n) rfl allN allN
def arn : Tpl := ⟨(.sl 0 :: (.nilsl :: (anyN 10 (.int .i64 :: (.int .i64 :: (anyN 12 [])))))), [(0, .rows 0 35 .pt)], [], false⟩
def aq2 : PcS := nK [.int, .int, .rows .pt] [0]
abbrev auZ (G4 : T32 α) : Nat → Ctx α := ctxS false M eqs jt0 [] [lpT 4 arn aq2 R0 G4]
theorem azH (G4 : T32 α) (n : Nat) : GenL (α := α) Tryz.prog Tryz.f59 S70 (auZ G4 n) 4 arn aq2 n G4 (fun k => KQ k) := by intro _ _ _ _ _; kernel_rfl
theorem aBy (G4 : T32 α) (n : Nat) : GenF (α := α) Tryz.prog Tryz.f59 S70 (auZ G4 n) n (MQ G4) := by intro _ _; kernel_rfl
theorem anl : ∀ n, aW (α := α) Tryz.prog 59 (aQ S70.sh (bK S70 tY n)) := aJ Tryz.func59 (by kernel_rfl) (by kernel_rfl) (by kernel_rfl) aj (fun n => aBy vw n) rfl allN (allC (iq (by kernel_rfl) (fun n => (vw.eq_2 ..).symm) (fun n => azH vw n)) allN)
abbrev aEJ (F0 : T19 α) (F1 : T42 α) (F2 : T20 α) (F3 : T58 α) (F4 : T42 α) (F5 : T19 α) : Nat → Ctx α := ctxS false M eqs jt0 [⟨9, S14, F0⟩, ⟨9, S63, F1⟩, ⟨58, S15, F2⟩, ⟨58, S69, F3⟩, ⟨59, S32, F4⟩, ⟨59, S70, F5⟩] []
theorem aFT (F0 : T19 α) (F1 : T42 α) (F2 : T20 α) (F3 : T58 α) (F4 : T42 α) (F5 : T19 α) (n : Nat) : GenF (α := α) Tryz.prog Tryz.f19 S71 (aEJ F0 F1 F2 F3 F4 F5 n) n (aa5 F0 F1 F2 F3 F4 F5) := by intro _ _; kernel_rfl
theorem awY : ∀ n, aW (α := α) Tryz.prog 19 (aQ S71.sh (bK S71 bZ n)) := aJ Tryz.func19 (by kernel_rfl) (by kernel_rfl) (by kernel_rfl) aj (fun n => aFT ay acj ww Xx qx tY n) rfl (allC VW (allC awK (allC akd (allC avf (allC an0 (allC anl allN)))))) allN
abbrev aFW (F0 : T2 α) (F1 : T24 α) : Nat → Ctx α := ctxS false M eqs jt0 [⟨34, S1, F0⟩, ⟨33, S19, F1⟩] []
theorem aFC (F0 : T2 α) (F1 : T24 α) (n : Nat) : GenF (α := α) Tryz.prog Tryz.f20 S20 (aFW F0 F1 n) n (abo F0 F1) := by intro _ _; kernel_rfl
theorem ayh : ∀ n, aW (α := α) Tryz.prog 20 (aQ S20.sh (bK S20 bQ n)) := aJ Tryz.func20 (by kernel_rfl) (by kernel_rfl) (by kernel_rfl) aj (fun n => aFC sV vX n) rfl (allC acZ (allC adV allN)) allN
abbrev aGq (F0 : T19 α) (F1 : T20 α) : Nat → Ctx α := ctxS false M eqs jt0 [⟨9, S14, F0⟩, ⟨58, S15, F1⟩] []
theorem aFv (F0 : T19 α) (F1 : T20 α) (n : Nat) : GenF (α := α) Tryz.prog Tryz.f21 S15 (aGq F0 F1 n) n (aaE F0 F1) := by intro _ _; kernel_rfl
theorem axu : ∀ n, aW (α := α) Tryz.prog 21 (aQ S15.sh (bK S15 dK n)) := aJ Tryz.func21 (by kernel_rfl) (by kernel_rfl) (by kernel_rfl) aj (fun n => aFv ay ww n) rfl (allC VW (allC akd allN)) allN
def aqt : Tpl := ⟨(.int .i64 :: (.int .i64 :: (anyN 15 []))), [], [], false⟩
def aqg : PcS := nK [.int, .int] [0]
abbrev atT (G1 : T52 α) : Nat → Ctx α := ctxS false M eqs jt0 [] [lpT 1 aqt aqg R5 G1]
theorem azR (G1 : T52 α) (n : Nat) : GenL (α := α) Tryz.prog Tryz.f136 S25 (atT G1 n) 1 aqt aqg n G1 (fun k => abf (G1 k) k) := by intro _ _ _ _; kernel_rfl
theorem aAT (G1 : T52 α) (n : Nat) : GenF (α := α) Tryz.prog Tryz.f136 S25 (atT G1 n) n (ae3 G1) := by intro _ _ _; kernel_rfl
theorem amV : ∀ n, aW (α := α) Tryz.prog 136 (aQ S25.sh (bK S25 YY n)) := aJ Tryz.func136 (by kernel_rfl) (by kernel_rfl) (by kernel_rfl) aj (fun n => aAT JK n) rfl allN (allC (iq (by kernel_rfl) (fun n => (JK.eq_2 ..).symm) (fun n => azR JK n)) allN)
abbrev aDy (F0 : T17 α) : Nat → Ctx α := ctxS false M eqs jt0 [⟨136, S25, F0⟩] []
theorem aDv (F0 : T17 α) (n : Nat) : GenF (α := α) Tryz.prog Tryz.f131 S64 (aDy F0 n) n (aeq F0) := by intro _ _ _; kernel_rfl
theorem atD : ∀ n, aW (α := α) Tryz.prog 131 (aQ S64.sh (bK S64 ZV n)) := aJ Tryz.func131 (by kernel_rfl) (by kernel_rfl) (by kernel_rfl) aj (fun n => aDv YY n) rfl (allC amV allN) allN
abbrev aCD : Nat → Ctx α := ctxS false M eqs jt0 [] []
theorem aBo (n : Nat) : GenF (α := α) Tryz.prog Tryz.f149 S25 (aCD n) n (aeo) := by intro _ _ _; kernel_rfl
theorem asQ : ∀ n, aW (α := α) Tryz.prog 149 (aQ S25.sh (bK S25 Zk n)) := aJ Tryz.func149 (by kernel_rfl) (by kernel_rfl) (by kernel_rfl) aj (fun n => aBo n) rfl allN allN
def aro : Tpl := ⟨(.any :: (.ptr 64 0 0 :: (.ptr 128 0 0 :: (.int .i64 :: (.int .i64 :: (.int .i64 :: (.int .i64 :: (.int .i64 :: (anyN 50 []))))))))), [(64, .ints 2 35 .i64 2), (128, .ints 2 35 .i64 2)], [], false⟩
def aqf : PcS := nK [.int, .int, .int, .int, .int, .int, .int, .int, .int] [0]
abbrev auY (F0 : T17 α) (G5 : T67 α) : Nat → Ctx α := ctxS false M eqs jt0 [⟨149, S25, F0⟩] [lpT 5 aro aqf R4 G5]
theorem aAi (F0 : T17 α) (G5 : T67 α) (n : Nat) : GenL (α := α) Tryz.prog Tryz.f132 S64 (auY F0 G5 n) 5 aro aqf n G5 (fun k => aaq (G5 k) k) := by intro _ _ _ _ _ _ _ _ _ _ _; kernel_rfl
theorem aAv (F0 : T17 α) (G5 : T67 α) (n : Nat) : GenF (α := α) Tryz.prog Tryz.f132 S64 (auY F0 G5 n) n (ab7 F0 G5) := by intro _ _ _; kernel_rfl
theorem atz : ∀ n, aW (α := α) Tryz.prog 132 (aQ S64.sh (bK S64 IZ n)) := aJ Tryz.func132 (by kernel_rfl) (by kernel_rfl) (by kernel_rfl) aj (fun n => aAv Zk Gw n) rfl (allC asQ allN) (allC (iq (by kernel_rfl) (fun n => (Gw.eq_2 ..).symm) (fun n => aAi Zk Gw n)) allN)
abbrev aB4 : Nat → Ctx α := ctxS false M eqs jt0 [] []
theorem aAY (n : Nat) : GenF (α := α) Tryz.prog Tryz.f113 S57 (aB4 n) n (WJ) := by intro _ _ _ _ _ _ _; kernel_rfl
theorem amu : ∀ n, aW (α := α) Tryz.prog 113 (aQ S57.sh (bK S57 zk n)) := aJ Tryz.func113 (by kernel_rfl) (by kernel_rfl) (by kernel_rfl) aj (fun n => aAY n) rfl allN allN
abbrev aB5 : Nat → Ctx α := ctxS false M eqs jt0 [] []
theorem aCu (n : Nat) : GenF (α := α) Tryz.prog Tryz.f133 S25 (aB5 n) n (adI) := by intro _ _ _; kernel_rfl
theorem avK : ∀ n, aW (α := α) Tryz.prog 133 (aQ S25.sh (bK S25 VY n)) := aJ Tryz.func133 (by kernel_rfl) (by kernel_rfl) (by kernel_rfl) aj (fun n => aCu n) rfl allN allN
abbrev aCO : Nat → Ctx α := ctxS false M eqs jt0 [] []
theorem aBs (n : Nat) : GenF (α := α) Tryz.prog Tryz.f115 S72 (aCO n) n (aba) := by intro _ _ _ _ _ _ _ _ _; kernel_rfl
theorem ane : ∀ n, aW (α := α) Tryz.prog 115 (aQ S72.sh (bK S72 IX n)) := aJ Tryz.func115 (by kernel_rfl) (by kernel_rfl) (by kernel_rfl) aj (fun n => aBs n) rfl allN allN
def aoC : Tpl := ⟨(.sl 0 :: (.any :: (.any :: (.ptr 192 0 0 :: (anyN 4 (.ptr 512 0 0 :: (.any :: (.any :: (.sl 4928 :: (.int .i64 :: (anyN 83 []))))))))))), [(0, .rows 0 35 .pt), (192, .ints 2 35 .i64 2), (512, .ints 2 38 .i64 4), (4928, .rows 2 35 .pt)], [], false⟩
def aoi : PcS := nK [.int, .rows .pt, .int, .int, .int, .int, .int, .int, .rows .pt] [0]
abbrev avt (F0 : T7 α) (F1 : T59 α) (F2 : T59 α) (F3 : T53 α) (F4 : T17 α) (F5 : T68 α) (G14 : T69 α) : Nat → Ctx α := ctxS false M eqs jt0 [⟨87, S6, F0⟩, ⟨131, S64, F1⟩, ⟨132, S64, F2⟩, ⟨113, S57, F3⟩, ⟨133, S25, F4⟩, ⟨115, S72, F5⟩] [lpT 14 aoC aoi R6 G14]
theorem ayd (F0 : T7 α) (F1 : T59 α) (F2 : T59 α) (F3 : T53 α) (F4 : T17 α) (F5 : T68 α) (G14 : T69 α) (n : Nat) : GenL (α := α) Tryz.prog Tryz.f108 S8 (avt F0 F1 F2 F3 F4 F5 G14 n) 14 aoC aoi n G14 (fun k => XY F0 F3 (G14 k) k) := by intro _ _ _ _ _ _ _ _ _ _ _; kernel_rfl
theorem aBb (F0 : T7 α) (F1 : T59 α) (F2 : T59 α) (F3 : T53 α) (F4 : T17 α) (F5 : T68 α) (G14 : T69 α) (n : Nat) : GenF (α := α) Tryz.prog Tryz.f108 S8 (avt F0 F1 F2 F3 F4 F5 G14 n) n (adJ F0 F1 F2 F3 F4 F5 G14) := by intro _ _; kernel_rfl
theorem ath : ∀ n, aW (α := α) Tryz.prog 108 (aQ S8.sh (bK S8 IV n)) := aJ Tryz.func108 (by kernel_rfl) (by kernel_rfl) (by kernel_rfl) aj (fun n => aBb jy ZV IZ zk VY IX zx n) rfl (allC ad4 (allC atD (allC atz (allC amu (allC avK (allC ane allN)))))) (allC (iq (by kernel_rfl) (fun n => (zx.eq_2 ..).symm) (fun n => ayd jy ZV IZ zk VY IX zx n)) allN)
def aqo : Tpl := ⟨(.sl 0 :: (.sl 64 :: (.any :: (.any :: (.any :: (.int .i64 :: (anyN 24 []))))))), [(0, .rows 0 35 .pt), (64, .rows 0 35 .pt)], [], false⟩
def aqX : PcS := nK [.int, .rows .pt, .rows .pt] [0]
abbrev avh (F0 : T6 α) (G2 : T70 α) : Nat → Ctx α := ctxS false M eqs jt0 [⟨81, S5, F0⟩] [lpT 2 aqo aqX R0 G2]
theorem aAb (F0 : T6 α) (G2 : T70 α) (n : Nat) : GenL (α := α) Tryz.prog Tryz.f109 S73 (avh F0 G2 n) 2 aqo aqX n G2 (fun k => aay F0 (G2 k) k) := by intro _ _ _ _ _; kernel_rfl
theorem aBK (F0 : T6 α) (G2 : T70 α) (n : Nat) : GenF (α := α) Tryz.prog Tryz.f109 S73 (avh F0 G2 n) n (adY G2) := by intro _ _ _; kernel_rfl
theorem atU : ∀ n, aW (α := α) Tryz.prog 109 (aQ S73.sh (bK S73 PW n)) := aJ Tryz.func109 (by kernel_rfl) (by kernel_rfl) (by kernel_rfl) aj (fun n => aBK uj Gj n) rfl (allC akr allN) (allC (iq (by kernel_rfl) (fun n => (Gj.eq_2 ..).symm) (fun n => aAb uj Gj n)) allN)
def aqr : Tpl := ⟨(.sl 0 :: (.any :: (.any :: (.int .i64 :: (anyN 12 []))))), [(0, .rows 0 35 .pt)], [], false⟩
def aqc : PcS := nK [.int, .rows .pt] [0]
abbrev avl (F0 : T15 α) (G2 : T72 α) : Nat → Ctx α := ctxS false M eqs jt0 [⟨68, S11, F0⟩] [lpT 2 aqr aqc R5 G2]
theorem aAe (F0 : T15 α) (G2 : T72 α) (n : Nat) : GenL (α := α) Tryz.prog Tryz.f110 S45 (avl F0 G2 n) 2 aqr aqc n G2 (fun k => aar F0 (G2 k) k) := by intro _ _ _ _; kernel_rfl
theorem aCx (F0 : T15 α) (G2 : T72 α) (n : Nat) : GenF (α := α) Tryz.prog Tryz.f110 S45 (avl F0 G2 n) n (adT G2) := by intro _ _; kernel_rfl
theorem ajj : ∀ n, aW (α := α) Tryz.prog 110 (aQ S45.sh (bK S45 CV n)) := aJ Tryz.func110 (by kernel_rfl) (by kernel_rfl) (by kernel_rfl) aj (fun n => aCx Dk Gy n) rfl (allC ahN allN) (allC (iq (by kernel_rfl) (fun n => (Gy.eq_2 ..).symm) (fun n => aAe Dk Gy n)) allN)
def arw : Tpl := ⟨(.sl 0 :: (.any :: (.any :: (.any :: (.int .i64 :: (.sl 832 :: (.int .i64 :: (.int .i64 :: (.sl 1472 :: (.int .i64 :: (anyN 60 []))))))))))), [(0, .rows 0 35 .pt), (832, .rows 2 35 .pt), (1472, .rows 2 35 .pt)], [], false⟩
def aru : PcS := nK [.int, .int, .int, .int, .rows .pt, .rows .pt, .rows .pt] [4]
def awh : Tpl := ⟨(.sl 0 :: (.any :: (.any :: (.any :: (.int .i64 :: (.sl 832 :: (.int .i64 :: (.int .i64 :: (anyN 62 []))))))))), [(0, .rows 0 35 .pt), (832, .rows 2 35 .pt)], [(5, 832, 35, .pt)], false⟩
def atH : PcS := nK [.int, .int, .int, .rows .pt, .rows .pt] [2]
def asR : Tpl := ⟨(.sl 0 :: (.any :: (.any :: (.any :: (.int .i64 :: (.sl 832 :: (.int .i64 :: (anyN 63 [])))))))), [(0, .rows 0 35 .pt), (832, .rows 2 35 .pt)], [], false⟩
def auI : PcS := nK [.int, .int, .rows .pt, .rows .pt] [0]
abbrev anB (F0 : T12 α) (F1 : T71 α) (F2 : T28 α) (G10 : T73 α) (G6 : T74 α) (G3 : T75 α) : Nat → Ctx α := ctxS false M eqs jt0 [⟨108, S8, F0⟩, ⟨109, S73, F1⟩, ⟨110, S45, F2⟩] [lpT 10 arw aru R20 G10, lpT 6 awh atH R20 G6, lpT 3 asR auI R20 G3]
theorem aAd (F0 : T12 α) (F1 : T71 α) (F2 : T28 α) (G10 : T73 α) (G6 : T74 α) (G3 : T75 α) (n : Nat) : GenL (α := α) Tryz.prog Tryz.f60 S74 (anB F0 F1 F2 G10 G6 G3 n) 10 arw aru n G10 (fun k => UY (G10 k) k) := by intro _ _ _ _ _ _ _ _ _; kernel_rfl
theorem aAC (F0 : T12 α) (F1 : T71 α) (F2 : T28 α) (G10 : T73 α) (G6 : T74 α) (G3 : T75 α) (n : Nat) : GenL (α := α) Tryz.prog Tryz.f60 S74 (anB F0 F1 F2 G10 G6 G3 n) 6 awh atH n G6 (fun k => Oz F0 F1 G10 (G6 k) k) := by intro _ _ _ _ _ _ _; kernel_rfl
theorem aCQ (F0 : T12 α) (F1 : T71 α) (F2 : T28 α) (G10 : T73 α) (G6 : T74 α) (G3 : T75 α) (n : Nat) : GenL (α := α) Tryz.prog Tryz.f60 S74 (anB F0 F1 F2 G10 G6 G3 n) 3 asR auI n G3 (fun k => PX G6 (G3 k) k) := by intro _ _ _ _ _ _; kernel_rfl
theorem aFd (F0 : T12 α) (F1 : T71 α) (F2 : T28 α) (G10 : T73 α) (G6 : T74 α) (G3 : T75 α) (n : Nat) : GenF (α := α) Tryz.prog Tryz.f60 S74 (anB F0 F1 F2 G10 G6 G3 n) n (acY F2 G3) := by intro _ _; kernel_rfl
theorem akk : ∀ n, aW (α := α) Tryz.prog 60 (aQ S74.sh (bK S74 AQ n)) := aJ Tryz.func60 (by kernel_rfl) (by kernel_rfl) (by kernel_rfl) aj (fun n => aFd IV PW CV wQ tX xK n) rfl (allC ath (allC atU (allC ajj allN))) (allC (iq (by kernel_rfl) (fun n => (wQ.eq_2 ..).symm) (fun n => aAd IV PW CV wQ tX xK n)) (allC (iq (by kernel_rfl) (fun n => (tX.eq_2 ..).symm) (fun n => aAC IV PW CV wQ tX xK n)) (allC (iq (by kernel_rfl) (fun n => (xK.eq_2 ..).symm) (fun n => aCQ IV PW CV wQ tX xK n)) allN)))
abbrev aEk (F0 : T28 α) (F1 : T76 α) : Nat → Ctx α := ctxS false M eqs jt0 [⟨36, S31, F0⟩, ⟨60, S74, F1⟩] []
theorem aFX (F0 : T28 α) (F1 : T76 α) (n : Nat) : GenF (α := α) Tryz.prog Tryz.f22 S15 (aEk F0 F1 n) n (aam F0 F1) := by intro _ _; kernel_rfl
theorem axN : ∀ n, aW (α := α) Tryz.prog 22 (aQ S15.sh (bK S15 eQ n)) := aJ Tryz.func22 (by kernel_rfl) (by kernel_rfl) (by kernel_rfl) aj (fun n => aFX tZ AQ n) rfl (allC ah4 (allC akk allN)) allN
def av2 : Tpl := ⟨(.ptr 0 0 0 :: (.any :: (.ptr 128 0 0 :: (.ptr 192 0 0 :: (.int .i64 :: (anyN 37 [])))))), [(0, .mix 1 80 [.sl 1, .int .i64, .int .u64]), (128, .ints 2 38 .i64 4), (192, .ints 2 38 .i64 4), (1, .rows 0 5 (.int .u8))], [], false⟩
def avF : PcS := nK [.int, .int, .int, .int, .int, .int, .int, .int, .int, .int, .int, .rows (.int .u8)] [0]
abbrev ay0 (F0 : T3 α) (F1 : T68 α) (G3 : T77 α) : Nat → Ctx α := ctxS false M eqs jt0 [⟨61, S2, F0⟩, ⟨115, S72, F1⟩] [lpT 3 av2 avF R21 G3]
theorem aCL (F0 : T3 α) (F1 : T68 α) (G3 : T77 α) (n : Nat) : GenL (α := α) Tryz.prog Tryz.f63 S75 (ay0 F0 F1 G3 n) 3 av2 avF n G3 (fun k => CJ F0 F1 (G3 k) k) := by intro _ _ _ _ _ _ _ _ _ _ _ _ _ _ _ _ _; kernel_rfl
theorem aDV (F0 : T3 α) (F1 : T68 α) (G3 : T77 α) (n : Nat) : GenF (α := α) Tryz.prog Tryz.f63 S75 (ay0 F0 F1 G3 n) n (abE F0 G3) := by intro _ _ _ _; kernel_rfl
theorem aw0 : ∀ n, aW (α := α) Tryz.prog 63 (aQ S75.sh (bK S75 TY n)) := aJ Tryz.func63 (by kernel_rfl) (by kernel_rfl) (by kernel_rfl) aj (fun n => aDV kK IX sQ n) rfl (allC Xk (allC ane allN)) (allC (iq (by kernel_rfl) (fun n => (sQ.eq_2 ..).symm) (fun n => aCL kK IX sQ n)) allN)
abbrev aAt (F0 : T14 α) : Nat → Ctx α := ctxS false M eqs jt0 [⟨116, S10, F0⟩] []
theorem aDa (F0 : T14 α) (n : Nat) : GenF (α := α) Tryz.prog Tryz.f111 S55 (aAt F0 n) n (acS F0) := by intro _ _ _ _ _; kernel_rfl
theorem auc : ∀ n, aW (α := α) Tryz.prog 111 (aQ S55.sh (bK S55 SK n)) := aJ Tryz.func111 (by kernel_rfl) (by kernel_rfl) (by kernel_rfl) aj (fun n => aDa UZ n) rfl (allC am3 allN) allN
abbrev aDA : Nat → Ctx α := ctxS false M eqs jt0 [] []
theorem aCT (n : Nat) : GenF (α := α) Tryz.prog Tryz.f134 S56 (aDA n) n (adK) := by intro _ _ _ _ _; kernel_rfl
theorem auM : ∀ n, aW (α := α) Tryz.prog 134 (aQ S56.sh (bK S56 acv n)) := aJ Tryz.func134 (by kernel_rfl) (by kernel_rfl) (by kernel_rfl) aj (fun n => aCT n) rfl allN allN
abbrev aBN (F0 : T8 α) : Nat → Ctx α := ctxS false M eqs jt0 [⟨134, S56, F0⟩] []
theorem aAP (F0 : T8 α) (n : Nat) : GenF (α := α) Tryz.prog Tryz.f112 S55 (aBN F0 n) n (adW F0) := by intro _ _ _ _ _; kernel_rfl
theorem avX : ∀ n, aW (α := α) Tryz.prog 112 (aQ S55.sh (bK S55 Zq n)) := aJ Tryz.func112 (by kernel_rfl) (by kernel_rfl) (by kernel_rfl) aj (fun n => aAP acv n) rfl (allC auM allN) allN
def asO : Tpl := ⟨(.any :: (.sl 64 :: (.any :: (.ptr 192 0 0 :: (.any :: (.ptr 320 0 0 :: (.any :: (.any :: (.sl 1856 :: (.int .i64 :: (anyN 50 []))))))))))), [(64, .rows 0 35 .pt), (192, .ints 2 38 .i64 4), (320, .ints 2 35 .i64 2), (1856, .rows 2 35 .pt)], [], false⟩
def avd : PcS := nK [.int, .rows .pt, .int, .int, .int, .int, .int, .int, .rows .pt] [1]
abbrev ayN (F0 : T6 α) (F1 : T19 α) (F2 : T15 α) (F3 : T6 α) (F4 : T53 α) (F5 : T7 α) (F6 : T13 α) (F7 : T12 α) (G7 : T79 α) : Nat → Ctx α := ctxS false M eqs jt0 [⟨111, S55, F0⟩, ⟨43, S14, F1⟩, ⟨68, S11, F2⟩, ⟨112, S55, F3⟩, ⟨113, S57, F4⟩, ⟨87, S6, F5⟩, ⟨71, S9, F6⟩, ⟨114, S8, F7⟩] [lpT 7 asO avd R7 G7]
theorem aB7 (F0 : T6 α) (F1 : T19 α) (F2 : T15 α) (F3 : T6 α) (F4 : T53 α) (F5 : T7 α) (F6 : T13 α) (F7 : T12 α) (G7 : T79 α) (n : Nat) : GenL (α := α) Tryz.prog Tryz.f62 S60 (ayN F0 F1 F2 F3 F4 F5 F6 F7 G7 n) 7 asO avd n G7 (fun k => Uw F4 F5 F6 (G7 k) k) := by intro _ _ _ _ _ _ _ _ _ _ _; kernel_rfl
theorem aDJ (F0 : T6 α) (F1 : T19 α) (F2 : T15 α) (F3 : T6 α) (F4 : T53 α) (F5 : T7 α) (F6 : T13 α) (F7 : T12 α) (G7 : T79 α) (n : Nat) : GenF (α := α) Tryz.prog Tryz.f62 S60 (ayN F0 F1 F2 F3 F4 F5 F6 F7 G7 n) n (aci F0 F1 F2 F3 F7 G7) := by intro _ _ _ _ _ _ _ _; kernel_rfl
theorem awC : ∀ n, aW (α := α) Tryz.prog 62 (aQ S60.sh (bK S60 KY n)) := aJ Tryz.func62 (by kernel_rfl) (by kernel_rfl) (by kernel_rfl) aj (fun n => aDJ SK uK Dk Zq zk jy FX Ey BX n) rfl (allC auc (allC abD (allC ahN (allC avX (allC amu (allC ad4 (allC ahE (allC amx allN)))))))) (allC (iq (by kernel_rfl) (fun n => (BX.eq_2 ..).symm) (fun n => aB7 SK uK Dk Zq zk jy FX Ey BX n)) allN)
abbrev aFn (F0 : T2 α) (F1 : T24 α) (F2 : T19 α) (F3 : T3 α) (F4 : T78 α) (F5 : T5 α) (F6 : T57 α) : Nat → Ctx α := ctxS false M eqs jt0 [⟨34, S1, F0⟩, ⟨33, S19, F1⟩, ⟨43, S14, F2⟩, ⟨61, S2, F3⟩, ⟨63, S75, F4⟩, ⟨64, S4, F5⟩, ⟨62, S60, F6⟩] []
theorem aE6 (F0 : T2 α) (F1 : T24 α) (F2 : T19 α) (F3 : T3 α) (F4 : T78 α) (F5 : T5 α) (F6 : T57 α) (n : Nat) : GenF (α := α) Tryz.prog Tryz.f23 S76 (aFn F0 F1 F2 F3 F4 F5 F6 n) n (QX F0 F1 F2 F3 F4 F5 F6) := by intro _ _; kernel_rfl
theorem awO : ∀ n, aW (α := α) Tryz.prog 23 (aQ S76.sh (bK S76 aZ n)) := aJ Tryz.func23 (by kernel_rfl) (by kernel_rfl) (by kernel_rfl) aj (fun n => aE6 sV vX uK kK TY pW KY n) rfl (allC acZ (allC adV (allC abD (allC Xk (allC aw0 (allC ahW (allC awC allN))))))) allN
abbrev aCd : Nat → Ctx α := ctxS false M eqs jt0 [] []
theorem aDn (n : Nat) : GenF (α := α) Tryz.prog Tryz.f43 S63 (aCd n) n (agw) := by intro _; kernel_rfl
theorem atp : ∀ n, aW (α := α) Tryz.prog 43 (aQ S63.sh (bK S63 ae7 n)) := aJ Tryz.func43 (by kernel_rfl) (by kernel_rfl) (by kernel_rfl) aj (fun n => aDn n) rfl allN allN
abbrev aA2 (F0 : T19 α) (F1 : T42 α) : Nat → Ctx α := ctxS false M eqs jt0 [⟨43, S14, F0⟩, ⟨43, S63, F1⟩] []
theorem aCr (F0 : T19 α) (F1 : T42 α) (n : Nat) : GenF (α := α) Tryz.prog Tryz.f36 S77 (aA2 F0 F1 n) n (adP F0 F1) := by intro _ _; kernel_rfl
theorem avg : ∀ n, aW (α := α) Tryz.prog 36 (aQ S77.sh (bK S77 Yq n)) := aJ Tryz.func36 (by kernel_rfl) (by kernel_rfl) (by kernel_rfl) aj (fun n => aCr uK ae7 n) rfl (allC abD (allC atp allN)) allN
abbrev aC1 (F0 : T28 α) : Nat → Ctx α := ctxS false M eqs jt0 [⟨110, S45, F0⟩] []
theorem aDx (F0 : T28 α) (n : Nat) : GenF (α := α) Tryz.prog Tryz.f60 S78 (aC1 F0 n) n (adQ F0) := by intro _; kernel_rfl
theorem auJ : ∀ n, aW (α := α) Tryz.prog 60 (aQ S78.sh (bK S78 YX n)) := aJ Tryz.func60 (by kernel_rfl) (by kernel_rfl) (by kernel_rfl) aj (fun n => aDx CV n) rfl (allC ajj allN) allN
def aql : Tpl := ⟨(anyN 7 (.sl 1408 :: (.any :: (.sl 1728 :: (.any :: (.bool :: (.int .i64 :: (anyN 47 [])))))))), [(1408, .rows 2 35 .pt), (1728, .rows 2 35 .pt)], [], false⟩
def aqO : PcS := nK [.bool, .int, .rows .pt, .rows .pt] [0]
abbrev ayV (F0 : T28 α) (F1 : T76 α) (F2 : T81 α) (G10 : T82 α) : Nat → Ctx α := ctxS false M eqs jt0 [⟨36, S77, F0⟩, ⟨60, S74, F1⟩, ⟨60, S78, F2⟩] [lpT 10 aql aqO R18 G10]
theorem azb (F0 : T28 α) (F1 : T76 α) (F2 : T81 α) (G10 : T82 α) (n : Nat) : GenL (α := α) Tryz.prog Tryz.f24 S71 (ayV F0 F1 F2 G10 n) 10 aql aqO n G10 (fun k => Zy (G10 k) k) := by intro _ _ _ _ _ _; kernel_rfl
theorem aFU (F0 : T28 α) (F1 : T76 α) (F2 : T81 α) (G10 : T82 α) (n : Nat) : GenF (α := α) Tryz.prog Tryz.f24 S71 (ayV F0 F1 F2 G10 n) n (aa8 F0 F1 F2 G10) := by intro _ _; kernel_rfl
theorem aws : ∀ n, aW (α := α) Tryz.prog 24 (aQ S71.sh (bK S71 bW n)) := aJ Tryz.func24 (by kernel_rfl) (by kernel_rfl) (by kernel_rfl) aj (fun n => aFU Yq AQ YX Ak n) rfl (allC avg (allC akk (allC auJ allN))) (allC (iq (by kernel_rfl) (fun n => (Ak.eq_2 ..).symm) (fun n => azb Yq AQ YX Ak n)) allN)
def as7 : Tpl := ⟨(.any :: (.any :: (.any :: (.ptr 512 0 0 :: (.sl 576 :: (.int .i64 :: (.int .i64 :: (anyN 33 [])))))))), [(512, .mix 2 80 [.sl 0, .int .i64, .int .u64]), (576, .rows 2 35 .pt), (0, .rows 0 5 (.int .u8))], [], false⟩
def aua : PcS := nK [.int, .int, .int, .int, .rows .pt, .rows (.int .u8)] [0]
abbrev ay7 (F0 : T2 α) (F1 : T4 α) (F2 : T3 α) (F3 : T5 α) (G4 : T83 α) : Nat → Ctx α := ctxS false M eqs jt0 [⟨34, S1, F0⟩, ⟨65, S3, F1⟩, ⟨61, S2, F2⟩, ⟨64, S4, F3⟩] [lpT 4 as7 aua R6 G4]
theorem aA5 (F0 : T2 α) (F1 : T4 α) (F2 : T3 α) (F3 : T5 α) (G4 : T83 α) (n : Nat) : GenL (α := α) Tryz.prog Tryz.f25 S20 (ay7 F0 F1 F2 F3 G4 n) 4 as7 aua n G4 (fun k => UV F3 (G4 k) k) := by intro _ _ _ _ _ _ _ _; kernel_rfl
theorem aEM (F0 : T2 α) (F1 : T4 α) (F2 : T3 α) (F3 : T5 α) (G4 : T83 α) (n : Nat) : GenF (α := α) Tryz.prog Tryz.f25 S20 (ay7 F0 F1 F2 F3 G4 n) n (ack F0 F1 F2 G4) := by intro _ _; kernel_rfl
theorem ayb : ∀ n, aW (α := α) Tryz.prog 25 (aQ S20.sh (bK S20 gV n)) := aJ Tryz.func25 (by kernel_rfl) (by kernel_rfl) (by kernel_rfl) aj (fun n => aEM sV sW kK pW BZ n) rfl (allC acZ (allC acT (allC Xk (allC ahW allN)))) (allC (iq (by kernel_rfl) (fun n => (BZ.eq_2 ..).symm) (fun n => aA5 sV sW kK pW BZ n)) allN)
abbrev aGF (F0 : T28 α) : Nat → Ctx α := ctxS false M eqs jt0 [⟨110, S45, F0⟩] []
theorem aGe (F0 : T28 α) (n : Nat) : GenF (α := α) Tryz.prog Tryz.f66 S45 (aGF F0 n) n (acU F0) := by intro _ _; kernel_rfl
theorem ayq : ∀ n, aW (α := α) Tryz.prog 66 (aQ S45.sh (bK S45 ab4 n)) := aJ Tryz.func66 (by kernel_rfl) (by kernel_rfl) (by kernel_rfl) aj (fun n => aGe CV n) rfl (allC ajj allN) allN
abbrev aD8 (F0 : T28 α) (F1 : T20 α) : Nat → Ctx α := ctxS false M eqs jt0 [⟨66, S45, F0⟩, ⟨67, S15, F1⟩] []
theorem aEh (F0 : T28 α) (F1 : T20 α) (n : Nat) : GenF (α := α) Tryz.prog Tryz.f26 S15 (aD8 F0 F1 n) n (ae1 F0 F1) := by intro _ _; kernel_rfl
theorem axD : ∀ n, aW (α := α) Tryz.prog 26 (aQ S15.sh (bK S15 iY n)) := aJ Tryz.func26 (by kernel_rfl) (by kernel_rfl) (by kernel_rfl) aj (fun n => aEh ab4 vW n) rfl (allC ayq (allC anO allN)) allN
abbrev aDX (F0 : T2 α) (F1 : T24 α) (F2 : T4 α) (F3 : T5 α) (F4 : T3 α) : Nat → Ctx α := ctxS false M eqs jt0 [⟨34, S1, F0⟩, ⟨33, S19, F1⟩, ⟨65, S3, F2⟩, ⟨64, S4, F3⟩, ⟨61, S2, F4⟩] []
theorem aFw (F0 : T2 α) (F1 : T24 α) (F2 : T4 α) (F3 : T5 α) (F4 : T3 α) (n : Nat) : GenF (α := α) Tryz.prog Tryz.f27 S79 (aDX F0 F1 F2 F3 F4 n) n (RY F0 F1 F2 F3 F4) := by intro _ _; kernel_rfl
theorem aw9 : ∀ n, aW (α := α) Tryz.prog 27 (aQ S79.sh (bK S79 aY n)) := aJ Tryz.func27 (by kernel_rfl) (by kernel_rfl) (by kernel_rfl) aj (fun n => aFw sV vX sW pW kK n) rfl (allC acZ (allC adV (allC acT (allC ahW (allC Xk allN))))) allN
def av8 : Tpl := ⟨(.sl 0 :: (.any :: (.any :: (.ptr 192 0 0 :: (.any :: (.int .i64 :: (.int .i64 :: (anyN 33 [])))))))), [(0, .rows 0 35 .pt), (192, .ints 2 35 .i64 2)], [], false⟩
def atg : PcS := nK [.int, .int, .rows .pt, .int, .int] [0]
abbrev ayv (F0 : T7 α) (F1 : T8 α) (G3 : T37 α) : Nat → Ctx α := ctxS false M eqs jt0 [⟨87, S6, F0⟩, ⟨117, S7, F1⟩] [lpT 3 av8 atg R5 G3]
theorem aAD (F0 : T7 α) (F1 : T8 α) (G3 : T37 α) (n : Nat) : GenL (α := α) Tryz.prog Tryz.f69 S28 (ayv F0 F1 G3 n) 3 av8 atg n G3 (fun k => Yz F0 F1 (G3 k) k) := by intro _ _ _ _ _ _ _; kernel_rfl
theorem aEE (F0 : T7 α) (F1 : T8 α) (G3 : T37 α) (n : Nat) : GenF (α := α) Tryz.prog Tryz.f69 S28 (ayv F0 F1 G3 n) n (adF G3) := by intro _ _ _ _; kernel_rfl
theorem ax4 : ∀ n, aW (α := α) Tryz.prog 69 (aQ S28.sh (bK S28 acz n)) := aJ Tryz.func69 (by kernel_rfl) (by kernel_rfl) (by kernel_rfl) aj (fun n => aEE jy uQ EK n) rfl (allC ad4 (allC agC allN)) (allC (iq (by kernel_rfl) (fun n => (EK.eq_2 ..).symm) (fun n => aAD jy uQ EK n)) allN)
abbrev aE7 (F0 : T19 α) (F1 : T15 α) (F2 : T38 α) : Nat → Ctx α := ctxS false M eqs jt0 [⟨43, S14, F0⟩, ⟨68, S11, F1⟩, ⟨69, S28, F2⟩] []
theorem aFV (F0 : T19 α) (F1 : T15 α) (F2 : T38 α) (n : Nat) : GenF (α := α) Tryz.prog Tryz.f28 S54 (aE7 F0 F1 F2 n) n (aaf F0 F1 F2) := by intro _ _ _ _; kernel_rfl
theorem axX : ∀ n, aW (α := α) Tryz.prog 28 (aQ S54.sh (bK S54 dV n)) := aJ Tryz.func28 (by kernel_rfl) (by kernel_rfl) (by kernel_rfl) aj (fun n => aFV uK Dk acz n) rfl (allC abD (allC ahN (allC ax4 allN))) allN
abbrev aGZ (F0 : T3 α) (F1 : T4 α) : Nat → Ctx α := ctxS false M eqs jt0 [⟨61, S2, F0⟩, ⟨65, S3, F1⟩] []
theorem aEn (F0 : T3 α) (F1 : T4 α) (n : Nat) : GenF (α := α) Tryz.prog Tryz.f70 S2 (aGZ F0 F1 n) n (acd F0 F1) := by intro _ _ _ _ _; kernel_rfl
theorem axT : ∀ n, aW (α := α) Tryz.prog 70 (aQ S2.sh (bK S2 ZZ n)) := aJ Tryz.func70 (by kernel_rfl) (by kernel_rfl) (by kernel_rfl) aj (fun n => aEn kK sW n) rfl (allC Xk (allC acT allN)) allN
abbrev aEB (F0 : T2 α) (F1 : T24 α) (F2 : T4 α) (F3 : T3 α) : Nat → Ctx α := ctxS false M eqs jt0 [⟨34, S1, F0⟩, ⟨33, S19, F1⟩, ⟨65, S3, F2⟩, ⟨70, S2, F3⟩] []
theorem aER (F0 : T2 α) (F1 : T24 α) (F2 : T4 α) (F3 : T3 α) (n : Nat) : GenF (α := α) Tryz.prog Tryz.f29 S80 (aEB F0 F1 F2 F3 n) n (QK F0 F1 F2 F3) := by intro _ _; kernel_rfl
theorem awy : ∀ n, aW (α := α) Tryz.prog 29 (aQ S80.sh (bK S80 aV n)) := aJ Tryz.func29 (by kernel_rfl) (by kernel_rfl) (by kernel_rfl) aj (fun n => aER sV vX sW ZZ n) rfl (allC acZ (allC adV (allC acT (allC axT allN)))) allN
def asY : Tpl := ⟨(.sl 0 :: (.any :: (.any :: (.int .i64 :: (.int .i64 :: (anyN 22 [])))))), [(0, .rows 0 35 .pt)], [], false⟩
def avL : PcS := nK [.int, .int, .rows .pt] [0]
abbrev ayw (F0 : T8 α) (G3 : T27 α) : Nat → Ctx α := ctxS false M eqs jt0 [⟨117, S7, F0⟩] [lpT 3 asY avL R5 G3]
theorem aC8 (F0 : T8 α) (G3 : T27 α) (n : Nat) : GenL (α := α) Tryz.prog Tryz.f72 S45 (ayw F0 G3 n) 3 asY avL n G3 (fun k => aaK F0 (G3 k) k) := by intro _ _ _ _ _; kernel_rfl
theorem aFq (F0 : T8 α) (G3 : T27 α) (n : Nat) : GenF (α := α) Tryz.prog Tryz.f72 S45 (ayw F0 G3 n) n (ahw G3) := by intro _ _; kernel_rfl
theorem ao4 : ∀ n, aW (α := α) Tryz.prog 72 (aQ S45.sh (bK S45 ZW n)) := aJ Tryz.func72 (by kernel_rfl) (by kernel_rfl) (by kernel_rfl) aj (fun n => aFq uQ Gq n) rfl (allC agC allN) (allC (iq (by kernel_rfl) (fun n => (Gq.eq_2 ..).symm) (fun n => aC8 uQ Gq n)) allN)
abbrev aCe (F0 : T17 α) : Nat → Ctx α := ctxS false M eqs jt0 [⟨136, S25, F0⟩] []
theorem aDj (F0 : T17 α) (n : Nat) : GenF (α := α) Tryz.prog Tryz.f118 S7 (aCe F0 n) n (acK F0) := by intro _ _ _ _ _; kernel_rfl
theorem auP : ∀ n, aW (α := α) Tryz.prog 118 (aQ S7.sh (bK S7 ZK n)) := aJ Tryz.func118 (by kernel_rfl) (by kernel_rfl) (by kernel_rfl) aj (fun n => aDj YY n) rfl (allC amV allN) allN
def au5 : Tpl := ⟨(.sl 0 :: (.any :: (.any :: (.int .i64 :: (.int .i64 :: (anyN 22 [])))))), [(0, .rows 0 35 .pt)], [], false⟩
def avj : PcS := nK [.int, .int, .rows .pt] [0]
abbrev ayK (F0 : T8 α) (G3 : T27 α) : Nat → Ctx α := ctxS false M eqs jt0 [⟨118, S7, F0⟩] [lpT 3 au5 avj R5 G3]
theorem aC5 (F0 : T8 α) (G3 : T27 α) (n : Nat) : GenL (α := α) Tryz.prog Tryz.f73 S45 (ayK F0 G3 n) 3 au5 avj n G3 (fun k => XV F0 (G3 k) k) := by intro _ _ _ _ _; kernel_rfl
theorem aFM (F0 : T8 α) (G3 : T27 α) (n : Nat) : GenF (α := α) Tryz.prog Tryz.f73 S45 (ayK F0 G3 n) n (agt G3) := by intro _ _; kernel_rfl
theorem apB : ∀ n, aW (α := α) Tryz.prog 73 (aQ S45.sh (bK S45 SY n)) := aJ Tryz.func73 (by kernel_rfl) (by kernel_rfl) (by kernel_rfl) aj (fun n => aFM ZK DW n) rfl (allC auP allN) (allC (iq (by kernel_rfl) (fun n => (DW.eq_2 ..).symm) (fun n => aC5 ZK DW n)) allN)
abbrev aEt (F0 : T28 α) (F1 : T13 α) (F2 : T28 α) (F3 : T28 α) : Nat → Ctx α := ctxS false M eqs jt0 [⟨36, S31, F0⟩, ⟨71, S9, F1⟩, ⟨72, S45, F2⟩, ⟨73, S45, F3⟩] []
theorem aD5 (F0 : T28 α) (F1 : T13 α) (F2 : T28 α) (F3 : T28 α) (n : Nat) : GenF (α := α) Tryz.prog Tryz.f30 S52 (aEt F0 F1 F2 F3 n) n (YJ F0 F1 F2 F3) := by intro _ _ _; kernel_rfl
theorem aw8 : ∀ n, aW (α := α) Tryz.prog 30 (aQ S52.sh (bK S52 dQ n)) := aJ Tryz.func30 (by kernel_rfl) (by kernel_rfl) (by kernel_rfl) aj (fun n => aD5 tZ FX ZW SY n) rfl (allC ah4 (allC ahE (allC ao4 (allC apB allN)))) allN
abbrev aFf (F0 : T2 α) (F1 : T24 α) : Nat → Ctx α := ctxS false M eqs jt0 [⟨34, S1, F0⟩, ⟨33, S19, F1⟩] []
theorem aDM (F0 : T2 α) (F1 : T24 α) (n : Nat) : GenF (α := α) Tryz.prog Tryz.f31 S20 (aFf F0 F1 n) n (acu F0 F1) := by intro _ _; kernel_rfl
theorem awH : ∀ n, aW (α := α) Tryz.prog 31 (aQ S20.sh (bK S20 dZ n)) := aJ Tryz.func31 (by kernel_rfl) (by kernel_rfl) (by kernel_rfl) aj (fun n => aDM sV vX n) rfl (allC acZ (allC adV allN)) allN
abbrev aEP (F0 : T28 α) (F1 : T28 α) : Nat → Ctx α := ctxS false M eqs jt0 [⟨72, S45, F0⟩, ⟨73, S45, F1⟩] []
theorem aFp (F0 : T28 α) (F1 : T28 α) (n : Nat) : GenF (α := α) Tryz.prog Tryz.f74 S45 (aEP F0 F1 n) n (adl F0 F1) := by intro _ _; kernel_rfl
theorem axk : ∀ n, aW (α := α) Tryz.prog 74 (aQ S45.sh (bK S45 acB n)) := aJ Tryz.func74 (by kernel_rfl) (by kernel_rfl) (by kernel_rfl) aj (fun n => aFp ZW SY n) rfl (allC ao4 (allC apB allN)) allN
abbrev aFo (F0 : T28 α) (F1 : T28 α) : Nat → Ctx α := ctxS false M eqs jt0 [⟨36, S31, F0⟩, ⟨74, S45, F1⟩] []
theorem aGD (F0 : T28 α) (F1 : T28 α) (n : Nat) : GenF (α := α) Tryz.prog Tryz.f32 S47 (aFo F0 F1 n) n (aby F0 F1) := by intro _ _; kernel_rfl
theorem axZ : ∀ n, aW (α := α) Tryz.prog 32 (aQ S47.sh (bK S47 gZ n)) := aJ Tryz.func32 (by kernel_rfl) (by kernel_rfl) (by kernel_rfl) aj (fun n => aGD tZ acB n) rfl (allC ah4 (allC axk allN)) allN
abbrev aEF : Nat → Ctx α := ctxS false M eqs jt0 [] []
theorem aFY (n : Nat) : GenF (α := α) Tryz.prog Tryz.f8 S81 (aEF n) n (aff) := by intro _ _; kernel_rfl
theorem ax3 : ∀ n, aW (α := α) Tryz.prog 8 (aQ S81.sh (bK S81 gq n)) := aJ Tryz.func8 (by kernel_rfl) (by kernel_rfl) (by kernel_rfl) aj (fun n => aFY n) rfl allN allN
def auW : Tpl := ⟨(.sl 0 :: (.nilsl :: (.any :: (.any :: (.any :: (.int .i64 :: (anyN 20 []))))))), [(0, .rows 0 35 .pt)], [], false⟩
def aul : PcS := nK [.int, .rows .pt] [0]
abbrev ay2 (G4 : T86 α) : Nat → Ctx α := ctxS false M eqs jt0 [] [lpT 4 auW aul R0 G4]
theorem aAR (G4 : T86 α) (n : Nat) : GenL (α := α) Tryz.prog Tryz.f8 S70 (ay2 G4 n) 4 auW aul n G4 (fun k => adM k) := by intro _ _ _ _; kernel_rfl
theorem aEC (G4 : T86 α) (n : Nat) : GenF (α := α) Tryz.prog Tryz.f8 S70 (ay2 G4 n) n (afh G4) := by intro _ _; kernel_rfl
theorem ayi : ∀ n, aW (α := α) Tryz.prog 8 (aQ S70.sh (bK S70 gK n)) := aJ Tryz.func8 (by kernel_rfl) (by kernel_rfl) (by kernel_rfl) aj (fun n => aEC Wx n) rfl allN (allC (iq (by kernel_rfl) (fun n => (Wx.eq_2 ..).symm) (fun n => aAR Wx n)) allN)
def awk : Tpl := ⟨(.sl 0 :: (.sl 64 :: (.any :: (.any :: (.any :: (.int .i64 :: (anyN 20 []))))))), [(0, .rows 0 35 .pt), (64, .rows 0 35 .pt)], [], false⟩
def ati : PcS := nK [.int, .rows .pt, .rows .pt] [0]
abbrev ayu (G4 : T70 α) : Nat → Ctx α := ctxS false M eqs jt0 [] [lpT 4 awk ati R0 G4]
theorem aDE (G4 : T70 α) (n : Nat) : GenL (α := α) Tryz.prog Tryz.f8 S73 (ayu G4 n) 4 awk ati n G4 (fun k => aaJ (G4 k) k) := by intro _ _ _ _ _; kernel_rfl
theorem aEu (G4 : T70 α) (n : Nat) : GenF (α := α) Tryz.prog Tryz.f8 S73 (ayu G4 n) n (ad6 G4) := by intro _ _ _; kernel_rfl
theorem axl : ∀ n, aW (α := α) Tryz.prog 8 (aQ S73.sh (bK S73 gz n)) := aJ Tryz.func8 (by kernel_rfl) (by kernel_rfl) (by kernel_rfl) aj (fun n => aEu Gv n) rfl allN (allC (iq (by kernel_rfl) (fun n => (Gv.eq_2 ..).symm) (fun n => aDE Gv n)) allN)
abbrev aB9 : Nat → Ctx α := ctxS false M eqs jt0 [] []
theorem aCv (n : Nat) : GenF (α := α) Tryz.prog Tryz.f59 S81 (aB9 n) n (LK) := by intro _ _; kernel_rfl
theorem avV : ∀ n, aW (α := α) Tryz.prog 59 (aQ S81.sh (bK S81 EQ n)) := aJ Tryz.func59 (by kernel_rfl) (by kernel_rfl) (by kernel_rfl) aj (fun n => aCv n) rfl allN allN
def aqZ : Tpl := ⟨(.sl 0 :: (.sl 64 :: (anyN 10 (.int .i64 :: (.int .i64 :: (anyN 12 [])))))), [(0, .rows 0 35 .pt), (64, .rows 0 35 .pt)], [], false⟩
def arq : PcS := nK [.int, .int, .rows .pt, .rows .pt] [0]
abbrev atB (G4 : T87 α) : Nat → Ctx α := ctxS false M eqs jt0 [] [lpT 4 aqZ arq R0 G4]
theorem azJ (G4 : T87 α) (n : Nat) : GenL (α := α) Tryz.prog Tryz.f59 S73 (atB G4 n) 4 aqZ arq n G4 (fun k => xQ (G4 k) k) := by intro _ _ _ _ _ _; kernel_rfl
theorem aBS (G4 : T87 α) (n : Nat) : GenF (α := α) Tryz.prog Tryz.f59 S73 (atB G4 n) n (Ej G4) := by intro _ _ _; kernel_rfl
theorem awc : ∀ n, aW (α := α) Tryz.prog 59 (aQ S73.sh (bK S73 vK n)) := aJ Tryz.func59 (by kernel_rfl) (by kernel_rfl) (by kernel_rfl) aj (fun n => aBS lJ n) rfl allN (allC (iq (by kernel_rfl) (fun n => (lJ.eq_2 ..).symm) (fun n => azJ lJ n)) allN)
abbrev aAw (F0 : T19 α) (F1 : T20 α) (F2 : T42 α) (F3 : T19 α) (F4 : T19 α) (F5 : T71 α) : Nat → Ctx α := ctxS false M eqs jt0 [⟨9, S14, F0⟩, ⟨58, S15, F1⟩, ⟨59, S32, F2⟩, ⟨59, S81, F3⟩, ⟨59, S70, F4⟩, ⟨59, S73, F5⟩] []
theorem aDi (F0 : T19 α) (F1 : T20 α) (F2 : T42 α) (F3 : T19 α) (F4 : T19 α) (F5 : T71 α) (n : Nat) : GenF (α := α) Tryz.prog Tryz.f19 S82 (aAw F0 F1 F2 F3 F4 F5 n) n (OY F0 F1 F2 F3 F4 F5) := by intro _ _ _; kernel_rfl
theorem aut : ∀ n, aW (α := α) Tryz.prog 19 (aQ S82.sh (bK S82 ak n)) := aJ Tryz.func19 (by kernel_rfl) (by kernel_rfl) (by kernel_rfl) aj (fun n => aDi ay ww qx EQ tY vK n) rfl (allC VW (allC akd (allC an0 (allC avV (allC anl (allC awc allN)))))) allN
abbrev aDs (F0 : T19 α) : Nat → Ctx α := ctxS false M eqs jt0 [⟨43, S14, F0⟩] []
theorem aBH (F0 : T19 α) (n : Nat) : GenF (α := α) Tryz.prog Tryz.f36 S83 (aDs F0 n) n (abU F0) := by intro _ _ _; kernel_rfl
theorem aur : ∀ n, aW (α := α) Tryz.prog 36 (aQ S83.sh (bK S83 Tq n)) := aJ Tryz.func36 (by kernel_rfl) (by kernel_rfl) (by kernel_rfl) aj (fun n => aBH uK n) rfl (allC abD allN) allN
def aoD : Tpl := ⟨(anyN 7 (.sl 1408 :: (.any :: (.sl 1728 :: (.any :: (.bool :: (.int .i64 :: (anyN 47 [])))))))), [(1408, .rows 2 35 .pt), (1728, .rows 2 35 .pt)], [], false⟩
def aoM : PcS := nK [.bool, .int, .rows .pt, .rows .pt] [0]
abbrev atv (F0 : T64 α) (F1 : T76 α) (G10 : T82 α) : Nat → Ctx α := ctxS false M eqs jt0 [⟨36, S83, F0⟩, ⟨60, S74, F1⟩] [lpT 10 aoD aoM R18 G10]
theorem axQ (F0 : T64 α) (F1 : T76 α) (G10 : T82 α) (n : Nat) : GenL (α := α) Tryz.prog Tryz.f24 S82 (atv F0 F1 G10 n) 10 aoD aoM n G10 (fun k => zQ (G10 k) k) := by intro _ _ _ _ _ _; kernel_rfl
theorem aBm (F0 : T64 α) (F1 : T76 α) (G10 : T82 α) (n : Nat) : GenF (α := α) Tryz.prog Tryz.f24 S82 (atv F0 F1 G10 n) n (Xz F0 F1 G10) := by intro _ _ _; kernel_rfl
theorem auR : ∀ n, aW (α := α) Tryz.prog 24 (aQ S82.sh (bK S82 dJ n)) := aJ Tryz.func24 (by kernel_rfl) (by kernel_rfl) (by kernel_rfl) aj (fun n => aBm Tq AQ oq n) rfl (allC aur (allC akk allN)) (allC (iq (by kernel_rfl) (fun n => (oq.eq_2 ..).symm) (fun n => axQ Tq AQ oq n)) allN)
end Go.Proofs.YtbopdbpjmlmngaaGreat
