/- The program's functions hold to their readings without memory: printed by a program of ours. -/
import Derived.Test.YtiggcnbnidnaiaaSeLTop
namespace Go.Proofs.Ytiggcnbnidnaiaa
open Go Go.Ev Go.Sh Go.Proofs
variable {α : Type}
abbrev h4_x : Nat → Ctx α := ctxS o0 M eqs jt0 [] []
theorem h4_g (n : Nat) : GenF (α := α) Try.prog Try.f4 S0 (h4_x n) n (aeu) := by intro _ _; kernel_rfl
theorem am8 [Inhabited aQ] {α : Type} : ∀ n, az (α := α) Try.prog 4 (aZ S0.sh (bY S0 jZ n)) := aK Try.func4 (by kernel_rfl) (by kernel_rfl) (by kernel_rfl) bV (fun n => h4_g n) rfl allN allN
def akA : Tpl := ⟨(.sl 0 :: (.any :: (.any :: (.ptr 704 0 0 :: (.int .i64 :: (anyN 33 [])))))), [(0, .rows 0 5 (.int .u8)), (704, .mix 2 83 [.sl 0, .int .i64, .int .u64])], [], false⟩
def ajy : PcS := Cj [.int, .rows (.int .u8), .int, .int] [0]
abbrev amn (G3 : T1 α) : Nat → Ctx α := ctxS o0 M eqs jt0 [] [lpT 3 akA ajy R1 G3]
theorem an2 (G3 : T1 α) (n : Nat) : GenL (α := α) Try.prog Try.f20 S1 (amn G3 n) 3 akA ajy n G3 (fun k => EK (G3 k) k) := by intro _ _ _ _ _ _; kernel_rfl
theorem aoo (G3 : T1 α) (n : Nat) : GenF (α := α) Try.prog Try.f20 S1 (amn G3 n) n (abn G3) := by intro _ _; kernel_rfl
theorem alW [Inhabited aQ] {α : Type} : ∀ n, az (α := α) Try.prog 20 (aZ S1.sh (bY S1 SY n)) := aK Try.func20 (by kernel_rfl) (by kernel_rfl) (by kernel_rfl) bV (fun n => aoo qX n) rfl allN (allC (nY (by kernel_rfl) (fun n => (qX.eq_2 ..).symm) (fun n => an2 qX n)) allN)
abbrev aoX : Nat → Ctx α := ctxS o0 M eqs jt0 [] []
theorem apy (n : Nat) : GenF (α := α) Try.prog Try.f44 S2 (aoX n) n (abj) := by intro _ _ _ _ _; kernel_rfl
theorem aar [Inhabited aQ] {α : Type} : ∀ n, az (α := α) Try.prog 44 (aZ S2.sh (bY S2 lK n)) := aK Try.func44 (by kernel_rfl) (by kernel_rfl) (by kernel_rfl) bV (fun n => apy n) rfl allN allN
abbrev aoS (F0 : T3 α) : Nat → Ctx α := ctxS o0 M eqs jt0 [⟨44, S2, F0⟩] []
theorem aou (F0 : T3 α) (n : Nat) : GenF (α := α) Try.prog Try.f43 S3 (aoS F0 n) n (VZ F0) := by intro _ _ _ _ _; kernel_rfl
theorem ahk [Inhabited aQ] {α : Type} : ∀ n, az (α := α) Try.prog 43 (aZ S3.sh (bY S3 zZ n)) := aK Try.func43 (by kernel_rfl) (by kernel_rfl) (by kernel_rfl) bV (fun n => aou lK n) rfl (allC aar allN) allN
abbrev ap0 (F0 : T3 α) : Nat → Ctx α := ctxS o0 M eqs jt0 [⟨44, S2, F0⟩] []
theorem aqw (F0 : T3 α) (n : Nat) : GenF (α := α) Try.prog Try.f70 S4 (ap0 F0 n) n (Hz F0) := by intro _ _ _ _ _; kernel_rfl
theorem alU [Inhabited aQ] {α : Type} : ∀ n, az (α := α) Try.prog 70 (aZ S4.sh (bY S4 xZ n)) := aK Try.func70 (by kernel_rfl) (by kernel_rfl) (by kernel_rfl) bV (fun n => aqw lK n) rfl (allC aar allN) allN
def ajv : Tpl := ⟨(.int .i64 :: (.int .i64 :: (anyN 15 []))), [], [], false⟩
def ajY : PcS := Cj [.int, .int] [0]
abbrev amg (G1 : T6 α) : Nat → Ctx α := ctxS o0 M eqs jt0 [] [lpT 1 ajv ajY R4 G1]
theorem anD (G1 : T6 α) (n : Nat) : GenL (α := α) Try.prog Try.f52 S5 (amg G1 n) 1 ajv ajY n G1 (fun k => IX (G1 k) k) := by intro _ _ _ _; kernel_rfl
theorem apq (G1 : T6 α) (n : Nat) : GenF (α := α) Try.prog Try.f52 S5 (amg G1 n) n (Xz G1) := by intro _ _ _; kernel_rfl
theorem ag4 [Inhabited aQ] {α : Type} : ∀ n, az (α := α) Try.prog 52 (aZ S5.sh (bY S5 Bv n)) := aK Try.func52 (by kernel_rfl) (by kernel_rfl) (by kernel_rfl) bV (fun n => apq ry n) rfl allN (allC (nY (by kernel_rfl) (fun n => (ry.eq_2 ..).symm) (fun n => anD ry n)) allN)
abbrev apJ (F0 : T7 α) : Nat → Ctx α := ctxS o0 M eqs jt0 [⟨52, S5, F0⟩] []
theorem ao8 (F0 : T7 α) (n : Nat) : GenF (α := α) Try.prog Try.f71 S6 (apJ F0 n) n (Uw F0) := by intro _ _ _; kernel_rfl
theorem alu [Inhabited aQ] {α : Type} : ∀ n, az (α := α) Try.prog 71 (aZ S6.sh (bY S6 Iy n)) := aK Try.func71 (by kernel_rfl) (by kernel_rfl) (by kernel_rfl) bV (fun n => ao8 Bv n) rfl (allC ag4 allN) allN
abbrev apb (F0 : T5 α) (F1 : T8 α) : Nat → Ctx α := ctxS o0 M eqs jt0 [⟨70, S4, F0⟩, ⟨71, S6, F1⟩] []
theorem apC (F0 : T5 α) (F1 : T8 α) (n : Nat) : GenF (α := α) Try.prog Try.f62 S4 (apb F0 F1 n) n (uJ F0 F1) := by intro _ _ _ _ _; kernel_rfl
theorem akN [Inhabited aQ] {α : Type} : ∀ n, az (α := α) Try.prog 62 (aZ S4.sh (bY S4 oV n)) := aK Try.func62 (by kernel_rfl) (by kernel_rfl) (by kernel_rfl) bV (fun n => apC xZ Iy n) rfl (allC alU (allC alu allN)) allN
abbrev apE : Nat → Ctx α := ctxS o0 M eqs jt0 [] []
theorem aoW (n : Nat) : GenF (α := α) Try.prog Try.f53 S7 (apE n) n (Aj) := by intro _ _ _ _ _; kernel_rfl
theorem adF [Inhabited aQ] {α : Type} : ∀ n, az (α := α) Try.prog 53 (aZ S7.sh (bY S7 nV n)) := aK Try.func53 (by kernel_rfl) (by kernel_rfl) (by kernel_rfl) bV (fun n => aoW n) rfl allN allN
abbrev aqf (F0 : T5 α) (F1 : T9 α) (F2 : T3 α) : Nat → Ctx α := ctxS o0 M eqs jt0 [⟨62, S4, F0⟩, ⟨53, S7, F1⟩, ⟨44, S2, F2⟩] []
theorem aok (F0 : T5 α) (F1 : T9 α) (F2 : T3 α) (n : Nat) : GenF (α := α) Try.prog Try.f42 S8 (aqf F0 F1 F2 n) n (Pv F0 F1 F2) := by intro _ _ _ _ _; kernel_rfl
theorem alh [Inhabited aQ] {α : Type} : ∀ n, az (α := α) Try.prog 42 (aZ S8.sh (bY S8 Dz n)) := aK Try.func42 (by kernel_rfl) (by kernel_rfl) (by kernel_rfl) bV (fun n => aok oV nV lK n) rfl (allC akN (allC adF (allC aar allN))) allN
abbrev apg : Nat → Ctx α := ctxS o0 M eqs jt0 [] []
theorem aqs (n : Nat) : GenF (α := α) Try.prog Try.f46 S9 (apg n) n (Dw) := by intro _ _ _ _ _ _; kernel_rfl
theorem agm [Inhabited aQ] {α : Type} : ∀ n, az (α := α) Try.prog 46 (aZ S9.sh (bY S9 qx n)) := aK Try.func46 (by kernel_rfl) (by kernel_rfl) (by kernel_rfl) bV (fun n => aqs n) rfl allN allN
abbrev apR (F0 : T3 α) (F1 : T4 α) : Nat → Ctx α := ctxS o0 M eqs jt0 [⟨44, S2, F0⟩, ⟨43, S3, F1⟩] []
theorem apw (F0 : T3 α) (F1 : T4 α) (n : Nat) : GenF (α := α) Try.prog Try.f45 S10 (apR F0 F1 n) n (Fz F0 F1) := by intro _ _ _ _ _ _; kernel_rfl
theorem alF [Inhabited aQ] {α : Type} : ∀ n, az (α := α) Try.prog 45 (aZ S10.sh (bY S10 Bj n)) := aK Try.func45 (by kernel_rfl) (by kernel_rfl) (by kernel_rfl) bV (fun n => apw lK zZ n) rfl (allC aar (allC ahk allN)) allN
abbrev ap3 (F0 : T4 α) (F1 : T10 α) (F2 : T3 α) (F3 : T11 α) (F4 : T12 α) : Nat → Ctx α := ctxS o0 M eqs jt0 [⟨43, S3, F0⟩, ⟨42, S8, F1⟩, ⟨44, S2, F2⟩, ⟨46, S9, F3⟩, ⟨45, S10, F4⟩] []
theorem aqh (F0 : T4 α) (F1 : T10 α) (F2 : T3 α) (F3 : T11 α) (F4 : T12 α) (n : Nat) : GenF (α := α) Try.prog Try.f19 S11 (ap3 F0 F1 F2 F3 F4 n) n (Uz F0 F1 F2 F3 F4) := by intro _ _ _ _; kernel_rfl
theorem akT [Inhabited aQ] {α : Type} : ∀ n, az (α := α) Try.prog 19 (aZ S11.sh (bY S11 KJ n)) := aK Try.func19 (by kernel_rfl) (by kernel_rfl) (by kernel_rfl) bV (fun n => aqh zZ Dz lK qx Bj n) rfl (allC ahk (allC alh (allC aar (allC agm (allC alF allN))))) allN
abbrev h5_x (F0 : T2 α) (F1 : T13 α) : Nat → Ctx α := ctxS o0 M eqs jt0 [⟨20, S1, F0⟩, ⟨19, S11, F1⟩] []
theorem h5_g (F0 : T2 α) (F1 : T13 α) (n : Nat) : GenF (α := α) Try.prog Try.f5 S12 (h5_x F0 F1 n) n (DY F0 F1) := by intro _ _; kernel_rfl
theorem am6 [Inhabited aQ] {α : Type} : ∀ n, az (α := α) Try.prog 5 (aZ S12.sh (bY S12 aY n)) := aK Try.func5 (by kernel_rfl) (by kernel_rfl) (by kernel_rfl) bV (fun n => h5_g SY KJ n) rfl (allC alW (allC akT allN)) allN
abbrev aqG : Nat → Ctx α := ctxS o0 M eqs jt0 [] []
theorem aps (n : Nat) : GenF (α := α) Try.prog Try.f29 S13 (aqG n) n (acf) := by intro _ _ _ _; kernel_rfl
theorem adz [Inhabited aQ] {α : Type} : ∀ n, az (α := α) Try.prog 29 (aZ S13.sh (bY S13 MX n)) := aK Try.func29 (by kernel_rfl) (by kernel_rfl) (by kernel_rfl) bV (fun n => aps n) rfl allN allN
abbrev aqt (F0 : T15 α) : Nat → Ctx α := ctxS o0 M eqs jt0 [⟨29, S13, F0⟩] []
theorem apj (F0 : T15 α) (n : Nat) : GenF (α := α) Try.prog Try.f30 S14 (aqt F0 n) n (TV F0) := by intro _ _; kernel_rfl
theorem akR [Inhabited aQ] {α : Type} : ∀ n, az (α := α) Try.prog 30 (aZ S14.sh (bY S14 Jv n)) := aK Try.func30 (by kernel_rfl) (by kernel_rfl) (by kernel_rfl) bV (fun n => apj MX n) rfl (allC adz allN) allN
abbrev apO (F0 : T16 α) : Nat → Ctx α := ctxS o0 M eqs jt0 [⟨30, S14, F0⟩] []
theorem aoB (F0 : T16 α) (n : Nat) : GenF (α := α) Try.prog Try.f39 S15 (apO F0 n) n (UX F0) := by intro _ _ _; kernel_rfl
theorem aby [Inhabited aQ] {α : Type} : ∀ n, az (α := α) Try.prog 39 (aZ S15.sh (bY S15 nJ n)) := aK Try.func39 (by kernel_rfl) (by kernel_rfl) (by kernel_rfl) bV (fun n => aoB Jv n) rfl (allC akR allN) allN
abbrev apl (F0 : T17 α) : Nat → Ctx α := ctxS o0 M eqs jt0 [⟨39, S15, F0⟩] []
theorem aor (F0 : T17 α) (n : Nat) : GenF (α := α) Try.prog Try.f49 S15 (apl F0 n) n (RJ F0) := by intro _ _ _; kernel_rfl
theorem ama [Inhabited aQ] {α : Type} : ∀ n, az (α := α) Try.prog 49 (aZ S15.sh (bY S15 GZ n)) := aK Try.func49 (by kernel_rfl) (by kernel_rfl) (by kernel_rfl) bV (fun n => aor nJ n) rfl (allC aby allN) allN
def akF : Tpl := ⟨(.sl 0 :: (.fn 49 [] :: (anyN 5 (.int .i64 :: (.int .i64 :: (anyN 10 [])))))), [(0, .rows 0 25 .pt)], [], false⟩
def aj6 : PcS := Cj [.int, .int, .rows .pt] [0]
abbrev amw (F0 : T17 α) (G2 : T18 α) : Nat → Ctx α := ctxS o0 M eqs jt0 [⟨49, S15, F0⟩] [lpT 2 akF aj6 R4 G2]
theorem an5 (F0 : T17 α) (G2 : T18 α) (n : Nat) : GenL (α := α) Try.prog Try.f58 S16 (amw F0 G2 n) 2 akF aj6 n G2 (fun k => jQ F0 (G2 k) k) := by intro _ _ _ _ _; kernel_rfl
theorem ao4 (F0 : T17 α) (G2 : T18 α) (n : Nat) : GenF (α := α) Try.prog Try.f58 S16 (amw F0 G2 n) n (jV G2) := by intro _ _; kernel_rfl
theorem ale [Inhabited aQ] {α : Type} : ∀ n, az (α := α) Try.prog 58 (aZ S16.sh (bY S16 gK n)) := aK Try.func58 (by kernel_rfl) (by kernel_rfl) (by kernel_rfl) bV (fun n => ao4 GZ bK n) rfl (allC ama allN) (allC (nY (by kernel_rfl) (fun n => (bK.eq_2 ..).symm) (fun n => an5 GZ bK n)) allN)
abbrev aoO (F0 : T19 α) : Nat → Ctx α := ctxS o0 M eqs jt0 [⟨58, S16, F0⟩] []
theorem aoh (F0 : T19 α) (n : Nat) : GenF (α := α) Try.prog Try.f32 S17 (aoO F0 n) n (iw F0) := by intro _ _; kernel_rfl
theorem ak0 [Inhabited aQ] {α : Type} : ∀ n, az (α := α) Try.prog 32 (aZ S17.sh (bY S17 gV n)) := aK Try.func32 (by kernel_rfl) (by kernel_rfl) (by kernel_rfl) bV (fun n => aoh gK n) rfl (allC ale allN) allN
abbrev apZ (F0 : T20 α) : Nat → Ctx α := ctxS o0 M eqs jt0 [⟨32, S17, F0⟩] []
theorem apL (F0 : T20 α) (n : Nat) : GenF (α := α) Try.prog Try.f23 S18 (apZ F0 n) n (Xj F0) := by intro _ _; kernel_rfl
theorem abo [Inhabited aQ] {α : Type} : ∀ n, az (α := α) Try.prog 23 (aZ S18.sh (bY S18 pY n)) := aK Try.func23 (by kernel_rfl) (by kernel_rfl) (by kernel_rfl) bV (fun n => apL gV n) rfl (allC ak0 allN) allN
abbrev aoz : Nat → Ctx α := ctxS o0 M eqs jt0 [] []
theorem ao5 (n : Nat) : GenF (α := α) Try.prog Try.f54 S19 (aoz n) n (aaY) := by intro _ _; kernel_rfl
theorem adN [Inhabited aQ] {α : Type} : ∀ n, az (α := α) Try.prog 54 (aZ S19.sh (bY S19 vX n)) := aK Try.func54 (by kernel_rfl) (by kernel_rfl) (by kernel_rfl) bV (fun n => ao5 n) rfl allN allN
def akE : Tpl := ⟨(.int .i64 :: (.int .i64 :: (anyN 11 []))), [], [], false⟩
def ajh : PcS := Cj [.int, .int] [0]
abbrev amd (F0 : T21 α) (G1 : T6 α) : Nat → Ctx α := ctxS o0 M eqs jt0 [⟨54, S19, F0⟩] [lpT 1 akE ajh R4 G1]
theorem aof (F0 : T21 α) (G1 : T6 α) (n : Nat) : GenL (α := α) Try.prog Try.f68 S5 (amd F0 G1 n) 1 akE ajh n G1 (fun k => Rq (G1 k) k) := by intro _ _ _ _; kernel_rfl
theorem aqa (F0 : T21 α) (G1 : T6 α) (n : Nat) : GenF (α := α) Try.prog Try.f68 S5 (amd F0 G1 n) n (abE F0 G1) := by intro _ _ _; kernel_rfl
theorem alo [Inhabited aQ] {α : Type} : ∀ n, az (α := α) Try.prog 68 (aZ S5.sh (bY S5 aaj n)) := aK Try.func68 (by kernel_rfl) (by kernel_rfl) (by kernel_rfl) bV (fun n => aqa vX yJ n) rfl (allC adN allN) (allC (nY (by kernel_rfl) (fun n => (yJ.eq_2 ..).symm) (fun n => aof vX yJ n)) allN)
abbrev aoM (F0 : T7 α) : Nat → Ctx α := ctxS o0 M eqs jt0 [⟨68, S5, F0⟩] []
theorem apY (F0 : T7 α) (n : Nat) : GenF (α := α) Try.prog Try.f50 S20 (aoM F0 n) n (Hy F0) := by intro _ _ _; kernel_rfl
theorem akJ [Inhabited aQ] {α : Type} : ∀ n, az (α := α) Try.prog 50 (aZ S20.sh (bY S20 CV n)) := aK Try.func50 (by kernel_rfl) (by kernel_rfl) (by kernel_rfl) bV (fun n => apY aaj n) rfl (allC alo allN) allN
abbrev aoJ (F0 : T7 α) : Nat → Ctx α := ctxS o0 M eqs jt0 [⟨50, S20, F0⟩] []
theorem ap2 (F0 : T7 α) (n : Nat) : GenF (α := α) Try.prog Try.f24 S15 (aoJ F0 n) n (zJ F0) := by intro _ _ _; kernel_rfl
theorem alV [Inhabited aQ] {α : Type} : ∀ n, az (α := α) Try.prog 24 (aZ S15.sh (bY S15 vJ n)) := aK Try.func24 (by kernel_rfl) (by kernel_rfl) (by kernel_rfl) bV (fun n => ap2 CV n) rfl (allC akJ allN) allN
abbrev aoU : Nat → Ctx α := ctxS o0 M eqs jt0 [] []
theorem aqu (n : Nat) : GenF (α := α) Try.prog Try.f25 S7 (aoU n) n (xw) := by intro _ _ _ _ _; kernel_rfl
theorem Tz [Inhabited aQ] {α : Type} : ∀ n, az (α := α) Try.prog 25 (aZ S7.sh (bY S7 kV n)) := aK Try.func25 (by kernel_rfl) (by kernel_rfl) (by kernel_rfl) bV (fun n => aqu n) rfl allN allN
abbrev h8_x (F0 : T20 α) (F1 : T17 α) (F2 : T9 α) : Nat → Ctx α := ctxS o0 M eqs jt0 [⟨23, S18, F0⟩, ⟨24, S15, F1⟩, ⟨25, S7, F2⟩] []
theorem h8_g (F0 : T20 α) (F1 : T17 α) (F2 : T9 α) (n : Nat) : GenF (α := α) Try.prog Try.f8 S21 (h8_x F0 F1 F2 n) n (TZ F0 F1 F2) := by intro _ _ _ _ _; kernel_rfl
theorem aik [Inhabited aQ] {α : Type} : ∀ n, az (α := α) Try.prog 8 (aZ S21.sh (bY S21 fQ n)) := aK Try.func8 (by kernel_rfl) (by kernel_rfl) (by kernel_rfl) bV (fun n => h8_g pY vJ kV n) rfl (allC abo (allC alV (allC Tz allN))) allN
abbrev apv : Nat → Ctx α := ctxS o0 M eqs jt0 [] []
theorem aqj (n : Nat) : GenF (α := α) Try.prog Try.f65 S5 (apv n) n (Zy) := by intro _ _ _; kernel_rfl
theorem agL [Inhabited aQ] {α : Type} : ∀ n, az (α := α) Try.prog 65 (aZ S5.sh (bY S5 xx n)) := aK Try.func65 (by kernel_rfl) (by kernel_rfl) (by kernel_rfl) bV (fun n => aqj n) rfl allN allN
abbrev aqz (F0 : T7 α) : Nat → Ctx α := ctxS o0 M eqs jt0 [⟨65, S5, F0⟩] []
theorem ao2 (F0 : T7 α) (n : Nat) : GenF (α := α) Try.prog Try.f72 S5 (aqz F0 n) n (abV F0) := by intro _ _ _; kernel_rfl
theorem ahl [Inhabited aQ] {α : Type} : ∀ n, az (α := α) Try.prog 72 (aZ S5.sh (bY S5 KW n)) := aK Try.func72 (by kernel_rfl) (by kernel_rfl) (by kernel_rfl) bV (fun n => ao2 xx n) rfl (allC agL allN) allN
def ajd : Tpl := ⟨(.any :: (.int .i64 :: (.any :: (.any :: (.any :: (.int .i64 :: (.int .i64 :: (.int .i64 :: (.int .i64 :: (anyN 25 [])))))))))), [], [], false⟩
def ajP : PcS := Cj [.int, .int, .int, .int, .int] [0]
abbrev amq (F0 : T7 α) (G2 : T23 α) : Nat → Ctx α := ctxS o0 M eqs jt0 [⟨72, S5, F0⟩] [lpT 2 ajd ajP R4 G2]
theorem an6 (F0 : T7 α) (G2 : T23 α) (n : Nat) : GenL (α := α) Try.prog Try.f73 S5 (amq F0 G2 n) 2 ajd ajP n G2 (fun k => Iq (G2 k) k) := by intro _ _ _ _ _ _ _; kernel_rfl
theorem aqB (F0 : T7 α) (G2 : T23 α) (n : Nat) : GenF (α := α) Try.prog Try.f73 S5 (amq F0 G2 n) n (XQ F0 G2) := by intro _ _ _; kernel_rfl
theorem alG [Inhabited aQ] {α : Type} : ∀ n, az (α := α) Try.prog 73 (aZ S5.sh (bY S5 VX n)) := aK Try.func73 (by kernel_rfl) (by kernel_rfl) (by kernel_rfl) bV (fun n => aqB KW sQ n) rfl (allC ahl allN) (allC (nY (by kernel_rfl) (fun n => (sQ.eq_2 ..).symm) (fun n => an6 KW sQ n)) allN)
abbrev aqx (F0 : T21 α) (F1 : T7 α) (F2 : T7 α) : Nat → Ctx α := ctxS o0 M eqs jt0 [⟨54, S19, F0⟩, ⟨73, S5, F1⟩, ⟨72, S5, F2⟩] []
theorem aqD (F0 : T21 α) (F1 : T7 α) (F2 : T7 α) (n : Nat) : GenF (α := α) Try.prog Try.f63 S6 (aqx F0 F1 F2 n) n (CW F0 F1 F2) := by intro _ _ _; kernel_rfl
theorem akU [Inhabited aQ] {α : Type} : ∀ n, az (α := α) Try.prog 63 (aZ S6.sh (bY S6 oQ n)) := aK Try.func63 (by kernel_rfl) (by kernel_rfl) (by kernel_rfl) bV (fun n => aqD vX VX KW n) rfl (allC adN (allC alG (allC ahl allN))) allN
abbrev ap4 : Nat → Ctx α := ctxS o0 M eqs jt0 [] []
theorem aop (n : Nat) : GenF (α := α) Try.prog Try.f64 S9 (ap4 n) n (tX) := by intro _ _ _ _ _ _; kernel_rfl
theorem agd [Inhabited aQ] {α : Type} : ∀ n, az (α := α) Try.prog 64 (aZ S9.sh (bY S9 kz n)) := aK Try.func64 (by kernel_rfl) (by kernel_rfl) (by kernel_rfl) bV (fun n => aop n) rfl allN allN
abbrev ap9 (F0 : T11 α) : Nat → Ctx α := ctxS o0 M eqs jt0 [⟨64, S9, F0⟩] []
theorem apm (F0 : T11 α) (n : Nat) : GenF (α := α) Try.prog Try.f55 S22 (ap9 F0 n) n (xY F0) := by intro _ _ _ _ _; kernel_rfl
theorem adG [Inhabited aQ] {α : Type} : ∀ n, az (α := α) Try.prog 55 (aZ S22.sh (bY S22 jy n)) := aK Try.func55 (by kernel_rfl) (by kernel_rfl) (by kernel_rfl) bV (fun n => apm kz n) rfl (allC agd allN) allN
def akl : Tpl := ⟨(.any :: (.any :: (.any :: (.ptr 192 0 0 :: (.any :: (.any :: (.any :: (.ptr 448 0 0 :: (.ptr 1792 0 0 :: (.ptr 576 0 0 :: (anyN 81 []))))))))))), [(192, .ints 2 25 .i64 2), (448, .ints 2 25 .i64 2), (1792, .mix 2 54 [.sl 1600, .sl 1664]), (576, .ints 2 25 .i64 2), (1600, .rows 2 25 .pt), (1664, .rows 2 2 (.int .i64))], [], false⟩
def ajz : PcS := Cj [.int, .int, .int, .int, .int, .int, .rows .pt, .rows (.int .i64)] []
abbrev amF (F0 : T8 α) (F1 : T9 α) (F2 : T7 α) (F3 : T11 α) (F4 : T17 α) (F5 : T24 α) (G5 : T25 α) : Nat → Ctx α := ctxS o0 M eqs jt0 [⟨63, S6, F0⟩, ⟨25, S7, F1⟩, ⟨65, S5, F2⟩, ⟨64, S9, F3⟩, ⟨39, S15, F4⟩, ⟨55, S22, F5⟩] [lpT 5 akl ajz R8 G5]
theorem anM (F0 : T8 α) (F1 : T9 α) (F2 : T7 α) (F3 : T11 α) (F4 : T17 α) (F5 : T24 α) (G5 : T25 α) (n : Nat) : GenL (α := α) Try.prog Try.f47 S23 (amF F0 F1 F2 F3 F4 F5 G5 n) 5 akl ajz n G5 (fun k => IJ F1 F2 F3 F4 F5 (G5 k) k) := by intro _ _ _ _ _ _ _ _ _ _; kernel_rfl
theorem apV (F0 : T8 α) (F1 : T9 α) (F2 : T7 α) (F3 : T11 α) (F4 : T17 α) (F5 : T24 α) (G5 : T25 α) (n : Nat) : GenF (α := α) Try.prog Try.f47 S23 (amF F0 F1 F2 F3 F4 F5 G5 n) n (XW F0 F1 F2 F3 G5) := by intro _ _ _ _ _; kernel_rfl
theorem al7 [Inhabited aQ] {α : Type} : ∀ n, az (α := α) Try.prog 47 (aZ S23.sh (bY S23 Nw n)) := aK Try.func47 (by kernel_rfl) (by kernel_rfl) (by kernel_rfl) bV (fun n => apV oQ kV xx kz nJ jy rY n) rfl (allC akU (allC Tz (allC agL (allC agd (allC aby (allC adG allN)))))) (allC (nY (by kernel_rfl) (fun n => (rY.eq_2 ..).symm) (fun n => anM oQ kV xx kz nJ jy rY n)) allN)
abbrev aoL (F0 : T22 α) (F1 : T26 α) : Nat → Ctx α := ctxS o0 M eqs jt0 [⟨8, S21, F0⟩, ⟨47, S23, F1⟩] []
theorem ap7 (F0 : T22 α) (F1 : T26 α) (n : Nat) : GenF (α := α) Try.prog Try.f21 S23 (aoL F0 F1 n) n (Ox F0 F1) := by intro _ _ _ _ _; kernel_rfl
theorem adH [Inhabited aQ] {α : Type} : ∀ n, az (α := α) Try.prog 21 (aZ S23.sh (bY S23 qZ n)) := aK Try.func21 (by kernel_rfl) (by kernel_rfl) (by kernel_rfl) bV (fun n => ap7 fQ Nw n) rfl (allC aik (allC al7 allN)) allN
abbrev h6_x (F0 : T26 α) : Nat → Ctx α := ctxS o0 M eqs jt0 [⟨21, S23, F0⟩] []
theorem h6_g (F0 : T26 α) (n : Nat) : GenF (α := α) Try.prog Try.f6 S24 (h6_x F0 n) n (NV F0) := by intro _ _ _ _ _; kernel_rfl
theorem amX [Inhabited aQ] {α : Type} : ∀ n, az (α := α) Try.prog 6 (aZ S24.sh (bY S24 dQ n)) := aK Try.func6 (by kernel_rfl) (by kernel_rfl) (by kernel_rfl) bV (fun n => h6_g qZ n) rfl (allC adH allN) allN
abbrev ap8 : Nat → Ctx α := ctxS o0 M eqs jt0 [] []
theorem apU (n : Nat) : GenF (α := α) Try.prog Try.f75 S13 (ap8 n) n (aad) := by intro _ _ _ _; kernel_rfl
theorem akL [Inhabited aQ] {α : Type} : ∀ n, az (α := α) Try.prog 75 (aZ S13.sh (bY S13 Qq n)) := aK Try.func75 (by kernel_rfl) (by kernel_rfl) (by kernel_rfl) bV (fun n => apU n) rfl allN allN
abbrev ap1 (F0 : T15 α) : Nat → Ctx α := ctxS o0 M eqs jt0 [⟨75, S13, F0⟩] []
theorem aqi (F0 : T15 α) (n : Nat) : GenF (α := α) Try.prog Try.f69 S14 (ap1 F0 n) n (UQ F0) := by intro _ _; kernel_rfl
theorem amb [Inhabited aQ] {α : Type} : ∀ n, az (α := α) Try.prog 69 (aZ S14.sh (bY S14 JV n)) := aK Try.func69 (by kernel_rfl) (by kernel_rfl) (by kernel_rfl) bV (fun n => aqi Qq n) rfl (allC akL allN) allN
abbrev apc (F0 : T16 α) : Nat → Ctx α := ctxS o0 M eqs jt0 [⟨69, S14, F0⟩] []
theorem aqc (F0 : T16 α) (n : Nat) : GenF (α := α) Try.prog Try.f51 S15 (apc F0 n) n (ZW F0) := by intro _ _ _; kernel_rfl
theorem alS [Inhabited aQ] {α : Type} : ∀ n, az (α := α) Try.prog 51 (aZ S15.sh (bY S15 RV n)) := aK Try.func51 (by kernel_rfl) (by kernel_rfl) (by kernel_rfl) bV (fun n => aqc JV n) rfl (allC amb allN) allN
abbrev aqe (F0 : T17 α) (F1 : T7 α) (F2 : T9 α) : Nat → Ctx α := ctxS o0 M eqs jt0 [⟨51, S15, F0⟩, ⟨52, S5, F1⟩, ⟨53, S7, F2⟩] []
theorem apn (F0 : T17 α) (F1 : T7 α) (F2 : T9 α) (n : Nat) : GenF (α := α) Try.prog Try.f26 S21 (aqe F0 F1 F2 n) n (aal F0 F1 F2) := by intro _ _ _ _ _; kernel_rfl
theorem agv [Inhabited aQ] {α : Type} : ∀ n, az (α := α) Try.prog 26 (aZ S21.sh (bY S21 Ey n)) := aK Try.func26 (by kernel_rfl) (by kernel_rfl) (by kernel_rfl) bV (fun n => apn RV Bv nV n) rfl (allC alS (allC ag4 (allC adF allN))) allN
abbrev apA : Nat → Ctx α := ctxS o0 M eqs jt0 [] []
theorem aqH (n : Nat) : GenF (α := α) Try.prog Try.f74 S5 (apA n) n (VW) := by intro _ _ _; kernel_rfl
theorem ak7 [Inhabited aQ] {α : Type} : ∀ n, az (α := α) Try.prog 74 (aZ S5.sh (bY S5 Dq n)) := aK Try.func74 (by kernel_rfl) (by kernel_rfl) (by kernel_rfl) bV (fun n => aqH n) rfl allN allN
def akv : Tpl := ⟨(.any :: (.ptr 64 0 0 :: (.ptr 128 0 0 :: (.int .i64 :: (.int .i64 :: (.int .i64 :: (.int .i64 :: (.int .i64 :: (anyN 50 []))))))))), [(64, .ints 2 25 .i64 2), (128, .ints 2 25 .i64 2)], [], false⟩
def ajo : PcS := Cj [.int, .int, .int, .int, .int, .int, .int, .int, .int] [0]
abbrev amv (F0 : T7 α) (G5 : T28 α) : Nat → Ctx α := ctxS o0 M eqs jt0 [⟨74, S5, F0⟩] [lpT 5 akv ajo R5 G5]
theorem aoa (F0 : T7 α) (G5 : T28 α) (n : Nat) : GenL (α := α) Try.prog Try.f66 S6 (amv F0 G5 n) 5 akv ajo n G5 (fun k => Fq (G5 k) k) := by intro _ _ _ _ _ _ _ _ _ _ _; kernel_rfl
theorem apa (F0 : T7 α) (G5 : T28 α) (n : Nat) : GenF (α := α) Try.prog Try.f66 S6 (amv F0 G5 n) n (MW F0 G5) := by intro _ _ _; kernel_rfl
theorem alP [Inhabited aQ] {α : Type} : ∀ n, az (α := α) Try.prog 66 (aZ S6.sh (bY S6 sV n)) := aK Try.func66 (by kernel_rfl) (by kernel_rfl) (by kernel_rfl) bV (fun n => apa Dq qY n) rfl (allC ak7 allN) (allC (nY (by kernel_rfl) (fun n => (qY.eq_2 ..).symm) (fun n => aoa Dq qY n)) allN)
abbrev apM : Nat → Ctx α := ctxS o0 M eqs jt0 [] []
theorem ao9 (n : Nat) : GenF (α := α) Try.prog Try.f67 S5 (apM n) n (Sj) := by intro _ _ _; kernel_rfl
theorem alg [Inhabited aQ] {α : Type} : ∀ n, az (α := α) Try.prog 67 (aZ S5.sh (bY S5 wY n)) := aK Try.func67 (by kernel_rfl) (by kernel_rfl) (by kernel_rfl) bV (fun n => ao9 n) rfl allN allN
def ajN : Tpl := ⟨(.any :: (.any :: (.any :: (.ptr 192 0 0 :: (anyN 6 (.sl 2112 :: (.sl 2176 :: (anyN 82 [])))))))), [(192, .ints 2 25 .i64 2), (2112, .rows 2 25 .pt), (2176, .rows 2 2 (.int .i64))], [], false⟩
def ajs : PcS := Cj [.int, .int, .rows .pt, .rows (.int .i64)] []
abbrev amD (F0 : T9 α) (F1 : T8 α) (F2 : T7 α) (F3 : T11 α) (G5 : T29 α) : Nat → Ctx α := ctxS o0 M eqs jt0 [⟨53, S7, F0⟩, ⟨66, S6, F1⟩, ⟨67, S5, F2⟩, ⟨46, S9, F3⟩] [lpT 5 ajN ajs R10 G5]
theorem anR (F0 : T9 α) (F1 : T8 α) (F2 : T7 α) (F3 : T11 α) (G5 : T29 α) (n : Nat) : GenL (α := α) Try.prog Try.f48 S25 (amD F0 F1 F2 F3 G5 n) 5 ajN ajs n G5 (fun k => EX F0 F2 F3 (G5 k) k) := by intro _ _ _ _ _ _; kernel_rfl
theorem ao0 (F0 : T9 α) (F1 : T8 α) (F2 : T7 α) (F3 : T11 α) (G5 : T29 α) (n : Nat) : GenF (α := α) Try.prog Try.f48 S25 (amD F0 F1 F2 F3 G5 n) n (Uj F0 F1 F2 F3 G5) := by intro _ _ _ _ _; kernel_rfl
theorem akX [Inhabited aQ] {α : Type} : ∀ n, az (α := α) Try.prog 48 (aZ S25.sh (bY S25 JY n)) := aK Try.func48 (by kernel_rfl) (by kernel_rfl) (by kernel_rfl) bV (fun n => ao0 nV sV wY qx qK n) rfl (allC adF (allC alP (allC alg (allC agm allN)))) (allC (nY (by kernel_rfl) (fun n => (qK.eq_2 ..).symm) (fun n => anR nV sV wY qx qK n)) allN)
abbrev aoN (F0 : T22 α) (F1 : T30 α) : Nat → Ctx α := ctxS o0 M eqs jt0 [⟨26, S21, F0⟩, ⟨48, S25, F1⟩] []
theorem ap5 (F0 : T22 α) (F1 : T30 α) (n : Nat) : GenF (α := α) Try.prog Try.f22 S26 (aoN F0 F1 n) n (UW F0 F1) := by intro _ _ _ _ _; kernel_rfl
theorem alI [Inhabited aQ] {α : Type} : ∀ n, az (α := α) Try.prog 22 (aZ S26.sh (bY S26 JX n)) := aK Try.func22 (by kernel_rfl) (by kernel_rfl) (by kernel_rfl) bV (fun n => ap5 Ey JY n) rfl (allC agv (allC akX allN)) allN
abbrev h7_x (F0 : T26 α) : Nat → Ctx α := ctxS o0 M eqs jt0 [⟨22, S26, F0⟩] []
theorem h7_g (F0 : T26 α) (n : Nat) : GenF (α := α) Try.prog Try.f7 S24 (h7_x F0 n) n (NW F0) := by intro _ _ _ _ _; kernel_rfl
theorem ani [Inhabited aQ] {α : Type} : ∀ n, az (α := α) Try.prog 7 (aZ S24.sh (bY S24 cZ n)) := aK Try.func7 (by kernel_rfl) (by kernel_rfl) (by kernel_rfl) bV (fun n => h7_g JX n) rfl (allC alI allN) allN
abbrev h9_x (F0 : T22 α) : Nat → Ctx α := ctxS o0 M eqs jt0 [⟨26, S21, F0⟩] []
theorem h9_g (F0 : T22 α) (n : Nat) : GenF (α := α) Try.prog Try.f9 S21 (h9_x F0 n) n (TJ F0) := by intro _ _ _ _ _; kernel_rfl
theorem am9 [Inhabited aQ] {α : Type} : ∀ n, az (α := α) Try.prog 9 (aZ S21.sh (bY S21 fJ n)) := aK Try.func9 (by kernel_rfl) (by kernel_rfl) (by kernel_rfl) bV (fun n => h9_g Ey n) rfl (allC agv allN) allN
abbrev aoP (F0 : T20 α) (F1 : T9 α) : Nat → Ctx α := ctxS o0 M eqs jt0 [⟨23, S18, F0⟩, ⟨25, S7, F1⟩] []
theorem aoG (F0 : T20 α) (F1 : T9 α) (n : Nat) : GenF (α := α) Try.prog Try.f10 S27 (aoP F0 F1 n) n (FW F0 F1) := by intro _ _ _ _ _; kernel_rfl
theorem alk [Inhabited aQ] {α : Type} : ∀ n, az (α := α) Try.prog 10 (aZ S27.sh (bY S27 aj n)) := aK Try.func10 (by kernel_rfl) (by kernel_rfl) (by kernel_rfl) bV (fun n => aoG pY kV n) rfl (allC abo (allC Tz allN)) allN
abbrev aoT (F0 : T26 α) : Nat → Ctx α := ctxS o0 M eqs jt0 [⟨21, S23, F0⟩] []
theorem apX (F0 : T26 α) (n : Nat) : GenF (α := α) Try.prog Try.f11 S27 (aoT F0 n) n (PV F0) := by intro _ _ _ _ _; kernel_rfl
theorem alR [Inhabited aQ] {α : Type} : ∀ n, az (α := α) Try.prog 11 (aZ S27.sh (bY S27 dZ n)) := aK Try.func11 (by kernel_rfl) (by kernel_rfl) (by kernel_rfl) bV (fun n => apX qZ n) rfl (allC adH allN) allN
abbrev aom (F0 : T24 α) (F1 : T9 α) (F2 : T21 α) : Nat → Ctx α := ctxS o0 M eqs jt0 [⟨55, S22, F0⟩, ⟨25, S7, F1⟩, ⟨54, S19, F2⟩] []
theorem aoE (F0 : T24 α) (F1 : T9 α) (F2 : T21 α) (n : Nat) : GenF (α := α) Try.prog Try.f27 S28 (aom F0 F1 F2 n) n (aaU F0 F1 F2) := by intro _ _ _ _ _ _ _; kernel_rfl
theorem akK [Inhabited aQ] {α : Type} : ∀ n, az (α := α) Try.prog 27 (aZ S28.sh (bY S28 aaE n)) := aK Try.func27 (by kernel_rfl) (by kernel_rfl) (by kernel_rfl) bV (fun n => aoE jy kV vX n) rfl (allC adG (allC Tz (allC adN allN))) allN
abbrev aon (F0 : T20 α) (F1 : T31 α) : Nat → Ctx α := ctxS o0 M eqs jt0 [⟨23, S18, F0⟩, ⟨27, S28, F1⟩] []
theorem aoK (F0 : T20 α) (F1 : T31 α) (n : Nat) : GenF (α := α) Try.prog Try.f12 S29 (aon F0 F1 n) n (XX F0 F1) := by intro _ _ _ _ _ _ _; kernel_rfl
theorem alL [Inhabited aQ] {α : Type} : ∀ n, az (α := α) Try.prog 12 (aZ S29.sh (bY S29 fZ n)) := aK Try.func12 (by kernel_rfl) (by kernel_rfl) (by kernel_rfl) bV (fun n => aoK pY aaE n) rfl (allC abo (allC akK allN)) allN
abbrev aoy : Nat → Ctx α := ctxS o0 M eqs jt0 [] []
theorem ao7 (n : Nat) : GenF (α := α) Try.prog Try.f56 S30 (aoy n) n (NJ) := by intro _; kernel_rfl
theorem alO [Inhabited aQ] {α : Type} : ∀ n, az (α := α) Try.prog 56 (aZ S30.sh (bY S30 DK n)) := aK Try.func56 (by kernel_rfl) (by kernel_rfl) (by kernel_rfl) bV (fun n => ao7 n) rfl allN allN
abbrev aqy (F0 : T33 α) : Nat → Ctx α := ctxS o0 M eqs jt0 [⟨56, S30, F0⟩] []
theorem apD (F0 : T33 α) (n : Nat) : GenF (α := α) Try.prog Try.f28 S30 (aqy F0 n) n (NQ F0) := by intro _; kernel_rfl
theorem alT [Inhabited aQ] {α : Type} : ∀ n, az (α := α) Try.prog 28 (aZ S30.sh (bY S30 Dx n)) := aK Try.func28 (by kernel_rfl) (by kernel_rfl) (by kernel_rfl) bV (fun n => apD DK n) rfl (allC alO allN) allN
def aii : Tpl := ⟨(.ptr 0 0 0 :: (.any :: (.any :: (.sl 384 :: (anyN 6 (.sl 2 :: (.int .i64 :: (.int .i64 :: (anyN 26 []))))))))), [(0, .mix 0 54 [.sl 1, .sl 2]), (384, .rows 2 3 (.int .i64)), (2, .rows 0 2 (.int .i64)), (1, .rows 0 25 .pt)], [], false⟩
def aim : PcS := Cj [.int, .int, .rows (.int .i64), .rows (.int .i64), .rows .pt] [0]
abbrev ajw (G3 : T34 α) : Nat → Ctx α := ctxS o0 M eqs jt0 [] [lpT 3 aii aim R14 G3]
theorem amQ (G3 : T34 α) (n : Nat) : GenL (α := α) Try.prog Try.f56 S31 (ajw G3 n) 3 aii aim n G3 (fun k => sJ (G3 k) k) := by intro _ _ _ _ _ _ _; kernel_rfl
theorem anS (G3 : T34 α) (n : Nat) : GenF (α := α) Try.prog Try.f56 S31 (ajw G3 n) n (AQ G3) := by intro _ _ _; kernel_rfl
theorem akz [Inhabited aQ] {α : Type} : ∀ n, az (α := α) Try.prog 56 (aZ S31.sh (bY S31 oK n)) := aK Try.func56 (by kernel_rfl) (by kernel_rfl) (by kernel_rfl) bV (fun n => anS jv n) rfl allN (allC (nY (by kernel_rfl) (fun n => (jv.eq_2 ..).symm) (fun n => amQ jv n)) allN)
def ais : Tpl := ⟨(.ptr 0 0 0 :: (.any :: (.any :: (.sl 384 :: (.sl 512 :: (.int .i64 :: (anyN 40 []))))))), [(0, .mix 0 54 [.sl 1, .sl 2]), (384, .rows 2 2 (.int .i64)), (512, .rows 2 3 (.int .i64)), (1, .rows 0 25 .pt), (2, .rows 0 2 (.int .i64))], [], false⟩
def ahX : PcS := Cj [.int, .rows (.int .i64), .rows (.int .i64), .rows .pt, .rows (.int .i64)] [0]
abbrev akn (F0 : T35 α) (G3 : T36 α) : Nat → Ctx α := ctxS o0 M eqs jt0 [⟨56, S31, F0⟩] [lpT 3 ais ahX R15 G3]
theorem ang (F0 : T35 α) (G3 : T36 α) (n : Nat) : GenL (α := α) Try.prog Try.f28 S32 (akn F0 G3 n) 3 ais ahX n G3 (fun k => nz (G3 k) k) := by intro _ _ _ _ _ _ _; kernel_rfl
theorem anq (F0 : T35 α) (G3 : T36 α) (n : Nat) : GenF (α := α) Try.prog Try.f28 S32 (akn F0 G3 n) n (AZ F0 G3) := by intro _ _ _; kernel_rfl
theorem ai8 [Inhabited aQ] {α : Type} : ∀ n, az (α := α) Try.prog 28 (aZ S32.sh (bY S32 oW n)) := aK Try.func28 (by kernel_rfl) (by kernel_rfl) (by kernel_rfl) bV (fun n => anq oK iq n) rfl (allC akz allN) (allC (nY (by kernel_rfl) (fun n => (iq.eq_2 ..).symm) (fun n => ang oK iq n)) allN)
abbrev aqn (F0 : T26 α) (F1 : T33 α) (F2 : T35 α) : Nat → Ctx α := ctxS o0 M eqs jt0 [⟨21, S23, F0⟩, ⟨28, S30, F1⟩, ⟨28, S32, F2⟩] []
theorem aoY (F0 : T26 α) (F1 : T33 α) (F2 : T35 α) (n : Nat) : GenF (α := α) Try.prog Try.f13 S33 (aqn F0 F1 F2 n) n (NZ F0 F1 F2) := by intro _ _ _ _ _; kernel_rfl
theorem ald [Inhabited aQ] {α : Type} : ∀ n, az (α := α) Try.prog 13 (aZ S33.sh (bY S33 ay n)) := aK Try.func13 (by kernel_rfl) (by kernel_rfl) (by kernel_rfl) bV (fun n => aoY qZ Dx oW n) rfl (allC adH (allC alT (allC ai8 allN))) allN
theorem alx [Inhabited aQ] {α : Type} (hq : ¬ Qt) : ∀ n, az (α := α) Try.prog 14 (aZ S34.sh (bY S34 bW n)) := Go.Proofs.Ytiggcnbnidnaiaa.frac_good_nil hq (fun _ _ => rfl)
abbrev aoC (F0 : T15 α) : Nat → Ctx α := ctxS o0 M eqs jt0 [⟨29, S13, F0⟩] []
theorem apP (F0 : T15 α) (n : Nat) : GenF (α := α) Try.prog Try.f34 S15 (aoC F0 n) n (Zz F0) := by intro _ _ _; kernel_rfl
theorem alf [Inhabited aQ] {α : Type} : ∀ n, az (α := α) Try.prog 34 (aZ S15.sh (bY S15 Yv n)) := aK Try.func34 (by kernel_rfl) (by kernel_rfl) (by kernel_rfl) bV (fun n => apP MX n) rfl (allC adz allN) allN
abbrev aoq (F0 : T17 α) : Nat → Ctx α := ctxS o0 M eqs jt0 [⟨34, S15, F0⟩] []
theorem apo (F0 : T17 α) (n : Nat) : GenF (α := α) Try.prog Try.f33 S15 (aoq F0 n) n (Kw F0) := by intro _ _ _; kernel_rfl
theorem aly [Inhabited aQ] {α : Type} : ∀ n, az (α := α) Try.prog 33 (aZ S15.sh (bY S15 yx n)) := aK Try.func33 (by kernel_rfl) (by kernel_rfl) (by kernel_rfl) bV (fun n => apo Yv n) rfl (allC alf allN) allN
def ait : Tpl := ⟨(.sl 0 :: (.fn 33 [] :: (anyN 5 (.int .i64 :: (.int .i64 :: (anyN 10 [])))))), [(0, .rows 0 25 .pt)], [], false⟩
def aie : PcS := Cj [.int, .int, .rows .pt] [0]
abbrev ajc (F0 : T17 α) (G2 : T18 α) : Nat → Ctx α := ctxS o0 M eqs jt0 [⟨33, S15, F0⟩] [lpT 2 ait aie R4 G2]
theorem anf (F0 : T17 α) (G2 : T18 α) (n : Nat) : GenL (α := α) Try.prog Try.f58 S35 (ajc F0 G2 n) 2 ait aie n G2 (fun k => iZ F0 (G2 k) k) := by intro _ _ _ _ _; kernel_rfl
theorem aog (F0 : T17 α) (G2 : T18 α) (n : Nat) : GenF (α := α) Try.prog Try.f58 S35 (ajc F0 G2 n) n (iy G2) := by intro _ _; kernel_rfl
theorem aku [Inhabited aQ] {α : Type} : ∀ n, az (α := α) Try.prog 58 (aZ S35.sh (bY S35 gW n)) := aK Try.func58 (by kernel_rfl) (by kernel_rfl) (by kernel_rfl) bV (fun n => aog yx bJ n) rfl (allC aly allN) (allC (nY (by kernel_rfl) (fun n => (bJ.eq_2 ..).symm) (fun n => anf yx bJ n)) allN)
abbrev an1 (F0 : T19 α) : Nat → Ctx α := ctxS o0 M eqs jt0 [⟨58, S35, F0⟩] []
theorem anC (F0 : T19 α) (n : Nat) : GenF (α := α) Try.prog Try.f32 S36 (an1 F0 n) n (iJ F0) := by intro _ _; kernel_rfl
theorem ajm [Inhabited aQ] {α : Type} : ∀ n, az (α := α) Try.prog 32 (aZ S36.sh (bY S36 gQ n)) := aK Try.func32 (by kernel_rfl) (by kernel_rfl) (by kernel_rfl) bV (fun n => anC gW n) rfl (allC aku allN) allN
abbrev apI : Nat → Ctx α := ctxS o0 M eqs jt0 [] []
theorem aow (n : Nat) : GenF (α := α) Try.prog Try.f59 S37 (apI n) n (zk) := by intro _ _ _; kernel_rfl
theorem agM [Inhabited aQ] {α : Type} : ∀ n, az (α := α) Try.prog 59 (aZ S37.sh (bY S37 kX n)) := aK Try.func59 (by kernel_rfl) (by kernel_rfl) (by kernel_rfl) bV (fun n => aow n) rfl allN allN
abbrev aoR (F0 : T24 α) (F1 : T9 α) : Nat → Ctx α := ctxS o0 M eqs jt0 [⟨55, S22, F0⟩, ⟨25, S7, F1⟩] []
theorem aoZ (F0 : T24 α) (F1 : T9 α) (n : Nat) : GenF (α := α) Try.prog Try.f60 S28 (aoR F0 F1 n) n (aaR F0 F1) := by intro _ _ _ _ _ _ _; kernel_rfl
theorem akW [Inhabited aQ] {α : Type} : ∀ n, az (α := α) Try.prog 60 (aZ S28.sh (bY S28 Jw n)) := aK Try.func60 (by kernel_rfl) (by kernel_rfl) (by kernel_rfl) bV (fun n => aoZ jy kV n) rfl (allC adG (allC Tz allN)) allN
def aks : Tpl := ⟨(.sl 0 :: (.any :: (.any :: (.int .i64 :: (.ptr 256 0 0 :: (.ptr 320 0 0 :: (.any :: (.any :: (.sl 0 :: (.int .i64 :: (.int .i64 :: (anyN 7 (.sl 0 :: (.int .i64 :: (.int .i64 :: (anyN 25 [])))))))))))))))), [(0, .rows 0 25 .pt), (256, .ints 2 25 .i64 2), (320, .ints 2 25 .i64 2)], [], false⟩
def akC : PcS := Cj [.int, .int, .int, .int, .int, .rows .pt, .int, .int, .int, .int] [2]
def ajW : Tpl := ⟨(.sl 0 :: (anyN 7 (.sl 0 :: (.int .i64 :: (.int .i64 :: (anyN 35 [])))))), [(0, .rows 0 25 .pt)], [], false⟩
def ajp : PcS := Cj [.int, .int, .rows .pt] [0]
abbrev aiB (F0 : T38 α) (F1 : T31 α) (G6 : T39 α) (G2 : T40 α) : Nat → Ctx α := ctxS o0 M eqs jt0 [⟨59, S37, F0⟩, ⟨60, S28, F1⟩] [lpT 6 aks akC R0 G6, lpT 2 ajW ajp R0 G2]
theorem an7 (F0 : T38 α) (F1 : T31 α) (G6 : T39 α) (G2 : T40 α) (n : Nat) : GenL (α := α) Try.prog Try.f35 S18 (aiB F0 F1 G6 G2 n) 6 aks akC n G6 (fun k => uQ F1 (G6 k) k) := by intro _ _ _ _ _ _ _ _ _ _ _ _; kernel_rfl
theorem anz (F0 : T38 α) (F1 : T31 α) (G6 : T39 α) (G2 : T40 α) (n : Nat) : GenL (α := α) Try.prog Try.f35 S18 (aiB F0 F1 G6 G2 n) 2 ajW ajp n G2 (fun k => tK F0 G6 (G2 k) k) := by intro _ _ _ _ _; kernel_rfl
theorem apH (F0 : T38 α) (F1 : T31 α) (G6 : T39 α) (G2 : T40 α) (n : Nat) : GenF (α := α) Try.prog Try.f35 S18 (aiB F0 F1 G6 G2 n) n (DW G2) := by intro _ _; kernel_rfl
theorem alX [Inhabited aQ] {α : Type} : ∀ n, az (α := α) Try.prog 35 (aZ S18.sh (bY S18 zq n)) := aK Try.func35 (by kernel_rfl) (by kernel_rfl) (by kernel_rfl) bV (fun n => apH kX Jw jq iY n) rfl (allC agM (allC akW allN)) (allC (nY (by kernel_rfl) (fun n => (jq.eq_2 ..).symm) (fun n => an7 kX Jw jq iY n)) (allC (nY (by kernel_rfl) (fun n => (iY.eq_2 ..).symm) (fun n => anz kX Jw jq iY n)) allN))
abbrev aph (F0 : T15 α) (F1 : T20 α) (F2 : T20 α) : Nat → Ctx α := ctxS o0 M eqs jt0 [⟨29, S13, F0⟩, ⟨32, S36, F1⟩, ⟨35, S18, F2⟩] []
theorem aqA (F0 : T15 α) (F1 : T20 α) (F2 : T20 α) (n : Nat) : GenF (α := α) Try.prog Try.f15 S18 (aph F0 F1 F2 n) n (PX F0 F1 F2) := by intro _ _; kernel_rfl
theorem ahm [Inhabited aQ] {α : Type} : ∀ n, az (α := α) Try.prog 15 (aZ S18.sh (bY S18 bz n)) := aK Try.func15 (by kernel_rfl) (by kernel_rfl) (by kernel_rfl) bV (fun n => aqA MX gQ zq n) rfl (allC adz (allC ajm (allC alX allN))) allN
def akt : Tpl := ⟨(.sl 0 :: (.fn 25 [] :: (.any :: (.any :: (.any :: (.int .i64 :: (.any :: (.any :: (.sl 0 :: (.int .i64 :: (.int .i64 :: (anyN 14 [])))))))))))), [(0, .rows 0 25 .pt)], [], false⟩
def ajf : PcS := Cj [.int, .int, .int, .rows .pt] [0]
abbrev amH (F0 : T38 α) (F1 : T9 α) (G3 : T41 α) : Nat → Ctx α := ctxS o0 M eqs jt0 [⟨59, S37, F0⟩, ⟨25, S7, F1⟩] [lpT 3 akt ajf R4 G3]
theorem anE (F0 : T38 α) (F1 : T9 α) (G3 : T41 α) (n : Nat) : GenL (α := α) Try.prog Try.f61 S38 (amH F0 F1 G3 n) 3 akt ajf n G3 (fun k => mZ F0 F1 (G3 k) k) := by intro _ _ _ _ _ _; kernel_rfl
theorem aoV (F0 : T38 α) (F1 : T9 α) (G3 : T41 α) (n : Nat) : GenF (α := α) Try.prog Try.f61 S38 (amH F0 F1 G3 n) n (tZ G3) := by intro _ _; kernel_rfl
theorem al8 [Inhabited aQ] {α : Type} : ∀ n, az (α := α) Try.prog 61 (aZ S38.sh (bY S38 pq n)) := aK Try.func61 (by kernel_rfl) (by kernel_rfl) (by kernel_rfl) bV (fun n => aoV kX kV gX n) rfl (allC agM (allC Tz allN)) (allC (nY (by kernel_rfl) (fun n => (gX.eq_2 ..).symm) (fun n => anE kX kV gX n)) allN)
abbrev ape (F0 : T19 α) : Nat → Ctx α := ctxS o0 M eqs jt0 [⟨61, S38, F0⟩] []
theorem apT (F0 : T19 α) (n : Nat) : GenF (α := α) Try.prog Try.f37 S39 (ape F0 n) n (IQ F0) := by intro _ _; kernel_rfl
theorem aln [Inhabited aQ] {α : Type} : ∀ n, az (α := α) Try.prog 37 (aZ S39.sh (bY S39 CY n)) := aK Try.func37 (by kernel_rfl) (by kernel_rfl) (by kernel_rfl) bV (fun n => apT pq n) rfl (allC al8 allN) allN
abbrev aoA (F0 : T20 α) (F1 : T19 α) : Nat → Ctx α := ctxS o0 M eqs jt0 [⟨15, S18, F0⟩, ⟨37, S39, F1⟩] []
theorem aoI (F0 : T20 α) (F1 : T19 α) (n : Nat) : GenF (α := α) Try.prog Try.f36 S40 (aoA F0 F1 n) n (oZ F0 F1) := by intro _ _; kernel_rfl
theorem alQ [Inhabited aQ] {α : Type} : ∀ n, az (α := α) Try.prog 36 (aZ S40.sh (bY S40 lZ n)) := aK Try.func36 (by kernel_rfl) (by kernel_rfl) (by kernel_rfl) bV (fun n => aoI bz CY n) rfl (allC ahm (allC aln allN)) allN
abbrev aqJ (F0 : T42 α) : Nat → Ctx α := ctxS o0 M eqs jt0 [⟨36, S40, F0⟩] []
theorem apf (F0 : T42 α) (n : Nat) : GenF (α := α) Try.prog Try.f16 S41 (aqJ F0 n) n (FX F0) := by intro _ _; kernel_rfl
theorem al2 [Inhabited aQ] {α : Type} : ∀ n, az (α := α) Try.prog 16 (aZ S41.sh (bY S41 aX n)) := aK Try.func16 (by kernel_rfl) (by kernel_rfl) (by kernel_rfl) bV (fun n => apf lZ n) rfl (allC alQ allN) allN
abbrev aqm (F0 : T20 α) : Nat → Ctx α := ctxS o0 M eqs jt0 [⟨23, S18, F0⟩] []
theorem aqo (F0 : T20 α) (n : Nat) : GenF (α := α) Try.prog Try.f38 S42 (aqm F0 n) n (Qy F0) := by intro _ _ _ _ _; kernel_rfl
theorem ala [Inhabited aQ] {α : Type} : ∀ n, az (α := α) Try.prog 38 (aZ S42.sh (bY S42 Oz n)) := aK Try.func38 (by kernel_rfl) (by kernel_rfl) (by kernel_rfl) bV (fun n => aqo pY n) rfl (allC abo allN) allN
abbrev apu : Nat → Ctx α := ctxS o0 M eqs jt0 [] []
theorem apW (n : Nat) : GenF (α := α) Try.prog Try.f40 S43 (apu n) n (Hw) := by intro _ _ _ _ _ _ _; kernel_rfl
theorem alq [Inhabited aQ] {α : Type} : ∀ n, az (α := α) Try.prog 40 (aZ S43.sh (bY S43 CZ n)) := aK Try.func40 (by kernel_rfl) (by kernel_rfl) (by kernel_rfl) bV (fun n => apW n) rfl allN allN
abbrev aqg (F0 : T17 α) : Nat → Ctx α := ctxS o0 M eqs jt0 [⟨39, S15, F0⟩] []
theorem aqb (F0 : T17 α) (n : Nat) : GenF (α := α) Try.prog Try.f41 S44 (aqg F0 n) n (NY F0) := by intro _ _ _; kernel_rfl
theorem alz [Inhabited aQ] {α : Type} : ∀ n, az (α := α) Try.prog 41 (aZ S44.sh (bY S44 Ij n)) := aK Try.func41 (by kernel_rfl) (by kernel_rfl) (by kernel_rfl) bV (fun n => aqb nJ n) rfl (allC aby allN) allN
abbrev aqk (F0 : T22 α) (F1 : T17 α) (F2 : T32 α) (F3 : T43 α) : Nat → Ctx α := ctxS o0 M eqs jt0 [⟨38, S42, F0⟩, ⟨39, S15, F1⟩, ⟨40, S43, F2⟩, ⟨41, S44, F3⟩] []
theorem apG (F0 : T22 α) (F1 : T17 α) (F2 : T32 α) (F3 : T43 α) (n : Nat) : GenF (α := α) Try.prog Try.f17 S45 (aqk F0 F1 F2 F3 n) n (Jy F0 F1 F2 F3) := by intro _ _ _ _ _ _ _; kernel_rfl
theorem ak8 [Inhabited aQ] {α : Type} : ∀ n, az (α := α) Try.prog 17 (aZ S45.sh (bY S45 aV n)) := aK Try.func17 (by kernel_rfl) (by kernel_rfl) (by kernel_rfl) bV (fun n => apG Oz nJ CZ Ij n) rfl (allC ala (allC aby (allC alq (allC alz allN)))) allN
abbrev apr : Nat → Ctx α := ctxS o0 M eqs jt0 [] []
theorem apF (n : Nat) : GenF (α := α) Try.prog Try.f18 S46 (apr n) n (QQ) := by intro _; kernel_rfl
theorem ak3 [Inhabited aQ] {α : Type} : ∀ n, az (α := α) Try.prog 18 (aZ S46.sh (bY S46 bQ n)) := aK Try.func18 (by kernel_rfl) (by kernel_rfl) (by kernel_rfl) bV (fun n => apF n) rfl allN allN
def ah1 : Tpl := ⟨(.sl 0 :: (.nilsl :: (.any :: (.any :: (.any :: (.int .i64 :: (anyN 20 []))))))), [(0, .rows 0 2 (.int .i64))], [], false⟩
def ahU : PcS := Cj [.int, .rows (.int .i64)] [0]
abbrev aju (G4 : T46 α) : Nat → Ctx α := ctxS o0 M eqs jt0 [] [lpT 4 ah1 ahU R0 G4]
theorem amK (G4 : T46 α) (n : Nat) : GenL (α := α) Try.prog Try.f18 S47 (aju G4 n) 4 ah1 ahU n G4 (fun k => Rz k) := by intro _ _ _ _; kernel_rfl
theorem aob (G4 : T46 α) (n : Nat) : GenF (α := α) Try.prog Try.f18 S47 (aju G4 n) n (WY G4) := by intro _ _; kernel_rfl
theorem ajV [Inhabited aQ] {α : Type} : ∀ n, az (α := α) Try.prog 18 (aZ S47.sh (bY S47 dV n)) := aK Try.func18 (by kernel_rfl) (by kernel_rfl) (by kernel_rfl) bV (fun n => aob zx n) rfl allN (allC (nY (by kernel_rfl) (fun n => (zx.eq_2 ..).symm) (fun n => amK zx n)) allN)
theorem akw [Inhabited aQ] {α : Type} (hq : ¬ Qt) : ∀ n, az (α := α) Try.prog 14 (aZ S48.sh (bY S48 dJ n)) := Go.Proofs.Ytiggcnbnidnaiaa.frac_good hq (fun _ _ _ => rfl)
abbrev anB : Nat → Ctx α := ctxS o0 M eqs jt0 [] []
theorem anx (n : Nat) : GenF (α := α) Try.prog Try.f18 S49 (anB n) n (Wv) := by intro _ _; kernel_rfl
theorem ajM [Inhabited aQ] {α : Type} : ∀ n, az (α := α) Try.prog 18 (aZ S49.sh (bY S49 dW n)) := aK Try.func18 (by kernel_rfl) (by kernel_rfl) (by kernel_rfl) bV (fun n => anx n) rfl allN allN
def ah2 : Tpl := ⟨(.sl 0 :: (.sl 64 :: (.any :: (.any :: (.any :: (.int .i64 :: (anyN 20 []))))))), [(0, .rows 0 2 (.int .i64)), (64, .rows 0 2 (.int .i64))], [], false⟩
def aiu : PcS := Cj [.int, .rows (.int .i64), .rows (.int .i64)] [0]
abbrev ajI (G4 : T47 α) : Nat → Ctx α := ctxS o0 M eqs jt0 [] [lpT 4 ah2 aiu R0 G4]
theorem amP (G4 : T47 α) (n : Nat) : GenL (α := α) Try.prog Try.f18 S50 (ajI G4 n) 4 ah2 aiu n G4 (fun k => CX (G4 k) k) := by intro _ _ _ _ _; kernel_rfl
theorem aoc (G4 : T47 α) (n : Nat) : GenF (α := α) Try.prog Try.f18 S50 (ajI G4 n) n (Sz G4) := by intro _ _ _; kernel_rfl
theorem aj0 [Inhabited aQ] {α : Type} : ∀ n, az (α := α) Try.prog 18 (aZ S50.sh (bY S50 dK n)) := aK Try.func18 (by kernel_rfl) (by kernel_rfl) (by kernel_rfl) bV (fun n => aoc pJ n) rfl allN (allC (nY (by kernel_rfl) (fun n => (pJ.eq_2 ..).symm) (fun n => amP pJ n)) allN)
end Go.Proofs.Ytiggcnbnidnaiaa
