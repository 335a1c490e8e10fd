/- The program's functions, read without memory: printed by a program of ours. -/
import Derived.Test.YtbepofgmcchbdaaMaB
namespace Go.Sh
open Go Go.Ev

/-- loop.example/g01297/laws.big -/
def laws_big {α : Type} (k : Nat) (code : List Int) (r0 : Bool → Option α) : Option α :=
  r0 (decide (4096 < (((List.length code) : Nat) : Int)))

def spec_l01From_l3 {α : Type} : Nat → Int → List Int → Int → Int → (Int → List Int → Int → Int → Option α) → (Int → Int → Option α) → Option α
  | 0, _, _, _, _, _, _ => none
  | k + 1, i, code1, s, s1, b0, r0 =>
    bif decide (i < (((List.length code1) : Nat) : Int)) then
      bif decide (i < 4096) then
        bif (decide (0 ≤ i) && decide (i < (((List.length code1) : Nat) : Int))) then
          (code1[i.toNat]?).bind fun e_ =>
          spec_l01From_l3 k (w64 (i + 1)) code1 s (IntKind.wrap .u64 ((IntKind.wrap .u64 ((IntKind.wrap .u64 (s1 * 1099511628211)) + (IntKind.wrap .u64 e_))) + 107)) b0 r0
        else
          none
      else
        b0 i code1 s s1
    else
      b0 i code1 s s1

/-- loop.example/g01297/spec.l01From -/
def spec_l01From {α : Type} (k : Nat) (code : List Int) (r0 : Int → Int → Option α) : Option α :=
  spec_l01From_l3 k 0 code 0 (IntKind.wrap .u64 (12971 + (IntKind.wrap .u64 (((List.length code) : Nat) : Int))))
    (fun _ _ s2 s3 =>
      r0 s2 s3)
    r0

/-- loop.example/g01297/spec.l01Next -/
def spec_l01Next {α : Type} (k : Nat) (s : List Int) (s1 : Int) (s2 : Int) (n_ : Int) (r0 : Int → Int → Int → Option α) : Option α :=
  bif decide (n_ < 1) then
    r0 0 s1 s2
  else
  bif decide (s1 < (((List.length s) : Nat) : Int)) then
    bif (decide (0 ≤ s1) && decide (s1 < (((List.length s) : Nat) : Int))) then
      (s[s1.toNat]?).bind fun e_ =>
      bif decide (n_ = 0) then
        none
      else
        r0 (Int.tmod (w64 ((w64 (IntKind.wrap .u64 ((BitVec.ofInt 64 (Int.fdiv (IntKind.wrap .u64 ((IntKind.wrap .u64 (s2 * 6364136223846793005)) + 1442695040888963407)) (2 ^ 31)) &&& BitVec.ofInt 64 1073741823).toNat))) + (w64 e_))) n_) (w64 (s1 + 1)) (IntKind.wrap .u64 ((IntKind.wrap .u64 (s2 * 6364136223846793005)) + 1442695040888963407))
    else
      none
  else
  bif decide (n_ = 0) then
    none
  else
    r0 (Int.tmod (w64 (IntKind.wrap .u64 ((BitVec.ofInt 64 (Int.fdiv (IntKind.wrap .u64 ((IntKind.wrap .u64 (s2 * 6364136223846793005)) + 1442695040888963407)) (2 ^ 31)) &&& BitVec.ofInt 64 1073741823).toNat))) n_) s1 (IntKind.wrap .u64 ((IntKind.wrap .u64 (s2 * 6364136223846793005)) + 1442695040888963407))

/-- loop.example/g01297/spec.l01In -/
def spec_l01In {α : Type} (k : Nat) (n_ : Int) (low : Int) (high : Int) (r0 : Bool → Option α) : Option α :=
  bif decide (low ≤ n_) then
    r0 (decide (n_ ≤ high))
  else
    r0 false

/-- loop.example/g01297/spec.l01Fits -/
def spec_l01Fits {α : Type} (k : Nat) (x : Int) (r0 : Bool → Option α) : Option α :=
  spec_l01In k x (-1000000) 1000000 fun v =>
  r0 v

/-- loop.example/g01297/spec.l06Disc -/
def spec_l06Disc {α : Type} (k : Nat) (x : Int) (x1 : Int) (x2 : Int) (r0 : Int → Option α) : Option α :=
  r0 (w64 ((w64 (x1 * x1)) - (w64 ((w64 (4 * x)) * x2))))

def spec_l06Root_l2 {α : Type} : Nat → Int → Int → (Int → Int → Option α) → (Int → Option α) → Option α
  | 0, _, _, _, _ => none
  | k + 1, d1, w, b0, r0 =>
    bif decide ((w64 ((w64 (w + 1)) * (w64 (w + 1)))) ≤ d1) then
      spec_l06Root_l2 k d1 (w64 (w + 1)) b0 r0
    else
      b0 d1 w

/-- loop.example/g01297/spec.l06Root -/
def spec_l06Root {α : Type} (k : Nat) (d : Int) (r0 : Int → Option α) : Option α :=
  spec_l06Root_l2 k d 0
    (fun _ w1 =>
      r0 w1)
    r0

/-- loop.example/g01297/spec.l06Is -/
def spec_l06Is {α : Type} (k : Nat) (x : Int) (x1 : Int) (x2 : Int) (r0 : Bool → Option α) : Option α :=
  spec_l01Fits k x fun v =>
  bif (!v) then
    r0 false
  else
    spec_l01Fits k x1 fun v1 =>
    bif (!v1) then
      r0 false
    else
      spec_l01Fits k x2 fun v2 =>
      bif (!v2) then
        r0 false
      else
        spec_l06Disc k x x1 x2 fun v3 =>
        spec_l01In k v3 1 4000 fun v4 =>
        bif (!v4) then
          r0 false
        else
          spec_l06Root k v3 fun v5 =>
          r0 (!decide ((w64 (v5 * v5)) = v3))

/-- loop.example/g01297/spec.l01Rest -/
def spec_l01Rest {α : Type} (k : Nat) (n_ : Int) (x : Int) (r0 : Int → Option α) : Option α :=
  bif decide (n_ = 0) then
    none
  else
  bif decide (n_ = 0) then
    none
  else
    r0 (Int.tmod (w64 ((Int.tmod x n_) + n_)) n_)

/-- loop.example/g01297/spec.l06Next -/
def spec_l06Next {α : Type} (k : Nat) (x : Int) (x1 : Int) (x2 : Int) (d : Int) (w : Int) (r0 : Int → Int → Int → Option α) : Option α :=
  bif decide (w < (max x2 (w64 (0 - x2)))) then
    spec_l01Rest k (w64 (2 * (max x2 (w64 (0 - x2))))) (w64 ((max x2 (w64 (0 - x2))) + x1)) fun v =>
    bif decide ((w64 (4 * x2)) = 0) then
      none
    else
      r0 x2 (w64 ((max x2 (w64 (0 - x2))) - v)) (w64 (Int.tdiv (w64 ((w64 ((w64 ((max x2 (w64 (0 - x2))) - v)) * (w64 ((max x2 (w64 (0 - x2))) - v)))) - d)) (w64 (4 * x2))))
  else
    spec_l01Rest k (w64 (2 * (max x2 (w64 (0 - x2))))) (w64 (w + x1)) fun v1 =>
    bif decide ((w64 (4 * x2)) = 0) then
      none
    else
      r0 x2 (w64 (w - v1)) (w64 (Int.tdiv (w64 ((w64 ((w64 (w - v1)) * (w64 (w - v1)))) - d)) (w64 (4 * x2))))

/-- loop.example/g01297/spec.l01Pick -/
def spec_l01Pick {α : Type} (k : Nat) (s : List Int) (s1 : Int) (s2 : Int) (list : List Int) (r0 : Int → Int → Int → Option α) : Option α :=
  spec_l01Next k s s1 s2 (((List.length list) : Nat) : Int) fun v v1 v2 =>
  bif (decide (0 ≤ v) && decide (v < (((List.length list) : Nat) : Int))) then
    (list[v.toNat]?).bind fun e_ =>
    r0 e_ v1 v2
  else
    none

def spec_l06DrawForm_l7 {α : Type} : Nat → Int → Int → Int → Int → Int → Int → Int → Int → Int → List Int → (Int → Int → Int → Int → Int → Int → Int → Int → Int → List Int → Option α) → (Int → Int → Int → Int → Int → Option α) → Option α
  | 0, _, _, _, _, _, _, _, _, _, _, _, _ => none
  | k + 1, n_, b_, b_1, x, x1, x2, x3, x4, x5, b_2, b2, r0 =>
    bif decide (0 < n_) then
      spec_l06Disc k x3 x4 x5 fun v13 =>
      spec_l06Disc k x3 x4 x5 fun v14 =>
      spec_l06Root k v14 fun v15 =>
      spec_l06Next k x3 x4 x5 v13 v15 fun v16 v17 v18 =>
      spec_l06DrawForm_l7 k (w64 (n_ - 1)) b_ b_1 x x1 x2 v16 v17 v18 b_2 b2 r0
    else
      b2 n_ b_ b_1 x x1 x2 x3 x4 x5 b_2

/-- loop.example/g01297/spec.l06DrawForm -/
def spec_l06DrawForm {α : Type} (k : Nat) (s : List Int) (s1 : Int) (s2 : Int) (r0 : Int → Int → Int → Int → Int → Option α) : Option α :=
  spec_l01Next k s s1 s2 25 fun v v1 v2 =>
  spec_l01Next k s v1 v2 31 fun v3 v4 v5 =>
  spec_l01Next k s v4 v5 25 fun v6 v7 v8 =>
  spec_l06Is k (w64 (v - 12)) (w64 (v3 - 15)) (w64 (v6 - 12)) fun v9 =>
  bif v9 then
    spec_l01Next k s v7 v8 3 fun v10 v11 v12 =>
    spec_l06DrawForm_l7 k v10 v11 v12 0 0 0 (w64 (v - 12)) (w64 (v3 - 15)) (w64 (v6 - 12)) s
      (fun _ b_3 b_4 _ _ _ x9 x10 x11 _ =>
        r0 x9 x10 x11 b_3 b_4)
      r0
  else
    spec_l01Next k s v7 v8 25 fun v19 v20 v21 =>
    spec_l01Next k s v20 v21 31 fun v22 v23 v24 =>
    spec_l01Next k s v23 v24 25 fun v25 v26 v27 =>
    spec_l06Is k (w64 (v19 - 12)) (w64 (v22 - 15)) (w64 (v25 - 12)) fun v28 =>
    bif v28 then
      spec_l01Next k s v26 v27 3 fun v29 v30 v31 =>
      spec_l06DrawForm_l7 k v29 v30 v31 0 0 0 (w64 (v19 - 12)) (w64 (v22 - 15)) (w64 (v25 - 12)) s
        (fun _ b_6 b_7 _ _ _ x15 x16 x17 _ =>
          r0 x15 x16 x17 b_6 b_7)
        r0
    else
      spec_l01Next k s v26 v27 25 fun v32 v33 v34 =>
      spec_l01Next k s v33 v34 31 fun v35 v36 v37 =>
      spec_l01Next k s v36 v37 25 fun v38 v39 v40 =>
      spec_l06Is k (w64 (v32 - 12)) (w64 (v35 - 15)) (w64 (v38 - 12)) fun v41 =>
      bif v41 then
        spec_l01Next k s v39 v40 3 fun v42 v43 v44 =>
        spec_l06DrawForm_l7 k v42 v43 v44 0 0 0 (w64 (v32 - 12)) (w64 (v35 - 15)) (w64 (v38 - 12)) s
          (fun _ b_9 b_10 _ _ _ x21 x22 x23 _ =>
            r0 x21 x22 x23 b_9 b_10)
          r0
      else
        spec_l01Next k s v39 v40 25 fun v45 v46 v47 =>
        spec_l01Next k s v46 v47 31 fun v48 v49 v50 =>
        spec_l01Next k s v49 v50 25 fun v51 v52 v53 =>
        spec_l06Is k (w64 (v45 - 12)) (w64 (v48 - 15)) (w64 (v51 - 12)) fun v54 =>
        bif v54 then
          spec_l01Next k s v52 v53 3 fun v55 v56 v57 =>
          spec_l06DrawForm_l7 k v55 v56 v57 0 0 0 (w64 (v45 - 12)) (w64 (v48 - 15)) (w64 (v51 - 12)) s
            (fun _ b_12 b_13 _ _ _ x27 x28 x29 _ =>
              r0 x27 x28 x29 b_12 b_13)
            r0
        else
          spec_l01Next k s v52 v53 25 fun v58 v59 v60 =>
          spec_l01Next k s v59 v60 31 fun v61 v62 v63 =>
          spec_l01Next k s v62 v63 25 fun v64 v65 v66 =>
          spec_l06Is k (w64 (v58 - 12)) (w64 (v61 - 15)) (w64 (v64 - 12)) fun v67 =>
          bif v67 then
            spec_l01Next k s v65 v66 3 fun v68 v69 v70 =>
            spec_l06DrawForm_l7 k v68 v69 v70 0 0 0 (w64 (v58 - 12)) (w64 (v61 - 15)) (w64 (v64 - 12)) s
              (fun _ b_15 b_16 _ _ _ x33 x34 x35 _ =>
                r0 x33 x34 x35 b_15 b_16)
              r0
          else
            spec_l01Next k s v65 v66 25 fun v71 v72 v73 =>
            spec_l01Next k s v72 v73 31 fun v74 v75 v76 =>
            spec_l01Next k s v75 v76 25 fun v77 v78 v79 =>
            spec_l06Is k (w64 (v71 - 12)) (w64 (v74 - 15)) (w64 (v77 - 12)) fun v80 =>
            bif v80 then
              spec_l01Next k s v78 v79 3 fun v81 v82 v83 =>
              spec_l06DrawForm_l7 k v81 v82 v83 0 0 0 (w64 (v71 - 12)) (w64 (v74 - 15)) (w64 (v77 - 12)) s
                (fun _ b_18 b_19 _ _ _ x39 x40 x41 _ =>
                  r0 x39 x40 x41 b_18 b_19)
                r0
            else
              spec_l01Next k s v78 v79 25 fun v84 v85 v86 =>
              spec_l01Next k s v85 v86 31 fun v87 v88 v89 =>
              spec_l01Next k s v88 v89 25 fun v90 v91 v92 =>
              spec_l06Is k (w64 (v84 - 12)) (w64 (v87 - 15)) (w64 (v90 - 12)) fun v93 =>
              bif v93 then
                spec_l01Next k s v91 v92 3 fun v94 v95 v96 =>
                spec_l06DrawForm_l7 k v94 v95 v96 0 0 0 (w64 (v84 - 12)) (w64 (v87 - 15)) (w64 (v90 - 12)) s
                  (fun _ b_21 b_22 _ _ _ x45 x46 x47 _ =>
                    r0 x45 x46 x47 b_21 b_22)
                  r0
              else
                spec_l01Next k s v91 v92 25 fun v97 v98 v99 =>
                spec_l01Next k s v98 v99 31 fun v100 v101 v102 =>
                spec_l01Next k s v101 v102 25 fun v103 v104 v105 =>
                spec_l06Is k (w64 (v97 - 12)) (w64 (v100 - 15)) (w64 (v103 - 12)) fun v106 =>
                bif v106 then
                  spec_l01Next k s v104 v105 3 fun v107 v108 v109 =>
                  spec_l06DrawForm_l7 k v107 v108 v109 0 0 0 (w64 (v97 - 12)) (w64 (v100 - 15)) (w64 (v103 - 12)) s
                    (fun _ b_24 b_25 _ _ _ x51 x52 x53 _ =>
                      r0 x51 x52 x53 b_24 b_25)
                    r0
                else
                  spec_l01Pick k s v104 v105 [0, 1, 2] fun v110 v111 v112 =>
                  spec_l01Pick k s v111 v112 [(-1), (-3), (-1000000), 1000001] fun v113 v114 v115 =>
                  r0 1 v110 v113 v114 v115

/-- loop.example/g01297/spec.DrawNextForm -/
def spec_DrawNextForm {α : Type} (k : Nat) (code : List Int) (r0 : Int → Int → Int → Option α) : Option α :=
  spec_l01From k code fun v v1 =>
  spec_l06DrawForm k code v v1 fun v2 v3 v4 _ _ =>
  r0 v2 v3 v4

/-- loop.example/g01297/impl.in -/
def impl_in {α : Type} (k : Nat) (n_ : Int) (low : Int) (high : Int) (r0 : Bool → Option α) : Option α :=
  bif decide (low ≤ n_) then
    r0 (decide (n_ ≤ high))
  else
    r0 false

/-- loop.example/g01297/impl.isCoord -/
def impl_isCoord {α : Type} (k : Nat) (n_ : Int) (r0 : Bool → Option α) : Option α :=
  impl_in k n_ (-1000000) 1000000 fun v =>
  r0 v

/-- (loop.example/g01297/impl.Form).disc -/
def impl_Form_disc {α : Type} (k : Nat) (x : Int) (x1 : Int) (x2 : Int) (r0 : Int → Option α) : Option α :=
  r0 (w64 ((w64 (x1 * x1)) - (w64 ((w64 (4 * x)) * x2))))

def impl_root_l2 {α : Type} : Nat → Int → Int → (Int → Int → Option α) → (Int → Option α) → Option α
  | 0, _, _, _, _ => none
  | k + 1, d1, w, b0, r0 =>
    bif decide ((w64 ((w64 (w + 1)) * (w64 (w + 1)))) ≤ d1) then
      impl_root_l2 k d1 (w64 (w + 1)) b0 r0
    else
      b0 d1 w

/-- loop.example/g01297/impl.root -/
def impl_root {α : Type} (k : Nat) (d : Int) (r0 : Int → Option α) : Option α :=
  impl_root_l2 k d 0
    (fun _ w1 =>
      r0 w1)
    r0

/-- loop.example/g01297/impl.discOk -/
def impl_discOk {α : Type} (k : Nat) (d : Int) (r0 : Bool → Option α) : Option α :=
  impl_in k d 1 4000 fun v =>
  bif v then
    impl_root k d fun v1 =>
    impl_root k d fun v2 =>
    r0 (!decide ((w64 (v1 * v2)) = d))
  else
    r0 false

/-- loop.example/g01297/impl.IsForm -/
def impl_IsForm {α : Type} (k : Nat) (x : Int) (x1 : Int) (x2 : Int) (r0 : Bool → Option α) : Option α :=
  impl_isCoord k x fun v =>
  bif v then
    impl_isCoord k x1 fun v1 =>
    bif v1 then
      impl_isCoord k x2 fun v2 =>
      bif v2 then
        impl_Form_disc k x x1 x2 fun v3 =>
        impl_discOk k v3 fun v4 =>
        r0 v4
      else
        r0 false
    else
      r0 false
  else
    r0 false

/-- loop.example/g01297/impl.size -/
def impl_size {α : Type} (k : Nat) (n_ : Int) (r0 : Int → Option α) : Option α :=
  r0 (max n_ (w64 (0 - n_)))

/-- loop.example/g01297/impl.floor -/
def impl_floor {α : Type} (k : Nat) (a : Int) (b_ : Int) (r0 : Int → Option α) : Option α :=
  bif decide (b_ = 0) then
    none
  else
  bif decide (b_ = 0) then
    none
  else
  bif (!decide ((Int.tmod a b_) = 0)) then
    bif (!(decide (a < 0) == decide (b_ < 0))) then
      r0 (w64 ((w64 (Int.tdiv a b_)) - 1))
    else
      r0 (w64 (Int.tdiv a b_))
  else
    r0 (w64 (Int.tdiv a b_))

/-- loop.example/g01297/impl.mod -/
def impl_mod {α : Type} (k : Nat) (a : Int) (b_ : Int) (r0 : Int → Option α) : Option α :=
  impl_floor k a b_ fun v =>
  r0 (w64 (a - (w64 (b_ * v))))

/-- (loop.example/g01297/impl.Form).next -/
def impl_Form_next {α : Type} (k : Nat) (x : Int) (x1 : Int) (x2 : Int) (r0 : Int → Int → Int → Option α) : Option α :=
  impl_Form_disc k x x1 x2 fun v =>
  impl_size k x2 fun v1 =>
  impl_root k v fun v2 =>
  bif decide (v2 < v1) then
    impl_mod k (w64 ((w64 (0 - x1)) - (w64 (1 - v1)))) (w64 (2 * v1)) fun v3 =>
    bif decide ((w64 (4 * x2)) = 0) then
      none
    else
      r0 x2 (w64 ((w64 (1 - v1)) + v3)) (w64 (Int.tdiv (w64 ((w64 ((w64 ((w64 (1 - v1)) + v3)) * (w64 ((w64 (1 - v1)) + v3)))) - v)) (w64 (4 * x2))))
  else
    impl_mod k (w64 ((w64 (0 - x1)) - (w64 ((w64 (v2 - (w64 (2 * v1)))) + 1)))) (w64 (2 * v1)) fun v4 =>
    bif decide ((w64 (4 * x2)) = 0) then
      none
    else
      r0 x2 (w64 ((w64 ((w64 (v2 - (w64 (2 * v1)))) + 1)) + v4)) (w64 (Int.tdiv (w64 ((w64 ((w64 ((w64 ((w64 (v2 - (w64 (2 * v1)))) + 1)) + v4)) * (w64 ((w64 ((w64 (v2 - (w64 (2 * v1)))) + 1)) + v4)))) - v)) (w64 (4 * x2))))

/-- loop.example/g01297/impl.NextForm -/
def impl_NextForm {α : Type} (k : Nat) (x : Int) (x1 : Int) (x2 : Int) (r0 : Int → Int → Int → Int → Option α) : Option α :=
  impl_IsForm k x x1 x2 fun v =>
  bif (!v) then
    r0 0 0 0 1
  else
    impl_Form_next k x x1 x2 fun v1 v2 v3 =>
    r0 v1 v2 v3 0

/-- loop.example/g01297/spec.NextForm -/
def spec_NextForm {α : Type} (k : Nat) (x : Int) (x1 : Int) (x2 : Int) (r0 : Int → Int → Int → Int → Option α) : Option α :=
  spec_l06Is k x x1 x2 fun v =>
  bif (!v) then
    r0 0 0 0 1
  else
    spec_l06Disc k x x1 x2 fun v1 =>
    spec_l06Root k v1 fun v2 =>
    spec_l06Next k x x1 x2 v1 v2 fun v3 v4 v5 =>
    r0 v3 v4 v5 0

/-- loop.example/g01297/spec.IsForm -/
def spec_IsForm {α : Type} (k : Nat) (x : Int) (x1 : Int) (x2 : Int) (r0 : Bool → Option α) : Option α :=
  spec_l06Is k x x1 x2 fun v =>
  r0 v

/-- (loop.example/g01297/impl.Form).reduced -/
def impl_Form_reduced {α : Type} (k : Nat) (x : Int) (x1 : Int) (x2 : Int) (r0 : Bool → Option α) : Option α :=
  impl_Form_disc k x x1 x2 fun v =>
  impl_root k v fun v1 =>
  impl_in k x1 1 v1 fun v2 =>
  bif v2 then
    impl_size k x fun v3 =>
    bif decide ((w64 (v1 - x1)) < (w64 (2 * v3))) then
      impl_size k x fun v4 =>
      r0 (decide ((w64 (2 * v4)) ≤ (w64 (v1 + x1))))
    else
      r0 false
  else
    r0 false

def impl_Form_cycle_l1 {α : Type} : Nat → Int → Int → Int → (Int → Int → Int → Option α) → ((List (Int × Int × Int)) → Option α) → Option α
  | 0, _, _, _, _, _ => none
  | k + 1, x3, x4, x5, b0, r0 =>
    impl_Form_reduced k x3 x4 x5 fun v =>
    bif (!v) then
      impl_Form_next k x3 x4 x5 fun v1 v2 v3 =>
      impl_Form_cycle_l1 k v1 v2 v3 b0 r0
    else
      b0 x3 x4 x5

def impl_Form_cycle_l5 {α : Type} : Nat → Int → Int → Int → (List (Int × Int × Int)) → Int → Int → Int → (Int → Int → Int → (List (Int × Int × Int)) → Int → Int → Int → Option α) → ((List (Int × Int × Int)) → Option α) → Option α
  | 0, _, _, _, _, _, _, _, _, _ => none
  | k + 1, x9, x10, x11, out, y, y1, y2, b2, r0 =>
    bif (!(decide (y = x9) && (decide (y1 = x10) && decide (y2 = x11)))) then
      bif decide (((List.length out) + 1) ≤ big) then
        impl_Form_next k y y1 y2 fun v7 v8 v9 =>
        impl_Form_cycle_l5 k x9 x10 x11 (out ++ [(y, y1, y2)]) v7 v8 v9 b2 r0
      else
        none
    else
      b2 x9 x10 x11 out y y1 y2

/-- (loop.example/g01297/impl.Form).cycle -/
def impl_Form_cycle {α : Type} (k : Nat) (x : Int) (x1 : Int) (x2 : Int) (r0 : (List (Int × Int × Int)) → Option α) : Option α :=
  impl_Form_cycle_l1 k x x1 x2
    (fun x6 x7 x8 =>
      impl_Form_next k x6 x7 x8 fun v4 v5 v6 =>
      impl_Form_cycle_l5 k x6 x7 x8 [(x6, x7, x8)] v4 v5 v6
        (fun _ _ _ out1 _ _ _ =>
          r0 out1)
        r0)
    r0

/-- loop.example/g01297/impl.CycleOfForm -/
def impl_CycleOfForm {α : Type} (k : Nat) (x : Int) (x1 : Int) (x2 : Int) (r0 : Int → Option α) (r1 : (List (Int × Int × Int)) → Int → Option α) : Option α :=
  impl_IsForm k x x1 x2 fun v =>
  bif (!v) then
    r0 1
  else
    impl_Form_cycle k x x1 x2 fun v1 =>
    r1 v1 0

/-- loop.example/g01297/spec.l06Reduced -/
def spec_l06Reduced {α : Type} (k : Nat) (x : Int) (x1 : Int) (x2 : Int) (w : Int) (r0 : Bool → Option α) : Option α :=
  bif decide (0 < x1) then
    bif decide (x1 ≤ w) then
      bif decide ((w64 (w - x1)) < (w64 (2 * (max x (w64 (0 - x)))))) then
        r0 (decide ((w64 (2 * (max x (w64 (0 - x))))) ≤ (w64 (w + x1))))
      else
        r0 false
    else
      r0 false
  else
    r0 false

def spec_l06Cycle_l3 {α : Type} : Nat → Int → Int → Int → Int → Int → (Int → Int → Int → Int → Int → Option α) → ((List (Int × Int × Int)) → Option α) → Option α
  | 0, _, _, _, _, _, _, _ => none
  | k + 1, d, w, x3, x4, x5, b0, r0 =>
    spec_l06Reduced k x3 x4 x5 w fun v2 =>
    bif (!v2) then
      spec_l06Next k x3 x4 x5 d w fun v3 v4 v5 =>
      spec_l06Cycle_l3 k d w v3 v4 v5 b0 r0
    else
      b0 d w x3 x4 x5

def spec_l06Cycle_l7 {α : Type} : Nat → Int → Int → Int → Int → Int → (List (Int × Int × Int)) → Int → Int → Int → (Int → Int → Int → Int → Int → (List (Int × Int × Int)) → Int → Int → Int → Option α) → ((List (Int × Int × Int)) → Option α) → Option α
  | 0, _, _, _, _, _, _, _, _, _, _, _ => none
  | k + 1, d2, w2, x9, x10, x11, out, now, now1, now2, b2, r0 =>
    bif (!(decide (now = x9) && (decide (now1 = x10) && decide (now2 = x11)))) then
      bif decide (((List.length out) + 1) ≤ big) then
        spec_l06Next k now now1 now2 d2 w2 fun v9 v10 v11 =>
        spec_l06Cycle_l7 k d2 w2 x9 x10 x11 (out ++ [(now, now1, now2)]) v9 v10 v11 b2 r0
      else
        none
    else
      b2 d2 w2 x9 x10 x11 out now now1 now2

/-- loop.example/g01297/spec.l06Cycle -/
def spec_l06Cycle {α : Type} (k : Nat) (x : Int) (x1 : Int) (x2 : Int) (r0 : (List (Int × Int × Int)) → Option α) : Option α :=
  spec_l06Disc k x x1 x2 fun v =>
  spec_l06Root k v fun v1 =>
  spec_l06Cycle_l3 k v v1 x x1 x2
    (fun d1 w1 x6 x7 x8 =>
      spec_l06Next k x6 x7 x8 d1 w1 fun v6 v7 v8 =>
      spec_l06Cycle_l7 k d1 w1 x6 x7 x8 [(x6, x7, x8)] v6 v7 v8
        (fun _ _ _ _ _ out1 _ _ _ =>
          r0 out1)
        r0)
    r0

/-- loop.example/g01297/spec.CycleOfForm -/
def spec_CycleOfForm {α : Type} (k : Nat) (x : Int) (x1 : Int) (x2 : Int) (r0 : Int → Option α) (r1 : (List (Int × Int × Int)) → Int → Option α) : Option α :=
  spec_l06Is k x x1 x2 fun v =>
  bif (!v) then
    r0 1
  else
    spec_l06Cycle k x x1 x2 fun v1 =>
    r1 v1 0

/-- loop.example/g01297/laws.forms9 -/
def laws_forms9_0N_1N {α : Type} (k : Nat)  (r0 : Bool → Option α) : Option α :=
  r0 true

/-- loop.example/g01297/impl.DiscriminantOf -/
def impl_DiscriminantOf {α : Type} (k : Nat) (x : Int) (x1 : Int) (x2 : Int) (r0 : Int → Int → Option α) : Option α :=
  impl_IsForm k x x1 x2 fun v =>
  bif (!v) then
    r0 0 1
  else
    impl_Form_disc k x x1 x2 fun v1 =>
    r0 v1 0

/-- loop.example/g01297/spec.DiscriminantOf -/
def spec_DiscriminantOf {α : Type} (k : Nat) (x : Int) (x1 : Int) (x2 : Int) (r0 : Int → Int → Option α) : Option α :=
  spec_l06Is k x x1 x2 fun v =>
  bif (!v) then
    r0 0 1
  else
    spec_l06Disc k x x1 x2 fun v1 =>
    r0 v1 0

/-- loop.example/g01297/impl.IsReducedForm -/
def impl_IsReducedForm {α : Type} (k : Nat) (x : Int) (x1 : Int) (x2 : Int) (r0 : Bool → Int → Option α) : Option α :=
  impl_IsForm k x x1 x2 fun v =>
  bif (!v) then
    r0 false 1
  else
    impl_Form_reduced k x x1 x2 fun v1 =>
    r0 v1 0

/-- loop.example/g01297/spec.IsReducedForm -/
def spec_IsReducedForm {α : Type} (k : Nat) (x : Int) (x1 : Int) (x2 : Int) (r0 : Bool → Int → Option α) : Option α :=
  spec_l06Is k x x1 x2 fun v =>
  bif (!v) then
    r0 false 1
  else
    spec_l06Disc k x x1 x2 fun v1 =>
    spec_l06Root k v1 fun v2 =>
    spec_l06Reduced k x x1 x2 v2 fun v3 =>
    r0 v3 0

def spec_l06All_l11 {α : Type} : Nat → Int → Int → Int → Int → (List (Int × Int × Int)) → (Int → Int → Int → Int → (List (Int × Int × Int)) → Option α) → (Int → Option α) → ((List (Int × Int × Int)) → Int → Option α) → Option α
  | 0, _, _, _, _, _, _, _, _ => none
  | k + 1, d2, w1, a1, b_, out1, b2, r0, r1 =>
    bif decide (b_ ≤ w1) then
      bif (!decide (a1 = 0)) then
        bif decide ((w64 (4 * a1)) = 0) then
          none
        else
        bif (!decide ((Int.tmod (w64 ((w64 (b_ * b_)) - d2)) (w64 (4 * a1))) = 0)) then
          spec_l06All_l11 k d2 w1 a1 (w64 (b_ + 1)) out1 b2 r0 r1
        else
        bif decide ((w64 (4 * a1)) = 0) then
          none
        else
          spec_l06Reduced k a1 b_ (w64 (Int.tdiv (w64 ((w64 (b_ * b_)) - d2)) (w64 (4 * a1)))) w1 fun v2 =>
          bif v2 then
            bif decide (((List.length out1) + 1) ≤ big) then
              spec_l06All_l11 k d2 w1 a1 (w64 (b_ + 1)) (out1 ++ [(a1, b_, (w64 (Int.tdiv (w64 ((w64 (b_ * b_)) - d2)) (w64 (4 * a1)))))]) b2 r0 r1
            else
              none
          else
            spec_l06All_l11 k d2 w1 a1 (w64 (b_ + 1)) out1 b2 r0 r1
      else
        b2 d2 w1 a1 b_ out1
    else
      b2 d2 w1 a1 b_ out1

def spec_l06All_l8 {α : Type} : Nat → Int → Int → Int → (List (Int × Int × Int)) → (Int → Int → Int → (List (Int × Int × Int)) → Option α) → (Int → Option α) → ((List (Int × Int × Int)) → Int → Option α) → Option α
  | 0, _, _, _, _, _, _, _ => none
  | k + 1, d1, w, a, out, b0, r0, r1 =>
    bif decide (a ≤ w) then
      spec_l06All_l11 k d1 w a 1 out
        (fun d3 w2 a2 _ out2 =>
          spec_l06All_l8 k d3 w2 (w64 (a2 + 1)) out2 b0 r0 r1)
        r0 r1
    else
      b0 d1 w a out

/-- loop.example/g01297/spec.l06All -/
def spec_l06All {α : Type} (k : Nat) (d : Int) (r0 : Int → Option α) (r1 : (List (Int × Int × Int)) → Int → Option α) : Option α :=
  spec_l01In k d 1 4000 fun v =>
  bif (!v) then
    r0 2
  else
    spec_l06Root k d fun v1 =>
    bif decide ((w64 (v1 * v1)) = d) then
      r0 5
    else
    bif decide (1 < (Int.tmod d 4)) then
      r0 5
    else
      spec_l06All_l8 k d v1 (w64 (0 - v1)) []
        (fun _ _ _ out3 =>
          r1 out3 0)
        r0 r1

/-- loop.example/g01297/spec.ReducedForms -/
def spec_ReducedForms {α : Type} (k : Nat) (d : Int) (r0 : Int → Option α) (r1 : (List (Int × Int × Int)) → Int → Option α) : Option α :=
  spec_l06All k d
    (fun v =>
      r0 v)
    (fun v1 v2 =>
      r1 v1 v2)

/-- loop.example/g01297/spec.DrawAreEquivalentForms -/
def spec_DrawAreEquivalentForms {α : Type} (k : Nat) (code : List Int) (r0 : Int → Int → Int → Int → Int → Int → Option α) : Option α :=
  spec_l01From k code fun v v1 =>
  spec_l06DrawForm k code v v1 fun v2 v3 v4 v5 v6 =>
  spec_l06Is k v2 v3 v4 fun v7 =>
  bif (!v7) then
    spec_l06DrawForm k code v5 v6 fun v8 v9 v10 _ _ =>
    r0 v2 v3 v4 v8 v9 v10
  else
    spec_l01Next k code v5 v6 4 fun v13 v14 v15 =>
    bif decide (v13 = 0) then
      spec_l06DrawForm k code v14 v15 fun v16 v17 v18 _ _ =>
      r0 v2 v3 v4 v16 v17 v18
    else
      spec_l06Disc k v2 v3 v4 fun v21 =>
      spec_ReducedForms k v21
        (fun _ =>
          spec_l01Next k code v14 v15 0 fun _ _ _ =>
          none)
        (fun v26 _ =>
          spec_l01Next k code v14 v15 (((List.length v26) : Nat) : Int) fun v28 _ _ =>
          bif (decide (0 ≤ v28) && decide (v28 < (((List.length v26) : Nat) : Int))) then
            (v26[v28.toNat]?).bind fun e_ =>
            r0 v2 v3 v4 e_.1 e_.2.1 e_.2.2
          else
            none)

def slices_Index_impl_Form_impl_Form_l2 {α : Type} : Nat → Int → Int → (List (Int × Int × Int)) → Int → Int → Int → (Int → Int → (List (Int × Int × Int)) → Int → Int → Int → Option α) → (Int → Option α) → Option α
  | 0, _, _, _, _, _, _, _, _ => none
  | k + 1, x, x1, s1, v3, v4, v5, b0, r0 =>
    bif decide (x1 < x) then
      bif (decide (0 ≤ x1) && decide (x1 < (((List.length s1) : Nat) : Int))) then
        (s1[x1.toNat]?).bind fun e_ =>
        bif (decide (v3 = e_.1) && (decide (v4 = e_.2.1) && decide (v5 = e_.2.2))) then
          r0 x1
        else
          slices_Index_impl_Form_impl_Form_l2 k x (w64 (x1 + 1)) s1 v3 v4 v5 b0 r0
      else
        none
    else
      b0 x x1 s1 v3 v4 v5

/-- slices.Index[[]loop.example/g01297/impl.Form,loop.example/g01297/impl.Form] -/
def slices_Index_impl_Form_impl_Form {α : Type} (k : Nat) (s : List (Int × Int × Int)) (v : Int) (v1 : Int) (v2 : Int) (r0 : Int → Option α) : Option α :=
  slices_Index_impl_Form_impl_Form_l2 k (((List.length s) : Nat) : Int) 0 s v v1 v2
    (fun _ _ _ _ _ _ =>
      r0 (-1))
    r0

/-- slices.Contains[[]loop.example/g01297/impl.Form,loop.example/g01297/impl.Form] -/
def slices_Contains_impl_Form_impl_Form {α : Type} (k : Nat) (s : List (Int × Int × Int)) (v : Int) (v1 : Int) (v2 : Int) (r0 : Bool → Option α) : Option α :=
  slices_Index_impl_Form_impl_Form k s v v1 v2 fun v3 =>
  r0 (decide (0 ≤ v3))

/-- loop.example/g01297/impl.AreEquivalentForms -/
def impl_AreEquivalentForms {α : Type} (k : Nat) (x : Int) (x1 : Int) (x2 : Int) (y : Int) (y1 : Int) (y2 : Int) (r0 : Bool → Int → Option α) : Option α :=
  impl_IsForm k x x1 x2 fun v =>
  bif (!v) then
    r0 false 1
  else
    impl_IsForm k y y1 y2 fun v1 =>
    bif (!v1) then
      r0 false 1
    else
      impl_Form_disc k x x1 x2 fun v2 =>
      impl_Form_disc k y y1 y2 fun v3 =>
      bif decide (v2 = v3) then
        impl_Form_cycle k x x1 x2 fun v4 =>
        impl_Form_cycle k y y1 y2 fun v5 =>
        bif (true && decide (0 < (((List.length v5) : Nat) : Int))) then
          (v5[0]?).bind fun e_ =>
          slices_Contains_impl_Form_impl_Form k v4 e_.1 e_.2.1 e_.2.2 fun v6 =>
          r0 v6 0
        else
          none
      else
        r0 false 0

def spec_l06Has_l2 {α : Type} : Nat → Int → (List (Int × Int × Int)) → Int → Int → Int → (Int → (List (Int × Int × Int)) → Int → Int → Int → Option α) → (Bool → Option α) → Option α
  | 0, _, _, _, _, _, _, _ => none
  | k + 1, i, list1, x3, x4, x5, b0, r0 =>
    bif decide (i < (((List.length list1) : Nat) : Int)) then
      bif (decide (0 ≤ i) && decide (i < (((List.length list1) : Nat) : Int))) then
        (list1[i.toNat]?).bind fun e_ =>
        bif (decide (e_.1 = x3) && (decide (e_.2.1 = x4) && decide (e_.2.2 = x5))) then
          r0 true
        else
          spec_l06Has_l2 k (w64 (i + 1)) list1 x3 x4 x5 b0 r0
      else
        none
    else
      b0 i list1 x3 x4 x5

/-- loop.example/g01297/spec.l06Has -/
def spec_l06Has {α : Type} (k : Nat) (list : List (Int × Int × Int)) (x : Int) (x1 : Int) (x2 : Int) (r0 : Bool → Option α) : Option α :=
  spec_l06Has_l2 k 0 list x x1 x2
    (fun _ _ _ _ _ =>
      r0 false)
    r0

/-- loop.example/g01297/spec.AreEquivalentForms -/
def spec_AreEquivalentForms {α : Type} (k : Nat) (x : Int) (x1 : Int) (x2 : Int) (y : Int) (y1 : Int) (y2 : Int) (r0 : Bool → Int → Option α) : Option α :=
  spec_l06Is k x x1 x2 fun v =>
  bif (!v) then
    r0 false 1
  else
    spec_l06Is k y y1 y2 fun v1 =>
    bif (!v1) then
      r0 false 1
    else
      spec_l06Disc k x x1 x2 fun v2 =>
      spec_l06Disc k y y1 y2 fun v3 =>
      bif (!decide (v2 = v3)) then
        r0 false 0
      else
        spec_l06Cycle k x x1 x2 fun v4 =>
        spec_l06Cycle k y y1 y2 fun v5 =>
        bif (true && decide (0 < (((List.length v5) : Nat) : Int))) then
          (v5[0]?).bind fun e_ =>
          spec_l06Has k v4 e_.1 e_.2.1 e_.2.2 fun v6 =>
          r0 v6 0
        else
          none

/-- loop.example/g01297/spec.l01Near -/
def spec_l01Near {α : Type} (k : Nat) (s : List Int) (s1 : Int) (s2 : Int) (most : Int) (r0 : Int → Int → Int → Option α) : Option α :=
  spec_l01Next k s s1 s2 14 fun v v1 v2 =>
  bif decide (v = 0) then
    spec_l01Pick k s v1 v2 [(-1), (w64 (most + 1)), 1099511627776, (-4611686018427387904)] fun v3 v4 v5 =>
    r0 v3 v4 v5
  else
    spec_l01Next k s v1 v2 (w64 (most + 1)) fun v6 v7 v8 =>
    r0 v6 v7 v8

/-- loop.example/g01297/spec.DrawReducedForms -/
def spec_DrawReducedForms {α : Type} (k : Nat) (code : List Int) (r0 : Int → Option α) : Option α :=
  spec_l01From k code fun v v1 =>
  spec_l01Next k code v v1 60 fun v2 v3 v4 =>
  spec_l01Next k code v3 v4 60 fun v5 v6 v7 =>
  spec_l01Next k code v6 v7 60 fun v8 v9 v10 =>
  spec_l01Near k code v9 v10 4000 fun v11 v12 v13 =>
  spec_l01Pick k code v12 v13 [v2, (w64 (4 * v5)), (w64 ((w64 (4 * v8)) + 1)), v11] fun v14 _ _ =>
  r0 v14

/-- loop.example/g01297/impl.discFault -/
def impl_discFault {α : Type} (k : Nat) (d : Int) (r0 : Int → Option α) : Option α :=
  impl_in k d 1 4000 fun v =>
  bif (!v) then
    r0 2
  else
    impl_discOk k d fun v1 =>
    bif (!v1) then
      r0 5
    else
    bif decide (1 < (Int.tmod d 4)) then
      r0 5
    else
      r0 0

def impl_reducedForms_l6 {α : Type} : Nat → Int → Int → Int → Int → (List (Int × Int × Int)) → (Int → Int → Int → Int → (List (Int × Int × Int)) → Option α) → ((List (Int × Int × Int)) → Option α) → Option α
  | 0, _, _, _, _, _, _, _ => none
  | k + 1, d2, w1, a1, b_, out1, b2, r0 =>
    bif decide (b_ ≤ w1) then
      bif (!decide (a1 = 0)) then
        bif decide ((w64 (4 * a1)) = 0) then
          none
        else
        bif (!decide ((Int.tmod (w64 ((w64 (b_ * b_)) - d2)) (w64 (4 * a1))) = 0)) then
          impl_reducedForms_l6 k d2 w1 a1 (w64 (b_ + 1)) out1 b2 r0
        else
        bif decide ((w64 (4 * a1)) = 0) then
          none
        else
          impl_Form_reduced k a1 b_ (w64 (Int.tdiv (w64 ((w64 (b_ * b_)) - d2)) (w64 (4 * a1)))) fun v1 =>
          bif v1 then
            bif decide (((List.length out1) + 1) ≤ big) then
              impl_reducedForms_l6 k d2 w1 a1 (w64 (b_ + 1)) (out1 ++ [(a1, b_, (w64 (Int.tdiv (w64 ((w64 (b_ * b_)) - d2)) (w64 (4 * a1)))))]) b2 r0
            else
              none
          else
            impl_reducedForms_l6 k d2 w1 a1 (w64 (b_ + 1)) out1 b2 r0
      else
        b2 d2 w1 a1 b_ out1
    else
      b2 d2 w1 a1 b_ out1

def impl_reducedForms_l3 {α : Type} : Nat → Int → Int → Int → (List (Int × Int × Int)) → (Int → Int → Int → (List (Int × Int × Int)) → Option α) → ((List (Int × Int × Int)) → Option α) → Option α
  | 0, _, _, _, _, _, _ => none
  | k + 1, d1, w, a, out, b0, r0 =>
    bif decide (a ≤ w) then
      impl_reducedForms_l6 k d1 w a 1 out
        (fun d3 w2 a2 _ out2 =>
          impl_reducedForms_l3 k d3 w2 (w64 (a2 + 1)) out2 b0 r0)
        r0
    else
      b0 d1 w a out

/-- loop.example/g01297/impl.reducedForms -/
def impl_reducedForms {α : Type} (k : Nat) (d : Int) (r0 : (List (Int × Int × Int)) → Option α) : Option α :=
  impl_root k d fun v =>
  impl_reducedForms_l3 k d v (w64 (0 - v)) []
    (fun _ _ _ out3 =>
      r0 out3)
    r0

/-- loop.example/g01297/impl.ReducedForms -/
def impl_ReducedForms {α : Type} (k : Nat) (d : Int) (r0 : Int → Option α) (r1 : (List (Int × Int × Int)) → Int → Option α) : Option α :=
  impl_discFault k d fun v =>
  bif (!decide (v = 0)) then
    r0 v
  else
    impl_reducedForms k d fun v1 =>
    r1 v1 0

def impl_ClassNumber_l11 {α : Type} : Nat → Int → Int → Int → Int → Int → (List (Int × Int × Int)) → List Bool → (List (Int × Int × Int)) → (List (Int × Int × Int)) → (Int → Int → Int → Int → Int → (List (Int × Int × Int)) → List Bool → (List (Int × Int × Int)) → (List (Int × Int × Int)) → Option α) → (Int → Int → Option α) → Option α
  | 0, _, _, _, _, _, _, _, _, _, _, _ => none
  | k + 1, many1, x3, x4, x5, x6, seen2, seen3, x7, x8, b2, r0 =>
    bif decide (x6 < x5) then
      bif (decide (0 ≤ x6) && decide (x6 < (((List.length x8) : Nat) : Int))) then
        (x8[x6.toNat]?).bind fun e_1 =>
        impl_ClassNumber_l11 k many1 x3 x4 x5 (w64 (x6 + 1)) (putK .tr seen2 (e_1.1, e_1.2.1, e_1.2.2)) (putV .tr .bool seen2 seen3 (e_1.1, e_1.2.1, e_1.2.2) true) x7 x8 b2 r0
      else
        none
    else
      b2 many1 x3 x4 x5 x6 seen2 seen3 x7 x8

def impl_ClassNumber_l6 {α : Type} : Nat → Int → Int → Int → (List (Int × Int × Int)) → List Bool → (List (Int × Int × Int)) → (Int → Int → Int → (List (Int × Int × Int)) → List Bool → (List (Int × Int × Int)) → Option α) → (Int → Int → Option α) → Option α
  | 0, _, _, _, _, _, _, _, _ => none
  | k + 1, many, x, x1, seen, seen1, x2, b0, r0 =>
    bif decide (x1 < x) then
      bif (decide (0 ≤ x1) && decide (x1 < (((List.length x2) : Nat) : Int))) then
        (x2[x1.toNat]?).bind fun e_ =>
        (getM .tr .bool seen seen1 (e_.1, e_.2.1, e_.2.2) false : Bool) |> fun (g : Bool) =>
        bif g then
          impl_ClassNumber_l6 k many x (w64 (x1 + 1)) seen seen1 x2 b0 r0
        else
          impl_Form_cycle k e_.1 e_.2.1 e_.2.2 fun v2 =>
          impl_ClassNumber_l11 k (w64 (many + 1)) x x1 (((List.length v2) : Nat) : Int) 0 seen seen1 x2 v2
            (fun many2 x9 x10 _ _ seen4 seen5 x13 _ =>
              impl_ClassNumber_l6 k many2 x9 (w64 (x10 + 1)) seen4 seen5 x13 b0 r0)
            r0
      else
        none
    else
      b0 many x x1 seen seen1 x2

/-- loop.example/g01297/impl.ClassNumber -/
def impl_ClassNumber {α : Type} (k : Nat) (d : Int) (r0 : Int → Int → Option α) : Option α :=
  impl_discFault k d fun v =>
  bif (!decide (v = 0)) then
    r0 0 v
  else
    impl_reducedForms k d fun v1 =>
    impl_ClassNumber_l6 k 0 (((List.length v1) : Nat) : Int) 0 [] [] v1
      (fun many3 _ _ _ _ _ =>
        r0 many3 0)
      r0

def spec_ClassNumber_l6 {α : Type} : Nat → Int → Int → (List (Int × Int × Int)) → (List (Int × Int × Int)) → (Int → Int → (List (Int × Int × Int)) → (List (Int × Int × Int)) → Option α) → (Int → Int → Option α) → Option α
  | 0, _, _, _, _, _, _ => none
  | k + 1, count, i, list, met, b0, r0 =>
    bif decide (i < (((List.length list) : Nat) : Int)) then
      bif (decide (0 ≤ i) && decide (i < (((List.length list) : Nat) : Int))) then
        (list[i.toNat]?).bind fun e_ =>
        spec_l06Has k met e_.1 e_.2.1 e_.2.2 fun v1 =>
        bif (!v1) then
          bif (decide (0 ≤ i) && decide (i < (((List.length list) : Nat) : Int))) then
            (list[i.toNat]?).bind fun e_1 =>
            spec_l06Cycle k e_1.1 e_1.2.1 e_1.2.2 fun v2 =>
            bif decide (((List.length met) + (List.length v2)) ≤ big) then
              spec_ClassNumber_l6 k (w64 (count + 1)) (w64 (i + 1)) list (met ++ v2) b0 r0
            else
              none
          else
            none
        else
          spec_ClassNumber_l6 k count (w64 (i + 1)) list met b0 r0
      else
        none
    else
      b0 count i list met

/-- loop.example/g01297/spec.ClassNumber -/
def spec_ClassNumber {α : Type} (k : Nat) (d : Int) (r0 : Int → Int → Option α) : Option α :=
  spec_l06All k d
    (fun v =>
      bif (!decide (v = 0)) then
        r0 0 v
      else
        spec_ClassNumber_l6 k 0 0 [] []
          (fun count1 _ _ _ =>
            r0 count1 0)
          r0)
    (fun v3 v4 =>
      bif (!decide (v4 = 0)) then
        r0 0 v4
      else
        spec_ClassNumber_l6 k 0 0 v3 []
          (fun count2 _ _ _ =>
            r0 count2 0)
          r0)

/-- loop.example/g01297/spec.l01Times -/
def spec_l01Times {α : Type} (k : Nat) (m : Int) (m1 : Int) (m2 : Int) (m3 : Int) (n_ : Int) (n_1 : Int) (n_2 : Int) (n_3 : Int) (r0 : Int → Int → Int → Int → Option α) : Option α :=
  r0 (w64 ((w64 (m * n_)) + (w64 (m1 * n_2)))) (w64 ((w64 (m * n_1)) + (w64 (m1 * n_3)))) (w64 ((w64 (m2 * n_)) + (w64 (m3 * n_2)))) (w64 ((w64 (m2 * n_1)) + (w64 (m3 * n_3))))

def spec_l01DrawUnit_l3 {α : Type} : Nat → Int → Int → Int → Int → Int → Int → Int → Int → Int → Int → Int → List Int → (Int → Int → Int → Int → Int → Int → Int → Int → Int → Int → Int → List Int → Option α) → (Int → Int → Int → Int → Int → Int → Option α) → Option α
  | 0, _, _, _, _, _, _, _, _, _, _, _, _, _, _ => none
  | k + 1, n_, s3, s4, x, x1, x2, x3, out, out1, out2, out3, b_, b0, r0 =>
    bif decide (0 < n_) then
      spec_l01Next k b_ s3 s4 7 fun v3 v4 v5 =>
      spec_l01Next k b_ v4 v5 3 fun v6 v7 v8 =>
      bif decide (v6 = 0) then
        spec_l01Times k out out1 out2 out3 1 (w64 (v3 - 3)) 0 1 fun v9 v10 v11 v12 =>
        spec_l01DrawUnit_l3 k (w64 (n_ - 1)) v7 v8 x x1 x2 x3 v9 v10 v11 v12 b_ b0 r0
      else
      bif decide (v6 = 1) then
        spec_l01Times k out out1 out2 out3 1 0 (w64 (v3 - 3)) 1 fun v13 v14 v15 v16 =>
        spec_l01DrawUnit_l3 k (w64 (n_ - 1)) v7 v8 x x1 x2 x3 v13 v14 v15 v16 b_ b0 r0
      else
        spec_l01Times k out out1 out2 out3 0 1 1 0 fun v17 v18 v19 v20 =>
        spec_l01DrawUnit_l3 k (w64 (n_ - 1)) v7 v8 x x1 x2 x3 v17 v18 v19 v20 b_ b0 r0
    else
      b0 n_ s3 s4 x x1 x2 x3 out out1 out2 out3 b_

/-- loop.example/g01297/spec.l01DrawUnit -/
def spec_l01DrawUnit {α : Type} (k : Nat) (s : List Int) (s1 : Int) (s2 : Int) (r0 : Int → Int → Int → Int → Int → Int → Option α) : Option α :=
  spec_l01Next k s s1 s2 5 fun v v1 v2 =>
  spec_l01DrawUnit_l3 k v v1 v2 0 0 0 0 1 0 0 1 s
    (fun _ s5 s6 _ _ _ _ out4 out5 out6 out7 _ =>
      r0 out4 out5 out6 out7 s5 s6)
    r0

/-- loop.example/g01297/spec.l01Size -/
def spec_l01Size {α : Type} (k : Nat) (s : List Int) (s1 : Int) (s2 : Int) (r0 : Int → Int → Int → Option α) : Option α :=
  spec_l01Pick k s s1 s2 [3, 6, 12, 100, 1000, 1000000] fun v v1 v2 =>
  r0 v v1 v2

/-- loop.example/g01297/spec.l01DrawPoint -/
def spec_l01DrawPoint {α : Type} (k : Nat) (s : List Int) (s1 : Int) (s2 : Int) (most : Int) (r0 : Int → Int → Int → Int → Option α) : Option α :=
  spec_l01Next k s s1 s2 (w64 ((w64 (2 * most)) + 1)) fun v v1 v2 =>
  spec_l01Next k s v1 v2 (w64 ((w64 (2 * most)) + 1)) fun v3 v4 v5 =>
  r0 (w64 (v - most)) (w64 (v3 - most)) v4 v5

/-- loop.example/g01297/spec.l01AnyMatrix -/
def spec_l01AnyMatrix {α : Type} (k : Nat) (s : List Int) (s1 : Int) (s2 : Int) (r0 : Int → Int → Int → Int → Int → Int → Option α) : Option α :=
  spec_l01DrawUnit k s s1 s2 fun v v1 v2 v3 v4 v5 =>
  spec_l01Next k s v4 v5 3 fun v6 v7 v8 =>
  bif decide (v6 = 0) then
    spec_l01Size k s v7 v8 fun v9 v10 v11 =>
    spec_l01DrawPoint k s v10 v11 v9 fun v12 v13 v14 v15 =>
    spec_l01Size k s v14 v15 fun v16 v17 v18 =>
    spec_l01DrawPoint k s v17 v18 v16 fun v19 v20 v21 v22 =>
    spec_l01Next k s v21 v22 40 fun v23 v24 v25 =>
    bif decide (v23 = 0) then
      spec_l01Next k s v24 v25 2 fun v26 v27 v28 =>
      bif (decide (0 ≤ v26) && decide (v26 < 2)) then
        spec_l01Next k s v27 v28 2 fun v29 v30 v31 =>
        spec_l01Pick k s v30 v31 [1000001, (-1099511627776)] fun v32 v33 v34 =>
        bif (decide (0 ≤ v29) && decide (v29 < 2)) then
          ([v12, v13, v19, v20][(moved (v26.toNat * 2) v29.toNat 1)]?).bind fun _ =>
          ((List.set [v12, v13, v19, v20] (moved (v26.toNat * 2) v29.toNat 1) v32)[0]?).bind fun e_ =>
          ((List.set [v12, v13, v19, v20] (moved (v26.toNat * 2) v29.toNat 1) v32)[1]?).bind fun e_1 =>
          ((List.set [v12, v13, v19, v20] (moved (v26.toNat * 2) v29.toNat 1) v32)[2]?).bind fun e_2 =>
          ((List.set [v12, v13, v19, v20] (moved (v26.toNat * 2) v29.toNat 1) v32)[3]?).bind fun e_3 =>
          r0 e_ e_1 e_2 e_3 v33 v34
        else
          none
      else
        none
    else
      r0 v12 v13 v19 v20 v24 v25
  else
    spec_l01Next k s v7 v8 40 fun v35 v36 v37 =>
    bif decide (v35 = 0) then
      spec_l01Next k s v36 v37 2 fun v38 v39 v40 =>
      bif (decide (0 ≤ v38) && decide (v38 < 2)) then
        spec_l01Next k s v39 v40 2 fun v41 v42 v43 =>
        spec_l01Pick k s v42 v43 [1000001, (-1099511627776)] fun v44 v45 v46 =>
        bif (decide (0 ≤ v41) && decide (v41 < 2)) then
          ([v, v1, v2, v3][(moved (v38.toNat * 2) v41.toNat 1)]?).bind fun _ =>
          ((List.set [v, v1, v2, v3] (moved (v38.toNat * 2) v41.toNat 1) v44)[0]?).bind fun e_4 =>
          ((List.set [v, v1, v2, v3] (moved (v38.toNat * 2) v41.toNat 1) v44)[1]?).bind fun e_5 =>
          ((List.set [v, v1, v2, v3] (moved (v38.toNat * 2) v41.toNat 1) v44)[2]?).bind fun e_6 =>
          ((List.set [v, v1, v2, v3] (moved (v38.toNat * 2) v41.toNat 1) v44)[3]?).bind fun e_7 =>
          r0 e_4 e_5 e_6 e_7 v45 v46
        else
          none
      else
        none
    else
      r0 v v1 v2 v3 v36 v37

def spec_l06Draw_l7 {α : Type} : Nat → ByteArray → Int → ByteArray → Int → Int → Int → List Int → (ByteArray → Int → ByteArray → Int → Int → Int → List Int → Option α) → (ByteArray → Int → Int → Option α) → Option α
  | 0, _, _, _, _, _, _, _, _, _ => none
  | k + 1, out1, k_1, letter, n_, s5, s6, b_1, b2, r0 =>
    bif decide (0 < n_) then
      bif decide (ByteArray.size out1 + ByteArray.size letter ≤ big) then
        spec_l06Draw_l7 k (out1 ++ letter) k_1 letter (w64 (n_ - 1)) s5 s6 b_1 b2 r0
      else
        none
    else
      b2 out1 k_1 letter n_ s5 s6 b_1

def spec_l06Draw_l3 {α : Type} : Nat → ByteArray → Int → Int → Int → List Int → (ByteArray → Int → Int → Int → List Int → Option α) → (ByteArray → Int → Int → Option α) → Option α
  | 0, _, _, _, _, _, _, _ => none
  | k + 1, out, k_, s3, s4, b_, b0, r0 =>
    bif decide (0 < k_) then
      spec_l01Next k b_ s3 s4 2 fun v3 v4 v5 =>
      bif (decide (0 ≤ v3) && decide (v3 < 2)) then
        ([(bs [76]), (bs [82])][v3.toNat]?).bind fun e_ =>
        spec_l01Next k b_ v4 v5 3 fun v6 v7 v8 =>
        spec_l01Next k b_ v7 v8 2 fun v9 v10 v11 =>
        spec_l06Draw_l7 k out k_ e_ (w64 (1 + (w64 (v6 * v9)))) v10 v11 b_
          (fun out2 k_2 _ _ s7 s8 b_2 =>
            spec_l06Draw_l3 k out2 (w64 (k_2 - 1)) s7 s8 b_2 b0 r0)
          r0
      else
        none
    else
      b0 out k_ s3 s4 b_

def spec_l06Draw_l14 {α : Type} : Nat → ByteArray → Int → Int → List Int → (ByteArray → Int → Int → List Int → Option α) → (ByteArray → Int → Int → Option α) → Option α
  | 0, _, _, _, _, _, _ => none
  | k + 1, out4, b_4, b_5, b_6, b5, r0 =>
    bif decide ((((ByteArray.size out4) : Nat) : Int) < 201) then
      bif decide (ByteArray.size out4 + ByteArray.size (bs [82]) ≤ big) then
        spec_l06Draw_l14 k (out4 ++ (bs [82])) b_4 b_5 b_6 b5 r0
      else
        none
    else
      b5 out4 b_4 b_5 b_6

/-- loop.example/g01297/spec.l06Draw -/
def spec_l06Draw {α : Type} (k : Nat) (s : List Int) (s1 : Int) (s2 : Int) (most : Int) (r0 : ByteArray → Int → Int → Option α) : Option α :=
  spec_l01Next k s s1 s2 (w64 (most + 1)) fun v v1 v2 =>
  spec_l06Draw_l3 k (bs []) v v1 v2 s
    (fun out3 _ s9 s10 b_3 =>
      spec_l01Next k b_3 s9 s10 40 fun v12 v13 v14 =>
      bif decide (v12 = 0) then
        bif decide (ByteArray.size out3 + ByteArray.size (bs [88]) ≤ big) then
          r0 (out3 ++ (bs [88])) v13 v14
        else
          none
      else
      bif decide (v12 = 1) then
        spec_l06Draw_l14 k out3 v13 v14 b_3
          (fun out5 b_7 b_8 _ =>
            r0 out5 b_7 b_8)
          r0
      else
        r0 out3 v13 v14)
    r0

/-- loop.example/g01297/spec.l01Matrix -/
def spec_l01Matrix {α : Type} (k : Nat) (m : Int) (m1 : Int) (m2 : Int) (m3 : Int) (r0 : Bool → Option α) : Option α :=
  spec_l01Fits k m fun v =>
  bif v then
    spec_l01Fits k m1 fun v1 =>
    bif v1 then
      spec_l01Fits k m2 fun v2 =>
      bif v2 then
        spec_l01Fits k m3 fun v3 =>
        r0 v3
      else
        r0 false
    else
      r0 false
  else
    r0 false

def spec_l06Matrix_l3 {α : Type} : Nat → ByteArray → Int → Int → Int → Int → Int → Int → Int → Int → Int → (ByteArray → Int → Int → Int → Int → Int → Int → Int → Int → Int → Option α) → (Int → Int → Int → Int → Bool → Option α) → Option α
  | 0, _, _, _, _, _, _, _, _, _, _, _, _ => none
  | k + 1, word1, i, x, x1, x2, x3, out, out1, out2, out3, b0, r0 =>
    bif decide (i < (((ByteArray.size word1) : Nat) : Int)) then
      bif decide (0 ≤ i) then
        (((ByteArray.data word1).toList)[i.toNat]?).bind fun c =>
        bif decide (((c.toNat : Nat) : Int) = 82) then
          spec_l01Times k out out1 out2 out3 1 1 0 1 fun v v1 v2 v3 =>
          spec_l01Matrix k v v1 v2 v3 fun v4 =>
          bif (!v4) then
            r0 0 0 0 0 false
          else
            spec_l06Matrix_l3 k word1 (w64 (i + 1)) x x1 x2 x3 v v1 v2 v3 b0 r0
        else
          spec_l01Times k out out1 out2 out3 1 0 1 1 fun v5 v6 v7 v8 =>
          spec_l01Matrix k v5 v6 v7 v8 fun v9 =>
          bif (!v9) then
            r0 0 0 0 0 false
          else
            spec_l06Matrix_l3 k word1 (w64 (i + 1)) x x1 x2 x3 v5 v6 v7 v8 b0 r0
      else
        none
    else
      b0 word1 i x x1 x2 x3 out out1 out2 out3

/-- loop.example/g01297/spec.l06Matrix -/
def spec_l06Matrix {α : Type} (k : Nat) (word : ByteArray) (r0 : Int → Int → Int → Int → Bool → Option α) : Option α :=
  spec_l06Matrix_l3 k word 0 0 0 0 0 1 0 0 1
    (fun _ _ _ _ _ _ out4 out5 out6 out7 =>
      r0 out4 out5 out6 out7 true)
    r0

/-- loop.example/g01297/spec.l01DetOf -/
def spec_l01DetOf {α : Type} (k : Nat) (m : Int) (m1 : Int) (m2 : Int) (m3 : Int) (r0 : Int → Option α) : Option α :=
  r0 (w64 ((w64 (m * m3)) - (w64 (m1 * m2))))

/-- loop.example/g01297/spec.l01Unit -/
def spec_l01Unit {α : Type} (k : Nat) (m : Int) (m1 : Int) (m2 : Int) (m3 : Int) (r0 : Bool → Option α) : Option α :=
  spec_l01DetOf k m m1 m2 m3 fun v =>
  bif decide (v = 1) then
    r0 true
  else
    r0 (decide (v = (-1)))

/-- loop.example/g01297/spec.l01Minus -/
def spec_l01Minus {α : Type} (k : Nat) (m : Int) (m1 : Int) (m2 : Int) (m3 : Int) (r0 : Int → Int → Int → Int → Option α) : Option α :=
  spec_l01DetOf k m m1 m2 m3 fun v =>
  r0 (w64 (v * m3)) (w64 ((w64 (0 - v)) * m1)) (w64 ((w64 (0 - v)) * m2)) (w64 (v * m))

/-- loop.example/g01297/spec.ConjugateMatrix -/
def spec_ConjugateMatrix {α : Type} (k : Nat) (m : Int) (m1 : Int) (m2 : Int) (m3 : Int) (u : Int) (u1 : Int) (u2 : Int) (u3 : Int) (r0 : Int → Int → Int → Int → Int → Option α) : Option α :=
  spec_l01Matrix k m m1 m2 m3 fun v =>
  bif (!v) then
    r0 0 0 0 0 1
  else
    spec_l01Matrix k u u1 u2 u3 fun v1 =>
    bif (!v1) then
      r0 0 0 0 0 1
    else
      spec_l01Unit k u u1 u2 u3 fun v2 =>
      bif (!v2) then
        r0 0 0 0 0 5
      else
        spec_l01Minus k u u1 u2 u3 fun v3 v4 v5 v6 =>
        spec_l01Times k v3 v4 v5 v6 m m1 m2 m3 fun v7 v8 v9 v10 =>
        spec_l01Matrix k v7 v8 v9 v10 fun v11 =>
        bif (!v11) then
          r0 0 0 0 0 3
        else
          spec_l01Times k v7 v8 v9 v10 u u1 u2 u3 fun v12 v13 v14 v15 =>
          spec_l01Matrix k v12 v13 v14 v15 fun v16 =>
          bif (!v16) then
            r0 0 0 0 0 3
          else
            r0 v12 v13 v14 v15 0

/-- loop.example/g01297/spec.l06DrawMatrix -/
def spec_l06DrawMatrix {α : Type} (k : Nat) (s : List Int) (s1 : Int) (s2 : Int) (r0 : Int → Int → Int → Int → Int → Int → Option α) : Option α :=
  spec_l01Next k s s1 s2 8 fun v v1 v2 =>
  bif decide (v = 0) then
    spec_l01AnyMatrix k s v1 v2 fun v3 v4 v5 v6 v7 v8 =>
    r0 v3 v4 v5 v6 v7 v8
  else
  bif decide (v = 1) then
    spec_l01DrawUnit k s v1 v2 fun v9 v10 v11 v12 v13 v14 =>
    r0 v9 v10 v11 v12 v13 v14
  else
  bif decide (v = 2) then
    spec_l01Next k s v1 v2 300 fun v15 v16 v17 =>
    r0 1 v15 0 1 v16 v17
  else
    spec_l06Draw k s v1 v2 6 fun v18 v19 v20 =>
    spec_l06Matrix k v18 fun v21 v22 v23 v24 v25 =>
    bif (!v25) then
      r0 2 1 1 1 v19 v20
    else
      spec_l01DrawUnit k s v19 v20 fun v26 v27 v28 v29 v30 v31 =>
      spec_l01Next k s v30 v31 3 fun v32 v33 v34 =>
      bif decide (v32 = 0) then
        spec_ConjugateMatrix k v21 v22 v23 v24 v26 v27 v28 v29 fun v35 v36 v37 v38 v39 =>
        bif decide (v39 = 0) then
          r0 v35 v36 v37 v38 v33 v34
        else
          r0 v21 v22 v23 v24 v33 v34
      else
        r0 v21 v22 v23 v24 v33 v34

/-- loop.example/g01297/spec.DrawFormOfMatrix -/
def spec_DrawFormOfMatrix {α : Type} (k : Nat) (code : List Int) (r0 : Int → Int → Int → Int → Option α) : Option α :=
  spec_l01From k code fun v v1 =>
  spec_l06DrawMatrix k code v v1 fun v2 v3 v4 v5 _ _ =>
  r0 v2 v3 v4 v5

/-- loop.example/g01297/impl.IsPoint -/
def impl_IsPoint {α : Type} (k : Nat) (a : Int) (a1 : Int) (r0 : Bool → Option α) : Option α :=
  impl_isCoord k a fun v =>
  bif v then
    impl_isCoord k a1 fun v1 =>
    r0 v1
  else
    r0 false

/-- loop.example/g01297/impl.points$1 -/
def impl_points_1 {α : Type} (k : Nat) (a : Int) (a1 : Int) (r0 : Bool → Option α) : Option α :=
  impl_IsPoint k a a1 fun v =>
  r0 (!v)

def slices_IndexFunc_impl_Point_impl_Point_1F_impl_points_1_l2 {α : Type} : Nat → Int → Int → (List (Int × Int)) → (Int → Int → (List (Int × Int)) → Option α) → (Int → Option α) → Option α
  | 0, _, _, _, _, _ => none
  | k + 1, x, x1, s1, b0, r0 =>
    bif decide (x1 < x) then
      bif (decide (0 ≤ x1) && decide (x1 < (((List.length s1) : Nat) : Int))) then
        (s1[x1.toNat]?).bind fun e_ =>
        impl_points_1 k e_.1 e_.2 fun v =>
        bif v then
          r0 x1
        else
          slices_IndexFunc_impl_Point_impl_Point_1F_impl_points_1_l2 k x (w64 (x1 + 1)) s1 b0 r0
      else
        none
    else
      b0 x x1 s1

/-- slices.IndexFunc[[]loop.example/g01297/impl.Point,loop.example/g01297/impl.Point] -/
def slices_IndexFunc_impl_Point_impl_Point_1F_impl_points_1 {α : Type} (k : Nat) (s : List (Int × Int)) (r0 : Int → Option α) : Option α :=
  slices_IndexFunc_impl_Point_impl_Point_1F_impl_points_1_l2 k (((List.length s) : Nat) : Int) 0 s
    (fun _ _ _ =>
      r0 (-1))
    r0

/-- slices.ContainsFunc[[]loop.example/g01297/impl.Point,loop.example/g01297/impl.Point] -/
def slices_ContainsFunc_impl_Point_impl_Point_1F_impl_points_1 {α : Type} (k : Nat) (s : List (Int × Int)) (r0 : Bool → Option α) : Option α :=
  slices_IndexFunc_impl_Point_impl_Point_1F_impl_points_1 k s fun v =>
  r0 (decide (0 ≤ v))

/-- loop.example/g01297/impl.points -/
def impl_points {α : Type} (k : Nat) (list : List (Int × Int)) (r0 : Bool → Option α) : Option α :=
  slices_ContainsFunc_impl_Point_impl_Point_1F_impl_points_1 k list fun v =>
  r0 (!v)

/-- loop.example/g01297/impl.IsMatrix -/
def impl_IsMatrix {α : Type} (k : Nat) (m : Int) (m1 : Int) (m2 : Int) (m3 : Int) (r0 : Bool → Option α) : Option α :=
  impl_points k [(m, m1), (m2, m3)] fun v =>
  r0 v

/-- loop.example/g01297/impl.det -/
def impl_det {α : Type} (k : Nat) (a : Int) (a1 : Int) (b_ : Int) (b_1 : Int) (r0 : Int → Option α) : Option α :=
  r0 (w64 ((w64 (a * b_1)) - (w64 (a1 * b_))))

/-- (loop.example/g01297/impl.Matrix).det -/
def impl_Matrix_det {α : Type} (k : Nat) (m : Int) (m1 : Int) (m2 : Int) (m3 : Int) (r0 : Int → Option α) : Option α :=
  impl_det k m m1 m2 m3 fun v =>
  r0 v

/-- loop.example/g01297/impl.FormOfMatrix -/
def impl_FormOfMatrix {α : Type} (k : Nat) (m : Int) (m1 : Int) (m2 : Int) (m3 : Int) (r0 : Int → Int → Int → Int → Option α) : Option α :=
  impl_IsMatrix k m m1 m2 m3 fun v =>
  bif (!v) then
    r0 0 0 0 1
  else
    impl_Matrix_det k m m1 m2 m3 fun v1 =>
    bif (!decide (v1 = 1)) then
      r0 0 0 0 5
    else
      impl_IsForm k m2 (w64 (m3 - m)) (w64 (0 - m1)) fun v2 =>
      bif (!v2) then
        r0 0 0 0 5
      else
        r0 m2 (w64 (m3 - m)) (w64 (0 - m1)) 0

/-- loop.example/g01297/spec.FormOfMatrix -/
def spec_FormOfMatrix {α : Type} (k : Nat) (m : Int) (m1 : Int) (m2 : Int) (m3 : Int) (r0 : Int → Int → Int → Int → Option α) : Option α :=
  spec_l01Matrix k m m1 m2 m3 fun v =>
  bif (!v) then
    r0 0 0 0 1
  else
    spec_l01DetOf k m m1 m2 m3 fun v1 =>
    bif (!decide (v1 = 1)) then
      r0 0 0 0 5
    else
      spec_l06Is k m2 (w64 (m3 - m)) (w64 (0 - m1)) fun v2 =>
      bif (!v2) then
        r0 0 0 0 5
      else
        r0 m2 (w64 (m3 - m)) (w64 (0 - m1)) 0

/-- loop.example/g01297/laws.forms9 -/
def laws_forms9_0N {α : Type} (k : Nat) (b_ : List (Int × Int × Int)) (r0 : Bool → Option α) : Option α :=
  bif (!decide (0 = (((List.length b_) : Nat) : Int))) then
    r0 false
  else
    r0 true

def laws_forms9_1N_l4 {α : Type} : Nat → Int → (List (Int × Int × Int)) → (Int → (List (Int × Int × Int)) → Option α) → (Bool → Option α) → Option α
  | 0, _, _, _, _ => none
  | k + 1, i, a1, b0, r0 =>
    bif decide (i < (((List.length a1) : Nat) : Int)) then
      bif (decide (0 ≤ i) && decide (i < (((List.length a1) : Nat) : Int))) then
        (a1[i.toNat]?).bind fun _ =>
        none
      else
        none
    else
      b0 i a1

/-- loop.example/g01297/laws.forms9 -/
def laws_forms9_1N {α : Type} (k : Nat) (a : List (Int × Int × Int)) (r0 : Bool → Option α) : Option α :=
  bif (!decide ((((List.length a) : Nat) : Int) = 0)) then
    r0 false
  else
    laws_forms9_1N_l4 k 0 a
      (fun _ _ =>
        r0 true)
      r0

def laws_forms9_l4 {α : Type} : Nat → Int → (List (Int × Int × Int)) → (List (Int × Int × Int)) → (Int → (List (Int × Int × Int)) → (List (Int × Int × Int)) → Option α) → (Bool → Option α) → Option α
  | 0, _, _, _, _, _ => none
  | k + 1, i, a1, b_1, b0, r0 =>
    bif decide (i < (((List.length a1) : Nat) : Int)) then
      bif (decide (0 ≤ i) && decide (i < (((List.length a1) : Nat) : Int))) then
        (a1[i.toNat]?).bind fun e_ =>
        bif (decide (0 ≤ i) && decide (i < (((List.length b_1) : Nat) : Int))) then
          (b_1[i.toNat]?).bind fun e_1 =>
          bif (!(decide (e_.1 = e_1.1) && (decide (e_.2.1 = e_1.2.1) && decide (e_.2.2 = e_1.2.2)))) then
            r0 false
          else
            laws_forms9_l4 k (w64 (i + 1)) a1 b_1 b0 r0
        else
          none
      else
        none
    else
      b0 i a1 b_1

/-- loop.example/g01297/laws.forms9 -/
def laws_forms9 {α : Type} (k : Nat) (a : List (Int × Int × Int)) (b_ : List (Int × Int × Int)) (r0 : Bool → Option α) : Option α :=
  bif (!decide ((((List.length a) : Nat) : Int) = (((List.length b_) : Nat) : Int))) then
    r0 false
  else
    laws_forms9_l4 k 0 a b_
      (fun _ _ _ =>
        r0 true)
      r0

/-- loop.example/g01297/laws.FnForms -/
def laws_FnForms_b0 {α : Type} (F0 : Nat → List Int → (Bool → Option α) → Option α) (F1 : Nat → List Int → (Int → Int → Int → Option α) → Option α) (F2 : Nat → Int → Int → Int → (Int → Int → Int → Int → Option α) → Option α) (F3 : Nat → Int → Int → Int → (Int → Int → Int → Int → Option α) → Option α) (F4 : Nat → Int → Int → Int → (Bool → Option α) → Option α) (F5 : Nat → Int → Int → Int → (Bool → Option α) → Option α) (F6 : Nat → Int → Int → Int → (Int → Option α) → ((List (Int × Int × Int)) → Int → Option α) → Option α) (k : Nat) (code : List Int) (κ7 : Option α) (κ9 : Int → Int → List Int → Int → Int → Int → Int → Int → Int → (List (Int × Int × Int)) → Option α) (r0 : Bool → Option α) : Option α :=
  F0 k code fun v =>
  bif v then
    r0 true
  else
    F1 k code fun v1 v2 v3 =>
    F2 k v1 v2 v3 fun v4 v5 v6 v7 =>
    F3 k v1 v2 v3 fun v8 v9 v10 v11 =>
    bif (!decide (v7 = v11)) then
      κ7
    else
    bif (!(decide (v4 = v8) && (decide (v5 = v9) && decide (v6 = v10)))) then
      κ7
    else
      F4 k v1 v2 v3 fun v12 =>
      F5 k v1 v2 v3 fun v13 =>
      bif (!(v12 == v13)) then
        κ7
      else
        F6 k v1 v2 v3
          (fun v14 =>
            κ9 v7 v14 code v1 v2 v3 v4 v5 v6 [])
          (fun v15 v16 =>
            κ9 v7 v16 code v1 v2 v3 v4 v5 v6 v15)
def laws_FnForms_b1 {α : Type}  (k : Nat)  (r0 : Bool → Option α) : Option α :=
  r0 false
def laws_FnForms_b2 {α : Type} (F7 : Nat → Int → Int → Int → (Int → Option α) → ((List (Int × Int × Int)) → Int → Option α) → Option α) (k : Nat) (one : Int) (two : Int) (code1 : List Int) (x : Int) (x1 : Int) (x2 : Int) (next : Int) (next1 : Int) (next2 : Int) (cycle : List (Int × Int × Int)) (κ10 : Int → Int → Int → List Int → Int → Int → Int → Int → Int → Int → (List (Int × Int × Int)) → (List (Int × Int × Int)) → Option α) (r0 : Bool → Option α) : Option α :=
  F7 k x x1 x2
    (fun v17 =>
      κ10 one two v17 code1 x x1 x2 next next1 next2 cycle [])
    (fun v18 v19 =>
      κ10 one two v19 code1 x x1 x2 next next1 next2 cycle v18)
def laws_FnForms_b3 {α : Type} (F26 : Nat → (List (Int × Int × Int)) → (List (Int × Int × Int)) → (Bool → Option α) → Option α) (k : Nat) (one1 : Int) (two1 : Int) (want : Int) (code2 : List Int) (x3 : Int) (x4 : Int) (x5 : Int) (next3 : Int) (next4 : Int) (next5 : Int) (cycle1 : List (Int × Int × Int)) (due : List (Int × Int × Int)) (κ11 : Option α) (κ12 : Int → Int → List Int → Int → Int → Int → Int → Int → Int → (List (Int × Int × Int)) → Option α) (r0 : Bool → Option α) : Option α :=
  bif (!decide (two1 = want)) then
    κ11
  else
    F26 k cycle1 due fun v20 =>
    bif (!v20) then
      κ11
    else
      κ12 one1 two1 code2 x3 x4 x5 next3 next4 next5 cycle1
def laws_FnForms_b4 {α : Type}  (k : Nat)  (r0 : Bool → Option α) : Option α :=
  r0 false
def laws_FnForms_b5 {α : Type} (F9 : Nat → Int → Int → Int → (Int → Int → Option α) → Option α) (F10 : Nat → Int → Int → Int → (Int → Int → Option α) → Option α) (k : Nat) (one2 : Int) (two2 : Int) (code3 : List Int) (x6 : Int) (x7 : Int) (x8 : Int) (next6 : Int) (next7 : Int) (next8 : Int) (cycle2 : List (Int × Int × Int)) (κ15 : Option α) (κ16 : Int → Int → Int → List Int → Int → Int → Int → Int → Int → Int → (List (Int × Int × Int)) → Option α) (r0 : Bool → Option α) : Option α :=
  F9 k x6 x7 x8 fun v21 v22 =>
  F10 k x6 x7 x8 fun v23 v24 =>
  bif (!decide (v22 = v24)) then
    κ15
  else
  bif (!decide (v21 = v23)) then
    κ15
  else
    κ16 one2 two2 v21 code3 x6 x7 x8 next6 next7 next8 cycle2
def laws_FnForms_b6 {α : Type}  (k : Nat)  (r0 : Bool → Option α) : Option α :=
  r0 false
def laws_FnForms_b7 {α : Type} (F11 : Nat → Int → Int → Int → (Bool → Int → Option α) → Option α) (F12 : Nat → Int → Int → Int → (Bool → Int → Option α) → Option α) (k : Nat) (one3 : Int) (two3 : Int) (discriminant : Int) (code4 : List Int) (x9 : Int) (x10 : Int) (x11 : Int) (next9 : Int) (next10 : Int) (next11 : Int) (cycle3 : List (Int × Int × Int)) (κ19 : Option α) (κ20 : Int → Int → Int → Bool → List Int → Int → Int → Int → Int → Int → Int → (List (Int × Int × Int)) → Option α) (r0 : Bool → Option α) : Option α :=
  F11 k x9 x10 x11 fun v25 v26 =>
  F12 k x9 x10 x11 fun v27 v28 =>
  bif (!decide (v26 = v28)) then
    κ19
  else
  bif (!(v25 == v27)) then
    κ19
  else
    κ20 one3 two3 discriminant v25 code4 x9 x10 x11 next9 next10 next11 cycle3
def laws_FnForms_b8 {α : Type}  (k : Nat)  (r0 : Bool → Option α) : Option α :=
  r0 false
def laws_FnForms_b9 {α : Type} (F13 : Nat → List Int → (Int → Int → Int → Int → Int → Int → Option α) → Option α) (F14 : Nat → Int → Int → Int → Int → Int → Int → (Bool → Int → Option α) → Option α) (F15 : Nat → Int → Int → Int → Int → Int → Int → (Bool → Int → Option α) → Option α) (k : Nat) (one4 : Int) (two4 : Int) (discriminant1 : Int) (reduced : Bool) (code5 : List Int) (x12 : Int) (x13 : Int) (x14 : Int) (next12 : Int) (next13 : Int) (next14 : Int) (cycle4 : List (Int × Int × Int)) (κ24 : Option α) (κ25 : Int → Int → Int → Bool → List Int → Int → Int → Int → Int → Int → Int → (List (Int × Int × Int)) → Option α) (r0 : Bool → Option α) : Option α :=
  F13 k code5 fun v29 v30 v31 v32 v33 v34 =>
  F14 k v29 v30 v31 v32 v33 v34 fun v35 v36 =>
  F15 k v29 v30 v31 v32 v33 v34 fun v37 v38 =>
  bif (!decide (v36 = v38)) then
    κ24
  else
  bif (!(v35 == v37)) then
    κ24
  else
    κ25 one4 two4 discriminant1 reduced code5 x12 x13 x14 next12 next13 next14 cycle4
def laws_FnForms_b10 {α : Type}  (k : Nat)  (r0 : Bool → Option α) : Option α :=
  r0 false
def laws_FnForms_b11 {α : Type} (F16 : Nat → List Int → (Int → Option α) → Option α) (F17 : Nat → Int → (Int → Option α) → ((List (Int × Int × Int)) → Int → Option α) → Option α) (k : Nat) (one5 : Int) (two5 : Int) (discriminant2 : Int) (reduced1 : Bool) (code6 : List Int) (x15 : Int) (x16 : Int) (x17 : Int) (next15 : Int) (next16 : Int) (next17 : Int) (cycle5 : List (Int × Int × Int)) (κ27 : Int → Int → Int → Bool → Int → Int → List Int → Int → Int → Int → Int → Int → Int → (List (Int × Int × Int)) → (List (Int × Int × Int)) → Option α) (r0 : Bool → Option α) : Option α :=
  F16 k code6 fun v39 =>
  F17 k v39
    (fun v40 =>
      κ27 one5 two5 discriminant2 reduced1 v39 v40 code6 x15 x16 x17 next15 next16 next17 cycle5 [])
    (fun v41 v42 =>
      κ27 one5 two5 discriminant2 reduced1 v39 v42 code6 x15 x16 x17 next15 next16 next17 cycle5 v41)
def laws_FnForms_b12 {α : Type} (F18 : Nat → Int → (Int → Option α) → ((List (Int × Int × Int)) → Int → Option α) → Option α) (k : Nat) (one6 : Int) (two6 : Int) (discriminant3 : Int) (reduced2 : Bool) (d : Int) (six : Int) (code7 : List Int) (x18 : Int) (x19 : Int) (x20 : Int) (next18 : Int) (next19 : Int) (next20 : Int) (cycle6 : List (Int × Int × Int)) (list : List (Int × Int × Int)) (κ28 : Int → Int → Int → Bool → Int → Int → Int → List Int → Int → Int → Int → Int → Int → Int → (List (Int × Int × Int)) → (List (Int × Int × Int)) → (List (Int × Int × Int)) → Option α) (r0 : Bool → Option α) : Option α :=
  F18 k d
    (fun v43 =>
      κ28 one6 two6 discriminant3 reduced2 d six v43 code7 x18 x19 x20 next18 next19 next20 cycle6 list [])
    (fun v44 v45 =>
      κ28 one6 two6 discriminant3 reduced2 d six v45 code7 x18 x19 x20 next18 next19 next20 cycle6 list v44)
def laws_FnForms_b13 {α : Type} (F26 : Nat → (List (Int × Int × Int)) → (List (Int × Int × Int)) → (Bool → Option α) → Option α) (k : Nat) (one7 : Int) (two7 : Int) (discriminant4 : Int) (reduced3 : Bool) (d1 : Int) (six1 : Int) (want1 : Int) (code8 : List Int) (x21 : Int) (x22 : Int) (x23 : Int) (next21 : Int) (next22 : Int) (next23 : Int) (cycle7 : List (Int × Int × Int)) (list1 : List (Int × Int × Int)) (due1 : List (Int × Int × Int)) (κ29 : Option α) (κ30 : Int → Int → Int → Bool → Int → Int → List Int → Int → Int → Int → Int → Int → Int → (List (Int × Int × Int)) → (List (Int × Int × Int)) → Option α) (r0 : Bool → Option α) : Option α :=
  bif (!decide (six1 = want1)) then
    κ29
  else
    F26 k list1 due1 fun v46 =>
    bif (!v46) then
      κ29
    else
      κ30 one7 two7 discriminant4 reduced3 d1 six1 code8 x21 x22 x23 next21 next22 next23 cycle7 list1
def laws_FnForms_b14 {α : Type}  (k : Nat)  (r0 : Bool → Option α) : Option α :=
  r0 false
def laws_FnForms_b15 {α : Type} (F19 : Nat → Int → (Int → Int → Option α) → Option α) (F20 : Nat → Int → (Int → Int → Option α) → Option α) (k : Nat) (one8 : Int) (two8 : Int) (discriminant5 : Int) (reduced4 : Bool) (d2 : Int) (six2 : Int) (code9 : List Int) (x24 : Int) (x25 : Int) (x26 : Int) (next24 : Int) (next25 : Int) (next26 : Int) (cycle8 : List (Int × Int × Int)) (list2 : List (Int × Int × Int)) (κ33 : Option α) (κ34 : Int → Int → Int → Bool → Int → Int → Int → List Int → Int → Int → Int → Int → Int → Int → (List (Int × Int × Int)) → (List (Int × Int × Int)) → Option α) (r0 : Bool → Option α) : Option α :=
  F19 k d2 fun v47 v48 =>
  F20 k d2 fun v49 v50 =>
  bif (!decide (v48 = v50)) then
    κ33
  else
  bif (!decide (v47 = v49)) then
    κ33
  else
    κ34 one8 two8 discriminant5 reduced4 six2 v47 v48 code9 x24 x25 x26 next24 next25 next26 cycle8 list2
def laws_FnForms_b16 {α : Type}  (k : Nat)  (r0 : Bool → Option α) : Option α :=
  r0 false
def laws_FnForms_b17 {α : Type} (F21 : Nat → List Int → (Int → Int → Int → Int → Option α) → Option α) (F22 : Nat → Int → Int → Int → Int → (Int → Int → Int → Int → Option α) → Option α) (F23 : Nat → Int → Int → Int → Int → (Int → Int → Int → Int → Option α) → Option α) (k : Nat) (one9 : Int) (two9 : Int) (discriminant6 : Int) (reduced5 : Bool) (six3 : Int) (number : Int) (seven : Int) (code10 : List Int) (x27 : Int) (x28 : Int) (x29 : Int) (next27 : Int) (next28 : Int) (next29 : Int) (cycle9 : List (Int × Int × Int)) (list3 : List (Int × Int × Int)) (κ38 : Option α) (κ39 : Int → Int → Int → Bool → Int → Int → Int → Int → Int → Int → Int → Int → Int → Int → (List (Int × Int × Int)) → (List (Int × Int × Int)) → Int → Int → Int → Int → Int → Int → Int → Option α) (r0 : Bool → Option α) : Option α :=
  F21 k code10 fun v51 v52 v53 v54 =>
  F22 k v51 v52 v53 v54 fun v55 v56 v57 v58 =>
  F23 k v51 v52 v53 v54 fun v59 v60 v61 v62 =>
  bif (!decide (v58 = v62)) then
    κ38
  else
  bif (!(decide (v55 = v59) && (decide (v56 = v60) && decide (v57 = v61)))) then
    κ38
  else
    κ39 one9 two9 discriminant6 reduced5 six3 number seven v58 x27 x28 x29 next27 next28 next29 cycle9 list3 v51 v52 v53 v54 v55 v56 v57
def laws_FnForms_b18 {α : Type}  (k : Nat)  (r0 : Bool → Option α) : Option α :=
  r0 false
def laws_FnForms_b19 {α : Type} (F9 : Nat → Int → Int → Int → (Int → Int → Option α) → Option α) (k : Nat) (one10 : Int) (two10 : Int) (discriminant7 : Int) (reduced6 : Bool) (six4 : Int) (number1 : Int) (seven1 : Int) (eight : Int) (x30 : Int) (x31 : Int) (x32 : Int) (next30 : Int) (next31 : Int) (next32 : Int) (cycle10 : List (Int × Int × Int)) (list4 : List (Int × Int × Int)) (m : Int) (m1 : Int) (m2 : Int) (m3 : Int) (form : Int) (form1 : Int) (form2 : Int) (κ43 : Option α) (κ46 : Option α) (κ47 : Int → Int → Int → Bool → Int → Int → Int → Int → Int → Int → (List (Int × Int × Int)) → (List (Int × Int × Int)) → Option α) (κ53 : Int → Int → Int → Bool → Int → Int → Int → Int → Int → Int → (List (Int × Int × Int)) → Option α) (r0 : Bool → Option α) : Option α :=
  bif decide (eight = 0) then
    F9 k form form1 form2 fun v63 v64 =>
    bif (!decide (v64 = 0)) then
      κ43
    else
    bif (!decide (v63 = (w64 ((w64 ((w64 (m + m3)) * (w64 (m + m3)))) - 4)))) then
      κ43
    else
    bif decide (six4 = 0) then
      bif (!decide (seven1 = 0)) then
        κ46
      else
      bif decide (number1 < 1) then
        κ46
      else
      bif decide ((((List.length list4) : Nat) : Int) < number1) then
        κ46
      else
        κ47 one10 two10 discriminant7 reduced6 x30 x31 x32 next30 next31 next32 cycle10 list4
    else
      κ53 one10 two10 discriminant7 reduced6 x30 x31 x32 next30 next31 next32 cycle10
  else
  bif decide (six4 = 0) then
    bif (!decide (seven1 = 0)) then
      κ46
    else
    bif decide (number1 < 1) then
      κ46
    else
    bif decide ((((List.length list4) : Nat) : Int) < number1) then
      κ46
    else
      κ47 one10 two10 discriminant7 reduced6 x30 x31 x32 next30 next31 next32 cycle10 list4
  else
    κ53 one10 two10 discriminant7 reduced6 x30 x31 x32 next30 next31 next32 cycle10
def laws_FnForms_b20 {α : Type}  (k : Nat)  (r0 : Bool → Option α) : Option α :=
  r0 false
def laws_FnForms_b21 {α : Type}  (k : Nat)  (r0 : Bool → Option α) : Option α :=
  r0 false
def laws_FnForms_b22 {α : Type} (F11 : Nat → Int → Int → Int → (Bool → Int → Option α) → Option α) (k : Nat) (one11 : Int) (two11 : Int) (discriminant8 : Int) (reduced7 : Bool) (x33 : Int) (x34 : Int) (x35 : Int) (next33 : Int) (next34 : Int) (next35 : Int) (cycle11 : List (Int × Int × Int)) (list5 : List (Int × Int × Int)) (κ53 : Int → Int → Int → Bool → Int → Int → Int → Int → Int → Int → (List (Int × Int × Int)) → Option α) (r0 : Bool → Option α) : Option α :=
  bif decide (0 < (((List.length list5) : Nat) : Int)) then
    bif (true && decide (0 < (((List.length list5) : Nat) : Int))) then
      (list5[0]?).bind fun e_ =>
      F11 k e_.1 e_.2.1 e_.2.2 fun v65 v66 =>
      bif (!decide (v66 = 0)) then
        r0 false
      else
      bif (!v65) then
        r0 false
      else
      bif decide (1 < (((List.length list5) : Nat) : Int)) then
        bif (true && decide (1 < (((List.length list5) : Nat) : Int))) then
          (list5[1]?).bind fun e_1 =>
          F11 k e_1.1 e_1.2.1 e_1.2.2 fun v67 v68 =>
          bif (!decide (v68 = 0)) then
            r0 false
          else
          bif (!v67) then
            r0 false
          else
          bif decide (2 < (((List.length list5) : Nat) : Int)) then
            bif (true && decide (2 < (((List.length list5) : Nat) : Int))) then
              (list5[2]?).bind fun e_2 =>
              F11 k e_2.1 e_2.2.1 e_2.2.2 fun v69 v70 =>
              bif (!decide (v70 = 0)) then
                r0 false
              else
              bif (!v69) then
                r0 false
              else
              bif decide (3 < (((List.length list5) : Nat) : Int)) then
                bif (true && decide (3 < (((List.length list5) : Nat) : Int))) then
                  (list5[3]?).bind fun e_3 =>
                  F11 k e_3.1 e_3.2.1 e_3.2.2 fun v71 v72 =>
                  bif (!decide (v72 = 0)) then
                    r0 false
                  else
                  bif (!v71) then
                    r0 false
                  else
                  bif decide (4 < (((List.length list5) : Nat) : Int)) then
                    κ53 one11 two11 discriminant8 reduced7 x33 x34 x35 next33 next34 next35 cycle11
                  else
                    κ53 one11 two11 discriminant8 reduced7 x33 x34 x35 next33 next34 next35 cycle11
                else
                  none
              else
                κ53 one11 two11 discriminant8 reduced7 x33 x34 x35 next33 next34 next35 cycle11
            else
              none
          else
            κ53 one11 two11 discriminant8 reduced7 x33 x34 x35 next33 next34 next35 cycle11
        else
          none
      else
        κ53 one11 two11 discriminant8 reduced7 x33 x34 x35 next33 next34 next35 cycle11
    else
      none
  else
    κ53 one11 two11 discriminant8 reduced7 x33 x34 x35 next33 next34 next35 cycle11
def laws_FnForms_b23 {α : Type} (F9 : Nat → Int → Int → Int → (Int → Int → Option α) → Option α) (F14 : Nat → Int → Int → Int → Int → Int → Int → (Bool → Int → Option α) → Option α) (k : Nat) (one12 : Int) (two12 : Int) (discriminant9 : Int) (reduced8 : Bool) (x36 : Int) (x37 : Int) (x38 : Int) (next36 : Int) (next37 : Int) (next38 : Int) (cycle12 : List (Int × Int × Int)) (κ58 : Option α) (κ59 : Bool → Int → Int → Int → (List (Int × Int × Int)) → Option α) (r0 : Bool → Option α) : Option α :=
  bif (!decide (one12 = 0)) then
    r0 (decide (next36 = 0) && (decide (next37 = 0) && decide (next38 = 0)))
  else
    F9 k next36 next37 next38 fun v73 v74 =>
    F14 k x36 x37 x38 next36 next37 next38 fun v75 v76 =>
    bif (!decide (v74 = 0)) then
      κ58
    else
    bif (!decide (v73 = discriminant9)) then
      κ58
    else
    bif (!decide (v76 = 0)) then
      κ58
    else
    bif (!v75) then
      κ58
    else
    bif (!decide (two12 = 0)) then
      κ58
    else
    bif decide ((((List.length cycle12) : Nat) : Int) = 0) then
      κ58
    else
      κ59 reduced8 x36 x37 x38 cycle12
def laws_FnForms_b24 {α : Type}  (k : Nat)  (r0 : Bool → Option α) : Option α :=
  r0 false
def laws_FnForms_b25 {α : Type} (F2 : Nat → Int → Int → Int → (Int → Int → Int → Int → Option α) → Option α) (k : Nat) (reduced9 : Bool) (x39 : Int) (x40 : Int) (x41 : Int) (cycle13 : List (Int × Int × Int)) (r0 : Bool → Option α) : Option α :=
  bif (decide (0 ≤ (w64 ((((List.length cycle13) : Nat) : Int) - 1))) && decide ((w64 ((((List.length cycle13) : Nat) : Int) - 1)) < (((List.length cycle13) : Nat) : Int))) then
    (cycle13[(w64 ((((List.length cycle13) : Nat) : Int) - 1)).toNat]?).bind fun e_4 =>
    F2 k e_4.1 e_4.2.1 e_4.2.2 fun v77 v78 v79 v80 =>
    bif decide (v80 = 0) then
      bif (true && decide (0 < (((List.length cycle13) : Nat) : Int))) then
        (cycle13[0]?).bind fun e_5 =>
        bif (decide (v77 = e_5.1) && (decide (v78 = e_5.2.1) && decide (v79 = e_5.2.2))) then
          bif (!reduced9) then
            r0 true
          else
          bif (true && decide (0 < (((List.length cycle13) : Nat) : Int))) then
            (cycle13[0]?).bind fun e_6 =>
            r0 (decide (e_6.1 = x39) && (decide (e_6.2.1 = x40) && decide (e_6.2.2 = x41)))
          else
            none
        else
          r0 false
      else
        none
    else
      r0 false
  else
    none
def laws_FnForms_B25 {α : Type} (k : Nat) (reduced9 : Bool) (x39 : Int) (x40 : Int) (x41 : Int) (cycle13 : List (Int × Int × Int)) (r0 : Bool → Option α) : Option α :=
  laws_FnForms_b25 impl_NextForm k reduced9 x39 x40 x41 cycle13 r0
def laws_FnForms_B24 {α : Type} (k : Nat)  (r0 : Bool → Option α) : Option α :=
  laws_FnForms_b24 k r0
def laws_FnForms_B23 {α : Type} (k : Nat) (one12 : Int) (two12 : Int) (discriminant9 : Int) (reduced8 : Bool) (x36 : Int) (x37 : Int) (x38 : Int) (next36 : Int) (next37 : Int) (next38 : Int) (cycle12 : List (Int × Int × Int)) (r0 : Bool → Option α) : Option α :=
  laws_FnForms_b23 impl_DiscriminantOf impl_AreEquivalentForms k one12 two12 discriminant9 reduced8 x36 x37 x38 next36 next37 next38 cycle12 (laws_FnForms_B24 k r0) (fun reduced9 x39 x40 x41 cycle13 => laws_FnForms_B25 k reduced9 x39 x40 x41 cycle13 r0) r0
def laws_FnForms_B22 {α : Type} (k : Nat) (one11 : Int) (two11 : Int) (discriminant8 : Int) (reduced7 : Bool) (x33 : Int) (x34 : Int) (x35 : Int) (next33 : Int) (next34 : Int) (next35 : Int) (cycle11 : List (Int × Int × Int)) (list5 : List (Int × Int × Int)) (r0 : Bool → Option α) : Option α :=
  laws_FnForms_b22 impl_IsReducedForm k one11 two11 discriminant8 reduced7 x33 x34 x35 next33 next34 next35 cycle11 list5 (fun one12 two12 discriminant9 reduced8 x36 x37 x38 next36 next37 next38 cycle12 => laws_FnForms_B23 k one12 two12 discriminant9 reduced8 x36 x37 x38 next36 next37 next38 cycle12 r0) r0
def laws_FnForms_B21 {α : Type} (k : Nat)  (r0 : Bool → Option α) : Option α :=
  laws_FnForms_b21 k r0
def laws_FnForms_B20 {α : Type} (k : Nat)  (r0 : Bool → Option α) : Option α :=
  laws_FnForms_b20 k r0
def laws_FnForms_B19 {α : Type} (k : Nat) (one10 : Int) (two10 : Int) (discriminant7 : Int) (reduced6 : Bool) (six4 : Int) (number1 : Int) (seven1 : Int) (eight : Int) (x30 : Int) (x31 : Int) (x32 : Int) (next30 : Int) (next31 : Int) (next32 : Int) (cycle10 : List (Int × Int × Int)) (list4 : List (Int × Int × Int)) (m : Int) (m1 : Int) (m2 : Int) (m3 : Int) (form : Int) (form1 : Int) (form2 : Int) (r0 : Bool → Option α) : Option α :=
  laws_FnForms_b19 impl_DiscriminantOf k one10 two10 discriminant7 reduced6 six4 number1 seven1 eight x30 x31 x32 next30 next31 next32 cycle10 list4 m m1 m2 m3 form form1 form2 (laws_FnForms_B20 k r0) (laws_FnForms_B21 k r0) (fun one11 two11 discriminant8 reduced7 x33 x34 x35 next33 next34 next35 cycle11 list5 => laws_FnForms_B22 k one11 two11 discriminant8 reduced7 x33 x34 x35 next33 next34 next35 cycle11 list5 r0) (fun one12 two12 discriminant9 reduced8 x36 x37 x38 next36 next37 next38 cycle12 => laws_FnForms_B23 k one12 two12 discriminant9 reduced8 x36 x37 x38 next36 next37 next38 cycle12 r0) r0
def laws_FnForms_B18 {α : Type} (k : Nat)  (r0 : Bool → Option α) : Option α :=
  laws_FnForms_b18 k r0
def laws_FnForms_B17 {α : Type} (k : Nat) (one9 : Int) (two9 : Int) (discriminant6 : Int) (reduced5 : Bool) (six3 : Int) (number : Int) (seven : Int) (code10 : List Int) (x27 : Int) (x28 : Int) (x29 : Int) (next27 : Int) (next28 : Int) (next29 : Int) (cycle9 : List (Int × Int × Int)) (list3 : List (Int × Int × Int)) (r0 : Bool → Option α) : Option α :=
  laws_FnForms_b17 spec_DrawFormOfMatrix impl_FormOfMatrix spec_FormOfMatrix k one9 two9 discriminant6 reduced5 six3 number seven code10 x27 x28 x29 next27 next28 next29 cycle9 list3 (laws_FnForms_B18 k r0) (fun one10 two10 discriminant7 reduced6 six4 number1 seven1 eight x30 x31 x32 next30 next31 next32 cycle10 list4 m m1 m2 m3 form form1 form2 => laws_FnForms_B19 k one10 two10 discriminant7 reduced6 six4 number1 seven1 eight x30 x31 x32 next30 next31 next32 cycle10 list4 m m1 m2 m3 form form1 form2 r0) r0
def laws_FnForms_B16 {α : Type} (k : Nat)  (r0 : Bool → Option α) : Option α :=
  laws_FnForms_b16 k r0
def laws_FnForms_B15 {α : Type} (k : Nat) (one8 : Int) (two8 : Int) (discriminant5 : Int) (reduced4 : Bool) (d2 : Int) (six2 : Int) (code9 : List Int) (x24 : Int) (x25 : Int) (x26 : Int) (next24 : Int) (next25 : Int) (next26 : Int) (cycle8 : List (Int × Int × Int)) (list2 : List (Int × Int × Int)) (r0 : Bool → Option α) : Option α :=
  laws_FnForms_b15 impl_ClassNumber spec_ClassNumber k one8 two8 discriminant5 reduced4 d2 six2 code9 x24 x25 x26 next24 next25 next26 cycle8 list2 (laws_FnForms_B16 k r0) (fun one9 two9 discriminant6 reduced5 six3 number seven code10 x27 x28 x29 next27 next28 next29 cycle9 list3 => laws_FnForms_B17 k one9 two9 discriminant6 reduced5 six3 number seven code10 x27 x28 x29 next27 next28 next29 cycle9 list3 r0) r0
def laws_FnForms_B14 {α : Type} (k : Nat)  (r0 : Bool → Option α) : Option α :=
  laws_FnForms_b14 k r0
def laws_FnForms_B13 {α : Type} (k : Nat) (one7 : Int) (two7 : Int) (discriminant4 : Int) (reduced3 : Bool) (d1 : Int) (six1 : Int) (want1 : Int) (code8 : List Int) (x21 : Int) (x22 : Int) (x23 : Int) (next21 : Int) (next22 : Int) (next23 : Int) (cycle7 : List (Int × Int × Int)) (list1 : List (Int × Int × Int)) (due1 : List (Int × Int × Int)) (r0 : Bool → Option α) : Option α :=
  laws_FnForms_b13 laws_forms9 k one7 two7 discriminant4 reduced3 d1 six1 want1 code8 x21 x22 x23 next21 next22 next23 cycle7 list1 due1 (laws_FnForms_B14 k r0) (fun one8 two8 discriminant5 reduced4 d2 six2 code9 x24 x25 x26 next24 next25 next26 cycle8 list2 => laws_FnForms_B15 k one8 two8 discriminant5 reduced4 d2 six2 code9 x24 x25 x26 next24 next25 next26 cycle8 list2 r0) r0
def laws_FnForms_B12 {α : Type} (k : Nat) (one6 : Int) (two6 : Int) (discriminant3 : Int) (reduced2 : Bool) (d : Int) (six : Int) (code7 : List Int) (x18 : Int) (x19 : Int) (x20 : Int) (next18 : Int) (next19 : Int) (next20 : Int) (cycle6 : List (Int × Int × Int)) (list : List (Int × Int × Int)) (r0 : Bool → Option α) : Option α :=
  laws_FnForms_b12 spec_ReducedForms k one6 two6 discriminant3 reduced2 d six code7 x18 x19 x20 next18 next19 next20 cycle6 list (fun one7 two7 discriminant4 reduced3 d1 six1 want1 code8 x21 x22 x23 next21 next22 next23 cycle7 list1 due1 => laws_FnForms_B13 k one7 two7 discriminant4 reduced3 d1 six1 want1 code8 x21 x22 x23 next21 next22 next23 cycle7 list1 due1 r0) r0
def laws_FnForms_B11 {α : Type} (k : Nat) (one5 : Int) (two5 : Int) (discriminant2 : Int) (reduced1 : Bool) (code6 : List Int) (x15 : Int) (x16 : Int) (x17 : Int) (next15 : Int) (next16 : Int) (next17 : Int) (cycle5 : List (Int × Int × Int)) (r0 : Bool → Option α) : Option α :=
  laws_FnForms_b11 spec_DrawReducedForms impl_ReducedForms k one5 two5 discriminant2 reduced1 code6 x15 x16 x17 next15 next16 next17 cycle5 (fun one6 two6 discriminant3 reduced2 d six code7 x18 x19 x20 next18 next19 next20 cycle6 list => laws_FnForms_B12 k one6 two6 discriminant3 reduced2 d six code7 x18 x19 x20 next18 next19 next20 cycle6 list r0) r0
def laws_FnForms_B10 {α : Type} (k : Nat)  (r0 : Bool → Option α) : Option α :=
  laws_FnForms_b10 k r0
def laws_FnForms_B9 {α : Type} (k : Nat) (one4 : Int) (two4 : Int) (discriminant1 : Int) (reduced : Bool) (code5 : List Int) (x12 : Int) (x13 : Int) (x14 : Int) (next12 : Int) (next13 : Int) (next14 : Int) (cycle4 : List (Int × Int × Int)) (r0 : Bool → Option α) : Option α :=
  laws_FnForms_b9 spec_DrawAreEquivalentForms impl_AreEquivalentForms spec_AreEquivalentForms k one4 two4 discriminant1 reduced code5 x12 x13 x14 next12 next13 next14 cycle4 (laws_FnForms_B10 k r0) (fun one5 two5 discriminant2 reduced1 code6 x15 x16 x17 next15 next16 next17 cycle5 => laws_FnForms_B11 k one5 two5 discriminant2 reduced1 code6 x15 x16 x17 next15 next16 next17 cycle5 r0) r0
def laws_FnForms_B8 {α : Type} (k : Nat)  (r0 : Bool → Option α) : Option α :=
  laws_FnForms_b8 k r0
def laws_FnForms_B7 {α : Type} (k : Nat) (one3 : Int) (two3 : Int) (discriminant : Int) (code4 : List Int) (x9 : Int) (x10 : Int) (x11 : Int) (next9 : Int) (next10 : Int) (next11 : Int) (cycle3 : List (Int × Int × Int)) (r0 : Bool → Option α) : Option α :=
  laws_FnForms_b7 impl_IsReducedForm spec_IsReducedForm k one3 two3 discriminant code4 x9 x10 x11 next9 next10 next11 cycle3 (laws_FnForms_B8 k r0) (fun one4 two4 discriminant1 reduced code5 x12 x13 x14 next12 next13 next14 cycle4 => laws_FnForms_B9 k one4 two4 discriminant1 reduced code5 x12 x13 x14 next12 next13 next14 cycle4 r0) r0
def laws_FnForms_B6 {α : Type} (k : Nat)  (r0 : Bool → Option α) : Option α :=
  laws_FnForms_b6 k r0
def laws_FnForms_B5 {α : Type} (k : Nat) (one2 : Int) (two2 : Int) (code3 : List Int) (x6 : Int) (x7 : Int) (x8 : Int) (next6 : Int) (next7 : Int) (next8 : Int) (cycle2 : List (Int × Int × Int)) (r0 : Bool → Option α) : Option α :=
  laws_FnForms_b5 impl_DiscriminantOf spec_DiscriminantOf k one2 two2 code3 x6 x7 x8 next6 next7 next8 cycle2 (laws_FnForms_B6 k r0) (fun one3 two3 discriminant code4 x9 x10 x11 next9 next10 next11 cycle3 => laws_FnForms_B7 k one3 two3 discriminant code4 x9 x10 x11 next9 next10 next11 cycle3 r0) r0
def laws_FnForms_B4 {α : Type} (k : Nat)  (r0 : Bool → Option α) : Option α :=
  laws_FnForms_b4 k r0
def laws_FnForms_B3 {α : Type} (k : Nat) (one1 : Int) (two1 : Int) (want : Int) (code2 : List Int) (x3 : Int) (x4 : Int) (x5 : Int) (next3 : Int) (next4 : Int) (next5 : Int) (cycle1 : List (Int × Int × Int)) (due : List (Int × Int × Int)) (r0 : Bool → Option α) : Option α :=
  laws_FnForms_b3 laws_forms9 k one1 two1 want code2 x3 x4 x5 next3 next4 next5 cycle1 due (laws_FnForms_B4 k r0) (fun one2 two2 code3 x6 x7 x8 next6 next7 next8 cycle2 => laws_FnForms_B5 k one2 two2 code3 x6 x7 x8 next6 next7 next8 cycle2 r0) r0
def laws_FnForms_B2 {α : Type} (k : Nat) (one : Int) (two : Int) (code1 : List Int) (x : Int) (x1 : Int) (x2 : Int) (next : Int) (next1 : Int) (next2 : Int) (cycle : List (Int × Int × Int)) (r0 : Bool → Option α) : Option α :=
  laws_FnForms_b2 spec_CycleOfForm k one two code1 x x1 x2 next next1 next2 cycle (fun one1 two1 want code2 x3 x4 x5 next3 next4 next5 cycle1 due => laws_FnForms_B3 k one1 two1 want code2 x3 x4 x5 next3 next4 next5 cycle1 due r0) r0
def laws_FnForms_B1 {α : Type} (k : Nat)  (r0 : Bool → Option α) : Option α :=
  laws_FnForms_b1 k r0
def laws_FnForms_B0 {α : Type} (k : Nat) (code : List Int) (r0 : Bool → Option α) : Option α :=
  laws_FnForms_b0 laws_big spec_DrawNextForm impl_NextForm spec_NextForm impl_IsForm spec_IsForm impl_CycleOfForm k code (laws_FnForms_B1 k r0) (fun one two code1 x x1 x2 next next1 next2 cycle => laws_FnForms_B2 k one two code1 x x1 x2 next next1 next2 cycle r0) r0
def laws_FnForms {α : Type} (k : Nat) (code : List Int) (r0 : Bool → Option α) : Option α := laws_FnForms_B0 k code r0

end Go.Sh
