/- This text defines the plain functions that the Go functions behind FnChains compute; no condition. -/
import Derived.Test.YtkkmjhibacgmfaaRxd
set_option linter.unusedVariables false
set_option linter.unusedSimpArgs false
namespace Go.Rx
namespace Px
abbrev Y0 := (List Int) × (List Int) × (List Int)
abbrev Y1 := List (List Int)
abbrev Y2 := (List Int) × (List Int) × (List Int) × (List Int)
abbrev Y3 := (List Int) × Int × Int
abbrev Y4 := Bool × Unit
abbrev Y5 := (Y1 × Bool) × Unit
abbrev Y6 := (List Int) × Unit
abbrev Y7 := Int × Unit
abbrev Y8 := (Bool × Bool) × Unit
abbrev Y9 := (Y1 × Int) × Unit
abbrev Y10 := ((List Int) × Bool) × Unit
abbrev Y11 := ((List Int) × Int) × Unit
abbrev Y12 := Y1 × Bool
abbrev Y13 := (Int × Bool) × Unit
abbrev Y14 := (Int × Int × Int) × Unit
abbrev Y15 := Y1 × Unit
abbrev Y16 := (List Int) × (List Int) × Int × Unit
abbrev Y17 := Y0 × Y1 × Unit
abbrev Y18 := (List Int) × Y3
abbrev Y19 := Y2 × Unit
abbrev Y20 := Int × Int × Unit
def Q27 (N : Nat) (n : Int) (low : Int) (high : Int) : Option Y4 :=
  bif ile low n then
    some (ile n high, ())
  else
    some (false, ())
def Q22_K1 (N : Nat) : Option Y4 :=
  some (true, ())
def Q22_B1 (N : Nat) (kx : Int → Int → (List Int) → Int → Int → Option Y4) (low1 : Int) (high1 : Int) (v9 : List Int) (v10 : Int) (v11 : Int) : Option Y4 :=
  bif ilt v11 v10 then
    chk (inB v11 v9.length) <|
    (Q27 N (gd v9 v11.toNat 0) low1 high1).bind fun r =>
    bif !r.1 then
      some (false, ())
    else
      kx low1 high1 v9 v10 (iadd .i64 v11 1)
  else
    Q22_K1 N
def Q22_L1 (N fu_ : Nat) (low1 : Int) (high1 : Int) (v9 : List Int) (v10 : Int) (v11 : Int) : Option Y4 :=
  iterK fu_ (fun kx (v_ : (Int × Int × (List Int) × Int × Int × Unit) × (Unit)) => Q22_B1 N (fun low1 high1 v9 v10 v11 => kx ((low1, high1, v9, v10, v11, ()), ())) v_.1.1 v_.1.2.1 v_.1.2.2.1 v_.1.2.2.2.1 v_.1.2.2.2.2.1) ((low1, high1, v9, v10, v11, ()), ())
theorem Q22_L1_run (N : Nat) (low1 : Nat → Int) (high1 : Nat → Int) (v9 : Nat → (List Int)) (v10 : Nat → Int) (v11 : Nat → Int) (n_ : Nat) {res_ : Option Y4} (hstep_ : ∀ j_, j_ < n_ → ∀ kx_, Q22_B1 N kx_ (low1 j_) (high1 j_) (v9 j_) (v10 j_) (v11 j_) = kx_ (low1 (j_ + 1)) (high1 (j_ + 1)) (v9 (j_ + 1)) (v10 (j_ + 1)) (v11 (j_ + 1))) (hend_ : ∀ kx_, Q22_B1 N kx_ (low1 n_) (high1 n_) (v9 n_) (v10 n_) (v11 n_) = res_) (fu_ : Nat) (hm_ : n_ < fu_) : Q22_L1 N fu_ (low1 0) (high1 0) (v9 0) (v10 0) (v11 0) = res_ := by
  exact loop_run (L := fun fu_ (x_ : Int × Int × (List Int) × Int × Int) => Q22_L1 N fu_ x_.1 x_.2.1 x_.2.2.1 x_.2.2.2.1 x_.2.2.2.2) (B := fun kx_ x_ => Q22_B1 N (fun low1 high1 v9 v10 v11 => kx_ (low1, high1, v9, v10, v11)) x_.1 x_.2.1 x_.2.2.1 x_.2.2.2.1 x_.2.2.2.2) (fun _ _ => rfl) (fun j_ => (low1 j_, high1 j_, v9 j_, v10 j_, v11 j_)) n_ (fun j_ hi_ kx_ => hstep_ j_ hi_ _) (fun kx_ => hend_ _) fu_ hm_
def Q22 (N : Nat) (list : List Int) (low : Int) (high : Int) : Option Y4 :=
  Q22_L1 N N low high list (len list) 0
def Q2 (N : Nat) (x : Int) : Option Y4 :=
  some (ine x x, ())
def Q1 (N : Nat) (x : Int) (y : Int) : Option Y4 :=
  (Q2 N x).bind fun r =>
  bif r.1 then
    (Q2 N y).bind fun r1 =>
    bif !r1.1 then
      some (true, ())
    else
      some (ilt x y, ())
  else
    some (ilt x y, ())
def Q43_K1 (N : Nat) : Option Y4 :=
  some (true, ())
def Q43_B1 (N : Nat) (kx : (List Int) → Int → Option Y4) (x1 : List Int) (i : Int) : Option Y4 :=
  bif ilt 0 i then
    chk (inB i x1.length) <|
    chk (inB (isub .i64 i 1) x1.length) <|
    (Q1 N (gd x1 i.toNat 0) (gd x1 (isub .i64 i 1).toNat 0)).bind fun r =>
    bif r.1 then
      some (false, ())
    else
      kx x1 (isub .i64 i 1)
  else
    Q43_K1 N
def Q43_L1 (N fu_ : Nat) (x1 : List Int) (i : Int) : Option Y4 :=
  iterK fu_ (fun kx (v_ : ((List Int) × Int × Unit) × (Unit)) => Q43_B1 N (fun x1 i => kx ((x1, i, ()), ())) v_.1.1 v_.1.2.1) ((x1, i, ()), ())
theorem Q43_L1_run (N : Nat) (x1 : Nat → (List Int)) (i : Nat → Int) (n_ : Nat) {res_ : Option Y4} (hstep_ : ∀ j_, j_ < n_ → ∀ kx_, Q43_B1 N kx_ (x1 j_) (i j_) = kx_ (x1 (j_ + 1)) (i (j_ + 1))) (hend_ : ∀ kx_, Q43_B1 N kx_ (x1 n_) (i n_) = res_) (fu_ : Nat) (hm_ : n_ < fu_) : Q43_L1 N fu_ (x1 0) (i 0) = res_ := by
  exact loop_run (L := fun fu_ (x_ : (List Int) × Int) => Q43_L1 N fu_ x_.1 x_.2) (B := fun kx_ x_ => Q43_B1 N (fun x1 i => kx_ (x1, i)) x_.1 x_.2) (fun _ _ => rfl) (fun j_ => (x1 j_, i j_)) n_ (fun j_ hi_ kx_ => hstep_ j_ hi_ _) (fun kx_ => hend_ _) fu_ hm_
def Q43 (N : Nat) (x : List Int) : Option Y4 :=
  Q43_L1 N N x (isub .i64 (len x) 1)
def Q19 (N : Nat) (c : (List Int) × (List Int) × (List Int)) : Option Y4 :=
  bif ile (len c.1) 6 then
    (Q22 N c.1 0 20).bind fun r =>
    bif r.1 then
      (Q27 N (len c.2.1) 1 3).bind fun r1 =>
      bif r1.1 then
        bif ieq (len c.2.2) (len c.2.1) then
          (Q22 N c.2.1 0 99).bind fun r2 =>
          bif r2.1 then
            (Q22 N c.2.2 0 9).bind fun r3 =>
            bif r3.1 then
              (Q43 N c.2.2).bind fun r4 =>
              some (r4.1, ())
            else
              some (false, ())
          else
            some (false, ())
        else
          some (false, ())
      else
        some (false, ())
    else
      some (false, ())
  else
    some (false, ())
def Q16_K1 (N : Nat) (kx : Y1 → Y1 → Int → Int → Y0 → Y1 → Option Y5) (plan4 : List (List Int)) (stock1 : Int) (v213 : List (List Int)) (v223 : Int) (v233 : Int) (v471 : List Int) (v481 : Int) (v501 : List Int) (v511 : Int) (v521 : Bool) (v551 : List Int) (v561 : Bool) (v571 : Bool) (v601 : List Int) (v611 : Bool) (v621 : Bool) (c4 : (List Int) × (List Int) × (List Int)) (out3 : List (List Int)) (row1 : List Int) : Option Y5 :=
  bif ine stock1 0 then
    some (([], false), ())
  else
    chk (fitB (out3.length + 1) 24) <|
    kx plan4 v213 v223 (iadd .i64 v233 1) c4 (out3 ++ [row1])
def Q16_B1 (N : Nat) (kx : Y1 → Y1 → Int → Int → Y0 → Y1 → Option Y5) (kx1 : Y1 → (List Int) → Int → Y1 → Int → Int → (List Int) → Int → (List Int) → Int → Bool → (List Int) → Bool → Bool → (List Int) → Bool → Bool → (List Int) → Int → Int → Y0 → Y1 → (List Int) → Option Y5) (plan3 : List (List Int)) (taken1 : List Int) (stock : Int) (v212 : List (List Int)) (v222 : Int) (v232 : Int) (v47 : List Int) (v48 : Int) (v50 : List Int) (v51 : Int) (v52 : Bool) (v55 : List Int) (v56 : Bool) (v57 : Bool) (v60 : List Int) (v61 : Bool) (v62 : Bool) (v65 : List Int) (v66 : Int) (v67 : Int) (c3 : (List Int) × (List Int) × (List Int)) (out2 : List (List Int)) (row : List Int) : Option Y5 :=
  bif ilt v67 v66 then
    chk (inB v67 v65.length) <|
    chk (inB v67 taken1.length) <|
    bif ilt (iadd .i64 stock (isub .i64 (gd v65 v67.toNat 0) (gd taken1 v67.toNat 0))) 0 then
      some (([], false), ())
    else
      chk (fitB (row.length + 1) 8) <|
      kx1 plan3 taken1 (iadd .i64 stock (isub .i64 (gd v65 v67.toNat 0) (gd taken1 v67.toNat 0))) v212 v222 v232 v47 v48 v50 v51 v52 v55 v56 v57 v60 v61 v62 v65 v66 (iadd .i64 v67 1) c3 out2 (row ++ [iadd .i64 stock (isub .i64 (gd v65 v67.toNat 0) (gd taken1 v67.toNat 0))])
  else
    Q16_K1 N kx plan3 stock v212 v222 v232 v47 v48 v50 v51 v52 v55 v56 v57 v60 v61 v62 c3 out2 row
def Q16_L1 (N fu_ : Nat) (kx : Y1 → Y1 → Int → Int → Y0 → Y1 → Option Y5) (plan3 : List (List Int)) (taken1 : List Int) (stock : Int) (v212 : List (List Int)) (v222 : Int) (v232 : Int) (v47 : List Int) (v48 : Int) (v50 : List Int) (v51 : Int) (v52 : Bool) (v55 : List Int) (v56 : Bool) (v57 : Bool) (v60 : List Int) (v61 : Bool) (v62 : Bool) (v65 : List Int) (v66 : Int) (v67 : Int) (c3 : (List Int) × (List Int) × (List Int)) (out2 : List (List Int)) (row : List Int) : Option Y5 :=
  iterK fu_ (fun kx1 (v_ : (Y1 × (List Int) × Int × Y1 × Int × Int × (List Int) × Int × (List Int) × Int × Bool × (List Int) × Bool × Bool × (List Int) × Bool × Bool × (List Int) × Int × Int × Unit) × (Y0 × Y1 × (List Int) × Unit)) => Q16_B1 N kx (fun plan3 taken1 stock v212 v222 v232 v47 v48 v50 v51 v52 v55 v56 v57 v60 v61 v62 v65 v66 v67 c3 out2 row => kx1 ((plan3, taken1, stock, v212, v222, v232, v47, v48, v50, v51, v52, v55, v56, v57, v60, v61, v62, v65, v66, v67, ()), (c3, out2, row, ()))) v_.1.1 v_.1.2.1 v_.1.2.2.1 v_.1.2.2.2.1 v_.1.2.2.2.2.1 v_.1.2.2.2.2.2.1 v_.1.2.2.2.2.2.2.1 v_.1.2.2.2.2.2.2.2.1 v_.1.2.2.2.2.2.2.2.2.1 v_.1.2.2.2.2.2.2.2.2.2.1 v_.1.2.2.2.2.2.2.2.2.2.2.1 v_.1.2.2.2.2.2.2.2.2.2.2.2.1 v_.1.2.2.2.2.2.2.2.2.2.2.2.2.1 v_.1.2.2.2.2.2.2.2.2.2.2.2.2.2.1 v_.1.2.2.2.2.2.2.2.2.2.2.2.2.2.2.1 v_.1.2.2.2.2.2.2.2.2.2.2.2.2.2.2.2.1 v_.1.2.2.2.2.2.2.2.2.2.2.2.2.2.2.2.2.1 v_.1.2.2.2.2.2.2.2.2.2.2.2.2.2.2.2.2.2.1 v_.1.2.2.2.2.2.2.2.2.2.2.2.2.2.2.2.2.2.2.1 v_.1.2.2.2.2.2.2.2.2.2.2.2.2.2.2.2.2.2.2.2.1 v_.2.1 v_.2.2.1 v_.2.2.2.1) ((plan3, taken1, stock, v212, v222, v232, v47, v48, v50, v51, v52, v55, v56, v57, v60, v61, v62, v65, v66, v67, ()), (c3, out2, row, ()))
theorem Q16_L1_run (N : Nat) (kx : Y1 → Y1 → Int → Int → Y0 → Y1 → Option Y5) (plan3 : Nat → Y1) (taken1 : Nat → (List Int)) (stock : Nat → Int) (v212 : Nat → Y1) (v222 : Nat → Int) (v232 : Nat → Int) (v47 : Nat → (List Int)) (v48 : Nat → Int) (v50 : Nat → (List Int)) (v51 : Nat → Int) (v52 : Nat → Bool) (v55 : Nat → (List Int)) (v56 : Nat → Bool) (v57 : Nat → Bool) (v60 : Nat → (List Int)) (v61 : Nat → Bool) (v62 : Nat → Bool) (v65 : Nat → (List Int)) (v66 : Nat → Int) (v67 : Nat → Int) (c3 : Nat → Y0) (out2 : Nat → Y1) (row : Nat → (List Int)) (n_ : Nat) {res_ : Option Y5} (hstep_ : ∀ j_, j_ < n_ → ∀ kx_, Q16_B1 N kx kx_ (plan3 j_) (taken1 j_) (stock j_) (v212 j_) (v222 j_) (v232 j_) (v47 j_) (v48 j_) (v50 j_) (v51 j_) (v52 j_) (v55 j_) (v56 j_) (v57 j_) (v60 j_) (v61 j_) (v62 j_) (v65 j_) (v66 j_) (v67 j_) (c3 j_) (out2 j_) (row j_) = kx_ (plan3 (j_ + 1)) (taken1 (j_ + 1)) (stock (j_ + 1)) (v212 (j_ + 1)) (v222 (j_ + 1)) (v232 (j_ + 1)) (v47 (j_ + 1)) (v48 (j_ + 1)) (v50 (j_ + 1)) (v51 (j_ + 1)) (v52 (j_ + 1)) (v55 (j_ + 1)) (v56 (j_ + 1)) (v57 (j_ + 1)) (v60 (j_ + 1)) (v61 (j_ + 1)) (v62 (j_ + 1)) (v65 (j_ + 1)) (v66 (j_ + 1)) (v67 (j_ + 1)) (c3 (j_ + 1)) (out2 (j_ + 1)) (row (j_ + 1))) (hend_ : ∀ kx_, Q16_B1 N kx kx_ (plan3 n_) (taken1 n_) (stock n_) (v212 n_) (v222 n_) (v232 n_) (v47 n_) (v48 n_) (v50 n_) (v51 n_) (v52 n_) (v55 n_) (v56 n_) (v57 n_) (v60 n_) (v61 n_) (v62 n_) (v65 n_) (v66 n_) (v67 n_) (c3 n_) (out2 n_) (row n_) = res_) (fu_ : Nat) (hm_ : n_ < fu_) : Q16_L1 N fu_ kx (plan3 0) (taken1 0) (stock 0) (v212 0) (v222 0) (v232 0) (v47 0) (v48 0) (v50 0) (v51 0) (v52 0) (v55 0) (v56 0) (v57 0) (v60 0) (v61 0) (v62 0) (v65 0) (v66 0) (v67 0) (c3 0) (out2 0) (row 0) = res_ := by
  exact loop_run (L := fun fu_ (x_ : Y1 × (List Int) × Int × Y1 × Int × Int × (List Int) × Int × (List Int) × Int × Bool × (List Int) × Bool × Bool × (List Int) × Bool × Bool × (List Int) × Int × Int × Y0 × Y1 × (List Int)) => Q16_L1 N fu_ kx x_.1 x_.2.1 x_.2.2.1 x_.2.2.2.1 x_.2.2.2.2.1 x_.2.2.2.2.2.1 x_.2.2.2.2.2.2.1 x_.2.2.2.2.2.2.2.1 x_.2.2.2.2.2.2.2.2.1 x_.2.2.2.2.2.2.2.2.2.1 x_.2.2.2.2.2.2.2.2.2.2.1 x_.2.2.2.2.2.2.2.2.2.2.2.1 x_.2.2.2.2.2.2.2.2.2.2.2.2.1 x_.2.2.2.2.2.2.2.2.2.2.2.2.2.1 x_.2.2.2.2.2.2.2.2.2.2.2.2.2.2.1 x_.2.2.2.2.2.2.2.2.2.2.2.2.2.2.2.1 x_.2.2.2.2.2.2.2.2.2.2.2.2.2.2.2.2.1 x_.2.2.2.2.2.2.2.2.2.2.2.2.2.2.2.2.2.1 x_.2.2.2.2.2.2.2.2.2.2.2.2.2.2.2.2.2.2.1 x_.2.2.2.2.2.2.2.2.2.2.2.2.2.2.2.2.2.2.2.1 x_.2.2.2.2.2.2.2.2.2.2.2.2.2.2.2.2.2.2.2.2.1 x_.2.2.2.2.2.2.2.2.2.2.2.2.2.2.2.2.2.2.2.2.2.1 x_.2.2.2.2.2.2.2.2.2.2.2.2.2.2.2.2.2.2.2.2.2.2) (B := fun kx_ x_ => Q16_B1 N kx (fun plan3 taken1 stock v212 v222 v232 v47 v48 v50 v51 v52 v55 v56 v57 v60 v61 v62 v65 v66 v67 c3 out2 row => kx_ (plan3, taken1, stock, v212, v222, v232, v47, v48, v50, v51, v52, v55, v56, v57, v60, v61, v62, v65, v66, v67, c3, out2, row)) x_.1 x_.2.1 x_.2.2.1 x_.2.2.2.1 x_.2.2.2.2.1 x_.2.2.2.2.2.1 x_.2.2.2.2.2.2.1 x_.2.2.2.2.2.2.2.1 x_.2.2.2.2.2.2.2.2.1 x_.2.2.2.2.2.2.2.2.2.1 x_.2.2.2.2.2.2.2.2.2.2.1 x_.2.2.2.2.2.2.2.2.2.2.2.1 x_.2.2.2.2.2.2.2.2.2.2.2.2.1 x_.2.2.2.2.2.2.2.2.2.2.2.2.2.1 x_.2.2.2.2.2.2.2.2.2.2.2.2.2.2.1 x_.2.2.2.2.2.2.2.2.2.2.2.2.2.2.2.1 x_.2.2.2.2.2.2.2.2.2.2.2.2.2.2.2.2.1 x_.2.2.2.2.2.2.2.2.2.2.2.2.2.2.2.2.2.1 x_.2.2.2.2.2.2.2.2.2.2.2.2.2.2.2.2.2.2.1 x_.2.2.2.2.2.2.2.2.2.2.2.2.2.2.2.2.2.2.2.1 x_.2.2.2.2.2.2.2.2.2.2.2.2.2.2.2.2.2.2.2.2.1 x_.2.2.2.2.2.2.2.2.2.2.2.2.2.2.2.2.2.2.2.2.2.1 x_.2.2.2.2.2.2.2.2.2.2.2.2.2.2.2.2.2.2.2.2.2.2) (fun _ _ => rfl) (fun j_ => (plan3 j_, taken1 j_, stock j_, v212 j_, v222 j_, v232 j_, v47 j_, v48 j_, v50 j_, v51 j_, v52 j_, v55 j_, v56 j_, v57 j_, v60 j_, v61 j_, v62 j_, v65 j_, v66 j_, v67 j_, c3 j_, out2 j_, row j_)) n_ (fun j_ hi_ kx_ => hstep_ j_ hi_ _) (fun kx_ => hend_ _) fu_ hm_
def Q16_K2 (N : Nat) (kx : Y1 → Y1 → Int → Int → Y0 → Y1 → Option Y5) (plan2 : List (List Int)) (list : List Int) (taken : List Int) (v211 : List (List Int)) (v221 : Int) (v231 : Int) (c2 : (List Int) × (List Int) × (List Int)) (out1 : List (List Int)) : Option Y5 :=
  bif ine (len list) (len c2.1) then
    some (([], false), ())
  else
    bif ine (len taken) (len c2.1) then
      some (([], false), ())
    else
      (Q22 N list 0 120).bind fun r =>
      bif !r.1 then
        some (([], false), ())
      else
        (Q22 N taken 0 120).bind fun r1 =>
        bif !r1.1 then
          some (([], false), ())
        else
          Q16_L1 N N kx plan2 taken 0 v211 v221 v231 taken (len taken) c2.1 (len c2.1) (ine (len taken) (len c2.1)) list r.1 (!r.1) taken r1.1 (!r1.1) list (len list) 0 c2 out1 []
def Q16_K3 (N : Nat) (out4 : List (List Int)) : Option Y5 :=
  some ((out4, true), ())
def Q16_B2 (N : Nat) (kx : Y1 → Y1 → Int → Int → Y0 → Y1 → Option Y5) (plan1 : List (List Int)) (v21 : List (List Int)) (v22 : Int) (v23 : Int) (c1 : (List Int) × (List Int) × (List Int)) (out : List (List Int)) : Option Y5 :=
  bif ilt v23 v22 then
    chk (inB v23 v21.length) <|
    bif ilt (iadd .i64 v23 1) (len plan1) then
      chk (inB (iadd .i64 v23 1) plan1.length) <|
      Q16_K2 N kx plan1 (gd v21 v23.toNat []) (gd plan1 (iadd .i64 v23 1).toNat []) v21 v22 v23 c1 out
    else
      Q16_K2 N kx plan1 (gd v21 v23.toNat []) c1.1 v21 v22 v23 c1 out
  else
    Q16_K3 N out
def Q16_L2 (N fu_ : Nat) (plan1 : List (List Int)) (v21 : List (List Int)) (v22 : Int) (v23 : Int) (c1 : (List Int) × (List Int) × (List Int)) (out : List (List Int)) : Option Y5 :=
  iterK fu_ (fun kx (v_ : (Y1 × Y1 × Int × Int × Unit) × Y17) => Q16_B2 N (fun plan1 v21 v22 v23 c1 out => kx ((plan1, v21, v22, v23, ()), (c1, out, ()))) v_.1.1 v_.1.2.1 v_.1.2.2.1 v_.1.2.2.2.1 v_.2.1 v_.2.2.1) ((plan1, v21, v22, v23, ()), (c1, out, ()))
theorem Q16_L2_run (N : Nat) (plan1 : Nat → Y1) (v21 : Nat → Y1) (v22 : Nat → Int) (v23 : Nat → Int) (c1 : Nat → Y0) (out : Nat → Y1) (n_ : Nat) {res_ : Option Y5} (hstep_ : ∀ j_, j_ < n_ → ∀ kx_, Q16_B2 N kx_ (plan1 j_) (v21 j_) (v22 j_) (v23 j_) (c1 j_) (out j_) = kx_ (plan1 (j_ + 1)) (v21 (j_ + 1)) (v22 (j_ + 1)) (v23 (j_ + 1)) (c1 (j_ + 1)) (out (j_ + 1))) (hend_ : ∀ kx_, Q16_B2 N kx_ (plan1 n_) (v21 n_) (v22 n_) (v23 n_) (c1 n_) (out n_) = res_) (fu_ : Nat) (hm_ : n_ < fu_) : Q16_L2 N fu_ (plan1 0) (v21 0) (v22 0) (v23 0) (c1 0) (out 0) = res_ := by
  exact loop_run (L := fun fu_ (x_ : Y1 × Y1 × Int × Int × Y0 × Y1) => Q16_L2 N fu_ x_.1 x_.2.1 x_.2.2.1 x_.2.2.2.1 x_.2.2.2.2.1 x_.2.2.2.2.2) (B := fun kx_ x_ => Q16_B2 N (fun plan1 v21 v22 v23 c1 out => kx_ (plan1, v21, v22, v23, c1, out)) x_.1 x_.2.1 x_.2.2.1 x_.2.2.2.1 x_.2.2.2.2.1 x_.2.2.2.2.2) (fun _ _ => rfl) (fun j_ => (plan1 j_, v21 j_, v22 j_, v23 j_, c1 j_, out j_)) n_ (fun j_ hi_ kx_ => hstep_ j_ hi_ _) (fun kx_ => hend_ _) fu_ hm_
def Q16 (N : Nat) (c : (List Int) × (List Int) × (List Int)) (plan : List (List Int)) : Option Y5 :=
  bif ine (len plan) (len c.2.1) then
    some (([], false), ())
  else
    Q16_L2 N N plan plan (len plan) 0 c []
def Q13_K1 (N : Nat) (kx1 : Int → Int → Y1 → Int → Int → (List Int) → Int → Int → Y0 → Y12 → Option Y7) (sum2 : Int) (stage1 : Int) (i : Int) (v182 : List (List Int)) (v192 : Int) (v202 : Int) (v251 : List Int) (v261 : Int) (v271 : Int) (c3 : (List Int) × (List Int) × (List Int)) (b152 : Y1 × Bool) : Option Y7 :=
  chk (inB stage1 c3.2.2.length) <|
  chk (inB stage1 b152.1.length) <|
  chk (inB i (gd b152.1 stage1.toNat []).length) <|
  kx1 (iadd .i64 sum2 (imul .i64 (gd c3.2.2 stage1.toNat 0) (gd (gd b152.1 stage1.toNat []) i.toNat 0))) stage1 v182 v192 v202 v251 v261 (iadd .i64 v271 1) c3 b152
def Q13_K2 (N : Nat) (kx : Int → Y1 → Int → Int → Y0 → Y12 → Option Y7) (sum3 : Int) (v183 : List (List Int)) (v193 : Int) (v203 : Int) (c4 : (List Int) × (List Int) × (List Int)) (b153 : Y1 × Bool) : Option Y7 :=
  kx sum3 v183 v193 (iadd .i64 v203 1) c4 b153
def Q13_B1 (N : Nat) (kx : Int → Y1 → Int → Int → Y0 → Y12 → Option Y7) (kx1 : Int → Int → Y1 → Int → Int → (List Int) → Int → Int → Y0 → Y12 → Option Y7) (sum1 : Int) (stage : Int) (v181 : List (List Int)) (v191 : Int) (v201 : Int) (v25 : List Int) (v26 : Int) (v27 : Int) (c2 : (List Int) × (List Int) × (List Int)) (b151 : Y1 × Bool) : Option Y7 :=
  bif ilt v27 v26 then
    chk (inB v27 v25.length) <|
    bif ilt 0 (gd v25 v27.toNat 0) then
      chk (inB stage c2.2.1.length) <|
      Q13_K1 N kx1 (iadd .i64 sum1 (gd c2.2.1 stage.toNat 0)) stage v27 v181 v191 v201 v25 v26 v27 c2 b151
    else
      Q13_K1 N kx1 sum1 stage v27 v181 v191 v201 v25 v26 v27 c2 b151
  else
    Q13_K2 N kx sum1 v181 v191 v201 c2 b151
def Q13_L1 (N fu_ : Nat) (kx : Int → Y1 → Int → Int → Y0 → Y12 → Option Y7) (sum1 : Int) (stage : Int) (v181 : List (List Int)) (v191 : Int) (v201 : Int) (v25 : List Int) (v26 : Int) (v27 : Int) (c2 : (List Int) × (List Int) × (List Int)) (b151 : Y1 × Bool) : Option Y7 :=
  iterK fu_ (fun kx1 (v_ : (Int × Int × Y1 × Int × Int × (List Int) × Int × Int × Unit) × (Y0 × Y12 × Unit)) => Q13_B1 N kx (fun sum1 stage v181 v191 v201 v25 v26 v27 c2 b151 => kx1 ((sum1, stage, v181, v191, v201, v25, v26, v27, ()), (c2, b151, ()))) v_.1.1 v_.1.2.1 v_.1.2.2.1 v_.1.2.2.2.1 v_.1.2.2.2.2.1 v_.1.2.2.2.2.2.1 v_.1.2.2.2.2.2.2.1 v_.1.2.2.2.2.2.2.2.1 v_.2.1 v_.2.2.1) ((sum1, stage, v181, v191, v201, v25, v26, v27, ()), (c2, b151, ()))
theorem Q13_L1_run (N : Nat) (kx : Int → Y1 → Int → Int → Y0 → Y12 → Option Y7) (sum1 : Nat → Int) (stage : Nat → Int) (v181 : Nat → Y1) (v191 : Nat → Int) (v201 : Nat → Int) (v25 : Nat → (List Int)) (v26 : Nat → Int) (v27 : Nat → Int) (c2 : Nat → Y0) (b151 : Nat → Y12) (n_ : Nat) {res_ : Option Y7} (hstep_ : ∀ j_, j_ < n_ → ∀ kx_, Q13_B1 N kx kx_ (sum1 j_) (stage j_) (v181 j_) (v191 j_) (v201 j_) (v25 j_) (v26 j_) (v27 j_) (c2 j_) (b151 j_) = kx_ (sum1 (j_ + 1)) (stage (j_ + 1)) (v181 (j_ + 1)) (v191 (j_ + 1)) (v201 (j_ + 1)) (v25 (j_ + 1)) (v26 (j_ + 1)) (v27 (j_ + 1)) (c2 (j_ + 1)) (b151 (j_ + 1))) (hend_ : ∀ kx_, Q13_B1 N kx kx_ (sum1 n_) (stage n_) (v181 n_) (v191 n_) (v201 n_) (v25 n_) (v26 n_) (v27 n_) (c2 n_) (b151 n_) = res_) (fu_ : Nat) (hm_ : n_ < fu_) : Q13_L1 N fu_ kx (sum1 0) (stage 0) (v181 0) (v191 0) (v201 0) (v25 0) (v26 0) (v27 0) (c2 0) (b151 0) = res_ := by
  exact loop_run (L := fun fu_ (x_ : Int × Int × Y1 × Int × Int × (List Int) × Int × Int × Y0 × Y12) => Q13_L1 N fu_ kx x_.1 x_.2.1 x_.2.2.1 x_.2.2.2.1 x_.2.2.2.2.1 x_.2.2.2.2.2.1 x_.2.2.2.2.2.2.1 x_.2.2.2.2.2.2.2.1 x_.2.2.2.2.2.2.2.2.1 x_.2.2.2.2.2.2.2.2.2) (B := fun kx_ x_ => Q13_B1 N kx (fun sum1 stage v181 v191 v201 v25 v26 v27 c2 b151 => kx_ (sum1, stage, v181, v191, v201, v25, v26, v27, c2, b151)) x_.1 x_.2.1 x_.2.2.1 x_.2.2.2.1 x_.2.2.2.2.1 x_.2.2.2.2.2.1 x_.2.2.2.2.2.2.1 x_.2.2.2.2.2.2.2.1 x_.2.2.2.2.2.2.2.2.1 x_.2.2.2.2.2.2.2.2.2) (fun _ _ => rfl) (fun j_ => (sum1 j_, stage j_, v181 j_, v191 j_, v201 j_, v25 j_, v26 j_, v27 j_, c2 j_, b151 j_)) n_ (fun j_ hi_ kx_ => hstep_ j_ hi_ _) (fun kx_ => hend_ _) fu_ hm_
def Q13_K3 (N : Nat) (sum4 : Int) : Option Y7 :=
  some (sum4, ())
def Q13_B2 (N : Nat) (kx : Int → Y1 → Int → Int → Y0 → Y12 → Option Y7) (sum : Int) (v18 : List (List Int)) (v19 : Int) (v20 : Int) (c1 : (List Int) × (List Int) × (List Int)) (b15 : Y1 × Bool) : Option Y7 :=
  bif ilt v20 v19 then
    chk (inB v20 v18.length) <|
    Q13_L1 N N kx sum v20 v18 v19 v20 (gd v18 v20.toNat []) (len (gd v18 v20.toNat [])) 0 c1 b15
  else
    Q13_K3 N sum
def Q13_L2 (N fu_ : Nat) (sum : Int) (v18 : List (List Int)) (v19 : Int) (v20 : Int) (c1 : (List Int) × (List Int) × (List Int)) (b15 : Y1 × Bool) : Option Y7 :=
  iterK fu_ (fun kx (v_ : (Int × Y1 × Int × Int × Unit) × (Y0 × Y12 × Unit)) => Q13_B2 N (fun sum v18 v19 v20 c1 b15 => kx ((sum, v18, v19, v20, ()), (c1, b15, ()))) v_.1.1 v_.1.2.1 v_.1.2.2.1 v_.1.2.2.2.1 v_.2.1 v_.2.2.1) ((sum, v18, v19, v20, ()), (c1, b15, ()))
theorem Q13_L2_run (N : Nat) (sum : Nat → Int) (v18 : Nat → Y1) (v19 : Nat → Int) (v20 : Nat → Int) (c1 : Nat → Y0) (b15 : Nat → Y12) (n_ : Nat) {res_ : Option Y7} (hstep_ : ∀ j_, j_ < n_ → ∀ kx_, Q13_B2 N kx_ (sum j_) (v18 j_) (v19 j_) (v20 j_) (c1 j_) (b15 j_) = kx_ (sum (j_ + 1)) (v18 (j_ + 1)) (v19 (j_ + 1)) (v20 (j_ + 1)) (c1 (j_ + 1)) (b15 (j_ + 1))) (hend_ : ∀ kx_, Q13_B2 N kx_ (sum n_) (v18 n_) (v19 n_) (v20 n_) (c1 n_) (b15 n_) = res_) (fu_ : Nat) (hm_ : n_ < fu_) : Q13_L2 N fu_ (sum 0) (v18 0) (v19 0) (v20 0) (c1 0) (b15 0) = res_ := by
  exact loop_run (L := fun fu_ (x_ : Int × Y1 × Int × Int × Y0 × Y12) => Q13_L2 N fu_ x_.1 x_.2.1 x_.2.2.1 x_.2.2.2.1 x_.2.2.2.2.1 x_.2.2.2.2.2) (B := fun kx_ x_ => Q13_B2 N (fun sum v18 v19 v20 c1 b15 => kx_ (sum, v18, v19, v20, c1, b15)) x_.1 x_.2.1 x_.2.2.1 x_.2.2.2.1 x_.2.2.2.2.1 x_.2.2.2.2.2) (fun _ _ => rfl) (fun j_ => (sum j_, v18 j_, v19 j_, v20 j_, c1 j_, b15 j_)) n_ (fun j_ hi_ kx_ => hstep_ j_ hi_ _) (fun kx_ => hend_ _) fu_ hm_
def Q13 (N : Nat) (c : (List Int) × (List Int) × (List Int)) (plan : List (List Int)) : Option Y7 :=
  (Q16 N c plan).bind fun r =>
  Q13_L2 N N 0 plan (len plan) 0 c r.1
def Q26_K1 (N : Nat) (out1 : Int) : Option Y7 :=
  some (out1, ())
def Q26_B1 (N : Nat) (kx : Int → Int → Int → Int → Option Y7) (a1 : Int) (out : Int) (v6 : Int) (v7 : Int) : Option Y7 :=
  bif ilt v7 v6 then
    kx a1 (imul .i64 out a1) v6 (iadd .i64 v7 1)
  else
    Q26_K1 N out
def Q26_L1 (N fu_ : Nat) (a1 : Int) (out : Int) (v6 : Int) (v7 : Int) : Option Y7 :=
  iterK fu_ (fun kx (v_ : (Int × Int × Int × Int × Unit) × (Unit)) => Q26_B1 N (fun a1 out v6 v7 => kx ((a1, out, v6, v7, ()), ())) v_.1.1 v_.1.2.1 v_.1.2.2.1 v_.1.2.2.2.1) ((a1, out, v6, v7, ()), ())
theorem Q26_L1_run (N : Nat) (a1 : Nat → Int) (out : Nat → Int) (v6 : Nat → Int) (v7 : Nat → Int) (n_ : Nat) {res_ : Option Y7} (hstep_ : ∀ j_, j_ < n_ → ∀ kx_, Q26_B1 N kx_ (a1 j_) (out j_) (v6 j_) (v7 j_) = kx_ (a1 (j_ + 1)) (out (j_ + 1)) (v6 (j_ + 1)) (v7 (j_ + 1))) (hend_ : ∀ kx_, Q26_B1 N kx_ (a1 n_) (out n_) (v6 n_) (v7 n_) = res_) (fu_ : Nat) (hm_ : n_ < fu_) : Q26_L1 N fu_ (a1 0) (out 0) (v6 0) (v7 0) = res_ := by
  exact loop_run (L := fun fu_ (x_ : Int × Int × Int × Int) => Q26_L1 N fu_ x_.1 x_.2.1 x_.2.2.1 x_.2.2.2) (B := fun kx_ x_ => Q26_B1 N (fun a1 out v6 v7 => kx_ (a1, out, v6, v7)) x_.1 x_.2.1 x_.2.2.1 x_.2.2.2) (fun _ _ => rfl) (fun j_ => (a1 j_, out j_, v6 j_, v7 j_)) n_ (fun j_ hi_ kx_ => hstep_ j_ hi_ _) (fun kx_ => hend_ _) fu_ hm_
def Q26 (N : Nat) (a : Int) (n : Int) : Option Y7 :=
  Q26_L1 N N a 1 n 0
def Q23 (N : Nat) (list : List Int) : Option Y6 :=
  chk (fitB (0 + list.length) 8) <|
  some (list, ())
def Q24_K1 (N : Nat) (v61 : (List Int) × (List Int) × (List Int) × (List Int)) (c1 : (List Int) × (List Int) × (List Int) × (List Int)) : Option Y19 :=
  some (c1, ())
def Q24_B1 (N : Nat) (kx : Int → Int → Int → Int → Y2 → Y2 → Option Y19) (setup1 : Int) (hold1 : Int) (v15 : Int) (v16 : Int) (v6 : (List Int) × (List Int) × (List Int) × (List Int)) (c : (List Int) × (List Int) × (List Int) × (List Int)) : Option Y19 :=
  bif ilt v16 v15 then
    chk (fitB (c.2.1.length + 1) 8) <|
    chk (fitB (c.2.2.2.length + 1) 8) <|
    kx setup1 hold1 v15 (iadd .i64 v16 1) v6 (c.1, (c.2.1 ++ [setup1], (c.2.2.1, c.2.2.2 ++ [hold1])))
  else
    Q24_K1 N v6 c
def Q24_L1 (N fu_ : Nat) (setup1 : Int) (hold1 : Int) (v15 : Int) (v16 : Int) (v6 : (List Int) × (List Int) × (List Int) × (List Int)) (c : (List Int) × (List Int) × (List Int) × (List Int)) : Option Y19 :=
  iterK fu_ (fun kx (v_ : (Int × Int × Int × Int × Unit) × (Y2 × Y2 × Unit)) => Q24_B1 N (fun setup1 hold1 v15 v16 v6 c => kx ((setup1, hold1, v15, v16, ()), (v6, c, ()))) v_.1.1 v_.1.2.1 v_.1.2.2.1 v_.1.2.2.2.1 v_.2.1 v_.2.2.1) ((setup1, hold1, v15, v16, ()), (v6, c, ()))
theorem Q24_L1_run (N : Nat) (setup1 : Nat → Int) (hold1 : Nat → Int) (v15 : Nat → Int) (v16 : Nat → Int) (v6 : Nat → Y2) (c : Nat → Y2) (n_ : Nat) {res_ : Option Y19} (hstep_ : ∀ j_, j_ < n_ → ∀ kx_, Q24_B1 N kx_ (setup1 j_) (hold1 j_) (v15 j_) (v16 j_) (v6 j_) (c j_) = kx_ (setup1 (j_ + 1)) (hold1 (j_ + 1)) (v15 (j_ + 1)) (v16 (j_ + 1)) (v6 (j_ + 1)) (c (j_ + 1))) (hend_ : ∀ kx_, Q24_B1 N kx_ (setup1 n_) (hold1 n_) (v15 n_) (v16 n_) (v6 n_) (c n_) = res_) (fu_ : Nat) (hm_ : n_ < fu_) : Q24_L1 N fu_ (setup1 0) (hold1 0) (v15 0) (v16 0) (v6 0) (c 0) = res_ := by
  exact loop_run (L := fun fu_ (x_ : Int × Int × Int × Int × Y2 × Y2) => Q24_L1 N fu_ x_.1 x_.2.1 x_.2.2.1 x_.2.2.2.1 x_.2.2.2.2.1 x_.2.2.2.2.2) (B := fun kx_ x_ => Q24_B1 N (fun setup1 hold1 v15 v16 v6 c => kx_ (setup1, hold1, v15, v16, v6, c)) x_.1 x_.2.1 x_.2.2.1 x_.2.2.2.1 x_.2.2.2.2.1 x_.2.2.2.2.2) (fun _ _ => rfl) (fun j_ => (setup1 j_, hold1 j_, v15 j_, v16 j_, v6 j_, c j_)) n_ (fun j_ hi_ kx_ => hstep_ j_ hi_ _) (fun kx_ => hend_ _) fu_ hm_
def Q24 (N : Nat) (need : List Int) (setup : Int) (hold : Int) : Option Y19 :=
  (Q23 N need).bind fun r =>
  chk (mkB (len need) 8) <|
  Q24_L1 N N setup hold (len need) 0 ([], ([], ([], []))) (r.1, ([], (List.replicate (len need).toNat 0, [])))
def Q7_K1 (N : Nat) (kx : (List Int) → Int → (List Int) → Int → Int → (List Int) → Option Y10) (periods3 : List Int) (next2 : Int) (need1 : Int) (v152 : List Int) (v162 : Int) (v172 : Int) (plan2 : List Int) : Option Y10 :=
  bif ieq next2 0 then
    bif ilt 0 need1 then
      some (([], false), ())
    else
      kx periods3 next2 v152 v162 (iadd .i64 v172 1) plan2
  else
    chk (inB (isub .i64 next2 1) periods3.length) <|
    chk (inB (gd periods3 (isub .i64 next2 1).toNat 0) plan2.length) <|
    chk (inB (gd periods3 (isub .i64 next2 1).toNat 0) plan2.length) <|
    kx periods3 next2 v152 v162 (iadd .i64 v172 1) (List.set plan2 (gd periods3 (isub .i64 next2 1).toNat 0).toNat (iadd .i64 (gd plan2 (gd periods3 (isub .i64 next2 1).toNat 0).toNat 0) need1))
def Q7_K2 (N : Nat) (kx : (List Int) → Int → (List Int) → Int → Int → (List Int) → Option Y10) (periods2 : List Int) (next1 : Int) (need : Int) (v151 : List Int) (v161 : Int) (v171 : Int) (v33 : Bool) (plan1 : List Int) : Option Y10 :=
  bif v33 then
    Q7_K1 N kx periods2 (iadd .i64 next1 1) need v151 v161 v171 plan1
  else
    Q7_K1 N kx periods2 next1 need v151 v161 v171 plan1
def Q7_K3 (N : Nat) (plan3 : List Int) : Option Y10 :=
  some ((plan3, true), ())
def Q7_B1 (N : Nat) (kx : (List Int) → Int → (List Int) → Int → Int → (List Int) → Option Y10) (periods1 : List Int) (next : Int) (v15 : List Int) (v16 : Int) (v17 : Int) (plan : List Int) : Option Y10 :=
  bif ilt v17 v16 then
    chk (inB v17 v15.length) <|
    bif ilt next (len periods1) then
      chk (inB next periods1.length) <|
      Q7_K2 N kx periods1 next (gd v15 v17.toNat 0) v15 v16 v17 (ieq (gd periods1 next.toNat 0) v17) plan
    else
      Q7_K2 N kx periods1 next (gd v15 v17.toNat 0) v15 v16 v17 false plan
  else
    Q7_K3 N plan
def Q7_L1 (N fu_ : Nat) (periods1 : List Int) (next : Int) (v15 : List Int) (v16 : Int) (v17 : Int) (plan : List Int) : Option Y10 :=
  iterK fu_ (fun kx (v_ : ((List Int) × Int × (List Int) × Int × Int × Unit) × Y6) => Q7_B1 N (fun periods1 next v15 v16 v17 plan => kx ((periods1, next, v15, v16, v17, ()), (plan, ()))) v_.1.1 v_.1.2.1 v_.1.2.2.1 v_.1.2.2.2.1 v_.1.2.2.2.2.1 v_.2.1) ((periods1, next, v15, v16, v17, ()), (plan, ()))
theorem Q7_L1_run (N : Nat) (periods1 : Nat → (List Int)) (next : Nat → Int) (v15 : Nat → (List Int)) (v16 : Nat → Int) (v17 : Nat → Int) (plan : Nat → (List Int)) (n_ : Nat) {res_ : Option Y10} (hstep_ : ∀ j_, j_ < n_ → ∀ kx_, Q7_B1 N kx_ (periods1 j_) (next j_) (v15 j_) (v16 j_) (v17 j_) (plan j_) = kx_ (periods1 (j_ + 1)) (next (j_ + 1)) (v15 (j_ + 1)) (v16 (j_ + 1)) (v17 (j_ + 1)) (plan (j_ + 1))) (hend_ : ∀ kx_, Q7_B1 N kx_ (periods1 n_) (next n_) (v15 n_) (v16 n_) (v17 n_) (plan n_) = res_) (fu_ : Nat) (hm_ : n_ < fu_) : Q7_L1 N fu_ (periods1 0) (next 0) (v15 0) (v16 0) (v17 0) (plan 0) = res_ := by
  exact loop_run (L := fun fu_ (x_ : (List Int) × Int × (List Int) × Int × Int × (List Int)) => Q7_L1 N fu_ x_.1 x_.2.1 x_.2.2.1 x_.2.2.2.1 x_.2.2.2.2.1 x_.2.2.2.2.2) (B := fun kx_ x_ => Q7_B1 N (fun periods1 next v15 v16 v17 plan => kx_ (periods1, next, v15, v16, v17, plan)) x_.1 x_.2.1 x_.2.2.1 x_.2.2.2.1 x_.2.2.2.2.1 x_.2.2.2.2.2) (fun _ _ => rfl) (fun j_ => (periods1 j_, next j_, v15 j_, v16 j_, v17 j_, plan j_)) n_ (fun j_ hi_ kx_ => hstep_ j_ hi_ _) (fun kx_ => hend_ _) fu_ hm_
def Q7 (N : Nat) (c : (List Int) × (List Int) × (List Int) × (List Int)) (periods : List Int) : Option Y10 :=
  chk (mkB (len c.1) 8) <|
  Q7_L1 N N periods 0 c.1 (len c.1) 0 (List.replicate (len c.1).toNat 0)
def Q15_K1 (N : Nat) (out1 : List (List Int)) : Option Y5 :=
  some ((out1, true), ())
def Q15_B1 (N : Nat) (kx : Y1 → Int → Int → Y0 → Y1 → Option Y5) (v12 : List (List Int)) (v13 : Int) (v14 : Int) (c1 : (List Int) × (List Int) × (List Int)) (out : List (List Int)) : Option Y5 :=
  bif ilt v14 v13 then
    chk (inB v14 v12.length) <|
    (Q24 N c1.1 0 0).bind fun r =>
    (Q7 N r.1 (gd v12 v14.toNat [])).bind fun r1 =>
    bif !r1.1.2 then
      some (([], false), ())
    else
      chk (fitB (out.length + 1) 24) <|
      kx v12 v13 (iadd .i64 v14 1) c1 (out ++ [r1.1.1])
  else
    Q15_K1 N out
def Q15_L1 (N fu_ : Nat) (v12 : List (List Int)) (v13 : Int) (v14 : Int) (c1 : (List Int) × (List Int) × (List Int)) (out : List (List Int)) : Option Y5 :=
  iterK fu_ (fun kx (v_ : (Y1 × Int × Int × Unit) × Y17) => Q15_B1 N (fun v12 v13 v14 c1 out => kx ((v12, v13, v14, ()), (c1, out, ()))) v_.1.1 v_.1.2.1 v_.1.2.2.1 v_.2.1 v_.2.2.1) ((v12, v13, v14, ()), (c1, out, ()))
theorem Q15_L1_run (N : Nat) (v12 : Nat → Y1) (v13 : Nat → Int) (v14 : Nat → Int) (c1 : Nat → Y0) (out : Nat → Y1) (n_ : Nat) {res_ : Option Y5} (hstep_ : ∀ j_, j_ < n_ → ∀ kx_, Q15_B1 N kx_ (v12 j_) (v13 j_) (v14 j_) (c1 j_) (out j_) = kx_ (v12 (j_ + 1)) (v13 (j_ + 1)) (v14 (j_ + 1)) (c1 (j_ + 1)) (out (j_ + 1))) (hend_ : ∀ kx_, Q15_B1 N kx_ (v12 n_) (v13 n_) (v14 n_) (c1 n_) (out n_) = res_) (fu_ : Nat) (hm_ : n_ < fu_) : Q15_L1 N fu_ (v12 0) (v13 0) (v14 0) (c1 0) (out 0) = res_ := by
  exact loop_run (L := fun fu_ (x_ : Y1 × Int × Int × Y0 × Y1) => Q15_L1 N fu_ x_.1 x_.2.1 x_.2.2.1 x_.2.2.2.1 x_.2.2.2.2) (B := fun kx_ x_ => Q15_B1 N (fun v12 v13 v14 c1 out => kx_ (v12, v13, v14, c1, out)) x_.1 x_.2.1 x_.2.2.1 x_.2.2.2.1 x_.2.2.2.2) (fun _ _ => rfl) (fun j_ => (v12 j_, v13 j_, v14 j_, c1 j_, out j_)) n_ (fun j_ hi_ kx_ => hstep_ j_ hi_ _) (fun kx_ => hend_ _) fu_ hm_
def Q15 (N : Nat) (c : (List Int) × (List Int) × (List Int)) (periods : List (List Int)) : Option Y5 :=
  Q15_L1 N N periods (len periods) 0 c []
def Q0 (N : Nat) (x : Int) (y : Int) : Option Y7 :=
  (Q2 N x).bind fun r =>
  (Q2 N y).bind fun r1 =>
  bif r.1 then
    bif r1.1 then
      some (0, ())
    else
      some ((-1), ())
  else
    bif r1.1 then
      some (1, ())
    else
      bif ilt x y then
        some ((-1), ())
      else
        bif ilt y x then
          some (1, ())
        else
          some (0, ())
def Q42_K1 (N : Nat) (s12 : List Int) (s22 : List Int) : Option Y7 :=
  bif ilt (len s12) (len s22) then
    some ((-1), ())
  else
    some (0, ())
def Q42_B1 (N : Nat) (kx : (List Int) → (List Int) → (List Int) → Int → Int → Option Y7) (s11 : List Int) (s21 : List Int) (v9 : List Int) (v10 : Int) (v11 : Int) : Option Y7 :=
  bif ilt v11 v10 then
    chk (inB v11 v9.length) <|
    bif ile (len s21) v11 then
      some (1, ())
    else
      chk (inB v11 s21.length) <|
      (Q0 N (gd v9 v11.toNat 0) (gd s21 v11.toNat 0)).bind fun r =>
      bif ine r.1 0 then
        some (r.1, ())
      else
        kx s11 s21 v9 v10 (iadd .i64 v11 1)
  else
    Q42_K1 N s11 s21
def Q42_L1 (N fu_ : Nat) (s11 : List Int) (s21 : List Int) (v9 : List Int) (v10 : Int) (v11 : Int) : Option Y7 :=
  iterK fu_ (fun kx (v_ : ((List Int) × (List Int) × (List Int) × Int × Int × Unit) × (Unit)) => Q42_B1 N (fun s11 s21 v9 v10 v11 => kx ((s11, s21, v9, v10, v11, ()), ())) v_.1.1 v_.1.2.1 v_.1.2.2.1 v_.1.2.2.2.1 v_.1.2.2.2.2.1) ((s11, s21, v9, v10, v11, ()), ())
theorem Q42_L1_succ (N fu_ : Nat) (s11 : List Int) (s21 : List Int) (v9 : List Int) (v10 : Int) (v11 : Int) : Q42_L1 N (fu_ + 1) s11 s21 v9 v10 v11 = Q42_B1 N (fun s11 s21 v9 v10 v11 => Q42_L1 N fu_ s11 s21 v9 v10 v11) s11 s21 v9 v10 v11 := rfl
theorem Q42_L1_run (N : Nat) (s11 : Nat → (List Int)) (s21 : Nat → (List Int)) (v9 : Nat → (List Int)) (v10 : Nat → Int) (v11 : Nat → Int) (n_ : Nat) {res_ : Option Y7} (hstep_ : ∀ j_, j_ < n_ → ∀ kx_, Q42_B1 N kx_ (s11 j_) (s21 j_) (v9 j_) (v10 j_) (v11 j_) = kx_ (s11 (j_ + 1)) (s21 (j_ + 1)) (v9 (j_ + 1)) (v10 (j_ + 1)) (v11 (j_ + 1))) (hend_ : ∀ kx_, Q42_B1 N kx_ (s11 n_) (s21 n_) (v9 n_) (v10 n_) (v11 n_) = res_) (fu_ : Nat) (hm_ : n_ < fu_) : Q42_L1 N fu_ (s11 0) (s21 0) (v9 0) (v10 0) (v11 0) = res_ := by
  exact loop_run (L := fun fu_ (x_ : (List Int) × (List Int) × (List Int) × Int × Int) => Q42_L1 N fu_ x_.1 x_.2.1 x_.2.2.1 x_.2.2.2.1 x_.2.2.2.2) (B := fun kx_ x_ => Q42_B1 N (fun s11 s21 v9 v10 v11 => kx_ (s11, s21, v9, v10, v11)) x_.1 x_.2.1 x_.2.2.1 x_.2.2.2.1 x_.2.2.2.2) (fun _ _ => rfl) (fun j_ => (s11 j_, s21 j_, v9 j_, v10 j_, v11 j_)) n_ (fun j_ hi_ kx_ => hstep_ j_ hi_ _) (fun kx_ => hend_ _) fu_ hm_
def Q42 (N : Nat) (s1 : List Int) (s2 : List Int) : Option Y7 :=
  Q42_L1 N N s1 s2 s1 (len s1) 0
def Q12 (N : Nat) (a : List Int) (b : List Int) : Option Y7 :=
  (Q42 N a b).bind fun r =>
  some (r.1, ())
def Q41_K1 (N : Nat) (s12 : List (List Int)) (s22 : List (List Int)) : Option Y7 :=
  bif ilt (len s12) (len s22) then
    some ((-1), ())
  else
    some (0, ())
def Q41_B1 (N : Nat) (kx : Y1 → Y1 → Y1 → Int → Int → Option Y7) (s11 : List (List Int)) (s21 : List (List Int)) (v11 : List (List Int)) (v12 : Int) (v13 : Int) : Option Y7 :=
  bif ilt v13 v12 then
    chk (inB v13 v11.length) <|
    bif ile (len s21) v13 then
      some (1, ())
    else
      chk (inB v13 s21.length) <|
      (Q12 N (gd v11 v13.toNat []) (gd s21 v13.toNat [])).bind fun r =>
      bif ine r.1 0 then
        some (r.1, ())
      else
        kx s11 s21 v11 v12 (iadd .i64 v13 1)
  else
    Q41_K1 N s11 s21
def Q41_L1 (N fu_ : Nat) (s11 : List (List Int)) (s21 : List (List Int)) (v11 : List (List Int)) (v12 : Int) (v13 : Int) : Option Y7 :=
  iterK fu_ (fun kx (v_ : (Y1 × Y1 × Y1 × Int × Int × Unit) × (Unit)) => Q41_B1 N (fun s11 s21 v11 v12 v13 => kx ((s11, s21, v11, v12, v13, ()), ())) v_.1.1 v_.1.2.1 v_.1.2.2.1 v_.1.2.2.2.1 v_.1.2.2.2.2.1) ((s11, s21, v11, v12, v13, ()), ())
theorem Q41_L1_succ (N fu_ : Nat) (s11 : List (List Int)) (s21 : List (List Int)) (v11 : List (List Int)) (v12 : Int) (v13 : Int) : Q41_L1 N (fu_ + 1) s11 s21 v11 v12 v13 = Q41_B1 N (fun s11 s21 v11 v12 v13 => Q41_L1 N fu_ s11 s21 v11 v12 v13) s11 s21 v11 v12 v13 := rfl
def Q41 (N : Nat) (s1 : List (List Int)) (s2 : List (List Int)) : Option Y7 :=
  Q41_L1 N N s1 s2 s1 (len s1) 0
def Q11_K1 (N : Nat) (kx1 : Int → Int → Int → Int → Int → Int → Int → Int → Int → Int → Y0 → Y1 → Y1 → Option Y9) (n3 : Int) (stages3 : Int) (least3 : Int) (length3 : Int) (code2 : Int) (sum2 : Int) (digit1 : Int) (v283 : Int) (v293 : Int) (v342 : Int) (v352 : Int) (c4 : (List Int) × (List Int) × (List Int)) (best3 : List (List Int)) (periods2 : List (List Int)) : Option Y9 :=
  kx1 n3 stages3 least3 length3 code2 (iadd .i64 sum2 digit1) v283 v293 v342 (iadd .i64 v352 1) c4 best3 periods2
def Q11_B1 (N : Nat) (kx1 : Int → Int → Int → Int → Int → Int → Int → Int → Int → Int → Y0 → Y1 → Y1 → Option Y9) (kx2 : Int → Int → Int → Int → Int → Int → Int → Int → Int → Int → Int → Int → Int → Y0 → Y1 → Y1 → Option Y9) (n2 : Int) (stages2 : Int) (least2 : Int) (length2 : Int) (code1 : Int) (sum1 : Int) (i : Int) (digit : Int) (stage : Int) (v282 : Int) (v292 : Int) (v341 : Int) (v351 : Int) (c3 : (List Int) × (List Int) × (List Int)) (best2 : List (List Int)) (periods1 : List (List Int)) : Option Y9 :=
  bif ilt stage stages2 then
    chk (inB stage periods1.length) <|
    chk (fitB ((gd periods1 stage.toNat []).length + 1) 8) <|
    chk (inB stage periods1.length) <|
    chk (natEq stage.toNat stage.toNat) <|
    kx2 n2 stages2 least2 length2 code1 sum1 i digit (iadd .i64 stage 1) v282 v292 v341 v351 c3 best2 (List.set periods1 stage.toNat ((gd periods1 stage.toNat []) ++ [i]))
  else
    Q11_K1 N kx1 n2 stages2 least2 length2 code1 sum1 digit v282 v292 v341 v351 c3 best2 periods1
def Q11_L1 (N fu_ : Nat) (kx1 : Int → Int → Int → Int → Int → Int → Int → Int → Int → Int → Y0 → Y1 → Y1 → Option Y9) (n2 : Int) (stages2 : Int) (least2 : Int) (length2 : Int) (code1 : Int) (sum1 : Int) (i : Int) (digit : Int) (stage : Int) (v282 : Int) (v292 : Int) (v341 : Int) (v351 : Int) (c3 : (List Int) × (List Int) × (List Int)) (best2 : List (List Int)) (periods1 : List (List Int)) : Option Y9 :=
  iterK fu_ (fun kx2 (v_ : (Int × Int × Int × Int × Int × Int × Int × Int × Int × Int × Int × Int × Int × Unit) × (Y0 × Y1 × Y1 × Unit)) => Q11_B1 N kx1 (fun n2 stages2 least2 length2 code1 sum1 i digit stage v282 v292 v341 v351 c3 best2 periods1 => kx2 ((n2, stages2, least2, length2, code1, sum1, i, digit, stage, v282, v292, v341, v351, ()), (c3, best2, periods1, ()))) v_.1.1 v_.1.2.1 v_.1.2.2.1 v_.1.2.2.2.1 v_.1.2.2.2.2.1 v_.1.2.2.2.2.2.1 v_.1.2.2.2.2.2.2.1 v_.1.2.2.2.2.2.2.2.1 v_.1.2.2.2.2.2.2.2.2.1 v_.1.2.2.2.2.2.2.2.2.2.1 v_.1.2.2.2.2.2.2.2.2.2.2.1 v_.1.2.2.2.2.2.2.2.2.2.2.2.1 v_.1.2.2.2.2.2.2.2.2.2.2.2.2.1 v_.2.1 v_.2.2.1 v_.2.2.2.1) ((n2, stages2, least2, length2, code1, sum1, i, digit, stage, v282, v292, v341, v351, ()), (c3, best2, periods1, ()))
theorem Q11_L1_run (N : Nat) (kx1 : Int → Int → Int → Int → Int → Int → Int → Int → Int → Int → Y0 → Y1 → Y1 → Option Y9) (n2 : Nat → Int) (stages2 : Nat → Int) (least2 : Nat → Int) (length2 : Nat → Int) (code1 : Nat → Int) (sum1 : Nat → Int) (i : Nat → Int) (digit : Nat → Int) (stage : Nat → Int) (v282 : Nat → Int) (v292 : Nat → Int) (v341 : Nat → Int) (v351 : Nat → Int) (c3 : Nat → Y0) (best2 : Nat → Y1) (periods1 : Nat → Y1) (n_ : Nat) {res_ : Option Y9} (hstep_ : ∀ j_, j_ < n_ → ∀ kx_, Q11_B1 N kx1 kx_ (n2 j_) (stages2 j_) (least2 j_) (length2 j_) (code1 j_) (sum1 j_) (i j_) (digit j_) (stage j_) (v282 j_) (v292 j_) (v341 j_) (v351 j_) (c3 j_) (best2 j_) (periods1 j_) = kx_ (n2 (j_ + 1)) (stages2 (j_ + 1)) (least2 (j_ + 1)) (length2 (j_ + 1)) (code1 (j_ + 1)) (sum1 (j_ + 1)) (i (j_ + 1)) (digit (j_ + 1)) (stage (j_ + 1)) (v282 (j_ + 1)) (v292 (j_ + 1)) (v341 (j_ + 1)) (v351 (j_ + 1)) (c3 (j_ + 1)) (best2 (j_ + 1)) (periods1 (j_ + 1))) (hend_ : ∀ kx_, Q11_B1 N kx1 kx_ (n2 n_) (stages2 n_) (least2 n_) (length2 n_) (code1 n_) (sum1 n_) (i n_) (digit n_) (stage n_) (v282 n_) (v292 n_) (v341 n_) (v351 n_) (c3 n_) (best2 n_) (periods1 n_) = res_) (fu_ : Nat) (hm_ : n_ < fu_) : Q11_L1 N fu_ kx1 (n2 0) (stages2 0) (least2 0) (length2 0) (code1 0) (sum1 0) (i 0) (digit 0) (stage 0) (v282 0) (v292 0) (v341 0) (v351 0) (c3 0) (best2 0) (periods1 0) = res_ := by
  exact loop_run (L := fun fu_ (x_ : Int × Int × Int × Int × Int × Int × Int × Int × Int × Int × Int × Int × Int × Y0 × Y1 × Y1) => Q11_L1 N fu_ kx1 x_.1 x_.2.1 x_.2.2.1 x_.2.2.2.1 x_.2.2.2.2.1 x_.2.2.2.2.2.1 x_.2.2.2.2.2.2.1 x_.2.2.2.2.2.2.2.1 x_.2.2.2.2.2.2.2.2.1 x_.2.2.2.2.2.2.2.2.2.1 x_.2.2.2.2.2.2.2.2.2.2.1 x_.2.2.2.2.2.2.2.2.2.2.2.1 x_.2.2.2.2.2.2.2.2.2.2.2.2.1 x_.2.2.2.2.2.2.2.2.2.2.2.2.2.1 x_.2.2.2.2.2.2.2.2.2.2.2.2.2.2.1 x_.2.2.2.2.2.2.2.2.2.2.2.2.2.2.2) (B := fun kx_ x_ => Q11_B1 N kx1 (fun n2 stages2 least2 length2 code1 sum1 i digit stage v282 v292 v341 v351 c3 best2 periods1 => kx_ (n2, stages2, least2, length2, code1, sum1, i, digit, stage, v282, v292, v341, v351, c3, best2, periods1)) x_.1 x_.2.1 x_.2.2.1 x_.2.2.2.1 x_.2.2.2.2.1 x_.2.2.2.2.2.1 x_.2.2.2.2.2.2.1 x_.2.2.2.2.2.2.2.1 x_.2.2.2.2.2.2.2.2.1 x_.2.2.2.2.2.2.2.2.2.1 x_.2.2.2.2.2.2.2.2.2.2.1 x_.2.2.2.2.2.2.2.2.2.2.2.1 x_.2.2.2.2.2.2.2.2.2.2.2.2.1 x_.2.2.2.2.2.2.2.2.2.2.2.2.2.1 x_.2.2.2.2.2.2.2.2.2.2.2.2.2.2.1 x_.2.2.2.2.2.2.2.2.2.2.2.2.2.2.2) (fun _ _ => rfl) (fun j_ => (n2 j_, stages2 j_, least2 j_, length2 j_, code1 j_, sum1 j_, i j_, digit j_, stage j_, v282 j_, v292 j_, v341 j_, v351 j_, c3 j_, best2 j_, periods1 j_)) n_ (fun j_ hi_ kx_ => hstep_ j_ hi_ _) (fun kx_ => hend_ _) fu_ hm_
def Q11_K2 (N : Nat) (kx : Int → Int → Int → Int → Int → Int → Y0 → Y1 → Option Y9) (n5 : Int) (stages5 : Int) (least5 : Int) (length5 : Int) (sum4 : Int) (cost : Int) (before : Bool) (v285 : Int) (v295 : Int) (c6 : (List Int) × (List Int) × (List Int)) (best5 : List (List Int)) (periods4 : List (List Int)) : Option Y9 :=
  bif ilt cost least5 then
    kx n5 stages5 cost sum4 v285 (iadd .i64 v295 1) c6 periods4
  else
    bif ieq cost least5 then
      bif before then
        kx n5 stages5 cost sum4 v285 (iadd .i64 v295 1) c6 periods4
      else
        kx n5 stages5 least5 length5 v285 (iadd .i64 v295 1) c6 best5
    else
      kx n5 stages5 least5 length5 v285 (iadd .i64 v295 1) c6 best5
def Q11_K3 (N : Nat) (kx : Int → Int → Int → Int → Int → Int → Y0 → Y1 → Option Y9) (n4 : Int) (stages4 : Int) (least4 : Int) (length4 : Int) (sum3 : Int) (v284 : Int) (v294 : Int) (c5 : (List Int) × (List Int) × (List Int)) (best4 : List (List Int)) (periods3 : List (List Int)) : Option Y9 :=
  (Q15 N c5 periods3).bind fun r2 =>
  bif !r2.1.2 then
    kx n4 stages4 least4 length4 v284 (iadd .i64 v294 1) c5 best4
  else
    (Q13 N c5 r2.1.1).bind fun r3 =>
    bif ilt sum3 length4 then
      Q11_K2 N kx n4 stages4 least4 length4 sum3 r3.1 true v284 v294 c5 best4 periods3
    else
      bif ieq sum3 length4 then
        (Q41 N periods3 best4).bind fun r4 =>
        Q11_K2 N kx n4 stages4 least4 length4 sum3 r3.1 (ilt r4.1 0) v284 v294 c5 best4 periods3
      else
        Q11_K2 N kx n4 stages4 least4 length4 sum3 r3.1 false v284 v294 c5 best4 periods3
def Q11_B2 (N : Nat) (kx : Int → Int → Int → Int → Int → Int → Y0 → Y1 → Option Y9) (kx1 : Int → Int → Int → Int → Int → Int → Int → Int → Int → Int → Y0 → Y1 → Y1 → Option Y9) (n1 : Int) (stages1 : Int) (least1 : Int) (length1 : Int) (code : Int) (sum : Int) (v281 : Int) (v291 : Int) (v34 : Int) (v35 : Int) (c2 : (List Int) × (List Int) × (List Int)) (best1 : List (List Int)) (periods : List (List Int)) : Option Y9 :=
  bif ilt v35 v34 then
    (Q26 N (iadd .i64 stages1 1) v35).bind fun r1 =>
    chk (ine r1.1 0) <|
    chk (ine (iadd .i64 stages1 1) 0) <|
    Q11_L1 N N kx1 n1 stages1 least1 length1 code sum v35 (irem (iquo .i64 code r1.1) (iadd .i64 stages1 1)) (isub .i64 stages1 (irem (iquo .i64 code r1.1) (iadd .i64 stages1 1))) v281 v291 v34 v35 c2 best1 periods
  else
    Q11_K3 N kx n1 stages1 least1 length1 sum v281 v291 c2 best1 periods
def Q11_L2 (N fu_ : Nat) (kx : Int → Int → Int → Int → Int → Int → Y0 → Y1 → Option Y9) (n1 : Int) (stages1 : Int) (least1 : Int) (length1 : Int) (code : Int) (sum : Int) (v281 : Int) (v291 : Int) (v34 : Int) (v35 : Int) (c2 : (List Int) × (List Int) × (List Int)) (best1 : List (List Int)) (periods : List (List Int)) : Option Y9 :=
  iterK fu_ (fun kx1 (v_ : (Int × Int × Int × Int × Int × Int × Int × Int × Int × Int × Unit) × (Y0 × Y1 × Y1 × Unit)) => Q11_B2 N kx (fun n1 stages1 least1 length1 code sum v281 v291 v34 v35 c2 best1 periods => kx1 ((n1, stages1, least1, length1, code, sum, v281, v291, v34, v35, ()), (c2, best1, periods, ()))) v_.1.1 v_.1.2.1 v_.1.2.2.1 v_.1.2.2.2.1 v_.1.2.2.2.2.1 v_.1.2.2.2.2.2.1 v_.1.2.2.2.2.2.2.1 v_.1.2.2.2.2.2.2.2.1 v_.1.2.2.2.2.2.2.2.2.1 v_.1.2.2.2.2.2.2.2.2.2.1 v_.2.1 v_.2.2.1 v_.2.2.2.1) ((n1, stages1, least1, length1, code, sum, v281, v291, v34, v35, ()), (c2, best1, periods, ()))
theorem Q11_L2_run (N : Nat) (kx : Int → Int → Int → Int → Int → Int → Y0 → Y1 → Option Y9) (n1 : Nat → Int) (stages1 : Nat → Int) (least1 : Nat → Int) (length1 : Nat → Int) (code : Nat → Int) (sum : Nat → Int) (v281 : Nat → Int) (v291 : Nat → Int) (v34 : Nat → Int) (v35 : Nat → Int) (c2 : Nat → Y0) (best1 : Nat → Y1) (periods : Nat → Y1) (n_ : Nat) {res_ : Option Y9} (hstep_ : ∀ j_, j_ < n_ → ∀ kx_, Q11_B2 N kx kx_ (n1 j_) (stages1 j_) (least1 j_) (length1 j_) (code j_) (sum j_) (v281 j_) (v291 j_) (v34 j_) (v35 j_) (c2 j_) (best1 j_) (periods j_) = kx_ (n1 (j_ + 1)) (stages1 (j_ + 1)) (least1 (j_ + 1)) (length1 (j_ + 1)) (code (j_ + 1)) (sum (j_ + 1)) (v281 (j_ + 1)) (v291 (j_ + 1)) (v34 (j_ + 1)) (v35 (j_ + 1)) (c2 (j_ + 1)) (best1 (j_ + 1)) (periods (j_ + 1))) (hend_ : ∀ kx_, Q11_B2 N kx kx_ (n1 n_) (stages1 n_) (least1 n_) (length1 n_) (code n_) (sum n_) (v281 n_) (v291 n_) (v34 n_) (v35 n_) (c2 n_) (best1 n_) (periods n_) = res_) (fu_ : Nat) (hm_ : n_ < fu_) : Q11_L2 N fu_ kx (n1 0) (stages1 0) (least1 0) (length1 0) (code 0) (sum 0) (v281 0) (v291 0) (v34 0) (v35 0) (c2 0) (best1 0) (periods 0) = res_ := by
  exact loop_run (L := fun fu_ (x_ : Int × Int × Int × Int × Int × Int × Int × Int × Int × Int × Y0 × Y1 × Y1) => Q11_L2 N fu_ kx x_.1 x_.2.1 x_.2.2.1 x_.2.2.2.1 x_.2.2.2.2.1 x_.2.2.2.2.2.1 x_.2.2.2.2.2.2.1 x_.2.2.2.2.2.2.2.1 x_.2.2.2.2.2.2.2.2.1 x_.2.2.2.2.2.2.2.2.2.1 x_.2.2.2.2.2.2.2.2.2.2.1 x_.2.2.2.2.2.2.2.2.2.2.2.1 x_.2.2.2.2.2.2.2.2.2.2.2.2) (B := fun kx_ x_ => Q11_B2 N kx (fun n1 stages1 least1 length1 code sum v281 v291 v34 v35 c2 best1 periods => kx_ (n1, stages1, least1, length1, code, sum, v281, v291, v34, v35, c2, best1, periods)) x_.1 x_.2.1 x_.2.2.1 x_.2.2.2.1 x_.2.2.2.2.1 x_.2.2.2.2.2.1 x_.2.2.2.2.2.2.1 x_.2.2.2.2.2.2.2.1 x_.2.2.2.2.2.2.2.2.1 x_.2.2.2.2.2.2.2.2.2.1 x_.2.2.2.2.2.2.2.2.2.2.1 x_.2.2.2.2.2.2.2.2.2.2.2.1 x_.2.2.2.2.2.2.2.2.2.2.2.2) (fun _ _ => rfl) (fun j_ => (n1 j_, stages1 j_, least1 j_, length1 j_, code j_, sum j_, v281 j_, v291 j_, v34 j_, v35 j_, c2 j_, best1 j_, periods j_)) n_ (fun j_ hi_ kx_ => hstep_ j_ hi_ _) (fun kx_ => hend_ _) fu_ hm_
def Q11_K4 (N : Nat) (least6 : Int) (best6 : List (List Int)) : Option Y9 :=
  some ((best6, least6), ())
def Q11_B3 (N : Nat) (kx : Int → Int → Int → Int → Int → Int → Y0 → Y1 → Option Y9) (n : Int) (stages : Int) (least : Int) (length : Int) (v28 : Int) (v29 : Int) (c1 : (List Int) × (List Int) × (List Int)) (best : List (List Int)) : Option Y9 :=
  bif ilt v29 v28 then
    chk (mkB stages 24) <|
    Q11_L2 N N kx n stages least length v29 0 v28 v29 n 0 c1 best (List.replicate stages.toNat ([] : List Int))
  else
    Q11_K4 N least best
def Q11_L3 (N fu_ : Nat) (n : Int) (stages : Int) (least : Int) (length : Int) (v28 : Int) (v29 : Int) (c1 : (List Int) × (List Int) × (List Int)) (best : List (List Int)) : Option Y9 :=
  iterK fu_ (fun kx (v_ : (Int × Int × Int × Int × Int × Int × Unit) × Y17) => Q11_B3 N (fun n stages least length v28 v29 c1 best => kx ((n, stages, least, length, v28, v29, ()), (c1, best, ()))) v_.1.1 v_.1.2.1 v_.1.2.2.1 v_.1.2.2.2.1 v_.1.2.2.2.2.1 v_.1.2.2.2.2.2.1 v_.2.1 v_.2.2.1) ((n, stages, least, length, v28, v29, ()), (c1, best, ()))
theorem Q11_L3_run (N : Nat) (n : Nat → Int) (stages : Nat → Int) (least : Nat → Int) (length : Nat → Int) (v28 : Nat → Int) (v29 : Nat → Int) (c1 : Nat → Y0) (best : Nat → Y1) (n_ : Nat) {res_ : Option Y9} (hstep_ : ∀ j_, j_ < n_ → ∀ kx_, Q11_B3 N kx_ (n j_) (stages j_) (least j_) (length j_) (v28 j_) (v29 j_) (c1 j_) (best j_) = kx_ (n (j_ + 1)) (stages (j_ + 1)) (least (j_ + 1)) (length (j_ + 1)) (v28 (j_ + 1)) (v29 (j_ + 1)) (c1 (j_ + 1)) (best (j_ + 1))) (hend_ : ∀ kx_, Q11_B3 N kx_ (n n_) (stages n_) (least n_) (length n_) (v28 n_) (v29 n_) (c1 n_) (best n_) = res_) (fu_ : Nat) (hm_ : n_ < fu_) : Q11_L3 N fu_ (n 0) (stages 0) (least 0) (length 0) (v28 0) (v29 0) (c1 0) (best 0) = res_ := by
  exact loop_run (L := fun fu_ (x_ : Int × Int × Int × Int × Int × Int × Y0 × Y1) => Q11_L3 N fu_ x_.1 x_.2.1 x_.2.2.1 x_.2.2.2.1 x_.2.2.2.2.1 x_.2.2.2.2.2.1 x_.2.2.2.2.2.2.1 x_.2.2.2.2.2.2.2) (B := fun kx_ x_ => Q11_B3 N (fun n stages least length v28 v29 c1 best => kx_ (n, stages, least, length, v28, v29, c1, best)) x_.1 x_.2.1 x_.2.2.1 x_.2.2.2.1 x_.2.2.2.2.1 x_.2.2.2.2.2.1 x_.2.2.2.2.2.2.1 x_.2.2.2.2.2.2.2) (fun _ _ => rfl) (fun j_ => (n j_, stages j_, least j_, length j_, v28 j_, v29 j_, c1 j_, best j_)) n_ (fun j_ hi_ kx_ => hstep_ j_ hi_ _) (fun kx_ => hend_ _) fu_ hm_
def Q11 (N : Nat) (c : (List Int) × (List Int) × (List Int)) : Option Y9 :=
  (Q26 N (iadd .i64 (len c.2.1) 1) (len c.1)).bind fun r =>
  Q11_L3 N N (len c.1) (len c.2.1) 1099511627776 0 r.1 0 c []
def Q3 (N : Nat) (c : (List Int) × (List Int) × (List Int)) : Option Y13 :=
  (Q19 N c).bind fun r =>
  bif !r.1 then
    some ((0, false), ())
  else
    (Q11 N c).bind fun r1 =>
    some ((r1.1.2, true), ())
def Q29 (N : Nat) (code : List Int) : Option Y4 :=
  some (ilt 65536 (len code), ())
def Q37_K1 (N : Nat) (b : Int) (c1 : (List Int) × Int × Int) : Option (Int × Y3) :=
  bif ile (iadd .i64 c1.2.1 1) (len c1.1) then
    some (b, (c1.1, (iadd .i64 c1.2.1 1, iadd .u64 (iadd .u64 (imul .u64 c1.2.2 6364136223846793005) (icv .u64 b)) 462197)))
  else
    chk (ile 0 40) <|
    some (icv .i64 (iand .u64 (ishr .u64 (iadd .u64 (iadd .u64 (imul .u64 c1.2.2 6364136223846793005) (icv .u64 b)) 462197) 40) 255), (c1.1, (iadd .i64 c1.2.1 1, iadd .u64 (iadd .u64 (imul .u64 c1.2.2 6364136223846793005) (icv .u64 b)) 462197)))
def Q37 (N : Nat) (c : (List Int) × Int × Int) : Option (Int × Y3) :=
  bif ilt c.2.1 (len c.1) then
    chk (inB c.2.1 c.1.length) <|
    Q37_K1 N (icv .i64 (gd c.1 c.2.1.toNat 0)) c
  else
    Q37_K1 N 0 c
def Q40 (N : Nat) (c : (List Int) × Int × Int) (n : Int) : Option (Int × Y3) :=
  bif ile n 1 then
    some (0, c)
  else
    (Q37 N c).bind fun r =>
    bif ilt 200 n then
      (Q37 N r.2).bind fun r1 =>
      chk (ine n 0) <|
      some (irem (iadd .i64 (imul .i64 r.1 256) r1.1) n, r1.2)
    else
      chk (ine n 0) <|
      some (irem r.1 n, r.2)
def Q33 (N : Nat) (c : (List Int) × Int × Int) (list : List Int) : Option (Int × Y3) :=
  (Q40 N c (len list)).bind fun r =>
  chk (inB r.1 list.length) <|
  some (gd list r.1.toNat 0, r.2)
def Q36_K1 (N : Nat) (c4 : (List Int) × Int × Int) (out3 : List Int) : Option Y18 :=
  some (out3, c4)
def Q36_B1 (N : Nat) (kx1 : Y3 → (List Int) → Option Y18) (c3 : (List Int) × Int × Int) (out2 : List Int) : Option Y18 :=
  (Q40 N c3 2).bind fun r4 =>
  bif ilt (len out2) (iadd .i64 6 r4.1) then
    chk (fitB (out2.length + 1) 8) <|
    kx1 r4.2 (out2 ++ [1])
  else
    Q36_K1 N r4.2 out2
def Q36_L1 (N fu_ : Nat) (c3 : (List Int) × Int × Int) (out2 : List Int) : Option Y18 :=
  iterK fu_ (fun kx1 (v_ : (Unit) × (Y3 × (List Int) × Unit)) => Q36_B1 N (fun c3 out2 => kx1 ((), (c3, out2, ()))) v_.2.1 v_.2.2.1) ((), (c3, out2, ()))
theorem Q36_L1_succ (N fu_ : Nat) (c3 : (List Int) × Int × Int) (out2 : List Int) : Q36_L1 N (fu_ + 1) c3 out2 = Q36_B1 N (fun c3 out2 => Q36_L1 N fu_ c3 out2) c3 out2 := rfl
def Q36_K2 (N : Nat) (c2 : (List Int) × Int × Int) (out1 : List Int) : Option Y18 :=
  (Q40 N c2 40).bind fun r2 =>
  bif ieq r2.1 0 then
    (Q33 N r2.2 [(-1), 20, 21]).bind fun r3 =>
    chk (fitB (out1.length + 1) 8) <|
    some (out1 ++ [r3.1], r3.2)
  else
    bif ieq r2.1 1 then
      Q36_L1 N N r2.2 out1
    else
      some (out1, r2.2)
def Q36_B2 (N : Nat) (kx : Int → Y3 → (List Int) → Option Y18) (n : Int) (c1 : (List Int) × Int × Int) (out : List Int) : Option Y18 :=
  bif ilt 0 n then
    (Q33 N c1 [1, 2, 0, 3, 5, 8]).bind fun r1 =>
    chk (fitB (out.length + 1) 8) <|
    kx (isub .i64 n 1) r1.2 (out ++ [r1.1])
  else
    Q36_K2 N c1 out
def Q36_L2 (N fu_ : Nat) (n : Int) (c1 : (List Int) × Int × Int) (out : List Int) : Option Y18 :=
  iterK fu_ (fun kx (v_ : Y7 × (Y3 × (List Int) × Unit)) => Q36_B2 N (fun n c1 out => kx ((n, ()), (c1, out, ()))) v_.1.1 v_.2.1 v_.2.2.1) ((n, ()), (c1, out, ()))
theorem Q36_L2_succ (N fu_ : Nat) (n : Int) (c1 : (List Int) × Int × Int) (out : List Int) : Q36_L2 N (fu_ + 1) n c1 out = Q36_B2 N (fun n c1 out => Q36_L2 N fu_ n c1 out) n c1 out := rfl
def Q36 (N : Nat) (c : (List Int) × Int × Int) : Option Y18 :=
  (Q33 N c [4, 3, 5, 2, 1, 0]).bind fun r =>
  Q36_L2 N N r.1 r.2 []
def Q34_K1 (N : Nat) (c2 : (List Int) × Int × Int) (v21 : (List Int) × (List Int) × (List Int)) (out1 : (List Int) × (List Int) × (List Int)) : Option (Y0 × Y3) :=
  (Q40 N c2 48).bind fun r4 =>
  bif ieq r4.1 0 then
    chk (fitB (out1.2.2.length + 1) 8) <|
    some ((out1.1, (out1.2.1, out1.2.2 ++ [9])), r4.2)
  else
    bif ieq r4.1 1 then
      (Q33 N r4.2 [(-1), 9, 10]).bind fun r5 =>
      chk (inB 0 out1.2.2.length) <|
      some ((out1.1, (out1.2.1, List.set out1.2.2 0 r5.1)), r5.2)
    else
      bif ieq r4.1 2 then
        (Q33 N r4.2 [(-1), 99, 100]).bind fun r6 =>
        chk (inB 0 out1.2.1.length) <|
        some ((out1.1, (List.set out1.2.1 0 r6.1, out1.2.2)), r6.2)
      else
        bif ieq r4.1 3 then
          some ((out1.1, ([], out1.2.2)), r4.2)
        else
          some (out1, r4.2)
def Q34_B1 (N : Nat) (kx : Int → Int → Y3 → Y0 → Y0 → Option (Y0 × Y3)) (hold : Int) (n : Int) (c1 : (List Int) × Int × Int) (v2 : (List Int) × (List Int) × (List Int)) (out : (List Int) × (List Int) × (List Int)) : Option (Y0 × Y3) :=
  bif ilt 0 n then
    (Q33 N c1 [5, 8, 3, 12, 0, 20]).bind fun r2 =>
    chk (fitB (out.2.1.length + 1) 8) <|
    (Q33 N r2.2 [1, 0, 1, 2]).bind fun r3 =>
    chk (fitB (out.2.2.length + 1) 8) <|
    kx (iadd .i64 hold r3.1) (isub .i64 n 1) r3.2 v2 (out.1, (out.2.1 ++ [r2.1], out.2.2 ++ [iadd .i64 hold r3.1]))
  else
    Q34_K1 N c1 v2 out
def Q34_L1 (N fu_ : Nat) (hold : Int) (n : Int) (c1 : (List Int) × Int × Int) (v2 : (List Int) × (List Int) × (List Int)) (out : (List Int) × (List Int) × (List Int)) : Option (Y0 × Y3) :=
  iterK fu_ (fun kx (v_ : Y20 × (Y3 × Y0 × Y0 × Unit)) => Q34_B1 N (fun hold n c1 v2 out => kx ((hold, n, ()), (c1, v2, out, ()))) v_.1.1 v_.1.2.1 v_.2.1 v_.2.2.1 v_.2.2.2.1) ((hold, n, ()), (c1, v2, out, ()))
theorem Q34_L1_succ (N fu_ : Nat) (hold : Int) (n : Int) (c1 : (List Int) × Int × Int) (v2 : (List Int) × (List Int) × (List Int)) (out : (List Int) × (List Int) × (List Int)) : Q34_L1 N (fu_ + 1) hold n c1 v2 out = Q34_B1 N (fun hold n c1 v2 out => Q34_L1 N fu_ hold n c1 v2 out) hold n c1 v2 out := rfl
def Q34 (N : Nat) (c : (List Int) × Int × Int) : Option (Y0 × Y3) :=
  (Q36 N c).bind fun r =>
  (Q33 N r.2 [2, 3, 2, 1]).bind fun r1 =>
  Q34_L1 N N 0 r1.1 r1.2 ([], ([], [])) (r.1, ([], []))
def Q38 (N : Nat) (c : (List Int) × Int × Int) (n : Int) : Option (Bool × Y3) :=
  (Q40 N c n).bind fun r =>
  some (ieq r.1 0, r.2)
def Q74_K1 (N : Nat) : Option Y4 :=
  some (true, ())
def Q74_B1 (N : Nat) (kx : (List Int) → (List Int) → Int → Option Y4) (need1 : List Int) (periods1 : List Int) (t : Int) : Option Y4 :=
  bif ilt t (len need1) then
    chk (inB t need1.length) <|
    bif ilt 0 (gd need1 t.toNat 0) then
      bif ilt 0 (len periods1) then
        chk (inB 0 periods1.length) <|
        some (ile (gd periods1 0 0) t, ())
      else
        some (false, ())
    else
      kx need1 periods1 (iadd .i64 t 1)
  else
    Q74_K1 N
def Q74_L1 (N fu_ : Nat) (need1 : List Int) (periods1 : List Int) (t : Int) : Option Y4 :=
  iterK fu_ (fun kx (v_ : Y16 × (Unit)) => Q74_B1 N (fun need1 periods1 t => kx ((need1, periods1, t, ()), ())) v_.1.1 v_.1.2.1 v_.1.2.2.1) ((need1, periods1, t, ()), ())
theorem Q74_L1_run (N : Nat) (need1 : Nat → (List Int)) (periods1 : Nat → (List Int)) (t : Nat → Int) (n_ : Nat) {res_ : Option Y4} (hstep_ : ∀ j_, j_ < n_ → ∀ kx_, Q74_B1 N kx_ (need1 j_) (periods1 j_) (t j_) = kx_ (need1 (j_ + 1)) (periods1 (j_ + 1)) (t (j_ + 1))) (hend_ : ∀ kx_, Q74_B1 N kx_ (need1 n_) (periods1 n_) (t n_) = res_) (fu_ : Nat) (hm_ : n_ < fu_) : Q74_L1 N fu_ (need1 0) (periods1 0) (t 0) = res_ := by
  exact loop_run (L := fun fu_ (x_ : (List Int) × (List Int) × Int) => Q74_L1 N fu_ x_.1 x_.2.1 x_.2.2) (B := fun kx_ x_ => Q74_B1 N (fun need1 periods1 t => kx_ (need1, periods1, t)) x_.1 x_.2.1 x_.2.2) (fun _ _ => rfl) (fun j_ => (need1 j_, periods1 j_, t j_)) n_ (fun j_ hi_ kx_ => hstep_ j_ hi_ _) (fun kx_ => hend_ _) fu_ hm_
def Q74 (N : Nat) (need : List Int) (periods : List Int) : Option Y4 :=
  Q74_L1 N N need periods 0
def Q70_K1 (N : Nat) (sum1 : Int) : Option Y7 :=
  some (sum1, ())
def Q70_B1 (N : Nat) (kx : (List Int) → Int → Int → Option Y7) (list1 : List Int) (sum : Int) (i : Int) : Option Y7 :=
  bif ilt i (len list1) then
    chk (inB i list1.length) <|
    kx list1 (iadd .i64 sum (gd list1 i.toNat 0)) (iadd .i64 i 1)
  else
    Q70_K1 N sum
def Q70_L1 (N fu_ : Nat) (list1 : List Int) (sum : Int) (i : Int) : Option Y7 :=
  iterK fu_ (fun kx (v_ : ((List Int) × Int × Int × Unit) × (Unit)) => Q70_B1 N (fun list1 sum i => kx ((list1, sum, i, ()), ())) v_.1.1 v_.1.2.1 v_.1.2.2.1) ((list1, sum, i, ()), ())
theorem Q70_L1_run (N : Nat) (list1 : Nat → (List Int)) (sum : Nat → Int) (i : Nat → Int) (n_ : Nat) {res_ : Option Y7} (hstep_ : ∀ j_, j_ < n_ → ∀ kx_, Q70_B1 N kx_ (list1 j_) (sum j_) (i j_) = kx_ (list1 (j_ + 1)) (sum (j_ + 1)) (i (j_ + 1))) (hend_ : ∀ kx_, Q70_B1 N kx_ (list1 n_) (sum n_) (i n_) = res_) (fu_ : Nat) (hm_ : n_ < fu_) : Q70_L1 N fu_ (list1 0) (sum 0) (i 0) = res_ := by
  exact loop_run (L := fun fu_ (x_ : (List Int) × Int × Int) => Q70_L1 N fu_ x_.1 x_.2.1 x_.2.2) (B := fun kx_ x_ => Q70_B1 N (fun list1 sum i => kx_ (list1, sum, i)) x_.1 x_.2.1 x_.2.2) (fun _ _ => rfl) (fun j_ => (list1 j_, sum j_, i j_)) n_ (fun j_ hi_ kx_ => hstep_ j_ hi_ _) (fun kx_ => hend_ _) fu_ hm_
def Q70 (N : Nat) (list : List Int) : Option Y7 :=
  Q70_L1 N N list 0 0
def Q79_K1 (N : Nat) (kx : (List Int) → (List Int) → Int → (List Int) → Option Y6) (need2 : List Int) (periods2 : List Int) (i1 : Int) (endx : Int) (out1 : List Int) : Option Y6 :=
  chk (inB i1 periods2.length) <|
  chk (inB i1 periods2.length) <|
  chk (cutB (gd periods2 i1.toNat 0) endx need2.length) <|
  (Q70 N (cut need2 (gd periods2 i1.toNat 0) endx)).bind fun r =>
  chk (inB (gd periods2 i1.toNat 0) out1.length) <|
  kx need2 periods2 (iadd .i64 i1 1) (List.set out1 (gd periods2 i1.toNat 0).toNat r.1)
def Q79_K2 (N : Nat) (out2 : List Int) : Option Y6 :=
  some (out2, ())
def Q79_B1 (N : Nat) (kx : (List Int) → (List Int) → Int → (List Int) → Option Y6) (need1 : List Int) (periods1 : List Int) (i : Int) (out : List Int) : Option Y6 :=
  bif ilt i (len periods1) then
    bif ilt (iadd .i64 i 1) (len periods1) then
      chk (inB (iadd .i64 i 1) periods1.length) <|
      Q79_K1 N kx need1 periods1 i (gd periods1 (iadd .i64 i 1).toNat 0) out
    else
      Q79_K1 N kx need1 periods1 i (len need1) out
  else
    Q79_K2 N out
def Q79_L1 (N fu_ : Nat) (need1 : List Int) (periods1 : List Int) (i : Int) (out : List Int) : Option Y6 :=
  iterK fu_ (fun kx (v_ : Y16 × Y6) => Q79_B1 N (fun need1 periods1 i out => kx ((need1, periods1, i, ()), (out, ()))) v_.1.1 v_.1.2.1 v_.1.2.2.1 v_.2.1) ((need1, periods1, i, ()), (out, ()))
theorem Q79_L1_run (N : Nat) (need1 : Nat → (List Int)) (periods1 : Nat → (List Int)) (i : Nat → Int) (out : Nat → (List Int)) (n_ : Nat) {res_ : Option Y6} (hstep_ : ∀ j_, j_ < n_ → ∀ kx_, Q79_B1 N kx_ (need1 j_) (periods1 j_) (i j_) (out j_) = kx_ (need1 (j_ + 1)) (periods1 (j_ + 1)) (i (j_ + 1)) (out (j_ + 1))) (hend_ : ∀ kx_, Q79_B1 N kx_ (need1 n_) (periods1 n_) (i n_) (out n_) = res_) (fu_ : Nat) (hm_ : n_ < fu_) : Q79_L1 N fu_ (need1 0) (periods1 0) (i 0) (out 0) = res_ := by
  exact loop_run (L := fun fu_ (x_ : (List Int) × (List Int) × Int × (List Int)) => Q79_L1 N fu_ x_.1 x_.2.1 x_.2.2.1 x_.2.2.2) (B := fun kx_ x_ => Q79_B1 N (fun need1 periods1 i out => kx_ (need1, periods1, i, out)) x_.1 x_.2.1 x_.2.2.1 x_.2.2.2) (fun _ _ => rfl) (fun j_ => (need1 j_, periods1 j_, i j_, out j_)) n_ (fun j_ hi_ kx_ => hstep_ j_ hi_ _) (fun kx_ => hend_ _) fu_ hm_
def Q79 (N : Nat) (need : List Int) (periods : List Int) : Option Y6 :=
  chk (mkB (len need) 8) <|
  Q79_L1 N N need periods 0 (List.replicate (len need).toNat 0)
def Q56 (N : Nat) (x : Int) (a : Int) (b : Int) : Option Y4 :=
  bif ile a x then
    some (ile x b, ())
  else
    some (false, ())
def Q68_K1 (N : Nat) (row2 : List Int) (n2 : Int) : Option Y4 :=
  some (ieq (len row2) n2, ())
def Q68_B1 (N : Nat) (kx : (List Int) → Int → Int → Int → Option Y4) (row1 : List Int) (n1 : Int) (most1 : Int) (i : Int) : Option Y4 :=
  bif ilt i (len row1) then
    chk (inB i row1.length) <|
    (Q56 N (gd row1 i.toNat 0) 0 most1).bind fun r =>
    bif !r.1 then
      some (false, ())
    else
      kx row1 n1 most1 (iadd .i64 i 1)
  else
    Q68_K1 N row1 n1
def Q68_L1 (N fu_ : Nat) (row1 : List Int) (n1 : Int) (most1 : Int) (i : Int) : Option Y4 :=
  iterK fu_ (fun kx (v_ : ((List Int) × Int × Int × Int × Unit) × (Unit)) => Q68_B1 N (fun row1 n1 most1 i => kx ((row1, n1, most1, i, ()), ())) v_.1.1 v_.1.2.1 v_.1.2.2.1 v_.1.2.2.2.1) ((row1, n1, most1, i, ()), ())
theorem Q68_L1_run (N : Nat) (row1 : Nat → (List Int)) (n1 : Nat → Int) (most1 : Nat → Int) (i : Nat → Int) (n_ : Nat) {res_ : Option Y4} (hstep_ : ∀ j_, j_ < n_ → ∀ kx_, Q68_B1 N kx_ (row1 j_) (n1 j_) (most1 j_) (i j_) = kx_ (row1 (j_ + 1)) (n1 (j_ + 1)) (most1 (j_ + 1)) (i (j_ + 1))) (hend_ : ∀ kx_, Q68_B1 N kx_ (row1 n_) (n1 n_) (most1 n_) (i n_) = res_) (fu_ : Nat) (hm_ : n_ < fu_) : Q68_L1 N fu_ (row1 0) (n1 0) (most1 0) (i 0) = res_ := by
  exact loop_run (L := fun fu_ (x_ : (List Int) × Int × Int × Int) => Q68_L1 N fu_ x_.1 x_.2.1 x_.2.2.1 x_.2.2.2) (B := fun kx_ x_ => Q68_B1 N (fun row1 n1 most1 i => kx_ (row1, n1, most1, i)) x_.1 x_.2.1 x_.2.2.1 x_.2.2.2) (fun _ _ => rfl) (fun j_ => (row1 j_, n1 j_, most1 j_, i j_)) n_ (fun j_ hi_ kx_ => hstep_ j_ hi_ _) (fun kx_ => hend_ _) fu_ hm_
def Q68 (N : Nat) (row : List Int) (n : Int) (most : Int) : Option Y4 :=
  Q68_L1 N N row n most 0
def Q75_K1 (N : Nat) : Option Y4 :=
  some (true, ())
def Q75_B1 (N : Nat) (kx : Int → Y0 → Option Y4) (s : Int) (c1 : (List Int) × (List Int) × (List Int)) : Option Y4 :=
  bif ilt s (len c1.2.2) then
    chk (inB s c1.2.2.length) <|
    chk (inB (isub .i64 s 1) c1.2.2.length) <|
    bif ilt (gd c1.2.2 s.toNat 0) (gd c1.2.2 (isub .i64 s 1).toNat 0) then
      some (false, ())
    else
      kx (iadd .i64 s 1) c1
  else
    Q75_K1 N
def Q75_L1 (N fu_ : Nat) (s : Int) (c1 : (List Int) × (List Int) × (List Int)) : Option Y4 :=
  iterK fu_ (fun kx (v_ : Y7 × (Y0 × Unit)) => Q75_B1 N (fun s c1 => kx ((s, ()), (c1, ()))) v_.1.1 v_.2.1) ((s, ()), (c1, ()))
theorem Q75_L1_run (N : Nat) (s : Nat → Int) (c1 : Nat → Y0) (n_ : Nat) {res_ : Option Y4} (hstep_ : ∀ j_, j_ < n_ → ∀ kx_, Q75_B1 N kx_ (s j_) (c1 j_) = kx_ (s (j_ + 1)) (c1 (j_ + 1))) (hend_ : ∀ kx_, Q75_B1 N kx_ (s n_) (c1 n_) = res_) (fu_ : Nat) (hm_ : n_ < fu_) : Q75_L1 N fu_ (s 0) (c1 0) = res_ := by
  exact loop_run (L := fun fu_ (x_ : Int × Y0) => Q75_L1 N fu_ x_.1 x_.2) (B := fun kx_ x_ => Q75_B1 N (fun s c1 => kx_ (s, c1)) x_.1 x_.2) (fun _ _ => rfl) (fun j_ => (s j_, c1 j_)) n_ (fun j_ hi_ kx_ => hstep_ j_ hi_ _) (fun kx_ => hend_ _) fu_ hm_
def Q75 (N : Nat) (c : (List Int) × (List Int) × (List Int)) : Option Y4 :=
  bif ilt 6 (len c.1) then
    some (false, ())
  else
    (Q68 N c.1 (len c.1) 20).bind fun r =>
    bif !r.1 then
      some (false, ())
    else
      (Q56 N (len c.2.1) 1 3).bind fun r1 =>
      bif !r1.1 then
        some (false, ())
      else
        (Q68 N c.2.1 (len c.2.1) 99).bind fun r2 =>
        bif !r2.1 then
          some (false, ())
        else
          (Q68 N c.2.2 (len c.2.1) 9).bind fun r3 =>
          bif !r3.1 then
            some (false, ())
          else
            Q75_L1 N N 1 c
def Q55_K1 (N : Nat) : Option Y4 :=
  some (false, ())
def Q55_B1 (N : Nat) (kx : (List Int) → Int → Int → Option Y4) (l1 : List Int) (n1 : Int) (i : Int) : Option Y4 :=
  bif ilt i (len l1) then
    chk (inB i l1.length) <|
    bif ieq (gd l1 i.toNat 0) n1 then
      some (true, ())
    else
      kx l1 n1 (iadd .i64 i 1)
  else
    Q55_K1 N
def Q55_L1 (N fu_ : Nat) (l1 : List Int) (n1 : Int) (i : Int) : Option Y4 :=
  iterK fu_ (fun kx (v_ : ((List Int) × Int × Int × Unit) × (Unit)) => Q55_B1 N (fun l1 n1 i => kx ((l1, n1, i, ()), ())) v_.1.1 v_.1.2.1 v_.1.2.2.1) ((l1, n1, i, ()), ())
theorem Q55_L1_run (N : Nat) (l1 : Nat → (List Int)) (n1 : Nat → Int) (i : Nat → Int) (n_ : Nat) {res_ : Option Y4} (hstep_ : ∀ j_, j_ < n_ → ∀ kx_, Q55_B1 N kx_ (l1 j_) (n1 j_) (i j_) = kx_ (l1 (j_ + 1)) (n1 (j_ + 1)) (i (j_ + 1))) (hend_ : ∀ kx_, Q55_B1 N kx_ (l1 n_) (n1 n_) (i n_) = res_) (fu_ : Nat) (hm_ : n_ < fu_) : Q55_L1 N fu_ (l1 0) (n1 0) (i 0) = res_ := by
  exact loop_run (L := fun fu_ (x_ : (List Int) × Int × Int) => Q55_L1 N fu_ x_.1 x_.2.1 x_.2.2) (B := fun kx_ x_ => Q55_B1 N (fun l1 n1 i => kx_ (l1, n1, i)) x_.1 x_.2.1 x_.2.2) (fun _ _ => rfl) (fun j_ => (l1 j_, n1 j_, i j_)) n_ (fun j_ hi_ kx_ => hstep_ j_ hi_ _) (fun kx_ => hend_ _) fu_ hm_
def Q55 (N : Nat) (l : List Int) (n : Int) : Option Y4 :=
  Q55_L1 N N l n 0
def Q82_K1 (N : Nat) : Option Y4 :=
  some (true, ())
def Q82_B1 (N : Nat) (kx : (List Int) → (List Int) → Int → Option Y4) (a1 : List Int) (b1 : List Int) (i : Int) : Option Y4 :=
  bif ilt i (len a1) then
    chk (inB i a1.length) <|
    (Q55 N b1 (gd a1 i.toNat 0)).bind fun r =>
    bif !r.1 then
      some (false, ())
    else
      kx a1 b1 (iadd .i64 i 1)
  else
    Q82_K1 N
def Q82_L1 (N fu_ : Nat) (a1 : List Int) (b1 : List Int) (i : Int) : Option Y4 :=
  iterK fu_ (fun kx (v_ : Y16 × (Unit)) => Q82_B1 N (fun a1 b1 i => kx ((a1, b1, i, ()), ())) v_.1.1 v_.1.2.1 v_.1.2.2.1) ((a1, b1, i, ()), ())
theorem Q82_L1_run (N : Nat) (a1 : Nat → (List Int)) (b1 : Nat → (List Int)) (i : Nat → Int) (n_ : Nat) {res_ : Option Y4} (hstep_ : ∀ j_, j_ < n_ → ∀ kx_, Q82_B1 N kx_ (a1 j_) (b1 j_) (i j_) = kx_ (a1 (j_ + 1)) (b1 (j_ + 1)) (i (j_ + 1))) (hend_ : ∀ kx_, Q82_B1 N kx_ (a1 n_) (b1 n_) (i n_) = res_) (fu_ : Nat) (hm_ : n_ < fu_) : Q82_L1 N fu_ (a1 0) (b1 0) (i 0) = res_ := by
  exact loop_run (L := fun fu_ (x_ : (List Int) × (List Int) × Int) => Q82_L1 N fu_ x_.1 x_.2.1 x_.2.2) (B := fun kx_ x_ => Q82_B1 N (fun a1 b1 i => kx_ (a1, b1, i)) x_.1 x_.2.1 x_.2.2) (fun _ _ => rfl) (fun j_ => (a1 j_, b1 j_, i j_)) n_ (fun j_ hi_ kx_ => hstep_ j_ hi_ _) (fun kx_ => hend_ _) fu_ hm_
def Q82 (N : Nat) (a : List Int) (b : List Int) : Option Y4 :=
  Q82_L1 N N a b 0
def Q59_K1 (N : Nat) : Option Y4 :=
  some (true, ())
def Q59_B1 (N : Nat) (kx : (List Int) → Int → Int → Int → Option Y4) (l1 : List Int) (lo1 : Int) (hi1 : Int) (i : Int) : Option Y4 :=
  bif ilt i (len l1) then
    chk (inB i l1.length) <|
    (Q56 N (gd l1 i.toNat 0) lo1 hi1).bind fun r =>
    bif !r.1 then
      some (false, ())
    else
      bif ilt 0 i then
        chk (inB (isub .i64 i 1) l1.length) <|
        chk (inB i l1.length) <|
        bif ile (gd l1 i.toNat 0) (gd l1 (isub .i64 i 1).toNat 0) then
          some (false, ())
        else
          kx l1 lo1 hi1 (iadd .i64 i 1)
      else
        kx l1 lo1 hi1 (iadd .i64 i 1)
  else
    Q59_K1 N
def Q59_L1 (N fu_ : Nat) (l1 : List Int) (lo1 : Int) (hi1 : Int) (i : Int) : Option Y4 :=
  iterK fu_ (fun kx (v_ : ((List Int) × Int × Int × Int × Unit) × (Unit)) => Q59_B1 N (fun l1 lo1 hi1 i => kx ((l1, lo1, hi1, i, ()), ())) v_.1.1 v_.1.2.1 v_.1.2.2.1 v_.1.2.2.2.1) ((l1, lo1, hi1, i, ()), ())
theorem Q59_L1_run (N : Nat) (l1 : Nat → (List Int)) (lo1 : Nat → Int) (hi1 : Nat → Int) (i : Nat → Int) (n_ : Nat) {res_ : Option Y4} (hstep_ : ∀ j_, j_ < n_ → ∀ kx_, Q59_B1 N kx_ (l1 j_) (lo1 j_) (hi1 j_) (i j_) = kx_ (l1 (j_ + 1)) (lo1 (j_ + 1)) (hi1 (j_ + 1)) (i (j_ + 1))) (hend_ : ∀ kx_, Q59_B1 N kx_ (l1 n_) (lo1 n_) (hi1 n_) (i n_) = res_) (fu_ : Nat) (hm_ : n_ < fu_) : Q59_L1 N fu_ (l1 0) (lo1 0) (hi1 0) (i 0) = res_ := by
  exact loop_run (L := fun fu_ (x_ : (List Int) × Int × Int × Int) => Q59_L1 N fu_ x_.1 x_.2.1 x_.2.2.1 x_.2.2.2) (B := fun kx_ x_ => Q59_B1 N (fun l1 lo1 hi1 i => kx_ (l1, lo1, hi1, i)) x_.1 x_.2.1 x_.2.2.1 x_.2.2.2) (fun _ _ => rfl) (fun j_ => (l1 j_, lo1 j_, hi1 j_, i j_)) n_ (fun j_ hi_ kx_ => hstep_ j_ hi_ _) (fun kx_ => hend_ _) fu_ hm_
def Q59 (N : Nat) (l : List Int) (lo : Int) (hi : Int) : Option Y4 :=
  Q59_L1 N N l lo hi 0
def Q77_K1 (N : Nat) (periods2 : List (List Int)) (c2 : (List Int) × (List Int) × (List Int)) : Option Y4 :=
  some (ieq (len periods2) (len c2.2.1), ())
def Q77_B1 (N : Nat) (kx : Y1 → Int → Y0 → Option Y4) (periods1 : List (List Int)) (s : Int) (c1 : (List Int) × (List Int) × (List Int)) : Option Y4 :=
  bif ilt s (len periods1) then
    chk (inB s periods1.length) <|
    (Q59 N (gd periods1 s.toNat []) 0 (isub .i64 (len c1.1) 1)).bind fun r =>
    bif !r.1 then
      some (false, ())
    else
      bif ilt 0 s then
        chk (inB (isub .i64 s 1) periods1.length) <|
        chk (inB s periods1.length) <|
        (Q82 N (gd periods1 (isub .i64 s 1).toNat []) (gd periods1 s.toNat [])).bind fun r1 =>
        bif !r1.1 then
          some (false, ())
        else
          kx periods1 (iadd .i64 s 1) c1
      else
        kx periods1 (iadd .i64 s 1) c1
  else
    Q77_K1 N periods1 c1
def Q77_L1 (N fu_ : Nat) (periods1 : List (List Int)) (s : Int) (c1 : (List Int) × (List Int) × (List Int)) : Option Y4 :=
  iterK fu_ (fun kx (v_ : (Y1 × Int × Unit) × (Y0 × Unit)) => Q77_B1 N (fun periods1 s c1 => kx ((periods1, s, ()), (c1, ()))) v_.1.1 v_.1.2.1 v_.2.1) ((periods1, s, ()), (c1, ()))
theorem Q77_L1_run (N : Nat) (periods1 : Nat → Y1) (s : Nat → Int) (c1 : Nat → Y0) (n_ : Nat) {res_ : Option Y4} (hstep_ : ∀ j_, j_ < n_ → ∀ kx_, Q77_B1 N kx_ (periods1 j_) (s j_) (c1 j_) = kx_ (periods1 (j_ + 1)) (s (j_ + 1)) (c1 (j_ + 1))) (hend_ : ∀ kx_, Q77_B1 N kx_ (periods1 n_) (s n_) (c1 n_) = res_) (fu_ : Nat) (hm_ : n_ < fu_) : Q77_L1 N fu_ (periods1 0) (s 0) (c1 0) = res_ := by
  exact loop_run (L := fun fu_ (x_ : Y1 × Int × Y0) => Q77_L1 N fu_ x_.1 x_.2.1 x_.2.2) (B := fun kx_ x_ => Q77_B1 N (fun periods1 s c1 => kx_ (periods1, s, c1)) x_.1 x_.2.1 x_.2.2) (fun _ _ => rfl) (fun j_ => (periods1 j_, s j_, c1 j_)) n_ (fun j_ hi_ kx_ => hstep_ j_ hi_ _) (fun kx_ => hend_ _) fu_ hm_
def Q77 (N : Nat) (c : (List Int) × (List Int) × (List Int)) (periods : List (List Int)) : Option Y4 :=
  Q77_L1 N N periods 0 c
def Q54_K1 (N : Nat) (out1 : List (List Int)) : Option Y5 :=
  some ((out1, true), ())
def Q54_B1 (N : Nat) (kx : Y1 → Int → Y0 → Y1 → Option Y5) (periods1 : List (List Int)) (s : Int) (c1 : (List Int) × (List Int) × (List Int)) (out : List (List Int)) : Option Y5 :=
  bif ilt s (len periods1) then
    chk (inB s periods1.length) <|
    (Q74 N c1.1 (gd periods1 s.toNat [])).bind fun r2 =>
    bif !r2.1 then
      some (([], false), ())
    else
      chk (inB s periods1.length) <|
      (Q79 N c1.1 (gd periods1 s.toNat [])).bind fun r3 =>
      chk (fitB (out.length + 1) 24) <|
      kx periods1 (iadd .i64 s 1) c1 (out ++ [r3.1])
  else
    Q54_K1 N out
def Q54_L1 (N fu_ : Nat) (periods1 : List (List Int)) (s : Int) (c1 : (List Int) × (List Int) × (List Int)) (out : List (List Int)) : Option Y5 :=
  iterK fu_ (fun kx (v_ : (Y1 × Int × Unit) × Y17) => Q54_B1 N (fun periods1 s c1 out => kx ((periods1, s, ()), (c1, out, ()))) v_.1.1 v_.1.2.1 v_.2.1 v_.2.2.1) ((periods1, s, ()), (c1, out, ()))
theorem Q54_L1_run (N : Nat) (periods1 : Nat → Y1) (s : Nat → Int) (c1 : Nat → Y0) (out : Nat → Y1) (n_ : Nat) {res_ : Option Y5} (hstep_ : ∀ j_, j_ < n_ → ∀ kx_, Q54_B1 N kx_ (periods1 j_) (s j_) (c1 j_) (out j_) = kx_ (periods1 (j_ + 1)) (s (j_ + 1)) (c1 (j_ + 1)) (out (j_ + 1))) (hend_ : ∀ kx_, Q54_B1 N kx_ (periods1 n_) (s n_) (c1 n_) (out n_) = res_) (fu_ : Nat) (hm_ : n_ < fu_) : Q54_L1 N fu_ (periods1 0) (s 0) (c1 0) (out 0) = res_ := by
  exact loop_run (L := fun fu_ (x_ : Y1 × Int × Y0 × Y1) => Q54_L1 N fu_ x_.1 x_.2.1 x_.2.2.1 x_.2.2.2) (B := fun kx_ x_ => Q54_B1 N (fun periods1 s c1 out => kx_ (periods1, s, c1, out)) x_.1 x_.2.1 x_.2.2.1 x_.2.2.2) (fun _ _ => rfl) (fun j_ => (periods1 j_, s j_, c1 j_, out j_)) n_ (fun j_ hi_ kx_ => hstep_ j_ hi_ _) (fun kx_ => hend_ _) fu_ hm_
def Q54 (N : Nat) (c : (List Int) × (List Int) × (List Int)) (periods : List (List Int)) : Option Y5 :=
  (Q75 N c).bind fun r =>
  bif !r.1 then
    some (([], false), ())
  else
    (Q77 N c periods).bind fun r1 =>
    bif !r1.1 then
      some (([], false), ())
    else
      Q54_L1 N N periods 0 c []
def Q62_K1 (N : Nat) (out1 : List Int) : Option Y6 :=
  some (out1, ())
def Q62_B1 (N : Nat) (kx : Int → Int → Int → (List Int) → Option Y6) (n1 : Int) (code1 : Int) (x : Int) (out : List Int) : Option Y6 :=
  bif ilt x n1 then
    chk (ile 0 x) <|
    bif ieq (iand .i64 (ishr .i64 code1 x) 1) 1 then
      chk (fitB (out.length + 1) 8) <|
      kx n1 code1 (iadd .i64 x 1) (out ++ [x])
    else
      kx n1 code1 (iadd .i64 x 1) out
  else
    Q62_K1 N out
def Q62_L1 (N fu_ : Nat) (n1 : Int) (code1 : Int) (x : Int) (out : List Int) : Option Y6 :=
  iterK fu_ (fun kx (v_ : (Int × Int × Int × Unit) × Y6) => Q62_B1 N (fun n1 code1 x out => kx ((n1, code1, x, ()), (out, ()))) v_.1.1 v_.1.2.1 v_.1.2.2.1 v_.2.1) ((n1, code1, x, ()), (out, ()))
theorem Q62_L1_run (N : Nat) (n1 : Nat → Int) (code1 : Nat → Int) (x : Nat → Int) (out : Nat → (List Int)) (n_ : Nat) {res_ : Option Y6} (hstep_ : ∀ j_, j_ < n_ → ∀ kx_, Q62_B1 N kx_ (n1 j_) (code1 j_) (x j_) (out j_) = kx_ (n1 (j_ + 1)) (code1 (j_ + 1)) (x (j_ + 1)) (out (j_ + 1))) (hend_ : ∀ kx_, Q62_B1 N kx_ (n1 n_) (code1 n_) (x n_) (out n_) = res_) (fu_ : Nat) (hm_ : n_ < fu_) : Q62_L1 N fu_ (n1 0) (code1 0) (x 0) (out 0) = res_ := by
  exact loop_run (L := fun fu_ (x_ : Int × Int × Int × (List Int)) => Q62_L1 N fu_ x_.1 x_.2.1 x_.2.2.1 x_.2.2.2) (B := fun kx_ x_ => Q62_B1 N (fun n1 code1 x out => kx_ (n1, code1, x, out)) x_.1 x_.2.1 x_.2.2.1 x_.2.2.2) (fun _ _ => rfl) (fun j_ => (n1 j_, code1 j_, x j_, out j_)) n_ (fun j_ hi_ kx_ => hstep_ j_ hi_ _) (fun kx_ => hend_ _) fu_ hm_
def Q62 (N : Nat) (n : Int) (code : Int) : Option Y6 :=
  Q62_L1 N N n code 0 []
def Q57 (N : Nat) (a : Int) (b : Int) : Option Y7 :=
  bif ilt a b then
    some (a, ())
  else
    some (b, ())
def Q58_K1 (N : Nat) (n2 : Int) (kx2 : Int) (l2 : List Int) : Option Y6 :=
  bif ilt kx2 (len l2) then
    chk (inB kx2 l2.length) <|
    bif ieq (gd l2 kx2.toNat 0) n2 then
      some (l2, ())
    else
      chk (cutB 0 kx2 l2.length) <|
      chk (fitB (0 + (List.take (kx2.toNat - 0) (List.drop 0 l2)).length) 8) <|
      chk (fitB ((List.take (kx2.toNat - 0) (List.drop 0 l2)).length + 1) 8) <|
      chk (cutB kx2 (len l2) l2.length) <|
      chk (fitB (((List.take (kx2.toNat - 0) (List.drop 0 l2)) ++ [n2]).length + (List.take ((len l2).toNat - kx2.toNat) (List.drop kx2.toNat l2)).length) 8) <|
      some (((List.take (kx2.toNat - 0) (List.drop 0 l2)) ++ [n2]) ++ (List.take ((len l2).toNat - kx2.toNat) (List.drop kx2.toNat l2)), ())
  else
    chk (cutB 0 kx2 l2.length) <|
    chk (fitB (0 + (List.take (kx2.toNat - 0) (List.drop 0 l2)).length) 8) <|
    chk (fitB ((List.take (kx2.toNat - 0) (List.drop 0 l2)).length + 1) 8) <|
    chk (cutB kx2 (len l2) l2.length) <|
    chk (fitB (((List.take (kx2.toNat - 0) (List.drop 0 l2)) ++ [n2]).length + (List.take ((len l2).toNat - kx2.toNat) (List.drop kx2.toNat l2)).length) 8) <|
    some (((List.take (kx2.toNat - 0) (List.drop 0 l2)) ++ [n2]) ++ (List.take ((len l2).toNat - kx2.toNat) (List.drop kx2.toNat l2)), ())
def Q58_B1 (N : Nat) (kx1 : Int → Int → (List Int) → Option Y6) (n1 : Int) (kx : Int) (l1 : List Int) : Option Y6 :=
  bif ilt kx (len l1) then
    chk (inB kx l1.length) <|
    bif ilt (gd l1 kx.toNat 0) n1 then
      kx1 n1 (iadd .i64 kx 1) l1
    else
      Q58_K1 N n1 kx l1
  else
    Q58_K1 N n1 kx l1
def Q58_L1 (N fu_ : Nat) (n1 : Int) (kx : Int) (l1 : List Int) : Option Y6 :=
  iterK fu_ (fun kx1 (v_ : Y20 × Y6) => Q58_B1 N (fun n1 kx l1 => kx1 ((n1, kx, ()), (l1, ()))) v_.1.1 v_.1.2.1 v_.2.1) ((n1, kx, ()), (l1, ()))
theorem Q58_L1_run (N : Nat) (n1 : Nat → Int) (kx : Nat → Int) (l1 : Nat → (List Int)) (n_ : Nat) {res_ : Option Y6} (hstep_ : ∀ j_, j_ < n_ → ∀ kx_, Q58_B1 N kx_ (n1 j_) (kx j_) (l1 j_) = kx_ (n1 (j_ + 1)) (kx (j_ + 1)) (l1 (j_ + 1))) (hend_ : ∀ kx_, Q58_B1 N kx_ (n1 n_) (kx n_) (l1 n_) = res_) (fu_ : Nat) (hm_ : n_ < fu_) : Q58_L1 N fu_ (n1 0) (kx 0) (l1 0) = res_ := by
  exact loop_run (L := fun fu_ (x_ : Int × Int × (List Int)) => Q58_L1 N fu_ x_.1 x_.2.1 x_.2.2) (B := fun kx_ x_ => Q58_B1 N (fun n1 kx l1 => kx_ (n1, kx, l1)) x_.1 x_.2.1 x_.2.2) (fun _ _ => rfl) (fun j_ => (n1 j_, kx j_, l1 j_)) n_ (fun j_ hi_ kx_ => hstep_ j_ hi_ _) (fun kx_ => hend_ _) fu_ hm_
def Q58 (N : Nat) (l : List Int) (n : Int) : Option Y6 :=
  Q58_L1 N N n 0 l
def Q39_K1 (N : Nat) (kx4 : Int → Y3 → Y0 → (List Int) → Y1 → Option (Y1 × Y3)) (s2 : Int) (c5 : (List Int) × Int × Int) (kx7 : (List Int) × (List Int) × (List Int)) (out2 : List (List Int)) (fewer1 : List Int) : Option (Y1 × Y3) :=
  kx4 (iadd .i64 s2 1) c5 kx7 fewer1 out2
def Q39_B1 (N : Nat) (kx4 : Int → Y3 → Y0 → (List Int) → Y1 → Option (Y1 × Y3)) (kx6 : Nat → Int → Int → Y3 → Y0 → Y1 → (List Int) → Option (Y1 × Y3)) (lasti : Nat) (s1 : Int) (i : Int) (c4 : (List Int) × Int × Int) (kx5 : (List Int) × (List Int) × (List Int)) (out1 : List (List Int)) (fewer : List Int) : Option (Y1 × Y3) :=
  bif ilt i (len (gd out1 lasti [])) then
    bif ieq i 0 then
      (Q38 N c4 16).bind fun r6 =>
      bif !r6.1 then
        chk (inB i (gd out1 lasti []).length) <|
        chk (fitB (fewer.length + 1) 8) <|
        kx6 lasti s1 (iadd .i64 i 1) r6.2 kx5 out1 (fewer ++ [gd (gd out1 lasti []) i.toNat 0])
      else
        bif ilt 0 i then
          (Q38 N r6.2 2).bind fun r7 =>
          bif r7.1 then
            chk (inB i (gd out1 lasti []).length) <|
            chk (fitB (fewer.length + 1) 8) <|
            kx6 lasti s1 (iadd .i64 i 1) r7.2 kx5 out1 (fewer ++ [gd (gd out1 lasti []) i.toNat 0])
          else
            kx6 lasti s1 (iadd .i64 i 1) r7.2 kx5 out1 fewer
        else
          kx6 lasti s1 (iadd .i64 i 1) r6.2 kx5 out1 fewer
    else
      bif ilt 0 i then
        (Q38 N c4 2).bind fun r8 =>
        bif r8.1 then
          chk (inB i (gd out1 lasti []).length) <|
          chk (fitB (fewer.length + 1) 8) <|
          kx6 lasti s1 (iadd .i64 i 1) r8.2 kx5 out1 (fewer ++ [gd (gd out1 lasti []) i.toNat 0])
        else
          kx6 lasti s1 (iadd .i64 i 1) r8.2 kx5 out1 fewer
      else
        kx6 lasti s1 (iadd .i64 i 1) c4 kx5 out1 fewer
  else
    Q39_K1 N kx4 s1 c4 kx5 out1 fewer
def Q39_L1 (N fu_ : Nat) (kx4 : Int → Y3 → Y0 → (List Int) → Y1 → Option (Y1 × Y3)) (lasti : Nat) (s1 : Int) (i : Int) (c4 : (List Int) × Int × Int) (kx5 : (List Int) × (List Int) × (List Int)) (out1 : List (List Int)) (fewer : List Int) : Option (Y1 × Y3) :=
  iterK fu_ (fun kx6 (v_ : (Nat × Int × Int × Unit) × (Y3 × Y0 × Y1 × (List Int) × Unit)) => Q39_B1 N kx4 (fun lasti s1 i c4 kx5 out1 fewer => kx6 ((lasti, s1, i, ()), (c4, kx5, out1, fewer, ()))) v_.1.1 v_.1.2.1 v_.1.2.2.1 v_.2.1 v_.2.2.1 v_.2.2.2.1 v_.2.2.2.2.1) ((lasti, s1, i, ()), (c4, kx5, out1, fewer, ()))
theorem Q39_L1_succ (N fu_ : Nat) (kx4 : Int → Y3 → Y0 → (List Int) → Y1 → Option (Y1 × Y3)) (lasti : Nat) (s1 : Int) (i : Int) (c4 : (List Int) × Int × Int) (kx5 : (List Int) × (List Int) × (List Int)) (out1 : List (List Int)) (fewer : List Int) : Q39_L1 N (fu_ + 1) kx4 lasti s1 i c4 kx5 out1 fewer = Q39_B1 N kx4 (fun lasti s1 i c4 kx5 out1 fewer => Q39_L1 N fu_ kx4 lasti s1 i c4 kx5 out1 fewer) lasti s1 i c4 kx5 out1 fewer := rfl
def Q39_K2 (N : Nat) (c6 : (List Int) × Int × Int) (out3 : List (List Int)) : Option (Y1 × Y3) :=
  bif ilt 0 (len out3) then
    (Q38 N c6 24).bind fun r9 =>
    bif r9.1 then
      chk (inB 0 out3.length) <|
      (Q33 N r9.2 [(-1), 0, 6]).bind fun r10 =>
      chk (fitB ((gd out3 0 []).length + 1) 8) <|
      chk (inB 0 out3.length) <|
      chk (natEq 0 0) <|
      some (List.set out3 0 ((gd out3 0 []) ++ [r10.1]), r10.2)
    else
      some (out3, r9.2)
  else
    some (out3, c6)
def Q39_B2 (N : Nat) (kx4 : Int → Y3 → Y0 → (List Int) → Y1 → Option (Y1 × Y3)) (s : Int) (c3 : (List Int) × Int × Int) (kx3 : (List Int) × (List Int) × (List Int)) (last2 : List Int) (out : List (List Int)) : Option (Y1 × Y3) :=
  bif ilt s (len kx3.2.1) then
    chk (fitB (1 + out.length) 24) <|
    Q39_L1 N N kx4 0 s 0 c3 kx3 ([last2] ++ out) []
  else
    Q39_K2 N c3 out
def Q39_L2 (N fu_ : Nat) (s : Int) (c3 : (List Int) × Int × Int) (kx3 : (List Int) × (List Int) × (List Int)) (last2 : List Int) (out : List (List Int)) : Option (Y1 × Y3) :=
  iterK fu_ (fun kx4 (v_ : Y7 × (Y3 × Y0 × (List Int) × Y1 × Unit)) => Q39_B2 N (fun s c3 kx3 last2 out => kx4 ((s, ()), (c3, kx3, last2, out, ()))) v_.1.1 v_.2.1 v_.2.2.1 v_.2.2.2.1 v_.2.2.2.2.1) ((s, ()), (c3, kx3, last2, out, ()))
theorem Q39_L2_succ (N fu_ : Nat) (s : Int) (c3 : (List Int) × Int × Int) (kx3 : (List Int) × (List Int) × (List Int)) (last2 : List Int) (out : List (List Int)) : Q39_L2 N (fu_ + 1) s c3 kx3 last2 out = Q39_B2 N (fun s c3 kx3 last2 out => Q39_L2 N fu_ s c3 kx3 last2 out) s c3 kx3 last2 out := rfl
def Q39_K3 (N : Nat) (c2 : (List Int) × Int × Int) (kx2 : (List Int) × (List Int) × (List Int)) (last1 : List Int) : Option (Y1 × Y3) :=
  Q39_L2 N N 0 c2 kx2 last1 []
def Q39_K4 (N : Nat) (v32 : Bool) (c1 : (List Int) × Int × Int) (kx1 : (List Int) × (List Int) × (List Int)) (last : List Int) : Option (Y1 × Y3) :=
  bif v32 then
    (Q58 N last 0).bind fun r5 =>
    Q39_K3 N c1 kx1 r5.1
  else
    Q39_K3 N c1 kx1 last
def Q39 (N : Nat) (c : (List Int) × Int × Int) (kx : (List Int) × (List Int) × (List Int)) : Option (Y1 × Y3) :=
  (Q57 N (len kx.1) 6).bind fun r =>
  chk (ile 0 r.1) <|
  (Q40 N c (ishl .i64 1 r.1)).bind fun r1 =>
  (Q62 N r.1 r1.1).bind fun r2 =>
  bif ilt 0 r.1 then
    (Q55 N r2.1 0).bind fun r3 =>
    bif !r3.1 then
      (Q38 N r1.2 6).bind fun r4 =>
      Q39_K4 N (!r4.1) r4.2 kx r2.1
    else
      Q39_K4 N false r1.2 kx r2.1
  else
    Q39_K4 N false r1.2 kx r2.1
def Q35_K1 (N : Nat) (c2 : (List Int) × Int × Int) (b161 : Y1 × Bool) : Option (Y1 × Y3) :=
  (Q38 N c2 16).bind fun r7 =>
  bif r7.1 then
    chk (inB 0 b161.1.length) <|
    chk (inB 0 b161.1.length) <|
    chk (inB 0 (gd b161.1 0 []).length) <|
    (Q33 N r7.2 [1, (-1), 4611686018427387904]).bind fun r8 =>
    chk (inB 0 (gd b161.1 0 []).length) <|
    some (List.set b161.1 0 (List.set (gd b161.1 0 []) 0 (iadd .i64 (gd (gd b161.1 0 []) 0 0) r8.1)), r8.2)
  else
    some (b161.1, r7.2)
def Q35_B1 (N : Nat) (kx2 : Int → Y3 → Y0 → Y12 → Option (Y1 × Y3)) (n : Int) (c1 : (List Int) × Int × Int) (kx1 : (List Int) × (List Int) × (List Int)) (b16 : Y1 × Bool) : Option (Y1 × Y3) :=
  bif ilt 0 n then
    (Q40 N c1 (len b16.1)).bind fun r3 =>
    (Q40 N r3.2 (len kx1.1)).bind fun r4 =>
    (Q57 N (isub .i64 (len kx1.1) 1) (iadd .i64 r4.1 1)).bind fun r5 =>
    chk (inB r3.1 b16.1.length) <|
    chk (inB r5.1 (gd b16.1 r3.1.toNat []).length) <|
    bif ilt 0 (gd (gd b16.1 r3.1.toNat []) r5.1.toNat 0) then
      (Q38 N r4.2 4).bind fun r6 =>
      bif !r6.1 then
        chk (inB r3.1 b16.1.length) <|
        chk (inB r3.1 b16.1.length) <|
        chk (inB r5.1 (gd b16.1 r3.1.toNat []).length) <|
        chk (inB r5.1 (gd b16.1 r3.1.toNat []).length) <|
        chk (inB r3.1 (List.set b16.1 r3.1.toNat (List.set (gd b16.1 r3.1.toNat []) r5.1.toNat (isub .i64 (gd (gd b16.1 r3.1.toNat []) r5.1.toNat 0) 1))).length) <|
        chk (inB r3.1 (List.set b16.1 r3.1.toNat (List.set (gd b16.1 r3.1.toNat []) r5.1.toNat (isub .i64 (gd (gd b16.1 r3.1.toNat []) r5.1.toNat 0) 1))).length) <|
        chk (inB r4.1 (gd (List.set b16.1 r3.1.toNat (List.set (gd b16.1 r3.1.toNat []) r5.1.toNat (isub .i64 (gd (gd b16.1 r3.1.toNat []) r5.1.toNat 0) 1))) r3.1.toNat []).length) <|
        chk (inB r4.1 (gd (List.set b16.1 r3.1.toNat (List.set (gd b16.1 r3.1.toNat []) r5.1.toNat (isub .i64 (gd (gd b16.1 r3.1.toNat []) r5.1.toNat 0) 1))) r3.1.toNat []).length) <|
        kx2 (isub .i64 n 1) r6.2 kx1 (List.set (List.set b16.1 r3.1.toNat (List.set (gd b16.1 r3.1.toNat []) r5.1.toNat (isub .i64 (gd (gd b16.1 r3.1.toNat []) r5.1.toNat 0) 1))) r3.1.toNat (List.set (gd (List.set b16.1 r3.1.toNat (List.set (gd b16.1 r3.1.toNat []) r5.1.toNat (isub .i64 (gd (gd b16.1 r3.1.toNat []) r5.1.toNat 0) 1))) r3.1.toNat []) r4.1.toNat (iadd .i64 (gd (gd (List.set b16.1 r3.1.toNat (List.set (gd b16.1 r3.1.toNat []) r5.1.toNat (isub .i64 (gd (gd b16.1 r3.1.toNat []) r5.1.toNat 0) 1))) r3.1.toNat []) r4.1.toNat 0) 1)), b16.2)
      else
        kx2 (isub .i64 n 1) r6.2 kx1 b16
    else
      kx2 (isub .i64 n 1) r4.2 kx1 b16
  else
    Q35_K1 N c1 b16
def Q35_L1 (N fu_ : Nat) (n : Int) (c1 : (List Int) × Int × Int) (kx1 : (List Int) × (List Int) × (List Int)) (b16 : Y1 × Bool) : Option (Y1 × Y3) :=
  iterK fu_ (fun kx2 (v_ : Y7 × (Y3 × Y0 × Y12 × Unit)) => Q35_B1 N (fun n c1 kx1 b16 => kx2 ((n, ()), (c1, kx1, b16, ()))) v_.1.1 v_.2.1 v_.2.2.1 v_.2.2.2.1) ((n, ()), (c1, kx1, b16, ()))
theorem Q35_L1_succ (N fu_ : Nat) (n : Int) (c1 : (List Int) × Int × Int) (kx1 : (List Int) × (List Int) × (List Int)) (b16 : Y1 × Bool) : Q35_L1 N (fu_ + 1) n c1 kx1 b16 = Q35_B1 N (fun n c1 kx1 b16 => Q35_L1 N fu_ n c1 kx1 b16) n c1 kx1 b16 := rfl
def Q35 (N : Nat) (c : (List Int) × Int × Int) (kx : (List Int) × (List Int) × (List Int)) : Option (Y1 × Y3) :=
  (Q39 N c kx).bind fun r =>
  (Q54 N kx r.1).bind fun r1 =>
  bif !r1.1.2 then
    chk (mkB (len kx.2.1) 24) <|
    some (List.replicate (len kx.2.1).toNat ([] : List Int), r.2)
  else
    bif ieq (len kx.1) 0 then
      chk (mkB (len kx.2.1) 24) <|
      some (List.replicate (len kx.2.1).toNat ([] : List Int), r.2)
    else
      (Q40 N r.2 4).bind fun r2 =>
      Q35_L1 N N r2.1 r2.2 kx r1.1
def Q48 (N : Nat) (code : List Int) : Option ((Y0 × Y1) × Unit) :=
  (Q34 N (code, (0, 0))).bind fun r =>
  (Q35 N r.2 r.1).bind fun r1 =>
  some ((r.1, r1.1), ())
def Q47 (N : Nat) (code : List Int) : Option ((Y0 × Y1) × Unit) :=
  (Q48 N code).bind fun r =>
  some ((r.1.1, r.1.2), ())
def Q25 (N : Nat) (c : (List Int) × (List Int) × (List Int)) (plan : List (List Int)) : Option Y5 :=
  (Q19 N c).bind fun r =>
  bif !r.1 then
    some (([], false), ())
  else
    (Q16 N c plan).bind fun r1 =>
    some ((r1.1.1, r1.1.2), ())
def Q9 (N : Nat) (c : (List Int) × (List Int) × (List Int)) (plan : List (List Int)) : Option Y13 :=
  (Q25 N c plan).bind fun r =>
  bif !r.1.2 then
    some ((0, false), ())
  else
    (Q13 N c plan).bind fun r1 =>
    some ((r1.1, true), ())
def Q76 (N : Nat) (c : (List Int) × (List Int) × (List Int)) (plan : List (List Int)) (stage : Int) (t : Int) : Option Y7 :=
  bif ilt (iadd .i64 stage 1) (len plan) then
    chk (inB (iadd .i64 stage 1) plan.length) <|
    chk (inB t (gd plan (iadd .i64 stage 1).toNat []).length) <|
    some (gd (gd plan (iadd .i64 stage 1).toNat []) t.toNat 0, ())
  else
    chk (inB t c.1.length) <|
    some (gd c.1 t.toNat 0, ())
def Q80_K1 (N : Nat) (kx : Y1 → Int → Y0 → Y1 → Option Y15) (plan3 : List (List Int)) (s2 : Int) (c3 : (List Int) × (List Int) × (List Int)) (out2 : List (List Int)) (row1 : List Int) : Option Y15 :=
  chk (fitB (out2.length + 1) 24) <|
  kx plan3 (iadd .i64 s2 1) c3 (out2 ++ [row1])
def Q80_B1 (N : Nat) (kx : Y1 → Int → Y0 → Y1 → Option Y15) (kx1 : Y1 → Int → Int → Int → Y0 → Y1 → (List Int) → Option Y15) (plan2 : List (List Int)) (s1 : Int) (now : Int) (t : Int) (c2 : (List Int) × (List Int) × (List Int)) (out1 : List (List Int)) (row : List Int) : Option Y15 :=
  bif ilt t (len c2.1) then
    chk (inB s1 plan2.length) <|
    chk (inB t (gd plan2 s1.toNat []).length) <|
    (Q76 N c2 plan2 s1 t).bind fun r =>
    chk (fitB (row.length + 1) 8) <|
    kx1 plan2 s1 (isub .i64 (iadd .i64 now (gd (gd plan2 s1.toNat []) t.toNat 0)) r.1) (iadd .i64 t 1) c2 out1 (row ++ [isub .i64 (iadd .i64 now (gd (gd plan2 s1.toNat []) t.toNat 0)) r.1])
  else
    Q80_K1 N kx plan2 s1 c2 out1 row
def Q80_L1 (N fu_ : Nat) (kx : Y1 → Int → Y0 → Y1 → Option Y15) (plan2 : List (List Int)) (s1 : Int) (now : Int) (t : Int) (c2 : (List Int) × (List Int) × (List Int)) (out1 : List (List Int)) (row : List Int) : Option Y15 :=
  iterK fu_ (fun kx1 (v_ : (Y1 × Int × Int × Int × Unit) × (Y0 × Y1 × (List Int) × Unit)) => Q80_B1 N kx (fun plan2 s1 now t c2 out1 row => kx1 ((plan2, s1, now, t, ()), (c2, out1, row, ()))) v_.1.1 v_.1.2.1 v_.1.2.2.1 v_.1.2.2.2.1 v_.2.1 v_.2.2.1 v_.2.2.2.1) ((plan2, s1, now, t, ()), (c2, out1, row, ()))
theorem Q80_L1_run (N : Nat) (kx : Y1 → Int → Y0 → Y1 → Option Y15) (plan2 : Nat → Y1) (s1 : Nat → Int) (now : Nat → Int) (t : Nat → Int) (c2 : Nat → Y0) (out1 : Nat → Y1) (row : Nat → (List Int)) (n_ : Nat) {res_ : Option Y15} (hstep_ : ∀ j_, j_ < n_ → ∀ kx_, Q80_B1 N kx kx_ (plan2 j_) (s1 j_) (now j_) (t j_) (c2 j_) (out1 j_) (row j_) = kx_ (plan2 (j_ + 1)) (s1 (j_ + 1)) (now (j_ + 1)) (t (j_ + 1)) (c2 (j_ + 1)) (out1 (j_ + 1)) (row (j_ + 1))) (hend_ : ∀ kx_, Q80_B1 N kx kx_ (plan2 n_) (s1 n_) (now n_) (t n_) (c2 n_) (out1 n_) (row n_) = res_) (fu_ : Nat) (hm_ : n_ < fu_) : Q80_L1 N fu_ kx (plan2 0) (s1 0) (now 0) (t 0) (c2 0) (out1 0) (row 0) = res_ := by
  exact loop_run (L := fun fu_ (x_ : Y1 × Int × Int × Int × Y0 × Y1 × (List Int)) => Q80_L1 N fu_ kx x_.1 x_.2.1 x_.2.2.1 x_.2.2.2.1 x_.2.2.2.2.1 x_.2.2.2.2.2.1 x_.2.2.2.2.2.2) (B := fun kx_ x_ => Q80_B1 N kx (fun plan2 s1 now t c2 out1 row => kx_ (plan2, s1, now, t, c2, out1, row)) x_.1 x_.2.1 x_.2.2.1 x_.2.2.2.1 x_.2.2.2.2.1 x_.2.2.2.2.2.1 x_.2.2.2.2.2.2) (fun _ _ => rfl) (fun j_ => (plan2 j_, s1 j_, now j_, t j_, c2 j_, out1 j_, row j_)) n_ (fun j_ hi_ kx_ => hstep_ j_ hi_ _) (fun kx_ => hend_ _) fu_ hm_
def Q80_K2 (N : Nat) (out3 : List (List Int)) : Option Y15 :=
  some (out3, ())
def Q80_B2 (N : Nat) (kx : Y1 → Int → Y0 → Y1 → Option Y15) (plan1 : List (List Int)) (s : Int) (c1 : (List Int) × (List Int) × (List Int)) (out : List (List Int)) : Option Y15 :=
  bif ilt s (len plan1) then
    Q80_L1 N N kx plan1 s 0 0 c1 out []
  else
    Q80_K2 N out
def Q80_L2 (N fu_ : Nat) (plan1 : List (List Int)) (s : Int) (c1 : (List Int) × (List Int) × (List Int)) (out : List (List Int)) : Option Y15 :=
  iterK fu_ (fun kx (v_ : (Y1 × Int × Unit) × Y17) => Q80_B2 N (fun plan1 s c1 out => kx ((plan1, s, ()), (c1, out, ()))) v_.1.1 v_.1.2.1 v_.2.1 v_.2.2.1) ((plan1, s, ()), (c1, out, ()))
theorem Q80_L2_run (N : Nat) (plan1 : Nat → Y1) (s : Nat → Int) (c1 : Nat → Y0) (out : Nat → Y1) (n_ : Nat) {res_ : Option Y15} (hstep_ : ∀ j_, j_ < n_ → ∀ kx_, Q80_B2 N kx_ (plan1 j_) (s j_) (c1 j_) (out j_) = kx_ (plan1 (j_ + 1)) (s (j_ + 1)) (c1 (j_ + 1)) (out (j_ + 1))) (hend_ : ∀ kx_, Q80_B2 N kx_ (plan1 n_) (s n_) (c1 n_) (out n_) = res_) (fu_ : Nat) (hm_ : n_ < fu_) : Q80_L2 N fu_ (plan1 0) (s 0) (c1 0) (out 0) = res_ := by
  exact loop_run (L := fun fu_ (x_ : Y1 × Int × Y0 × Y1) => Q80_L2 N fu_ x_.1 x_.2.1 x_.2.2.1 x_.2.2.2) (B := fun kx_ x_ => Q80_B2 N (fun plan1 s c1 out => kx_ (plan1, s, c1, out)) x_.1 x_.2.1 x_.2.2.1 x_.2.2.2) (fun _ _ => rfl) (fun j_ => (plan1 j_, s j_, c1 j_, out j_)) n_ (fun j_ hi_ kx_ => hstep_ j_ hi_ _) (fun kx_ => hend_ _) fu_ hm_
def Q80 (N : Nat) (c : (List Int) × (List Int) × (List Int)) (plan : List (List Int)) : Option Y15 :=
  Q80_L2 N N plan 0 c []
def Q78_K1 (N : Nat) (kx1 : Int → Y1 → Option Y4) (s3 : Int) (stocks2 : List (List Int)) : Option Y4 :=
  kx1 (iadd .i64 s3 1) stocks2
def Q78_B1 (N : Nat) (kx1 : Int → Y1 → Option Y4) (kx2 : Int → Int → Y1 → Option Y4) (s2 : Int) (t : Int) (stocks1 : List (List Int)) : Option Y4 :=
  chk (inB s2 stocks1.length) <|
  bif ilt t (len (gd stocks1 s2.toNat [])) then
    chk (inB s2 stocks1.length) <|
    chk (inB t (gd stocks1 s2.toNat []).length) <|
    bif ilt (gd (gd stocks1 s2.toNat []) t.toNat 0) 0 then
      some (false, ())
    else
      chk (inB s2 stocks1.length) <|
      bif ieq (iadd .i64 t 1) (len (gd stocks1 s2.toNat [])) then
        chk (inB s2 stocks1.length) <|
        chk (inB t (gd stocks1 s2.toNat []).length) <|
        bif ilt 0 (gd (gd stocks1 s2.toNat []) t.toNat 0) then
          some (false, ())
        else
          kx2 s2 (iadd .i64 t 1) stocks1
      else
        kx2 s2 (iadd .i64 t 1) stocks1
  else
    Q78_K1 N kx1 s2 stocks1
def Q78_L1 (N fu_ : Nat) (kx1 : Int → Y1 → Option Y4) (s2 : Int) (t : Int) (stocks1 : List (List Int)) : Option Y4 :=
  iterK fu_ (fun kx2 (v_ : Y20 × Y15) => Q78_B1 N kx1 (fun s2 t stocks1 => kx2 ((s2, t, ()), (stocks1, ()))) v_.1.1 v_.1.2.1 v_.2.1) ((s2, t, ()), (stocks1, ()))
theorem Q78_L1_run (N : Nat) (kx1 : Int → Y1 → Option Y4) (s2 : Nat → Int) (t : Nat → Int) (stocks1 : Nat → Y1) (n_ : Nat) {res_ : Option Y4} (hstep_ : ∀ j_, j_ < n_ → ∀ kx_, Q78_B1 N kx1 kx_ (s2 j_) (t j_) (stocks1 j_) = kx_ (s2 (j_ + 1)) (t (j_ + 1)) (stocks1 (j_ + 1))) (hend_ : ∀ kx_, Q78_B1 N kx1 kx_ (s2 n_) (t n_) (stocks1 n_) = res_) (fu_ : Nat) (hm_ : n_ < fu_) : Q78_L1 N fu_ kx1 (s2 0) (t 0) (stocks1 0) = res_ := by
  exact loop_run (L := fun fu_ (x_ : Int × Int × Y1) => Q78_L1 N fu_ kx1 x_.1 x_.2.1 x_.2.2) (B := fun kx_ x_ => Q78_B1 N kx1 (fun s2 t stocks1 => kx_ (s2, t, stocks1)) x_.1 x_.2.1 x_.2.2) (fun _ _ => rfl) (fun j_ => (s2 j_, t j_, stocks1 j_)) n_ (fun j_ hi_ kx_ => hstep_ j_ hi_ _) (fun kx_ => hend_ _) fu_ hm_
def Q78_K2 (N : Nat) : Option Y4 :=
  some (true, ())
def Q78_B2 (N : Nat) (kx1 : Int → Y1 → Option Y4) (s1 : Int) (stocks : List (List Int)) : Option Y4 :=
  bif ilt s1 (len stocks) then
    Q78_L1 N N kx1 s1 0 stocks
  else
    Q78_K2 N
def Q78_L2 (N fu_ : Nat) (s1 : Int) (stocks : List (List Int)) : Option Y4 :=
  iterK fu_ (fun kx1 (v_ : Y7 × Y15) => Q78_B2 N (fun s1 stocks => kx1 ((s1, ()), (stocks, ()))) v_.1.1 v_.2.1) ((s1, ()), (stocks, ()))
theorem Q78_L2_run (N : Nat) (s1 : Nat → Int) (stocks : Nat → Y1) (n_ : Nat) {res_ : Option Y4} (hstep_ : ∀ j_, j_ < n_ → ∀ kx_, Q78_B2 N kx_ (s1 j_) (stocks j_) = kx_ (s1 (j_ + 1)) (stocks (j_ + 1))) (hend_ : ∀ kx_, Q78_B2 N kx_ (s1 n_) (stocks n_) = res_) (fu_ : Nat) (hm_ : n_ < fu_) : Q78_L2 N fu_ (s1 0) (stocks 0) = res_ := by
  exact loop_run (L := fun fu_ (x_ : Int × Y1) => Q78_L2 N fu_ x_.1 x_.2) (B := fun kx_ x_ => Q78_B2 N (fun s1 stocks => kx_ (s1, stocks)) x_.1 x_.2) (fun _ _ => rfl) (fun j_ => (s1 j_, stocks j_)) n_ (fun j_ hi_ kx_ => hstep_ j_ hi_ _) (fun kx_ => hend_ _) fu_ hm_
def Q78_K3 (N : Nat) (plan2 : List (List Int)) (c2 : (List Int) × (List Int) × (List Int)) : Option Y4 :=
  (Q80 N c2 plan2).bind fun r1 =>
  Q78_L2 N N 0 r1.1
def Q78_B3 (N : Nat) (kx : Y1 → Int → Y0 → Option Y4) (plan1 : List (List Int)) (s : Int) (c1 : (List Int) × (List Int) × (List Int)) : Option Y4 :=
  bif ilt s (len plan1) then
    chk (inB s plan1.length) <|
    (Q68 N (gd plan1 s.toNat []) (len c1.1) 120).bind fun r =>
    bif !r.1 then
      some (false, ())
    else
      kx plan1 (iadd .i64 s 1) c1
  else
    Q78_K3 N plan1 c1
def Q78_L3 (N fu_ : Nat) (plan1 : List (List Int)) (s : Int) (c1 : (List Int) × (List Int) × (List Int)) : Option Y4 :=
  iterK fu_ (fun kx (v_ : (Y1 × Int × Unit) × (Y0 × Unit)) => Q78_B3 N (fun plan1 s c1 => kx ((plan1, s, ()), (c1, ()))) v_.1.1 v_.1.2.1 v_.2.1) ((plan1, s, ()), (c1, ()))
theorem Q78_L3_run (N : Nat) (plan1 : Nat → Y1) (s : Nat → Int) (c1 : Nat → Y0) (n_ : Nat) {res_ : Option Y4} (hstep_ : ∀ j_, j_ < n_ → ∀ kx_, Q78_B3 N kx_ (plan1 j_) (s j_) (c1 j_) = kx_ (plan1 (j_ + 1)) (s (j_ + 1)) (c1 (j_ + 1))) (hend_ : ∀ kx_, Q78_B3 N kx_ (plan1 n_) (s n_) (c1 n_) = res_) (fu_ : Nat) (hm_ : n_ < fu_) : Q78_L3 N fu_ (plan1 0) (s 0) (c1 0) = res_ := by
  exact loop_run (L := fun fu_ (x_ : Y1 × Int × Y0) => Q78_L3 N fu_ x_.1 x_.2.1 x_.2.2) (B := fun kx_ x_ => Q78_B3 N (fun plan1 s c1 => kx_ (plan1, s, c1)) x_.1 x_.2.1 x_.2.2) (fun _ _ => rfl) (fun j_ => (plan1 j_, s j_, c1 j_)) n_ (fun j_ hi_ kx_ => hstep_ j_ hi_ _) (fun kx_ => hend_ _) fu_ hm_
def Q78 (N : Nat) (c : (List Int) × (List Int) × (List Int)) (plan : List (List Int)) : Option Y4 :=
  bif ine (len plan) (len c.2.1) then
    some (false, ())
  else
    Q78_L3 N N plan 0 c
def Q81 (N : Nat) (c : (List Int) × (List Int) × (List Int)) (plan : List (List Int)) : Option Y4 :=
  (Q75 N c).bind fun r =>
  bif r.1 then
    (Q78 N c plan).bind fun r1 =>
    some (r1.1, ())
  else
    some (false, ())
def Q72_K1 (N : Nat) (kx : Y1 → Int → Int → Y0 → Y1 → Option Y7) (plan3 : List (List Int)) (sum2 : Int) (s2 : Int) (c3 : (List Int) × (List Int) × (List Int)) (stocks2 : List (List Int)) : Option Y7 :=
  kx plan3 sum2 (iadd .i64 s2 1) c3 stocks2
def Q72_B1 (N : Nat) (kx : Y1 → Int → Int → Y0 → Y1 → Option Y7) (kx1 : Y1 → Int → Int → Int → Y0 → Y1 → Option Y7) (plan2 : List (List Int)) (sum1 : Int) (s1 : Int) (t : Int) (c2 : (List Int) × (List Int) × (List Int)) (stocks1 : List (List Int)) : Option Y7 :=
  bif ilt t (len c2.1) then
    chk (inB s1 c2.2.2.length) <|
    chk (inB s1 stocks1.length) <|
    chk (inB t (gd stocks1 s1.toNat []).length) <|
    chk (inB s1 plan2.length) <|
    chk (inB t (gd plan2 s1.toNat []).length) <|
    bif ilt 0 (gd (gd plan2 s1.toNat []) t.toNat 0) then
      chk (inB s1 c2.2.1.length) <|
      kx1 plan2 (iadd .i64 (iadd .i64 sum1 (imul .i64 (gd c2.2.2 s1.toNat 0) (gd (gd stocks1 s1.toNat []) t.toNat 0))) (gd c2.2.1 s1.toNat 0)) s1 (iadd .i64 t 1) c2 stocks1
    else
      kx1 plan2 (iadd .i64 sum1 (imul .i64 (gd c2.2.2 s1.toNat 0) (gd (gd stocks1 s1.toNat []) t.toNat 0))) s1 (iadd .i64 t 1) c2 stocks1
  else
    Q72_K1 N kx plan2 sum1 s1 c2 stocks1
def Q72_L1 (N fu_ : Nat) (kx : Y1 → Int → Int → Y0 → Y1 → Option Y7) (plan2 : List (List Int)) (sum1 : Int) (s1 : Int) (t : Int) (c2 : (List Int) × (List Int) × (List Int)) (stocks1 : List (List Int)) : Option Y7 :=
  iterK fu_ (fun kx1 (v_ : (Y1 × Int × Int × Int × Unit) × Y17) => Q72_B1 N kx (fun plan2 sum1 s1 t c2 stocks1 => kx1 ((plan2, sum1, s1, t, ()), (c2, stocks1, ()))) v_.1.1 v_.1.2.1 v_.1.2.2.1 v_.1.2.2.2.1 v_.2.1 v_.2.2.1) ((plan2, sum1, s1, t, ()), (c2, stocks1, ()))
theorem Q72_L1_run (N : Nat) (kx : Y1 → Int → Int → Y0 → Y1 → Option Y7) (plan2 : Nat → Y1) (sum1 : Nat → Int) (s1 : Nat → Int) (t : Nat → Int) (c2 : Nat → Y0) (stocks1 : Nat → Y1) (n_ : Nat) {res_ : Option Y7} (hstep_ : ∀ j_, j_ < n_ → ∀ kx_, Q72_B1 N kx kx_ (plan2 j_) (sum1 j_) (s1 j_) (t j_) (c2 j_) (stocks1 j_) = kx_ (plan2 (j_ + 1)) (sum1 (j_ + 1)) (s1 (j_ + 1)) (t (j_ + 1)) (c2 (j_ + 1)) (stocks1 (j_ + 1))) (hend_ : ∀ kx_, Q72_B1 N kx kx_ (plan2 n_) (sum1 n_) (s1 n_) (t n_) (c2 n_) (stocks1 n_) = res_) (fu_ : Nat) (hm_ : n_ < fu_) : Q72_L1 N fu_ kx (plan2 0) (sum1 0) (s1 0) (t 0) (c2 0) (stocks1 0) = res_ := by
  exact loop_run (L := fun fu_ (x_ : Y1 × Int × Int × Int × Y0 × Y1) => Q72_L1 N fu_ kx x_.1 x_.2.1 x_.2.2.1 x_.2.2.2.1 x_.2.2.2.2.1 x_.2.2.2.2.2) (B := fun kx_ x_ => Q72_B1 N kx (fun plan2 sum1 s1 t c2 stocks1 => kx_ (plan2, sum1, s1, t, c2, stocks1)) x_.1 x_.2.1 x_.2.2.1 x_.2.2.2.1 x_.2.2.2.2.1 x_.2.2.2.2.2) (fun _ _ => rfl) (fun j_ => (plan2 j_, sum1 j_, s1 j_, t j_, c2 j_, stocks1 j_)) n_ (fun j_ hi_ kx_ => hstep_ j_ hi_ _) (fun kx_ => hend_ _) fu_ hm_
def Q72_K2 (N : Nat) (sum3 : Int) : Option Y7 :=
  some (sum3, ())
def Q72_B2 (N : Nat) (kx : Y1 → Int → Int → Y0 → Y1 → Option Y7) (plan1 : List (List Int)) (sum : Int) (s : Int) (c1 : (List Int) × (List Int) × (List Int)) (stocks : List (List Int)) : Option Y7 :=
  bif ilt s (len plan1) then
    Q72_L1 N N kx plan1 sum s 0 c1 stocks
  else
    Q72_K2 N sum
def Q72_L2 (N fu_ : Nat) (plan1 : List (List Int)) (sum : Int) (s : Int) (c1 : (List Int) × (List Int) × (List Int)) (stocks : List (List Int)) : Option Y7 :=
  iterK fu_ (fun kx (v_ : (Y1 × Int × Int × Unit) × Y17) => Q72_B2 N (fun plan1 sum s c1 stocks => kx ((plan1, sum, s, ()), (c1, stocks, ()))) v_.1.1 v_.1.2.1 v_.1.2.2.1 v_.2.1 v_.2.2.1) ((plan1, sum, s, ()), (c1, stocks, ()))
theorem Q72_L2_run (N : Nat) (plan1 : Nat → Y1) (sum : Nat → Int) (s : Nat → Int) (c1 : Nat → Y0) (stocks : Nat → Y1) (n_ : Nat) {res_ : Option Y7} (hstep_ : ∀ j_, j_ < n_ → ∀ kx_, Q72_B2 N kx_ (plan1 j_) (sum j_) (s j_) (c1 j_) (stocks j_) = kx_ (plan1 (j_ + 1)) (sum (j_ + 1)) (s (j_ + 1)) (c1 (j_ + 1)) (stocks (j_ + 1))) (hend_ : ∀ kx_, Q72_B2 N kx_ (plan1 n_) (sum n_) (s n_) (c1 n_) (stocks n_) = res_) (fu_ : Nat) (hm_ : n_ < fu_) : Q72_L2 N fu_ (plan1 0) (sum 0) (s 0) (c1 0) (stocks 0) = res_ := by
  exact loop_run (L := fun fu_ (x_ : Y1 × Int × Int × Y0 × Y1) => Q72_L2 N fu_ x_.1 x_.2.1 x_.2.2.1 x_.2.2.2.1 x_.2.2.2.2) (B := fun kx_ x_ => Q72_B2 N (fun plan1 sum s c1 stocks => kx_ (plan1, sum, s, c1, stocks)) x_.1 x_.2.1 x_.2.2.1 x_.2.2.2.1 x_.2.2.2.2) (fun _ _ => rfl) (fun j_ => (plan1 j_, sum j_, s j_, c1 j_, stocks j_)) n_ (fun j_ hi_ kx_ => hstep_ j_ hi_ _) (fun kx_ => hend_ _) fu_ hm_
def Q72 (N : Nat) (c : (List Int) × (List Int) × (List Int)) (plan : List (List Int)) : Option Y7 :=
  (Q80 N c plan).bind fun r =>
  Q72_L2 N N plan 0 0 c r.1
def Q45 (N : Nat) (c : (List Int) × (List Int) × (List Int)) (plan : List (List Int)) : Option Y13 :=
  (Q81 N c plan).bind fun r =>
  bif !r.1 then
    some ((0, false), ())
  else
    (Q72 N c plan).bind fun r1 =>
    some ((r1.1, true), ())
def Q10 (N : Nat) (c : (List Int) × (List Int) × (List Int)) (plan : List (List Int)) : Option Y5 :=
  (Q25 N c plan).bind fun r =>
  some ((r.1.1, r.1.2), ())
def Q46 (N : Nat) (c : (List Int) × (List Int) × (List Int)) (plan : List (List Int)) : Option Y5 :=
  (Q81 N c plan).bind fun r =>
  bif !r.1 then
    some (([], false), ())
  else
    (Q80 N c plan).bind fun r1 =>
    some ((r1.1, true), ())
def Q18_K1 (N : Nat) (kx : Int → Y12 → Option Y5) (stage2 : Int) (b142 : Y1 × Bool) : Option Y5 :=
  kx (isub .i64 stage2 1) b142
def Q18_B1 (N : Nat) (kx : Int → Y12 → Option Y5) (kx1 : Int → Nat → Int → Int → Y12 → Option Y5) (stage1 : Int) (v30i : Nat) (v31 : Int) (v32 : Int) (b141 : Y1 × Bool) : Option Y5 :=
  bif ilt v32 v31 then
    chk (inB v32 (gd b141.1 v30i []).length) <|
    chk (inB stage1 b141.1.length) <|
    chk (inB v32 (gd b141.1 stage1.toNat []).length) <|
    chk (inB v32 (gd b141.1 stage1.toNat []).length) <|
    kx1 stage1 v30i v31 (iadd .i64 v32 1) (List.set b141.1 stage1.toNat (List.set (gd b141.1 stage1.toNat []) v32.toNat (iadd .i64 (gd (gd b141.1 stage1.toNat []) v32.toNat 0) (gd (gd b141.1 v30i []) v32.toNat 0))), b141.2)
  else
    Q18_K1 N kx stage1 b141
def Q18_L1 (N fu_ : Nat) (kx : Int → Y12 → Option Y5) (stage1 : Int) (v30i : Nat) (v31 : Int) (v32 : Int) (b141 : Y1 × Bool) : Option Y5 :=
  iterK fu_ (fun kx1 (v_ : (Int × Nat × Int × Int × Unit) × Y5) => Q18_B1 N kx (fun stage1 v30i v31 v32 b141 => kx1 ((stage1, v30i, v31, v32, ()), (b141, ()))) v_.1.1 v_.1.2.1 v_.1.2.2.1 v_.1.2.2.2.1 v_.2.1) ((stage1, v30i, v31, v32, ()), (b141, ()))
theorem Q18_L1_run (N : Nat) (kx : Int → Y12 → Option Y5) (stage1 : Nat → Int) (v30i : Nat → Nat) (v31 : Nat → Int) (v32 : Nat → Int) (b141 : Nat → Y12) (n_ : Nat) {res_ : Option Y5} (hstep_ : ∀ j_, j_ < n_ → ∀ kx_, Q18_B1 N kx kx_ (stage1 j_) (v30i j_) (v31 j_) (v32 j_) (b141 j_) = kx_ (stage1 (j_ + 1)) (v30i (j_ + 1)) (v31 (j_ + 1)) (v32 (j_ + 1)) (b141 (j_ + 1))) (hend_ : ∀ kx_, Q18_B1 N kx kx_ (stage1 n_) (v30i n_) (v31 n_) (v32 n_) (b141 n_) = res_) (fu_ : Nat) (hm_ : n_ < fu_) : Q18_L1 N fu_ kx (stage1 0) (v30i 0) (v31 0) (v32 0) (b141 0) = res_ := by
  exact loop_run (L := fun fu_ (x_ : Int × Nat × Int × Int × Y12) => Q18_L1 N fu_ kx x_.1 x_.2.1 x_.2.2.1 x_.2.2.2.1 x_.2.2.2.2) (B := fun kx_ x_ => Q18_B1 N kx (fun stage1 v30i v31 v32 b141 => kx_ (stage1, v30i, v31, v32, b141)) x_.1 x_.2.1 x_.2.2.1 x_.2.2.2.1 x_.2.2.2.2) (fun _ _ => rfl) (fun j_ => (stage1 j_, v30i j_, v31 j_, v32 j_, b141 j_)) n_ (fun j_ hi_ kx_ => hstep_ j_ hi_ _) (fun kx_ => hend_ _) fu_ hm_
def Q18_K2 (N : Nat) (b143 : Y1 × Bool) : Option Y5 :=
  some ((b143.1, true), ())
def Q18_B2 (N : Nat) (kx : Int → Y12 → Option Y5) (stage : Int) (b14 : Y1 × Bool) : Option Y5 :=
  bif ile 0 stage then
    chk (inB (iadd .i64 stage 1) b14.1.length) <|
    Q18_L1 N N kx stage (iadd .i64 stage 1).toNat (len (gd b14.1 (iadd .i64 stage 1).toNat [])) 0 b14
  else
    Q18_K2 N b14
def Q18_L2 (N fu_ : Nat) (stage : Int) (b14 : Y1 × Bool) : Option Y5 :=
  iterK fu_ (fun kx (v_ : Y7 × Y5) => Q18_B2 N (fun stage b14 => kx ((stage, ()), (b14, ()))) v_.1.1 v_.2.1) ((stage, ()), (b14, ()))
theorem Q18_L2_run (N : Nat) (stage : Nat → Int) (b14 : Nat → Y12) (n_ : Nat) {res_ : Option Y5} (hstep_ : ∀ j_, j_ < n_ → ∀ kx_, Q18_B2 N kx_ (stage j_) (b14 j_) = kx_ (stage (j_ + 1)) (b14 (j_ + 1))) (hend_ : ∀ kx_, Q18_B2 N kx_ (stage n_) (b14 n_) = res_) (fu_ : Nat) (hm_ : n_ < fu_) : Q18_L2 N fu_ (stage 0) (b14 0) = res_ := by
  exact loop_run (L := fun fu_ (x_ : Int × Y12) => Q18_L2 N fu_ x_.1 x_.2) (B := fun kx_ x_ => Q18_B2 N (fun stage b14 => kx_ (stage, b14)) x_.1 x_.2) (fun _ _ => rfl) (fun j_ => (stage j_, b14 j_)) n_ (fun j_ hi_ kx_ => hstep_ j_ hi_ _) (fun kx_ => hend_ _) fu_ hm_
def Q18 (N : Nat) (c : (List Int) × (List Int) × (List Int)) (plan : List (List Int)) : Option Y5 :=
  (Q25 N c plan).bind fun r =>
  bif !r.1.2 then
    some (([], false), ())
  else
    Q18_L2 N N (isub .i64 (len r.1.1) 2) r.1
def Q50_K1 (N : Nat) (kx : Int → Y0 → Y1 → Option Y5) (s2 : Int) (c3 : (List Int) × (List Int) × (List Int)) (out2 : List (List Int)) : Option Y5 :=
  kx (isub .i64 s2 1) c3 out2
def Q50_B1 (N : Nat) (kx : Int → Y0 → Y1 → Option Y5) (kx1 : Int → Int → Y0 → Y1 → Option Y5) (s1 : Int) (t : Int) (c2 : (List Int) × (List Int) × (List Int)) (out1 : List (List Int)) : Option Y5 :=
  bif ilt t (len c2.1) then
    chk (inB s1 out1.length) <|
    chk (inB s1 out1.length) <|
    chk (inB t (gd out1 s1.toNat []).length) <|
    chk (inB (iadd .i64 s1 1) out1.length) <|
    chk (inB t (gd out1 (iadd .i64 s1 1).toNat []).length) <|
    chk (inB t (gd out1 s1.toNat []).length) <|
    kx1 s1 (iadd .i64 t 1) c2 (List.set out1 s1.toNat (List.set (gd out1 s1.toNat []) t.toNat (iadd .i64 (gd (gd out1 s1.toNat []) t.toNat 0) (gd (gd out1 (iadd .i64 s1 1).toNat []) t.toNat 0))))
  else
    Q50_K1 N kx s1 c2 out1
def Q50_L1 (N fu_ : Nat) (kx : Int → Y0 → Y1 → Option Y5) (s1 : Int) (t : Int) (c2 : (List Int) × (List Int) × (List Int)) (out1 : List (List Int)) : Option Y5 :=
  iterK fu_ (fun kx1 (v_ : Y20 × Y17) => Q50_B1 N kx (fun s1 t c2 out1 => kx1 ((s1, t, ()), (c2, out1, ()))) v_.1.1 v_.1.2.1 v_.2.1 v_.2.2.1) ((s1, t, ()), (c2, out1, ()))
theorem Q50_L1_run (N : Nat) (kx : Int → Y0 → Y1 → Option Y5) (s1 : Nat → Int) (t : Nat → Int) (c2 : Nat → Y0) (out1 : Nat → Y1) (n_ : Nat) {res_ : Option Y5} (hstep_ : ∀ j_, j_ < n_ → ∀ kx_, Q50_B1 N kx kx_ (s1 j_) (t j_) (c2 j_) (out1 j_) = kx_ (s1 (j_ + 1)) (t (j_ + 1)) (c2 (j_ + 1)) (out1 (j_ + 1))) (hend_ : ∀ kx_, Q50_B1 N kx kx_ (s1 n_) (t n_) (c2 n_) (out1 n_) = res_) (fu_ : Nat) (hm_ : n_ < fu_) : Q50_L1 N fu_ kx (s1 0) (t 0) (c2 0) (out1 0) = res_ := by
  exact loop_run (L := fun fu_ (x_ : Int × Int × Y0 × Y1) => Q50_L1 N fu_ kx x_.1 x_.2.1 x_.2.2.1 x_.2.2.2) (B := fun kx_ x_ => Q50_B1 N kx (fun s1 t c2 out1 => kx_ (s1, t, c2, out1)) x_.1 x_.2.1 x_.2.2.1 x_.2.2.2) (fun _ _ => rfl) (fun j_ => (s1 j_, t j_, c2 j_, out1 j_)) n_ (fun j_ hi_ kx_ => hstep_ j_ hi_ _) (fun kx_ => hend_ _) fu_ hm_
def Q50_K2 (N : Nat) (out3 : List (List Int)) : Option Y5 :=
  some ((out3, true), ())
def Q50_B2 (N : Nat) (kx : Int → Y0 → Y1 → Option Y5) (s : Int) (c1 : (List Int) × (List Int) × (List Int)) (out : List (List Int)) : Option Y5 :=
  bif ile 0 s then
    Q50_L1 N N kx s 0 c1 out
  else
    Q50_K2 N out
def Q50_L2 (N fu_ : Nat) (s : Int) (c1 : (List Int) × (List Int) × (List Int)) (out : List (List Int)) : Option Y5 :=
  iterK fu_ (fun kx (v_ : Y7 × Y17) => Q50_B2 N (fun s c1 out => kx ((s, ()), (c1, out, ()))) v_.1.1 v_.2.1 v_.2.2.1) ((s, ()), (c1, out, ()))
theorem Q50_L2_run (N : Nat) (s : Nat → Int) (c1 : Nat → Y0) (out : Nat → Y1) (n_ : Nat) {res_ : Option Y5} (hstep_ : ∀ j_, j_ < n_ → ∀ kx_, Q50_B2 N kx_ (s j_) (c1 j_) (out j_) = kx_ (s (j_ + 1)) (c1 (j_ + 1)) (out (j_ + 1))) (hend_ : ∀ kx_, Q50_B2 N kx_ (s n_) (c1 n_) (out n_) = res_) (fu_ : Nat) (hm_ : n_ < fu_) : Q50_L2 N fu_ (s 0) (c1 0) (out 0) = res_ := by
  exact loop_run (L := fun fu_ (x_ : Int × Y0 × Y1) => Q50_L2 N fu_ x_.1 x_.2.1 x_.2.2) (B := fun kx_ x_ => Q50_B2 N (fun s c1 out => kx_ (s, c1, out)) x_.1 x_.2.1 x_.2.2) (fun _ _ => rfl) (fun j_ => (s j_, c1 j_, out j_)) n_ (fun j_ hi_ kx_ => hstep_ j_ hi_ _) (fun kx_ => hend_ _) fu_ hm_
def Q50 (N : Nat) (c : (List Int) × (List Int) × (List Int)) (plan : List (List Int)) : Option Y5 :=
  (Q81 N c plan).bind fun r =>
  bif !r.1 then
    some (([], false), ())
  else
    (Q80 N c plan).bind fun r1 =>
    Q50_L2 N N (isub .i64 (len r1.1) 2) c r1.1
def Q14_K1 (N : Nat) (out1 : List Int) : Option Y6 :=
  some (out1, ())
def Q14_B1 (N : Nat) (kx : Int → (List Int) → Int → Int → (List Int) → Option Y6) (before : Int) (v9 : List Int) (v10 : Int) (v11 : Int) (out : List Int) : Option Y6 :=
  bif ilt v11 v10 then
    chk (inB v11 v9.length) <|
    chk (fitB (out.length + 1) 8) <|
    kx (gd v9 v11.toNat 0) v9 v10 (iadd .i64 v11 1) (out ++ [isub .i64 (gd v9 v11.toNat 0) before])
  else
    Q14_K1 N out
def Q14_L1 (N fu_ : Nat) (before : Int) (v9 : List Int) (v10 : Int) (v11 : Int) (out : List Int) : Option Y6 :=
  iterK fu_ (fun kx (v_ : (Int × (List Int) × Int × Int × Unit) × Y6) => Q14_B1 N (fun before v9 v10 v11 out => kx ((before, v9, v10, v11, ()), (out, ()))) v_.1.1 v_.1.2.1 v_.1.2.2.1 v_.1.2.2.2.1 v_.2.1) ((before, v9, v10, v11, ()), (out, ()))
theorem Q14_L1_run (N : Nat) (before : Nat → Int) (v9 : Nat → (List Int)) (v10 : Nat → Int) (v11 : Nat → Int) (out : Nat → (List Int)) (n_ : Nat) {res_ : Option Y6} (hstep_ : ∀ j_, j_ < n_ → ∀ kx_, Q14_B1 N kx_ (before j_) (v9 j_) (v10 j_) (v11 j_) (out j_) = kx_ (before (j_ + 1)) (v9 (j_ + 1)) (v10 (j_ + 1)) (v11 (j_ + 1)) (out (j_ + 1))) (hend_ : ∀ kx_, Q14_B1 N kx_ (before n_) (v9 n_) (v10 n_) (v11 n_) (out n_) = res_) (fu_ : Nat) (hm_ : n_ < fu_) : Q14_L1 N fu_ (before 0) (v9 0) (v10 0) (v11 0) (out 0) = res_ := by
  exact loop_run (L := fun fu_ (x_ : Int × (List Int) × Int × Int × (List Int)) => Q14_L1 N fu_ x_.1 x_.2.1 x_.2.2.1 x_.2.2.2.1 x_.2.2.2.2) (B := fun kx_ x_ => Q14_B1 N (fun before v9 v10 v11 out => kx_ (before, v9, v10, v11, out)) x_.1 x_.2.1 x_.2.2.1 x_.2.2.2.1 x_.2.2.2.2) (fun _ _ => rfl) (fun j_ => (before j_, v9 j_, v10 j_, v11 j_, out j_)) n_ (fun j_ hi_ kx_ => hstep_ j_ hi_ _) (fun kx_ => hend_ _) fu_ hm_
def Q14 (N : Nat) (c : (List Int) × (List Int) × (List Int)) : Option Y6 :=
  Q14_L1 N N 0 c.2.2 (len c.2.2) 0 []
def Q17 (N : Nat) (c : (List Int) × (List Int) × (List Int)) : Option Y10 :=
  (Q19 N c).bind fun r =>
  bif !r.1 then
    some (([], false), ())
  else
    (Q14 N c).bind fun r1 =>
    some ((r1.1, true), ())
def Q73 (N : Nat) (c : (List Int) × (List Int) × (List Int)) (stage : Int) : Option Y7 :=
  bif ieq stage 0 then
    chk (inB 0 c.2.2.length) <|
    some (gd c.2.2 0 0, ())
  else
    chk (inB stage c.2.2.length) <|
    chk (inB (isub .i64 stage 1) c.2.2.length) <|
    some (isub .i64 (gd c.2.2 stage.toNat 0) (gd c.2.2 (isub .i64 stage 1).toNat 0), ())
def Q49_K1 (N : Nat) (out1 : List Int) : Option Y10 :=
  some ((out1, true), ())
def Q49_B1 (N : Nat) (kx : Int → Y0 → (List Int) → Option Y10) (s : Int) (c1 : (List Int) × (List Int) × (List Int)) (out : List Int) : Option Y10 :=
  bif ilt s (len c1.2.2) then
    (Q73 N c1 s).bind fun r1 =>
    chk (fitB (out.length + 1) 8) <|
    kx (iadd .i64 s 1) c1 (out ++ [r1.1])
  else
    Q49_K1 N out
def Q49_L1 (N fu_ : Nat) (s : Int) (c1 : (List Int) × (List Int) × (List Int)) (out : List Int) : Option Y10 :=
  iterK fu_ (fun kx (v_ : Y7 × (Y0 × (List Int) × Unit)) => Q49_B1 N (fun s c1 out => kx ((s, ()), (c1, out, ()))) v_.1.1 v_.2.1 v_.2.2.1) ((s, ()), (c1, out, ()))
theorem Q49_L1_run (N : Nat) (s : Nat → Int) (c1 : Nat → Y0) (out : Nat → (List Int)) (n_ : Nat) {res_ : Option Y10} (hstep_ : ∀ j_, j_ < n_ → ∀ kx_, Q49_B1 N kx_ (s j_) (c1 j_) (out j_) = kx_ (s (j_ + 1)) (c1 (j_ + 1)) (out (j_ + 1))) (hend_ : ∀ kx_, Q49_B1 N kx_ (s n_) (c1 n_) (out n_) = res_) (fu_ : Nat) (hm_ : n_ < fu_) : Q49_L1 N fu_ (s 0) (c1 0) (out 0) = res_ := by
  exact loop_run (L := fun fu_ (x_ : Int × Y0 × (List Int)) => Q49_L1 N fu_ x_.1 x_.2.1 x_.2.2) (B := fun kx_ x_ => Q49_B1 N (fun s c1 out => kx_ (s, c1, out)) x_.1 x_.2.1 x_.2.2) (fun _ _ => rfl) (fun j_ => (s j_, c1 j_, out j_)) n_ (fun j_ hi_ kx_ => hstep_ j_ hi_ _) (fun kx_ => hend_ _) fu_ hm_
def Q49 (N : Nat) (c : (List Int) × (List Int) × (List Int)) : Option Y10 :=
  (Q75 N c).bind fun r =>
  bif !r.1 then
    some (([], false), ())
  else
    Q49_L1 N N 0 c []
def Q20 (N : Nat) (c : (List Int) × (List Int) × (List Int)) (plan : List (List Int)) : Option Y8 :=
  (Q19 N c).bind fun r =>
  bif !r.1 then
    some ((false, false), ())
  else
    (Q16 N c plan).bind fun r1 =>
    some ((r1.1.2, true), ())
def Q52 (N : Nat) (c : (List Int) × (List Int) × (List Int)) (plan : List (List Int)) : Option Y8 :=
  (Q75 N c).bind fun r =>
  bif !r.1 then
    some ((false, false), ())
  else
    (Q78 N c plan).bind fun r1 =>
    some ((r1.1, true), ())
def Q21_K1 (N : Nat) (kx : Y1 → Int → Option Y8) (plan3 : List (List Int)) (stage2 : Int) : Option Y8 :=
  kx plan3 (iadd .i64 stage2 1)
def Q21_B1 (N : Nat) (kx : Y1 → Int → Option Y8) (kx1 : Y1 → Int → (List Int) → Int → Int → Option Y8) (plan2 : List (List Int)) (stage1 : Int) (v29 : List Int) (v30 : Int) (v31 : Int) : Option Y8 :=
  bif ilt v31 v30 then
    chk (inB v31 v29.length) <|
    bif ilt 0 (gd v29 v31.toNat 0) then
      chk (inB stage1 plan2.length) <|
      chk (inB v31 (gd plan2 stage1.toNat []).length) <|
      bif ieq (gd (gd plan2 stage1.toNat []) v31.toNat 0) 0 then
        some ((false, true), ())
      else
        kx1 plan2 stage1 v29 v30 (iadd .i64 v31 1)
    else
      kx1 plan2 stage1 v29 v30 (iadd .i64 v31 1)
  else
    Q21_K1 N kx plan2 stage1
def Q21_L1 (N fu_ : Nat) (kx : Y1 → Int → Option Y8) (plan2 : List (List Int)) (stage1 : Int) (v29 : List Int) (v30 : Int) (v31 : Int) : Option Y8 :=
  iterK fu_ (fun kx1 (v_ : (Y1 × Int × (List Int) × Int × Int × Unit) × (Unit)) => Q21_B1 N kx (fun plan2 stage1 v29 v30 v31 => kx1 ((plan2, stage1, v29, v30, v31, ()), ())) v_.1.1 v_.1.2.1 v_.1.2.2.1 v_.1.2.2.2.1 v_.1.2.2.2.2.1) ((plan2, stage1, v29, v30, v31, ()), ())
theorem Q21_L1_run (N : Nat) (kx : Y1 → Int → Option Y8) (plan2 : Nat → Y1) (stage1 : Nat → Int) (v29 : Nat → (List Int)) (v30 : Nat → Int) (v31 : Nat → Int) (n_ : Nat) {res_ : Option Y8} (hstep_ : ∀ j_, j_ < n_ → ∀ kx_, Q21_B1 N kx kx_ (plan2 j_) (stage1 j_) (v29 j_) (v30 j_) (v31 j_) = kx_ (plan2 (j_ + 1)) (stage1 (j_ + 1)) (v29 (j_ + 1)) (v30 (j_ + 1)) (v31 (j_ + 1))) (hend_ : ∀ kx_, Q21_B1 N kx kx_ (plan2 n_) (stage1 n_) (v29 n_) (v30 n_) (v31 n_) = res_) (fu_ : Nat) (hm_ : n_ < fu_) : Q21_L1 N fu_ kx (plan2 0) (stage1 0) (v29 0) (v30 0) (v31 0) = res_ := by
  exact loop_run (L := fun fu_ (x_ : Y1 × Int × (List Int) × Int × Int) => Q21_L1 N fu_ kx x_.1 x_.2.1 x_.2.2.1 x_.2.2.2.1 x_.2.2.2.2) (B := fun kx_ x_ => Q21_B1 N kx (fun plan2 stage1 v29 v30 v31 => kx_ (plan2, stage1, v29, v30, v31)) x_.1 x_.2.1 x_.2.2.1 x_.2.2.2.1 x_.2.2.2.2) (fun _ _ => rfl) (fun j_ => (plan2 j_, stage1 j_, v29 j_, v30 j_, v31 j_)) n_ (fun j_ hi_ kx_ => hstep_ j_ hi_ _) (fun kx_ => hend_ _) fu_ hm_
def Q21_K2 (N : Nat) : Option Y8 :=
  some ((true, true), ())
def Q21_B2 (N : Nat) (kx : Y1 → Int → Option Y8) (plan1 : List (List Int)) (stage : Int) : Option Y8 :=
  bif ilt stage (len plan1) then
    chk (inB (isub .i64 stage 1) plan1.length) <|
    Q21_L1 N N kx plan1 stage (gd plan1 (isub .i64 stage 1).toNat []) (len (gd plan1 (isub .i64 stage 1).toNat [])) 0
  else
    Q21_K2 N
def Q21_L2 (N fu_ : Nat) (plan1 : List (List Int)) (stage : Int) : Option Y8 :=
  iterK fu_ (fun kx (v_ : (Y1 × Int × Unit) × (Unit)) => Q21_B2 N (fun plan1 stage => kx ((plan1, stage, ()), ())) v_.1.1 v_.1.2.1) ((plan1, stage, ()), ())
theorem Q21_L2_run (N : Nat) (plan1 : Nat → Y1) (stage : Nat → Int) (n_ : Nat) {res_ : Option Y8} (hstep_ : ∀ j_, j_ < n_ → ∀ kx_, Q21_B2 N kx_ (plan1 j_) (stage j_) = kx_ (plan1 (j_ + 1)) (stage (j_ + 1))) (hend_ : ∀ kx_, Q21_B2 N kx_ (plan1 n_) (stage n_) = res_) (fu_ : Nat) (hm_ : n_ < fu_) : Q21_L2 N fu_ (plan1 0) (stage 0) = res_ := by
  exact loop_run (L := fun fu_ (x_ : Y1 × Int) => Q21_L2 N fu_ x_.1 x_.2) (B := fun kx_ x_ => Q21_B2 N (fun plan1 stage => kx_ (plan1, stage)) x_.1 x_.2) (fun _ _ => rfl) (fun j_ => (plan1 j_, stage j_)) n_ (fun j_ hi_ kx_ => hstep_ j_ hi_ _) (fun kx_ => hend_ _) fu_ hm_
def Q21 (N : Nat) (c : (List Int) × (List Int) × (List Int)) (plan : List (List Int)) : Option Y8 :=
  (Q25 N c plan).bind fun r =>
  bif !r.1.2 then
    some ((false, false), ())
  else
    Q21_L2 N N plan 1
def Q53_K1 (N : Nat) (kx : Y1 → Int → Y0 → Option Y8) (plan3 : List (List Int)) (s2 : Int) (c3 : (List Int) × (List Int) × (List Int)) : Option Y8 :=
  kx plan3 (iadd .i64 s2 1) c3
def Q53_B1 (N : Nat) (kx : Y1 → Int → Y0 → Option Y8) (kx1 : Y1 → Int → Int → Y0 → Option Y8) (plan2 : List (List Int)) (s1 : Int) (t : Int) (c2 : (List Int) × (List Int) × (List Int)) : Option Y8 :=
  bif ilt t (len c2.1) then
    chk (inB s1 plan2.length) <|
    chk (inB t (gd plan2 s1.toNat []).length) <|
    bif ilt 0 (gd (gd plan2 s1.toNat []) t.toNat 0) then
      chk (inB (iadd .i64 s1 1) plan2.length) <|
      chk (inB t (gd plan2 (iadd .i64 s1 1).toNat []).length) <|
      bif ieq (gd (gd plan2 (iadd .i64 s1 1).toNat []) t.toNat 0) 0 then
        some ((false, true), ())
      else
        kx1 plan2 s1 (iadd .i64 t 1) c2
    else
      kx1 plan2 s1 (iadd .i64 t 1) c2
  else
    Q53_K1 N kx plan2 s1 c2
def Q53_L1 (N fu_ : Nat) (kx : Y1 → Int → Y0 → Option Y8) (plan2 : List (List Int)) (s1 : Int) (t : Int) (c2 : (List Int) × (List Int) × (List Int)) : Option Y8 :=
  iterK fu_ (fun kx1 (v_ : (Y1 × Int × Int × Unit) × (Y0 × Unit)) => Q53_B1 N kx (fun plan2 s1 t c2 => kx1 ((plan2, s1, t, ()), (c2, ()))) v_.1.1 v_.1.2.1 v_.1.2.2.1 v_.2.1) ((plan2, s1, t, ()), (c2, ()))
theorem Q53_L1_run (N : Nat) (kx : Y1 → Int → Y0 → Option Y8) (plan2 : Nat → Y1) (s1 : Nat → Int) (t : Nat → Int) (c2 : Nat → Y0) (n_ : Nat) {res_ : Option Y8} (hstep_ : ∀ j_, j_ < n_ → ∀ kx_, Q53_B1 N kx kx_ (plan2 j_) (s1 j_) (t j_) (c2 j_) = kx_ (plan2 (j_ + 1)) (s1 (j_ + 1)) (t (j_ + 1)) (c2 (j_ + 1))) (hend_ : ∀ kx_, Q53_B1 N kx kx_ (plan2 n_) (s1 n_) (t n_) (c2 n_) = res_) (fu_ : Nat) (hm_ : n_ < fu_) : Q53_L1 N fu_ kx (plan2 0) (s1 0) (t 0) (c2 0) = res_ := by
  exact loop_run (L := fun fu_ (x_ : Y1 × Int × Int × Y0) => Q53_L1 N fu_ kx x_.1 x_.2.1 x_.2.2.1 x_.2.2.2) (B := fun kx_ x_ => Q53_B1 N kx (fun plan2 s1 t c2 => kx_ (plan2, s1, t, c2)) x_.1 x_.2.1 x_.2.2.1 x_.2.2.2) (fun _ _ => rfl) (fun j_ => (plan2 j_, s1 j_, t j_, c2 j_)) n_ (fun j_ hi_ kx_ => hstep_ j_ hi_ _) (fun kx_ => hend_ _) fu_ hm_
def Q53_K2 (N : Nat) : Option Y8 :=
  some ((true, true), ())
def Q53_B2 (N : Nat) (kx : Y1 → Int → Y0 → Option Y8) (plan1 : List (List Int)) (s : Int) (c1 : (List Int) × (List Int) × (List Int)) : Option Y8 :=
  bif ilt (iadd .i64 s 1) (len plan1) then
    Q53_L1 N N kx plan1 s 0 c1
  else
    Q53_K2 N
def Q53_L2 (N fu_ : Nat) (plan1 : List (List Int)) (s : Int) (c1 : (List Int) × (List Int) × (List Int)) : Option Y8 :=
  iterK fu_ (fun kx (v_ : (Y1 × Int × Unit) × (Y0 × Unit)) => Q53_B2 N (fun plan1 s c1 => kx ((plan1, s, ()), (c1, ()))) v_.1.1 v_.1.2.1 v_.2.1) ((plan1, s, ()), (c1, ()))
theorem Q53_L2_run (N : Nat) (plan1 : Nat → Y1) (s : Nat → Int) (c1 : Nat → Y0) (n_ : Nat) {res_ : Option Y8} (hstep_ : ∀ j_, j_ < n_ → ∀ kx_, Q53_B2 N kx_ (plan1 j_) (s j_) (c1 j_) = kx_ (plan1 (j_ + 1)) (s (j_ + 1)) (c1 (j_ + 1))) (hend_ : ∀ kx_, Q53_B2 N kx_ (plan1 n_) (s n_) (c1 n_) = res_) (fu_ : Nat) (hm_ : n_ < fu_) : Q53_L2 N fu_ (plan1 0) (s 0) (c1 0) = res_ := by
  exact loop_run (L := fun fu_ (x_ : Y1 × Int × Y0) => Q53_L2 N fu_ x_.1 x_.2.1 x_.2.2) (B := fun kx_ x_ => Q53_B2 N (fun plan1 s c1 => kx_ (plan1, s, c1)) x_.1 x_.2.1 x_.2.2) (fun _ _ => rfl) (fun j_ => (plan1 j_, s j_, c1 j_)) n_ (fun j_ hi_ kx_ => hstep_ j_ hi_ _) (fun kx_ => hend_ _) fu_ hm_
def Q53 (N : Nat) (c : (List Int) × (List Int) × (List Int)) (plan : List (List Int)) : Option Y8 :=
  (Q81 N c plan).bind fun r =>
  bif !r.1 then
    some ((false, false), ())
  else
    Q53_L2 N N plan 0 c
def Q30_K1 (N : Nat) : Option Y4 :=
  some (true, ())
def Q30_B1 (N : Nat) (kx : (List Int) → (List Int) → Int → Option Y4) (a1 : List Int) (b1 : List Int) (i : Int) : Option Y4 :=
  bif ilt i (len a1) then
    chk (inB i a1.length) <|
    chk (inB i b1.length) <|
    bif ine (gd a1 i.toNat 0) (gd b1 i.toNat 0) then
      some (false, ())
    else
      kx a1 b1 (iadd .i64 i 1)
  else
    Q30_K1 N
def Q30_L1 (N fu_ : Nat) (a1 : List Int) (b1 : List Int) (i : Int) : Option Y4 :=
  iterK fu_ (fun kx (v_ : Y16 × (Unit)) => Q30_B1 N (fun a1 b1 i => kx ((a1, b1, i, ()), ())) v_.1.1 v_.1.2.1 v_.1.2.2.1) ((a1, b1, i, ()), ())
theorem Q30_L1_run (N : Nat) (a1 : Nat → (List Int)) (b1 : Nat → (List Int)) (i : Nat → Int) (n_ : Nat) {res_ : Option Y4} (hstep_ : ∀ j_, j_ < n_ → ∀ kx_, Q30_B1 N kx_ (a1 j_) (b1 j_) (i j_) = kx_ (a1 (j_ + 1)) (b1 (j_ + 1)) (i (j_ + 1))) (hend_ : ∀ kx_, Q30_B1 N kx_ (a1 n_) (b1 n_) (i n_) = res_) (fu_ : Nat) (hm_ : n_ < fu_) : Q30_L1 N fu_ (a1 0) (b1 0) (i 0) = res_ := by
  exact loop_run (L := fun fu_ (x_ : (List Int) × (List Int) × Int) => Q30_L1 N fu_ x_.1 x_.2.1 x_.2.2) (B := fun kx_ x_ => Q30_B1 N (fun a1 b1 i => kx_ (a1, b1, i)) x_.1 x_.2.1 x_.2.2) (fun _ _ => rfl) (fun j_ => (a1 j_, b1 j_, i j_)) n_ (fun j_ hi_ kx_ => hstep_ j_ hi_ _) (fun kx_ => hend_ _) fu_ hm_
def Q30 (N : Nat) (a : List Int) (b : List Int) : Option Y4 :=
  bif ine (len a) (len b) then
    some (false, ())
  else
    Q30_L1 N N a b 0
def Q32_K1 (N : Nat) : Option Y4 :=
  some (true, ())
def Q32_B1 (N : Nat) (kx : Y1 → Y1 → Int → Option Y4) (a1 : List (List Int)) (b1 : List (List Int)) (i : Int) : Option Y4 :=
  bif ilt i (len a1) then
    chk (inB i a1.length) <|
    chk (inB i b1.length) <|
    (Q30 N (gd a1 i.toNat []) (gd b1 i.toNat [])).bind fun r =>
    bif !r.1 then
      some (false, ())
    else
      kx a1 b1 (iadd .i64 i 1)
  else
    Q32_K1 N
def Q32_L1 (N fu_ : Nat) (a1 : List (List Int)) (b1 : List (List Int)) (i : Int) : Option Y4 :=
  iterK fu_ (fun kx (v_ : (Y1 × Y1 × Int × Unit) × (Unit)) => Q32_B1 N (fun a1 b1 i => kx ((a1, b1, i, ()), ())) v_.1.1 v_.1.2.1 v_.1.2.2.1) ((a1, b1, i, ()), ())
theorem Q32_L1_run (N : Nat) (a1 : Nat → Y1) (b1 : Nat → Y1) (i : Nat → Int) (n_ : Nat) {res_ : Option Y4} (hstep_ : ∀ j_, j_ < n_ → ∀ kx_, Q32_B1 N kx_ (a1 j_) (b1 j_) (i j_) = kx_ (a1 (j_ + 1)) (b1 (j_ + 1)) (i (j_ + 1))) (hend_ : ∀ kx_, Q32_B1 N kx_ (a1 n_) (b1 n_) (i n_) = res_) (fu_ : Nat) (hm_ : n_ < fu_) : Q32_L1 N fu_ (a1 0) (b1 0) (i 0) = res_ := by
  exact loop_run (L := fun fu_ (x_ : Y1 × Y1 × Int) => Q32_L1 N fu_ x_.1 x_.2.1 x_.2.2) (B := fun kx_ x_ => Q32_B1 N (fun a1 b1 i => kx_ (a1, b1, i)) x_.1 x_.2.1 x_.2.2) (fun _ _ => rfl) (fun j_ => (a1 j_, b1 j_, i j_)) n_ (fun j_ hi_ kx_ => hstep_ j_ hi_ _) (fun kx_ => hend_ _) fu_ hm_
def Q32 (N : Nat) (a : List (List Int)) (b : List (List Int)) : Option Y4 :=
  bif ine (len a) (len b) then
    some (false, ())
  else
    Q32_L1 N N a b 0
def Q31 (N : Nat) (a : List (List Int)) (b : List (List Int)) : Option Y4 :=
  (Q32 N a b).bind fun r =>
  some (r.1, ())
def Q51 (N : Nat) (c : (List Int) × (List Int) × (List Int)) : Option Y4 :=
  (Q75 N c).bind fun r =>
  some (r.1, ())
def Q28_K1 (N : Nat) (n1 : Int) : Option Y7 :=
  some (n1, ())
def Q28_B1 (N : Nat) (kx : (List Int) → Int → Int → Option Y7) (list1 : List Int) (n : Int) (i : Int) : Option Y7 :=
  bif ilt i (len list1) then
    chk (inB i list1.length) <|
    kx list1 (iadd .i64 n (gd list1 i.toNat 0)) (iadd .i64 i 1)
  else
    Q28_K1 N n
def Q28_L1 (N fu_ : Nat) (list1 : List Int) (n : Int) (i : Int) : Option Y7 :=
  iterK fu_ (fun kx (v_ : ((List Int) × Int × Int × Unit) × (Unit)) => Q28_B1 N (fun list1 n i => kx ((list1, n, i, ()), ())) v_.1.1 v_.1.2.1 v_.1.2.2.1) ((list1, n, i, ()), ())
theorem Q28_L1_run (N : Nat) (list1 : Nat → (List Int)) (n : Nat → Int) (i : Nat → Int) (n_ : Nat) {res_ : Option Y7} (hstep_ : ∀ j_, j_ < n_ → ∀ kx_, Q28_B1 N kx_ (list1 j_) (n j_) (i j_) = kx_ (list1 (j_ + 1)) (n (j_ + 1)) (i (j_ + 1))) (hend_ : ∀ kx_, Q28_B1 N kx_ (list1 n_) (n n_) (i n_) = res_) (fu_ : Nat) (hm_ : n_ < fu_) : Q28_L1 N fu_ (list1 0) (n 0) (i 0) = res_ := by
  exact loop_run (L := fun fu_ (x_ : (List Int) × Int × Int) => Q28_L1 N fu_ x_.1 x_.2.1 x_.2.2) (B := fun kx_ x_ => Q28_B1 N (fun list1 n i => kx_ (list1, n, i)) x_.1 x_.2.1 x_.2.2) (fun _ _ => rfl) (fun j_ => (list1 j_, n j_, i j_)) n_ (fun j_ hi_ kx_ => hstep_ j_ hi_ _) (fun kx_ => hend_ _) fu_ hm_
def Q28 (N : Nat) (list : List Int) : Option Y7 :=
  Q28_L1 N N list 0 0
def Q6_K1 (N : Nat) (kx : Int → Int → Int → Int → (List Int) → Int → Int → Y2 → Option Y14) (setups1 : Int) (units1 : Int) (holds1 : Int) (stock1 : Int) (i : Int) (amount : Int) (v131 : List Int) (v141 : Int) (v151 : Int) (c2 : (List Int) × (List Int) × (List Int) × (List Int)) : Option Y14 :=
  chk (inB i c2.2.2.1.length) <|
  chk (inB i c2.2.2.2.length) <|
  kx setups1 (iadd .i64 units1 (imul .i64 (gd c2.2.2.1 i.toNat 0) amount)) (iadd .i64 holds1 (imul .i64 (gd c2.2.2.2 i.toNat 0) stock1)) stock1 v131 v141 (iadd .i64 v151 1) c2
def Q6_K2 (N : Nat) (setups2 : Int) (units2 : Int) (holds2 : Int) : Option Y14 :=
  some ((setups2, (units2, holds2)), ())
def Q6_B1 (N : Nat) (kx : Int → Int → Int → Int → (List Int) → Int → Int → Y2 → Option Y14) (setups : Int) (units : Int) (holds : Int) (stock : Int) (v13 : List Int) (v14 : Int) (v15 : Int) (c1 : (List Int) × (List Int) × (List Int) × (List Int)) : Option Y14 :=
  bif ilt v15 v14 then
    chk (inB v15 v13.length) <|
    chk (inB v15 c1.1.length) <|
    bif ilt 0 (gd v13 v15.toNat 0) then
      chk (inB v15 c1.2.1.length) <|
      Q6_K1 N kx (iadd .i64 setups (gd c1.2.1 v15.toNat 0)) units holds (iadd .i64 stock (isub .i64 (gd v13 v15.toNat 0) (gd c1.1 v15.toNat 0))) v15 (gd v13 v15.toNat 0) v13 v14 v15 c1
    else
      Q6_K1 N kx setups units holds (iadd .i64 stock (isub .i64 (gd v13 v15.toNat 0) (gd c1.1 v15.toNat 0))) v15 (gd v13 v15.toNat 0) v13 v14 v15 c1
  else
    Q6_K2 N setups units holds
def Q6_L1 (N fu_ : Nat) (setups : Int) (units : Int) (holds : Int) (stock : Int) (v13 : List Int) (v14 : Int) (v15 : Int) (c1 : (List Int) × (List Int) × (List Int) × (List Int)) : Option Y14 :=
  iterK fu_ (fun kx (v_ : (Int × Int × Int × Int × (List Int) × Int × Int × Unit) × Y19) => Q6_B1 N (fun setups units holds stock v13 v14 v15 c1 => kx ((setups, units, holds, stock, v13, v14, v15, ()), (c1, ()))) v_.1.1 v_.1.2.1 v_.1.2.2.1 v_.1.2.2.2.1 v_.1.2.2.2.2.1 v_.1.2.2.2.2.2.1 v_.1.2.2.2.2.2.2.1 v_.2.1) ((setups, units, holds, stock, v13, v14, v15, ()), (c1, ()))
theorem Q6_L1_run (N : Nat) (setups : Nat → Int) (units : Nat → Int) (holds : Nat → Int) (stock : Nat → Int) (v13 : Nat → (List Int)) (v14 : Nat → Int) (v15 : Nat → Int) (c1 : Nat → Y2) (n_ : Nat) {res_ : Option Y14} (hstep_ : ∀ j_, j_ < n_ → ∀ kx_, Q6_B1 N kx_ (setups j_) (units j_) (holds j_) (stock j_) (v13 j_) (v14 j_) (v15 j_) (c1 j_) = kx_ (setups (j_ + 1)) (units (j_ + 1)) (holds (j_ + 1)) (stock (j_ + 1)) (v13 (j_ + 1)) (v14 (j_ + 1)) (v15 (j_ + 1)) (c1 (j_ + 1))) (hend_ : ∀ kx_, Q6_B1 N kx_ (setups n_) (units n_) (holds n_) (stock n_) (v13 n_) (v14 n_) (v15 n_) (c1 n_) = res_) (fu_ : Nat) (hm_ : n_ < fu_) : Q6_L1 N fu_ (setups 0) (units 0) (holds 0) (stock 0) (v13 0) (v14 0) (v15 0) (c1 0) = res_ := by
  exact loop_run (L := fun fu_ (x_ : Int × Int × Int × Int × (List Int) × Int × Int × Y2) => Q6_L1 N fu_ x_.1 x_.2.1 x_.2.2.1 x_.2.2.2.1 x_.2.2.2.2.1 x_.2.2.2.2.2.1 x_.2.2.2.2.2.2.1 x_.2.2.2.2.2.2.2) (B := fun kx_ x_ => Q6_B1 N (fun setups units holds stock v13 v14 v15 c1 => kx_ (setups, units, holds, stock, v13, v14, v15, c1)) x_.1 x_.2.1 x_.2.2.1 x_.2.2.2.1 x_.2.2.2.2.1 x_.2.2.2.2.2.1 x_.2.2.2.2.2.2.1 x_.2.2.2.2.2.2.2) (fun _ _ => rfl) (fun j_ => (setups j_, units j_, holds j_, stock j_, v13 j_, v14 j_, v15 j_, c1 j_)) n_ (fun j_ hi_ kx_ => hstep_ j_ hi_ _) (fun kx_ => hend_ _) fu_ hm_
def Q6 (N : Nat) (c : (List Int) × (List Int) × (List Int) × (List Int)) (plan : List Int) : Option Y14 :=
  Q6_L1 N N 0 0 0 0 plan (len plan) 0 c
def Q5 (N : Nat) (c : (List Int) × (List Int) × (List Int) × (List Int)) (plan : List Int) : Option Y7 :=
  (Q6 N c plan).bind fun r =>
  some (iadd .i64 (iadd .i64 r.1.1 r.1.2.1) r.1.2.2, ())
def Q4_K1 (N : Nat) (kx : Int → Int → Int → Y2 → (List Int) → Option Y11) (least3 : Int) (cost : Int) (before : Bool) (v163 : Int) (v173 : Int) (c4 : (List Int) × (List Int) × (List Int) × (List Int)) (best3 : List Int) (periods2 : List Int) : Option Y11 :=
  bif ilt least3 0 then
    kx cost v163 (iadd .i64 v173 1) c4 periods2
  else
    bif ilt cost least3 then
      kx cost v163 (iadd .i64 v173 1) c4 periods2
    else
      bif ieq cost least3 then
        bif before then
          kx cost v163 (iadd .i64 v173 1) c4 periods2
        else
          kx least3 v163 (iadd .i64 v173 1) c4 best3
      else
        kx least3 v163 (iadd .i64 v173 1) c4 best3
def Q4_K2 (N : Nat) (kx : Int → Int → Int → Y2 → (List Int) → Option Y11) (least2 : Int) (v162 : Int) (v172 : Int) (c3 : (List Int) × (List Int) × (List Int) × (List Int)) (best2 : List Int) (periods1 : List Int) : Option Y11 :=
  (Q7 N c3 periods1).bind fun r =>
  bif !r.1.2 then
    kx least2 v162 (iadd .i64 v172 1) c3 best2
  else
    (Q5 N c3 r.1.1).bind fun r1 =>
    bif ilt (len periods1) (len best2) then
      Q4_K1 N kx least2 r1.1 true v162 v172 c3 best2 periods1
    else
      bif ieq (len periods1) (len best2) then
        (Q42 N periods1 best2).bind fun r2 =>
        Q4_K1 N kx least2 r1.1 (ilt r2.1 0) v162 v172 c3 best2 periods1
      else
        Q4_K1 N kx least2 r1.1 false v162 v172 c3 best2 periods1
def Q4_B1 (N : Nat) (kx : Int → Int → Int → Y2 → (List Int) → Option Y11) (kx1 : Int → Int → Int → Int → Int → Int → Y2 → (List Int) → (List Int) → Option Y11) (least1 : Int) (setx : Int) (v161 : Int) (v171 : Int) (v23 : Int) (v24 : Int) (c2 : (List Int) × (List Int) × (List Int) × (List Int)) (best1 : List Int) (periods : List Int) : Option Y11 :=
  bif ilt v24 v23 then
    chk (ile 0 v24) <|
    bif ieq (iand .i64 (ishr .i64 setx v24) 1) 1 then
      chk (fitB (periods.length + 1) 8) <|
      kx1 least1 setx v161 v171 v23 (iadd .i64 v24 1) c2 best1 (periods ++ [v24])
    else
      kx1 least1 setx v161 v171 v23 (iadd .i64 v24 1) c2 best1 periods
  else
    Q4_K2 N kx least1 v161 v171 c2 best1 periods
def Q4_L1 (N fu_ : Nat) (kx : Int → Int → Int → Y2 → (List Int) → Option Y11) (least1 : Int) (setx : Int) (v161 : Int) (v171 : Int) (v23 : Int) (v24 : Int) (c2 : (List Int) × (List Int) × (List Int) × (List Int)) (best1 : List Int) (periods : List Int) : Option Y11 :=
  iterK fu_ (fun kx1 (v_ : (Int × Int × Int × Int × Int × Int × Unit) × (Y2 × (List Int) × (List Int) × Unit)) => Q4_B1 N kx (fun least1 setx v161 v171 v23 v24 c2 best1 periods => kx1 ((least1, setx, v161, v171, v23, v24, ()), (c2, best1, periods, ()))) v_.1.1 v_.1.2.1 v_.1.2.2.1 v_.1.2.2.2.1 v_.1.2.2.2.2.1 v_.1.2.2.2.2.2.1 v_.2.1 v_.2.2.1 v_.2.2.2.1) ((least1, setx, v161, v171, v23, v24, ()), (c2, best1, periods, ()))
theorem Q4_L1_run (N : Nat) (kx : Int → Int → Int → Y2 → (List Int) → Option Y11) (least1 : Nat → Int) (setx : Nat → Int) (v161 : Nat → Int) (v171 : Nat → Int) (v23 : Nat → Int) (v24 : Nat → Int) (c2 : Nat → Y2) (best1 : Nat → (List Int)) (periods : Nat → (List Int)) (n_ : Nat) {res_ : Option Y11} (hstep_ : ∀ j_, j_ < n_ → ∀ kx_, Q4_B1 N kx kx_ (least1 j_) (setx j_) (v161 j_) (v171 j_) (v23 j_) (v24 j_) (c2 j_) (best1 j_) (periods j_) = kx_ (least1 (j_ + 1)) (setx (j_ + 1)) (v161 (j_ + 1)) (v171 (j_ + 1)) (v23 (j_ + 1)) (v24 (j_ + 1)) (c2 (j_ + 1)) (best1 (j_ + 1)) (periods (j_ + 1))) (hend_ : ∀ kx_, Q4_B1 N kx kx_ (least1 n_) (setx n_) (v161 n_) (v171 n_) (v23 n_) (v24 n_) (c2 n_) (best1 n_) (periods n_) = res_) (fu_ : Nat) (hm_ : n_ < fu_) : Q4_L1 N fu_ kx (least1 0) (setx 0) (v161 0) (v171 0) (v23 0) (v24 0) (c2 0) (best1 0) (periods 0) = res_ := by
  exact loop_run (L := fun fu_ (x_ : Int × Int × Int × Int × Int × Int × Y2 × (List Int) × (List Int)) => Q4_L1 N fu_ kx x_.1 x_.2.1 x_.2.2.1 x_.2.2.2.1 x_.2.2.2.2.1 x_.2.2.2.2.2.1 x_.2.2.2.2.2.2.1 x_.2.2.2.2.2.2.2.1 x_.2.2.2.2.2.2.2.2) (B := fun kx_ x_ => Q4_B1 N kx (fun least1 setx v161 v171 v23 v24 c2 best1 periods => kx_ (least1, setx, v161, v171, v23, v24, c2, best1, periods)) x_.1 x_.2.1 x_.2.2.1 x_.2.2.2.1 x_.2.2.2.2.1 x_.2.2.2.2.2.1 x_.2.2.2.2.2.2.1 x_.2.2.2.2.2.2.2.1 x_.2.2.2.2.2.2.2.2) (fun _ _ => rfl) (fun j_ => (least1 j_, setx j_, v161 j_, v171 j_, v23 j_, v24 j_, c2 j_, best1 j_, periods j_)) n_ (fun j_ hi_ kx_ => hstep_ j_ hi_ _) (fun kx_ => hend_ _) fu_ hm_
def Q4_K3 (N : Nat) (least4 : Int) (best4 : List Int) : Option Y11 :=
  some ((best4, least4), ())
def Q4_B2 (N : Nat) (kx : Int → Int → Int → Y2 → (List Int) → Option Y11) (least : Int) (v16 : Int) (v17 : Int) (c1 : (List Int) × (List Int) × (List Int) × (List Int)) (best : List Int) : Option Y11 :=
  bif ilt v17 v16 then
    Q4_L1 N N kx least v17 v16 v17 (len c1.1) 0 c1 best []
  else
    Q4_K3 N least best
def Q4_L2 (N fu_ : Nat) (least : Int) (v16 : Int) (v17 : Int) (c1 : (List Int) × (List Int) × (List Int) × (List Int)) (best : List Int) : Option Y11 :=
  iterK fu_ (fun kx (v_ : (Int × Int × Int × Unit) × (Y2 × (List Int) × Unit)) => Q4_B2 N (fun least v16 v17 c1 best => kx ((least, v16, v17, ()), (c1, best, ()))) v_.1.1 v_.1.2.1 v_.1.2.2.1 v_.2.1 v_.2.2.1) ((least, v16, v17, ()), (c1, best, ()))
theorem Q4_L2_run (N : Nat) (least : Nat → Int) (v16 : Nat → Int) (v17 : Nat → Int) (c1 : Nat → Y2) (best : Nat → (List Int)) (n_ : Nat) {res_ : Option Y11} (hstep_ : ∀ j_, j_ < n_ → ∀ kx_, Q4_B2 N kx_ (least j_) (v16 j_) (v17 j_) (c1 j_) (best j_) = kx_ (least (j_ + 1)) (v16 (j_ + 1)) (v17 (j_ + 1)) (c1 (j_ + 1)) (best (j_ + 1))) (hend_ : ∀ kx_, Q4_B2 N kx_ (least n_) (v16 n_) (v17 n_) (c1 n_) (best n_) = res_) (fu_ : Nat) (hm_ : n_ < fu_) : Q4_L2 N fu_ (least 0) (v16 0) (v17 0) (c1 0) (best 0) = res_ := by
  exact loop_run (L := fun fu_ (x_ : Int × Int × Int × Y2 × (List Int)) => Q4_L2 N fu_ x_.1 x_.2.1 x_.2.2.1 x_.2.2.2.1 x_.2.2.2.2) (B := fun kx_ x_ => Q4_B2 N (fun least v16 v17 c1 best => kx_ (least, v16, v17, c1, best)) x_.1 x_.2.1 x_.2.2.1 x_.2.2.2.1 x_.2.2.2.2) (fun _ _ => rfl) (fun j_ => (least j_, v16 j_, v17 j_, c1 j_, best j_)) n_ (fun j_ hi_ kx_ => hstep_ j_ hi_ _) (fun kx_ => hend_ _) fu_ hm_
def Q4 (N : Nat) (c : (List Int) × (List Int) × (List Int) × (List Int)) : Option Y11 :=
  chk (ile 0 (len c.1)) <|
  Q4_L2 N N (-1) (ishl .i64 1 (len c.1)) 0 c []
def Q8_K1 (N : Nat) (sum1 : Int) : Option Y13 :=
  some ((sum1, true), ())
def Q8_B1 (N : Nat) (kx : Int → Int → Int → Y0 → (List Int) → Option Y13) (sum : Int) (v14 : Int) (v15 : Int) (c1 : (List Int) × (List Int) × (List Int)) (v13 : List Int) : Option Y13 :=
  bif ilt v15 v14 then
    chk (inB v15 v13.length) <|
    chk (inB v15 c1.2.1.length) <|
    (Q24 N c1.1 (gd c1.2.1 v15.toNat 0) (gd v13 v15.toNat 0)).bind fun r2 =>
    (Q4 N r2.1).bind fun r3 =>
    kx (iadd .i64 sum r3.1.2) v14 (iadd .i64 v15 1) c1 v13
  else
    Q8_K1 N sum
def Q8_L1 (N fu_ : Nat) (sum : Int) (v14 : Int) (v15 : Int) (c1 : (List Int) × (List Int) × (List Int)) (v13 : List Int) : Option Y13 :=
  iterK fu_ (fun kx (v_ : (Int × Int × Int × Unit) × (Y0 × (List Int) × Unit)) => Q8_B1 N (fun sum v14 v15 c1 v13 => kx ((sum, v14, v15, ()), (c1, v13, ()))) v_.1.1 v_.1.2.1 v_.1.2.2.1 v_.2.1 v_.2.2.1) ((sum, v14, v15, ()), (c1, v13, ()))
theorem Q8_L1_run (N : Nat) (sum : Nat → Int) (v14 : Nat → Int) (v15 : Nat → Int) (c1 : Nat → Y0) (v13 : Nat → (List Int)) (n_ : Nat) {res_ : Option Y13} (hstep_ : ∀ j_, j_ < n_ → ∀ kx_, Q8_B1 N kx_ (sum j_) (v14 j_) (v15 j_) (c1 j_) (v13 j_) = kx_ (sum (j_ + 1)) (v14 (j_ + 1)) (v15 (j_ + 1)) (c1 (j_ + 1)) (v13 (j_ + 1))) (hend_ : ∀ kx_, Q8_B1 N kx_ (sum n_) (v14 n_) (v15 n_) (c1 n_) (v13 n_) = res_) (fu_ : Nat) (hm_ : n_ < fu_) : Q8_L1 N fu_ (sum 0) (v14 0) (v15 0) (c1 0) (v13 0) = res_ := by
  exact loop_run (L := fun fu_ (x_ : Int × Int × Int × Y0 × (List Int)) => Q8_L1 N fu_ x_.1 x_.2.1 x_.2.2.1 x_.2.2.2.1 x_.2.2.2.2) (B := fun kx_ x_ => Q8_B1 N (fun sum v14 v15 c1 v13 => kx_ (sum, v14, v15, c1, v13)) x_.1 x_.2.1 x_.2.2.1 x_.2.2.2.1 x_.2.2.2.2) (fun _ _ => rfl) (fun j_ => (sum j_, v14 j_, v15 j_, c1 j_, v13 j_)) n_ (fun j_ hi_ kx_ => hstep_ j_ hi_ _) (fun kx_ => hend_ _) fu_ hm_
def Q8 (N : Nat) (c : (List Int) × (List Int) × (List Int)) : Option Y13 :=
  (Q19 N c).bind fun r =>
  bif !r.1 then
    some ((0, false), ())
  else
    (Q14 N c).bind fun r1 =>
    Q8_L1 N N 0 (len r1.1) 0 c r1.1
def Q71_K1 (N : Nat) (v61 : (List Int) × (List Int) × (List Int) × (List Int)) (out1 : (List Int) × (List Int) × (List Int) × (List Int)) : Option Y19 :=
  some (out1, ())
def Q71_B1 (N : Nat) (kx : (List Int) → Int → Int → Int → Y2 → Y2 → Option Y19) (need1 : List Int) (setup1 : Int) (hold1 : Int) (t : Int) (v6 : (List Int) × (List Int) × (List Int) × (List Int)) (out : (List Int) × (List Int) × (List Int) × (List Int)) : Option Y19 :=
  bif ilt t (len need1) then
    chk (inB t need1.length) <|
    chk (fitB (out.1.length + 1) 8) <|
    chk (fitB (out.2.1.length + 1) 8) <|
    chk (fitB (out.2.2.1.length + 1) 8) <|
    chk (fitB (out.2.2.2.length + 1) 8) <|
    kx need1 setup1 hold1 (iadd .i64 t 1) v6 (out.1 ++ [gd need1 t.toNat 0], (out.2.1 ++ [setup1], (out.2.2.1 ++ [0], out.2.2.2 ++ [hold1])))
  else
    Q71_K1 N v6 out
def Q71_L1 (N fu_ : Nat) (need1 : List Int) (setup1 : Int) (hold1 : Int) (t : Int) (v6 : (List Int) × (List Int) × (List Int) × (List Int)) (out : (List Int) × (List Int) × (List Int) × (List Int)) : Option Y19 :=
  iterK fu_ (fun kx (v_ : ((List Int) × Int × Int × Int × Unit) × (Y2 × Y2 × Unit)) => Q71_B1 N (fun need1 setup1 hold1 t v6 out => kx ((need1, setup1, hold1, t, ()), (v6, out, ()))) v_.1.1 v_.1.2.1 v_.1.2.2.1 v_.1.2.2.2.1 v_.2.1 v_.2.2.1) ((need1, setup1, hold1, t, ()), (v6, out, ()))
theorem Q71_L1_run (N : Nat) (need1 : Nat → (List Int)) (setup1 : Nat → Int) (hold1 : Nat → Int) (t : Nat → Int) (v6 : Nat → Y2) (out : Nat → Y2) (n_ : Nat) {res_ : Option Y19} (hstep_ : ∀ j_, j_ < n_ → ∀ kx_, Q71_B1 N kx_ (need1 j_) (setup1 j_) (hold1 j_) (t j_) (v6 j_) (out j_) = kx_ (need1 (j_ + 1)) (setup1 (j_ + 1)) (hold1 (j_ + 1)) (t (j_ + 1)) (v6 (j_ + 1)) (out (j_ + 1))) (hend_ : ∀ kx_, Q71_B1 N kx_ (need1 n_) (setup1 n_) (hold1 n_) (t n_) (v6 n_) (out n_) = res_) (fu_ : Nat) (hm_ : n_ < fu_) : Q71_L1 N fu_ (need1 0) (setup1 0) (hold1 0) (t 0) (v6 0) (out 0) = res_ := by
  exact loop_run (L := fun fu_ (x_ : (List Int) × Int × Int × Int × Y2 × Y2) => Q71_L1 N fu_ x_.1 x_.2.1 x_.2.2.1 x_.2.2.2.1 x_.2.2.2.2.1 x_.2.2.2.2.2) (B := fun kx_ x_ => Q71_B1 N (fun need1 setup1 hold1 t v6 out => kx_ (need1, setup1, hold1, t, v6, out)) x_.1 x_.2.1 x_.2.2.1 x_.2.2.2.1 x_.2.2.2.2.1 x_.2.2.2.2.2) (fun _ _ => rfl) (fun j_ => (need1 j_, setup1 j_, hold1 j_, t j_, v6 j_, out j_)) n_ (fun j_ hi_ kx_ => hstep_ j_ hi_ _) (fun kx_ => hend_ _) fu_ hm_
def Q71 (N : Nat) (need : List Int) (setup : Int) (hold : Int) : Option Y19 :=
  Q71_L1 N N need setup hold 0 ([], ([], ([], []))) ([], ([], ([], [])))
def Q65_K1 (N : Nat) (kx : (List Int) → Int → Y2 → (List Int) → Option Y6) (periods2 : List Int) (i1 : Int) (to : Int) (c2 : (List Int) × (List Int) × (List Int) × (List Int)) (out1 : List Int) : Option Y6 :=
  chk (inB i1 periods2.length) <|
  chk (inB i1 periods2.length) <|
  chk (cutB (gd periods2 i1.toNat 0) to c2.1.length) <|
  (Q70 N (cut c2.1 (gd periods2 i1.toNat 0) to)).bind fun r =>
  chk (inB (gd periods2 i1.toNat 0) out1.length) <|
  kx periods2 (iadd .i64 i1 1) c2 (List.set out1 (gd periods2 i1.toNat 0).toNat r.1)
def Q65_K2 (N : Nat) (out2 : List Int) : Option Y6 :=
  some (out2, ())
def Q65_B1 (N : Nat) (kx : (List Int) → Int → Y2 → (List Int) → Option Y6) (periods1 : List Int) (i : Int) (c1 : (List Int) × (List Int) × (List Int) × (List Int)) (out : List Int) : Option Y6 :=
  bif ilt i (len periods1) then
    bif ilt (iadd .i64 i 1) (len periods1) then
      chk (inB (iadd .i64 i 1) periods1.length) <|
      Q65_K1 N kx periods1 i (gd periods1 (iadd .i64 i 1).toNat 0) c1 out
    else
      Q65_K1 N kx periods1 i (len c1.1) c1 out
  else
    Q65_K2 N out
def Q65_L1 (N fu_ : Nat) (periods1 : List Int) (i : Int) (c1 : (List Int) × (List Int) × (List Int) × (List Int)) (out : List Int) : Option Y6 :=
  iterK fu_ (fun kx (v_ : ((List Int) × Int × Unit) × (Y2 × (List Int) × Unit)) => Q65_B1 N (fun periods1 i c1 out => kx ((periods1, i, ()), (c1, out, ()))) v_.1.1 v_.1.2.1 v_.2.1 v_.2.2.1) ((periods1, i, ()), (c1, out, ()))
theorem Q65_L1_run (N : Nat) (periods1 : Nat → (List Int)) (i : Nat → Int) (c1 : Nat → Y2) (out : Nat → (List Int)) (n_ : Nat) {res_ : Option Y6} (hstep_ : ∀ j_, j_ < n_ → ∀ kx_, Q65_B1 N kx_ (periods1 j_) (i j_) (c1 j_) (out j_) = kx_ (periods1 (j_ + 1)) (i (j_ + 1)) (c1 (j_ + 1)) (out (j_ + 1))) (hend_ : ∀ kx_, Q65_B1 N kx_ (periods1 n_) (i n_) (c1 n_) (out n_) = res_) (fu_ : Nat) (hm_ : n_ < fu_) : Q65_L1 N fu_ (periods1 0) (i 0) (c1 0) (out 0) = res_ := by
  exact loop_run (L := fun fu_ (x_ : (List Int) × Int × Y2 × (List Int)) => Q65_L1 N fu_ x_.1 x_.2.1 x_.2.2.1 x_.2.2.2) (B := fun kx_ x_ => Q65_B1 N (fun periods1 i c1 out => kx_ (periods1, i, c1, out)) x_.1 x_.2.1 x_.2.2.1 x_.2.2.2) (fun _ _ => rfl) (fun j_ => (periods1 j_, i j_, c1 j_, out j_)) n_ (fun j_ hi_ kx_ => hstep_ j_ hi_ _) (fun kx_ => hend_ _) fu_ hm_
def Q65 (N : Nat) (c : (List Int) × (List Int) × (List Int) × (List Int)) (periods : List Int) : Option Y6 :=
  chk (mkB (len c.1) 8) <|
  Q65_L1 N N periods 0 c (List.replicate (len c.1).toNat 0)
def Q64_K1 (N : Nat) : Option Y4 :=
  some (true, ())
def Q64_B1 (N : Nat) (kx : (List Int) → Int → Y2 → Option Y4) (periods1 : List Int) (t : Int) (c1 : (List Int) × (List Int) × (List Int) × (List Int)) : Option Y4 :=
  bif ilt t (len c1.1) then
    bif ilt 0 (len periods1) then
      chk (inB 0 periods1.length) <|
      bif ile (gd periods1 0 0) t then
        some (true, ())
      else
        chk (inB t c1.1.length) <|
        bif ilt 0 (gd c1.1 t.toNat 0) then
          some (false, ())
        else
          kx periods1 (iadd .i64 t 1) c1
    else
      chk (inB t c1.1.length) <|
      bif ilt 0 (gd c1.1 t.toNat 0) then
        some (false, ())
      else
        kx periods1 (iadd .i64 t 1) c1
  else
    Q64_K1 N
def Q64_L1 (N fu_ : Nat) (periods1 : List Int) (t : Int) (c1 : (List Int) × (List Int) × (List Int) × (List Int)) : Option Y4 :=
  iterK fu_ (fun kx (v_ : ((List Int) × Int × Unit) × Y19) => Q64_B1 N (fun periods1 t c1 => kx ((periods1, t, ()), (c1, ()))) v_.1.1 v_.1.2.1 v_.2.1) ((periods1, t, ()), (c1, ()))
theorem Q64_L1_run (N : Nat) (periods1 : Nat → (List Int)) (t : Nat → Int) (c1 : Nat → Y2) (n_ : Nat) {res_ : Option Y4} (hstep_ : ∀ j_, j_ < n_ → ∀ kx_, Q64_B1 N kx_ (periods1 j_) (t j_) (c1 j_) = kx_ (periods1 (j_ + 1)) (t (j_ + 1)) (c1 (j_ + 1))) (hend_ : ∀ kx_, Q64_B1 N kx_ (periods1 n_) (t n_) (c1 n_) = res_) (fu_ : Nat) (hm_ : n_ < fu_) : Q64_L1 N fu_ (periods1 0) (t 0) (c1 0) = res_ := by
  exact loop_run (L := fun fu_ (x_ : (List Int) × Int × Y2) => Q64_L1 N fu_ x_.1 x_.2.1 x_.2.2) (B := fun kx_ x_ => Q64_B1 N (fun periods1 t c1 => kx_ (periods1, t, c1)) x_.1 x_.2.1 x_.2.2) (fun _ _ => rfl) (fun j_ => (periods1 j_, t j_, c1 j_)) n_ (fun j_ hi_ kx_ => hstep_ j_ hi_ _) (fun kx_ => hend_ _) fu_ hm_
def Q64 (N : Nat) (c : (List Int) × (List Int) × (List Int) × (List Int)) (periods : List Int) : Option Y4 :=
  Q64_L1 N N periods 0 c
def Q69_K1 (N : Nat) (out1 : List Int) : Option Y6 :=
  some (out1, ())
def Q69_B1 (N : Nat) (kx : (List Int) → Int → Int → Y2 → (List Int) → Option Y6) (plan1 : List Int) (now : Int) (t : Int) (c1 : (List Int) × (List Int) × (List Int) × (List Int)) (out : List Int) : Option Y6 :=
  bif ilt t (len plan1) then
    chk (inB t plan1.length) <|
    chk (inB t c1.1.length) <|
    chk (fitB (out.length + 1) 8) <|
    kx plan1 (isub .i64 (iadd .i64 now (gd plan1 t.toNat 0)) (gd c1.1 t.toNat 0)) (iadd .i64 t 1) c1 (out ++ [isub .i64 (iadd .i64 now (gd plan1 t.toNat 0)) (gd c1.1 t.toNat 0)])
  else
    Q69_K1 N out
def Q69_L1 (N fu_ : Nat) (plan1 : List Int) (now : Int) (t : Int) (c1 : (List Int) × (List Int) × (List Int) × (List Int)) (out : List Int) : Option Y6 :=
  iterK fu_ (fun kx (v_ : ((List Int) × Int × Int × Unit) × (Y2 × (List Int) × Unit)) => Q69_B1 N (fun plan1 now t c1 out => kx ((plan1, now, t, ()), (c1, out, ()))) v_.1.1 v_.1.2.1 v_.1.2.2.1 v_.2.1 v_.2.2.1) ((plan1, now, t, ()), (c1, out, ()))
theorem Q69_L1_run (N : Nat) (plan1 : Nat → (List Int)) (now : Nat → Int) (t : Nat → Int) (c1 : Nat → Y2) (out : Nat → (List Int)) (n_ : Nat) {res_ : Option Y6} (hstep_ : ∀ j_, j_ < n_ → ∀ kx_, Q69_B1 N kx_ (plan1 j_) (now j_) (t j_) (c1 j_) (out j_) = kx_ (plan1 (j_ + 1)) (now (j_ + 1)) (t (j_ + 1)) (c1 (j_ + 1)) (out (j_ + 1))) (hend_ : ∀ kx_, Q69_B1 N kx_ (plan1 n_) (now n_) (t n_) (c1 n_) (out n_) = res_) (fu_ : Nat) (hm_ : n_ < fu_) : Q69_L1 N fu_ (plan1 0) (now 0) (t 0) (c1 0) (out 0) = res_ := by
  exact loop_run (L := fun fu_ (x_ : (List Int) × Int × Int × Y2 × (List Int)) => Q69_L1 N fu_ x_.1 x_.2.1 x_.2.2.1 x_.2.2.2.1 x_.2.2.2.2) (B := fun kx_ x_ => Q69_B1 N (fun plan1 now t c1 out => kx_ (plan1, now, t, c1, out)) x_.1 x_.2.1 x_.2.2.1 x_.2.2.2.1 x_.2.2.2.2) (fun _ _ => rfl) (fun j_ => (plan1 j_, now j_, t j_, c1 j_, out j_)) n_ (fun j_ hi_ kx_ => hstep_ j_ hi_ _) (fun kx_ => hend_ _) fu_ hm_
def Q69 (N : Nat) (c : (List Int) × (List Int) × (List Int) × (List Int)) (plan : List Int) : Option Y6 :=
  Q69_L1 N N plan 0 0 c []
def Q67_K1 (N : Nat) (kx : (List Int) → Int → Y2 → (List Int) → (List Int) → (List Int) → Option Y6) (plan2 : List Int) (t1 : Int) (c2 : (List Int) × (List Int) × (List Int) × (List Int)) (v41 : List Int) (out1 : List Int) (stocks1 : List Int) : Option Y6 :=
  chk (inB 1 3) <|
  chk (inB t1 c2.2.2.1.length) <|
  chk (inB t1 plan2.length) <|
  chk (inB 1 3) <|
  chk (inB 2 3) <|
  chk (inB t1 c2.2.2.2.length) <|
  chk (inB t1 stocks1.length) <|
  chk (inB 2 3) <|
  kx plan2 (iadd .i64 t1 1) c2 v41 (List.set (List.set out1 1 (iadd .i64 (gd out1 1 0) (imul .i64 (gd c2.2.2.1 t1.toNat 0) (gd plan2 t1.toNat 0)))) 2 (iadd .i64 (gd (List.set out1 1 (iadd .i64 (gd out1 1 0) (imul .i64 (gd c2.2.2.1 t1.toNat 0) (gd plan2 t1.toNat 0)))) 2 0) (imul .i64 (gd c2.2.2.2 t1.toNat 0) (gd stocks1 t1.toNat 0)))) stocks1
def Q67_K2 (N : Nat) (v42 : List Int) (out2 : List Int) : Option Y6 :=
  some (out2, ())
def Q67_B1 (N : Nat) (kx : (List Int) → Int → Y2 → (List Int) → (List Int) → (List Int) → Option Y6) (plan1 : List Int) (t : Int) (c1 : (List Int) × (List Int) × (List Int) × (List Int)) (v4 : List Int) (out : List Int) (stocks : List Int) : Option Y6 :=
  bif ilt t (len plan1) then
    chk (inB t plan1.length) <|
    bif ilt 0 (gd plan1 t.toNat 0) then
      chk (inB 0 3) <|
      chk (inB t c1.2.1.length) <|
      chk (inB 0 3) <|
      Q67_K1 N kx plan1 t c1 v4 (List.set out 0 (iadd .i64 (gd out 0 0) (gd c1.2.1 t.toNat 0))) stocks
    else
      Q67_K1 N kx plan1 t c1 v4 out stocks
  else
    Q67_K2 N v4 out
def Q67_L1 (N fu_ : Nat) (plan1 : List Int) (t : Int) (c1 : (List Int) × (List Int) × (List Int) × (List Int)) (v4 : List Int) (out : List Int) (stocks : List Int) : Option Y6 :=
  iterK fu_ (fun kx (v_ : ((List Int) × Int × Unit) × (Y2 × (List Int) × (List Int) × (List Int) × Unit)) => Q67_B1 N (fun plan1 t c1 v4 out stocks => kx ((plan1, t, ()), (c1, v4, out, stocks, ()))) v_.1.1 v_.1.2.1 v_.2.1 v_.2.2.1 v_.2.2.2.1 v_.2.2.2.2.1) ((plan1, t, ()), (c1, v4, out, stocks, ()))
theorem Q67_L1_run (N : Nat) (plan1 : Nat → (List Int)) (t : Nat → Int) (c1 : Nat → Y2) (v4 : Nat → (List Int)) (out : Nat → (List Int)) (stocks : Nat → (List Int)) (n_ : Nat) {res_ : Option Y6} (hstep_ : ∀ j_, j_ < n_ → ∀ kx_, Q67_B1 N kx_ (plan1 j_) (t j_) (c1 j_) (v4 j_) (out j_) (stocks j_) = kx_ (plan1 (j_ + 1)) (t (j_ + 1)) (c1 (j_ + 1)) (v4 (j_ + 1)) (out (j_ + 1)) (stocks (j_ + 1))) (hend_ : ∀ kx_, Q67_B1 N kx_ (plan1 n_) (t n_) (c1 n_) (v4 n_) (out n_) (stocks n_) = res_) (fu_ : Nat) (hm_ : n_ < fu_) : Q67_L1 N fu_ (plan1 0) (t 0) (c1 0) (v4 0) (out 0) (stocks 0) = res_ := by
  exact loop_run (L := fun fu_ (x_ : (List Int) × Int × Y2 × (List Int) × (List Int) × (List Int)) => Q67_L1 N fu_ x_.1 x_.2.1 x_.2.2.1 x_.2.2.2.1 x_.2.2.2.2.1 x_.2.2.2.2.2) (B := fun kx_ x_ => Q67_B1 N (fun plan1 t c1 v4 out stocks => kx_ (plan1, t, c1, v4, out, stocks)) x_.1 x_.2.1 x_.2.2.1 x_.2.2.2.1 x_.2.2.2.2.1 x_.2.2.2.2.2) (fun _ _ => rfl) (fun j_ => (plan1 j_, t j_, c1 j_, v4 j_, out j_, stocks j_)) n_ (fun j_ hi_ kx_ => hstep_ j_ hi_ _) (fun kx_ => hend_ _) fu_ hm_
def Q67 (N : Nat) (c : (List Int) × (List Int) × (List Int) × (List Int)) (plan : List Int) : Option Y6 :=
  (Q69 N c plan).bind fun r =>
  Q67_L1 N N plan 0 c (List.replicate 3 0) (List.replicate 3 0) r.1
def Q63 (N : Nat) (c : (List Int) × (List Int) × (List Int) × (List Int)) (plan : List Int) : Option Y7 :=
  (Q67 N c plan).bind fun r =>
  chk (inB 0 3) <|
  chk (inB 1 3) <|
  chk (inB 2 3) <|
  some (iadd .i64 (iadd .i64 (gd r.1 0 0) (gd r.1 1 0)) (gd r.1 2 0), ())
def Q60_K1 (N : Nat) : Option Y4 :=
  some (false, ())
def Q60_B1 (N : Nat) (kx : (List Int) → (List Int) → Int → Option Y4) (a1 : List Int) (b1 : List Int) (i : Int) : Option Y4 :=
  bif ilt i (len a1) then
    chk (inB i a1.length) <|
    chk (inB i b1.length) <|
    bif ine (gd a1 i.toNat 0) (gd b1 i.toNat 0) then
      chk (inB i a1.length) <|
      chk (inB i b1.length) <|
      some (ilt (gd a1 i.toNat 0) (gd b1 i.toNat 0), ())
    else
      kx a1 b1 (iadd .i64 i 1)
  else
    Q60_K1 N
def Q60_L1 (N fu_ : Nat) (a1 : List Int) (b1 : List Int) (i : Int) : Option Y4 :=
  iterK fu_ (fun kx (v_ : Y16 × (Unit)) => Q60_B1 N (fun a1 b1 i => kx ((a1, b1, i, ()), ())) v_.1.1 v_.1.2.1 v_.1.2.2.1) ((a1, b1, i, ()), ())
theorem Q60_L1_run (N : Nat) (a1 : Nat → (List Int)) (b1 : Nat → (List Int)) (i : Nat → Int) (n_ : Nat) {res_ : Option Y4} (hstep_ : ∀ j_, j_ < n_ → ∀ kx_, Q60_B1 N kx_ (a1 j_) (b1 j_) (i j_) = kx_ (a1 (j_ + 1)) (b1 (j_ + 1)) (i (j_ + 1))) (hend_ : ∀ kx_, Q60_B1 N kx_ (a1 n_) (b1 n_) (i n_) = res_) (fu_ : Nat) (hm_ : n_ < fu_) : Q60_L1 N fu_ (a1 0) (b1 0) (i 0) = res_ := by
  exact loop_run (L := fun fu_ (x_ : (List Int) × (List Int) × Int) => Q60_L1 N fu_ x_.1 x_.2.1 x_.2.2) (B := fun kx_ x_ => Q60_B1 N (fun a1 b1 i => kx_ (a1, b1, i)) x_.1 x_.2.1 x_.2.2) (fun _ _ => rfl) (fun j_ => (a1 j_, b1 j_, i j_)) n_ (fun j_ hi_ kx_ => hstep_ j_ hi_ _) (fun kx_ => hend_ _) fu_ hm_
def Q60 (N : Nat) (a : List Int) (b : List Int) : Option Y4 :=
  bif ine (len a) (len b) then
    some (ilt (len a) (len b), ())
  else
    Q60_L1 N N a b 0
def Q61_K1 (N : Nat) (best1 : List Int) : Option Y6 :=
  some (best1, ())
def Q61_B1 (N : Nat) (kx : Int → Int → Y2 → (List Int) → Option Y6) (least : Int) (code : Int) (c1 : (List Int) × (List Int) × (List Int) × (List Int)) (best : List Int) : Option Y6 :=
  chk (ile 0 (len c1.1)) <|
  bif ilt code (ishl .i64 1 (len c1.1)) then
    (Q62 N (len c1.1) code).bind fun r =>
    (Q64 N c1 r.1).bind fun r1 =>
    bif !r1.1 then
      kx least (iadd .i64 code 1) c1 best
    else
      (Q65 N c1 r.1).bind fun r2 =>
      (Q63 N c1 r2.1).bind fun r3 =>
      bif ilt least 0 then
        kx r3.1 (iadd .i64 code 1) c1 r.1
      else
        bif ilt r3.1 least then
          kx r3.1 (iadd .i64 code 1) c1 r.1
        else
          bif ieq r3.1 least then
            (Q60 N r.1 best).bind fun r4 =>
            bif r4.1 then
              kx r3.1 (iadd .i64 code 1) c1 r.1
            else
              kx least (iadd .i64 code 1) c1 best
          else
            kx least (iadd .i64 code 1) c1 best
  else
    Q61_K1 N best
def Q61_L1 (N fu_ : Nat) (least : Int) (code : Int) (c1 : (List Int) × (List Int) × (List Int) × (List Int)) (best : List Int) : Option Y6 :=
  iterK fu_ (fun kx (v_ : Y20 × (Y2 × (List Int) × Unit)) => Q61_B1 N (fun least code c1 best => kx ((least, code, ()), (c1, best, ()))) v_.1.1 v_.1.2.1 v_.2.1 v_.2.2.1) ((least, code, ()), (c1, best, ()))
theorem Q61_L1_run (N : Nat) (least : Nat → Int) (code : Nat → Int) (c1 : Nat → Y2) (best : Nat → (List Int)) (n_ : Nat) {res_ : Option Y6} (hstep_ : ∀ j_, j_ < n_ → ∀ kx_, Q61_B1 N kx_ (least j_) (code j_) (c1 j_) (best j_) = kx_ (least (j_ + 1)) (code (j_ + 1)) (c1 (j_ + 1)) (best (j_ + 1))) (hend_ : ∀ kx_, Q61_B1 N kx_ (least n_) (code n_) (c1 n_) (best n_) = res_) (fu_ : Nat) (hm_ : n_ < fu_) : Q61_L1 N fu_ (least 0) (code 0) (c1 0) (best 0) = res_ := by
  exact loop_run (L := fun fu_ (x_ : Int × Int × Y2 × (List Int)) => Q61_L1 N fu_ x_.1 x_.2.1 x_.2.2.1 x_.2.2.2) (B := fun kx_ x_ => Q61_B1 N (fun least code c1 best => kx_ (least, code, c1, best)) x_.1 x_.2.1 x_.2.2.1 x_.2.2.2) (fun _ _ => rfl) (fun j_ => (least j_, code j_, c1 j_, best j_)) n_ (fun j_ hi_ kx_ => hstep_ j_ hi_ _) (fun kx_ => hend_ _) fu_ hm_
def Q61 (N : Nat) (c : (List Int) × (List Int) × (List Int) × (List Int)) : Option Y6 :=
  Q61_L1 N N (-1) 0 c []
def Q66 (N : Nat) (c : (List Int) × (List Int) × (List Int) × (List Int)) : Option Y7 :=
  (Q61 N c).bind fun r =>
  (Q65 N c r.1).bind fun r1 =>
  (Q63 N c r1.1).bind fun r2 =>
  some (r2.1, ())
def Q44_K1 (N : Nat) (sum1 : Int) : Option Y13 :=
  some ((sum1, true), ())
def Q44_B1 (N : Nat) (kx : Int → Int → Y0 → Option Y13) (sum : Int) (s : Int) (c1 : (List Int) × (List Int) × (List Int)) : Option Y13 :=
  bif ilt s (len c1.2.1) then
    chk (inB s c1.2.1.length) <|
    (Q73 N c1 s).bind fun r1 =>
    (Q71 N c1.1 (gd c1.2.1 s.toNat 0) r1.1).bind fun r2 =>
    (Q66 N r2.1).bind fun r3 =>
    kx (iadd .i64 sum r3.1) (iadd .i64 s 1) c1
  else
    Q44_K1 N sum
def Q44_L1 (N fu_ : Nat) (sum : Int) (s : Int) (c1 : (List Int) × (List Int) × (List Int)) : Option Y13 :=
  iterK fu_ (fun kx (v_ : Y20 × (Y0 × Unit)) => Q44_B1 N (fun sum s c1 => kx ((sum, s, ()), (c1, ()))) v_.1.1 v_.1.2.1 v_.2.1) ((sum, s, ()), (c1, ()))
theorem Q44_L1_run (N : Nat) (sum : Nat → Int) (s : Nat → Int) (c1 : Nat → Y0) (n_ : Nat) {res_ : Option Y13} (hstep_ : ∀ j_, j_ < n_ → ∀ kx_, Q44_B1 N kx_ (sum j_) (s j_) (c1 j_) = kx_ (sum (j_ + 1)) (s (j_ + 1)) (c1 (j_ + 1))) (hend_ : ∀ kx_, Q44_B1 N kx_ (sum n_) (s n_) (c1 n_) = res_) (fu_ : Nat) (hm_ : n_ < fu_) : Q44_L1 N fu_ (sum 0) (s 0) (c1 0) = res_ := by
  exact loop_run (L := fun fu_ (x_ : Int × Int × Y0) => Q44_L1 N fu_ x_.1 x_.2.1 x_.2.2) (B := fun kx_ x_ => Q44_B1 N (fun sum s c1 => kx_ (sum, s, c1)) x_.1 x_.2.1 x_.2.2) (fun _ _ => rfl) (fun j_ => (sum j_, s j_, c1 j_)) n_ (fun j_ hi_ kx_ => hstep_ j_ hi_ _) (fun kx_ => hend_ _) fu_ hm_
def Q44 (N : Nat) (c : (List Int) × (List Int) × (List Int)) : Option Y13 :=
  (Q75 N c).bind fun r =>
  bif !r.1 then
    some ((0, false), ())
  else
    Q44_L1 N N 0 0 c
def laws_FnChains_K1 (N : Nat) (cost2 : Int) (a1 : Int) (b1 : Int) (c2 : (List Int) × (List Int) × (List Int)) : Option Y4 :=
  (Q8 N c2).bind fun r23 =>
  (Q44 N c2).bind fun r24 =>
  (Q3 N c2).bind fun r25 =>
  bif r23.1.2 then
    bif r24.1.2 then
      bif ieq r23.1.1 r24.1.1 then
        bif ieq a1 b1 then
          bif ile r23.1.1 cost2 then
            bif ile r23.1.1 r25.1.1 then
              some (ile r25.1.1 cost2, ())
            else
              some (false, ())
          else
            some (false, ())
        else
          some (false, ())
      else
        some (false, ())
    else
      some (false, ())
  else
    some (false, ())
def laws_FnChains_B1 (N : Nat) (kx : Int → Int → Int → Int → Y0 → Y12 → Y12 → ((List Int) × Bool) → Option Y4) (cost1 : Int) (a : Int) (b : Int) (s : Int) (c1 : (List Int) × (List Int) × (List Int)) (b601 : Y1 × Bool) (b721 : Y1 × Bool) (b831 : (List Int) × Bool) : Option Y4 :=
  bif ilt s (len b601.1) then
    chk (inB s c1.2.2.length) <|
    chk (inB s b601.1.length) <|
    (Q28 N (gd b601.1 s.toNat [])).bind fun r21 =>
    chk (inB s b831.1.length) <|
    chk (inB s b721.1.length) <|
    (Q28 N (gd b721.1 s.toNat [])).bind fun r22 =>
    kx cost1 (iadd .i64 a (imul .i64 (gd c1.2.2 s.toNat 0) r21.1)) (iadd .i64 b (imul .i64 (gd b831.1 s.toNat 0) r22.1)) (iadd .i64 s 1) c1 b601 b721 b831
  else
    laws_FnChains_K1 N cost1 a b c1
def laws_FnChains_L1 (N fu_ : Nat) (cost1 : Int) (a : Int) (b : Int) (s : Int) (c1 : (List Int) × (List Int) × (List Int)) (b601 : Y1 × Bool) (b721 : Y1 × Bool) (b831 : (List Int) × Bool) : Option Y4 :=
  iterK fu_ (fun kx (v_ : (Int × Int × Int × Int × Unit) × (Y0 × Y12 × Y12 × ((List Int) × Bool) × Unit)) => laws_FnChains_B1 N (fun cost1 a b s c1 b601 b721 b831 => kx ((cost1, a, b, s, ()), (c1, b601, b721, b831, ()))) v_.1.1 v_.1.2.1 v_.1.2.2.1 v_.1.2.2.2.1 v_.2.1 v_.2.2.1 v_.2.2.2.1 v_.2.2.2.2.1) ((cost1, a, b, s, ()), (c1, b601, b721, b831, ()))
theorem laws_FnChains_L1_run (N : Nat) (cost1 : Nat → Int) (a : Nat → Int) (b : Nat → Int) (s : Nat → Int) (c1 : Nat → Y0) (b601 : Nat → Y12) (b721 : Nat → Y12) (b831 : Nat → ((List Int) × Bool)) (n_ : Nat) {res_ : Option Y4} (hstep_ : ∀ j_, j_ < n_ → ∀ kx_, laws_FnChains_B1 N kx_ (cost1 j_) (a j_) (b j_) (s j_) (c1 j_) (b601 j_) (b721 j_) (b831 j_) = kx_ (cost1 (j_ + 1)) (a (j_ + 1)) (b (j_ + 1)) (s (j_ + 1)) (c1 (j_ + 1)) (b601 (j_ + 1)) (b721 (j_ + 1)) (b831 (j_ + 1))) (hend_ : ∀ kx_, laws_FnChains_B1 N kx_ (cost1 n_) (a n_) (b n_) (s n_) (c1 n_) (b601 n_) (b721 n_) (b831 n_) = res_) (fu_ : Nat) (hm_ : n_ < fu_) : laws_FnChains_L1 N fu_ (cost1 0) (a 0) (b 0) (s 0) (c1 0) (b601 0) (b721 0) (b831 0) = res_ := by
  exact loop_run (L := fun fu_ (x_ : Int × Int × Int × Int × Y0 × Y12 × Y12 × ((List Int) × Bool)) => laws_FnChains_L1 N fu_ x_.1 x_.2.1 x_.2.2.1 x_.2.2.2.1 x_.2.2.2.2.1 x_.2.2.2.2.2.1 x_.2.2.2.2.2.2.1 x_.2.2.2.2.2.2.2) (B := fun kx_ x_ => laws_FnChains_B1 N (fun cost1 a b s c1 b601 b721 b831 => kx_ (cost1, a, b, s, c1, b601, b721, b831)) x_.1 x_.2.1 x_.2.2.1 x_.2.2.2.1 x_.2.2.2.2.1 x_.2.2.2.2.2.1 x_.2.2.2.2.2.2.1 x_.2.2.2.2.2.2.2) (fun _ _ => rfl) (fun j_ => (cost1 j_, a j_, b j_, s j_, c1 j_, b601 j_, b721 j_, b831 j_)) n_ (fun j_ hi_ kx_ => hstep_ j_ hi_ _) (fun kx_ => hend_ _) fu_ hm_
def laws_FnChains_K2 (N : Nat) (cost : Int) (ok : Bool) (v190 : Bool) (c : (List Int) × (List Int) × (List Int)) (b60 : Y1 × Bool) (b72 : Y1 × Bool) (b83 : (List Int) × Bool) : Option Y4 :=
  bif v190 then
    some (false, ())
  else
    bif !ok then
      some (true, ())
    else
      laws_FnChains_L1 N N cost 0 0 0 c b60 b72 b83
def laws_FnChains (N : Nat) (code : List Int) : Option Y4 :=
  (Q29 N code).bind fun r =>
  bif r.1 then
    some (true, ())
  else
    (Q47 N code).bind fun r1 =>
    (Q9 N r1.1.1 r1.1.2).bind fun r2 =>
    (Q45 N r1.1.1 r1.1.2).bind fun r3 =>
    (Q10 N r1.1.1 r1.1.2).bind fun r4 =>
    (Q46 N r1.1.1 r1.1.2).bind fun r5 =>
    (Q18 N r1.1.1 r1.1.2).bind fun r6 =>
    (Q50 N r1.1.1 r1.1.2).bind fun r7 =>
    (Q17 N r1.1.1).bind fun r8 =>
    (Q49 N r1.1.1).bind fun r9 =>
    (Q20 N r1.1.1 r1.1.2).bind fun r10 =>
    (Q52 N r1.1.1 r1.1.2).bind fun r11 =>
    (Q21 N r1.1.1 r1.1.2).bind fun r12 =>
    (Q53 N r1.1.1 r1.1.2).bind fun r13 =>
    bif ine r2.1.1 r3.1.1 then
      laws_FnChains_K2 N r2.1.1 r2.1.2 true r1.1.1 r4.1 r6.1 r8.1
    else
      bif !(Go.Rx.beq r2.1.2 r3.1.2) then
        laws_FnChains_K2 N r2.1.1 r2.1.2 true r1.1.1 r4.1 r6.1 r8.1
      else
        bif !(Go.Rx.beq r4.1.2 r5.1.2) then
          laws_FnChains_K2 N r2.1.1 r2.1.2 true r1.1.1 r4.1 r6.1 r8.1
        else
          (Q31 N r4.1.1 r5.1.1).bind fun r14 =>
          bif !r14.1 then
            laws_FnChains_K2 N r2.1.1 r2.1.2 true r1.1.1 r4.1 r6.1 r8.1
          else
            bif !(Go.Rx.beq r6.1.2 r7.1.2) then
              laws_FnChains_K2 N r2.1.1 r2.1.2 true r1.1.1 r4.1 r6.1 r8.1
            else
              (Q31 N r6.1.1 r7.1.1).bind fun r15 =>
              bif !r15.1 then
                laws_FnChains_K2 N r2.1.1 r2.1.2 true r1.1.1 r4.1 r6.1 r8.1
              else
                bif !(Go.Rx.beq r8.1.2 r9.1.2) then
                  laws_FnChains_K2 N r2.1.1 r2.1.2 true r1.1.1 r4.1 r6.1 r8.1
                else
                  (Q30 N r8.1.1 r9.1.1).bind fun r16 =>
                  bif !r16.1 then
                    laws_FnChains_K2 N r2.1.1 r2.1.2 true r1.1.1 r4.1 r6.1 r8.1
                  else
                    bif !(Go.Rx.beq r10.1.1 r11.1.1) then
                      laws_FnChains_K2 N r2.1.1 r2.1.2 true r1.1.1 r4.1 r6.1 r8.1
                    else
                      bif !(Go.Rx.beq r10.1.2 r11.1.2) then
                        laws_FnChains_K2 N r2.1.1 r2.1.2 true r1.1.1 r4.1 r6.1 r8.1
                      else
                        bif !(Go.Rx.beq r12.1.1 r13.1.1) then
                          laws_FnChains_K2 N r2.1.1 r2.1.2 true r1.1.1 r4.1 r6.1 r8.1
                        else
                          bif !(Go.Rx.beq r12.1.2 r13.1.2) then
                            laws_FnChains_K2 N r2.1.1 r2.1.2 true r1.1.1 r4.1 r6.1 r8.1
                          else
                            bif r10.1.2 then
                              bif !(Go.Rx.beq r2.1.2 r10.1.1) then
                                laws_FnChains_K2 N r2.1.1 r2.1.2 true r1.1.1 r4.1 r6.1 r8.1
                              else
                                (Q19 N r1.1.1).bind fun r17 =>
                                (Q51 N r1.1.1).bind fun r18 =>
                                laws_FnChains_K2 N r2.1.1 r2.1.2 (!(Go.Rx.beq r17.1 r18.1)) r1.1.1 r4.1 r6.1 r8.1
                            else
                              bif !(Go.Rx.beq r2.1.2 false) then
                                laws_FnChains_K2 N r2.1.1 r2.1.2 true r1.1.1 r4.1 r6.1 r8.1
                              else
                                (Q19 N r1.1.1).bind fun r19 =>
                                (Q51 N r1.1.1).bind fun r20 =>
                                laws_FnChains_K2 N r2.1.1 r2.1.2 (!(Go.Rx.beq r19.1 r20.1)) r1.1.1 r4.1 r6.1 r8.1
end Px
end Go.Rx
