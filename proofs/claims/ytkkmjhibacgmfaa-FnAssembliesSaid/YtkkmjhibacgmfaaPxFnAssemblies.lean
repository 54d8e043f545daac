/- This text defines the plain functions that the Go functions behind FnAssemblies compute; no condition. -/
import Derived.Test.YtkkmjhibacgmfaaRxd
set_option linter.unusedVariables false
set_option linter.unusedSimpArgs false
namespace Go.Rx
namespace Px
def spec_l1In (N : Nat) (x : Int) (a : Int) (b : Int) : Option (Bool × Unit) :=
  bif ile a x then
    some (ile x b, ())
  else
    some (false, ())
def spec_l2Row_K1 (N : Nat) (row2 : List Int) (n2 : Int) : Option (Bool × Unit) :=
  some (ieq (len row2) n2, ())
def spec_l2Row_B1 (N : Nat) (kx : (List Int) → Int → Int → Int → Option (Bool × Unit)) (row1 : List Int) (n1 : Int) (most1 : Int) (i : Int) : Option (Bool × Unit) :=
  bif ilt i (len row1) then
    chk (inB i row1.length) <|
    (spec_l1In N (gd row1 i.toNat 0) 0 most1).bind fun r =>
    bif !r.1 then
      some (false, ())
    else
      kx row1 n1 most1 (iadd .i64 i 1)
  else
    spec_l2Row_K1 N row1 n1
def spec_l2Row_L1 (N fu_ : Nat) (row1 : List Int) (n1 : Int) (most1 : Int) (i : Int) : Option (Bool × Unit) :=
  iterK fu_ (fun kx (v_ : ((List Int) × Int × Int × Int × Unit) × (Unit)) => spec_l2Row_B1 N (fun row1 n1 most1 i => kx ((row1, n1, most1, i, ()), ())) v_.1.1 v_.1.2.1 v_.1.2.2.1 v_.1.2.2.2.1) ((row1, n1, most1, i, ()), ())
theorem spec_l2Row_L1_succ (N fu_ : Nat) (row1 : List Int) (n1 : Int) (most1 : Int) (i : Int) : spec_l2Row_L1 N (fu_ + 1) row1 n1 most1 i = spec_l2Row_B1 N (fun row1 n1 most1 i => spec_l2Row_L1 N fu_ row1 n1 most1 i) row1 n1 most1 i := rfl
theorem spec_l2Row_L1_run (N : Nat) (row1 : Nat → (List Int)) (n1 : Nat → Int) (most1 : Nat → Int) (i : Nat → Int) (n_ : Nat) {res_ : Option (Bool × Unit)} (hstep_ : ∀ j_, j_ < n_ → ∀ kx_, spec_l2Row_B1 N kx_ (row1 j_) (n1 j_) (most1 j_) (i j_) = kx_ (row1 (j_ + 1)) (n1 (j_ + 1)) (most1 (j_ + 1)) (i (j_ + 1))) (hend_ : ∀ kx_, spec_l2Row_B1 N kx_ (row1 n_) (n1 n_) (most1 n_) (i n_) = res_) (fu_ : Nat) (hm_ : n_ < fu_) : spec_l2Row_L1 N fu_ (row1 0) (n1 0) (most1 0) (i 0) = res_ := by
  exact loop_run (L := fun fu_ (x_ : (List Int) × Int × Int × Int) => spec_l2Row_L1 N fu_ x_.1 x_.2.1 x_.2.2.1 x_.2.2.2) (B := fun kx_ x_ => spec_l2Row_B1 N (fun row1 n1 most1 i => kx_ (row1, n1, most1, i)) x_.1 x_.2.1 x_.2.2.1 x_.2.2.2) (fun _ _ => rfl) (fun j_ => (row1 j_, n1 j_, most1 j_, i j_)) n_ (fun j_ hi_ kx_ => hstep_ j_ hi_ _) (fun kx_ => hend_ _) fu_ hm_
def spec_l2Row (N : Nat) (row : List Int) (n : Int) (most : Int) : Option (Bool × Unit) :=
  spec_l2Row_L1 N N row n most 0
def spec_l2Sum_K1 (N : Nat) (sum1 : Int) : Option (Int × Unit) :=
  some (sum1, ())
def spec_l2Sum_B1 (N : Nat) (kx : (List Int) → Int → Int → Option (Int × Unit)) (list1 : List Int) (sum : Int) (i : Int) : Option (Int × Unit) :=
  bif ilt i (len list1) then
    chk (inB i list1.length) <|
    kx list1 (iadd .i64 sum (gd list1 i.toNat 0)) (iadd .i64 i 1)
  else
    spec_l2Sum_K1 N sum
def spec_l2Sum_L1 (N fu_ : Nat) (list1 : List Int) (sum : Int) (i : Int) : Option (Int × Unit) :=
  iterK fu_ (fun kx (v_ : ((List Int) × Int × Int × Unit) × (Unit)) => spec_l2Sum_B1 N (fun list1 sum i => kx ((list1, sum, i, ()), ())) v_.1.1 v_.1.2.1 v_.1.2.2.1) ((list1, sum, i, ()), ())
theorem spec_l2Sum_L1_succ (N fu_ : Nat) (list1 : List Int) (sum : Int) (i : Int) : spec_l2Sum_L1 N (fu_ + 1) list1 sum i = spec_l2Sum_B1 N (fun list1 sum i => spec_l2Sum_L1 N fu_ list1 sum i) list1 sum i := rfl
theorem spec_l2Sum_L1_run (N : Nat) (list1 : Nat → (List Int)) (sum : Nat → Int) (i : Nat → Int) (n_ : Nat) {res_ : Option (Int × Unit)} (hstep_ : ∀ j_, j_ < n_ → ∀ kx_, spec_l2Sum_B1 N kx_ (list1 j_) (sum j_) (i j_) = kx_ (list1 (j_ + 1)) (sum (j_ + 1)) (i (j_ + 1))) (hend_ : ∀ kx_, spec_l2Sum_B1 N kx_ (list1 n_) (sum n_) (i n_) = res_) (fu_ : Nat) (hm_ : n_ < fu_) : spec_l2Sum_L1 N fu_ (list1 0) (sum 0) (i 0) = res_ := by
  exact loop_run (L := fun fu_ (x_ : (List Int) × Int × Int) => spec_l2Sum_L1 N fu_ x_.1 x_.2.1 x_.2.2) (B := fun kx_ x_ => spec_l2Sum_B1 N (fun list1 sum i => kx_ (list1, sum, i)) x_.1 x_.2.1 x_.2.2) (fun _ _ => rfl) (fun j_ => (list1 j_, sum j_, i j_)) n_ (fun j_ hi_ kx_ => hstep_ j_ hi_ _) (fun kx_ => hend_ _) fu_ hm_
def spec_l2Sum (N : Nat) (list : List Int) : Option (Int × Unit) :=
  spec_l2Sum_L1 N N list 0 0
def spec_l7Parts (N : Nat) (need : List Int) (setups : List Int) (holds : List Int) : Option (Bool × Unit) :=
  bif ilt 6 (len need) then
    some (false, ())
  else
    (spec_l2Row N need (len need) 20).bind fun r =>
    bif !r.1 then
      some (false, ())
    else
      (spec_l1In N (len setups) 1 3).bind fun r1 =>
      bif !r1.1 then
        some (false, ())
      else
        (spec_l2Row N setups (len setups) 99).bind fun r2 =>
        bif r2.1 then
          (spec_l2Row N holds (len setups) 9).bind fun r3 =>
          bif r3.1 then
            chk (inB 0 holds.length) <|
            chk (cutB 1 (len holds) holds.length) <|
            (spec_l2Sum N (cut holds 1 (len holds))).bind fun r4 =>
            some (ile r4.1 (gd holds 0 0), ())
          else
            some (false, ())
        else
          some (false, ())
def spec_l2Bits_K1 (N : Nat) (out1 : List Int) : Option ((List Int) × Unit) :=
  some (out1, ())
def spec_l2Bits_B1 (N : Nat) (kx : Int → Int → Int → (List Int) → Option ((List Int) × Unit)) (n1 : Int) (code1 : Int) (x : Int) (out : List Int) : Option ((List Int) × Unit) :=
  bif ilt x n1 then
    chk (ile 0 x) <|
    bif ieq (iand .i64 (ishr .i64 code1 x) 1) 1 then
      chk (fitB (out.length + 1) 8) <|
      kx n1 code1 (iadd .i64 x 1) (out ++ [x])
    else
      kx n1 code1 (iadd .i64 x 1) out
  else
    spec_l2Bits_K1 N out
def spec_l2Bits_L1 (N fu_ : Nat) (n1 : Int) (code1 : Int) (x : Int) (out : List Int) : Option ((List Int) × Unit) :=
  iterK fu_ (fun kx (v_ : (Int × Int × Int × Unit) × ((List Int) × Unit)) => spec_l2Bits_B1 N (fun n1 code1 x out => kx ((n1, code1, x, ()), (out, ()))) v_.1.1 v_.1.2.1 v_.1.2.2.1 v_.2.1) ((n1, code1, x, ()), (out, ()))
theorem spec_l2Bits_L1_succ (N fu_ : Nat) (n1 : Int) (code1 : Int) (x : Int) (out : List Int) : spec_l2Bits_L1 N (fu_ + 1) n1 code1 x out = spec_l2Bits_B1 N (fun n1 code1 x out => spec_l2Bits_L1 N fu_ n1 code1 x out) n1 code1 x out := rfl
theorem spec_l2Bits_L1_run (N : Nat) (n1 : Nat → Int) (code1 : Nat → Int) (x : Nat → Int) (out : Nat → (List Int)) (n_ : Nat) {res_ : Option ((List Int) × Unit)} (hstep_ : ∀ j_, j_ < n_ → ∀ kx_, spec_l2Bits_B1 N kx_ (n1 j_) (code1 j_) (x j_) (out j_) = kx_ (n1 (j_ + 1)) (code1 (j_ + 1)) (x (j_ + 1)) (out (j_ + 1))) (hend_ : ∀ kx_, spec_l2Bits_B1 N kx_ (n1 n_) (code1 n_) (x n_) (out n_) = res_) (fu_ : Nat) (hm_ : n_ < fu_) : spec_l2Bits_L1 N fu_ (n1 0) (code1 0) (x 0) (out 0) = res_ := by
  exact loop_run (L := fun fu_ (x_ : Int × Int × Int × (List Int)) => spec_l2Bits_L1 N fu_ x_.1 x_.2.1 x_.2.2.1 x_.2.2.2) (B := fun kx_ x_ => spec_l2Bits_B1 N (fun n1 code1 x out => kx_ (n1, code1, x, out)) x_.1 x_.2.1 x_.2.2.1 x_.2.2.2) (fun _ _ => rfl) (fun j_ => (n1 j_, code1 j_, x j_, out j_)) n_ (fun j_ hi_ kx_ => hstep_ j_ hi_ _) (fun kx_ => hend_ _) fu_ hm_
def spec_l2Bits (N : Nat) (n : Int) (code : Int) : Option ((List Int) × Unit) :=
  spec_l2Bits_L1 N N n code 0 []
def spec_l7Fed_K1 (N : Nat) : Option (Bool × Unit) :=
  some (true, ())
def spec_l7Fed_B1 (N : Nat) (kx : (List Int) → (List Int) → Int → Option (Bool × Unit)) (need1 : List Int) (periods1 : List Int) (t : Int) : Option (Bool × Unit) :=
  bif ilt t (len need1) then
    chk (inB t need1.length) <|
    bif ilt 0 (gd need1 t.toNat 0) then
      bif ilt 0 (len periods1) then
        chk (inB 0 periods1.length) <|
        some (ile (gd periods1 0 0) t, ())
      else
        some (false, ())
    else
      kx need1 periods1 (iadd .i64 t 1)
  else
    spec_l7Fed_K1 N
def spec_l7Fed_L1 (N fu_ : Nat) (need1 : List Int) (periods1 : List Int) (t : Int) : Option (Bool × Unit) :=
  iterK fu_ (fun kx (v_ : ((List Int) × (List Int) × Int × Unit) × (Unit)) => spec_l7Fed_B1 N (fun need1 periods1 t => kx ((need1, periods1, t, ()), ())) v_.1.1 v_.1.2.1 v_.1.2.2.1) ((need1, periods1, t, ()), ())
theorem spec_l7Fed_L1_succ (N fu_ : Nat) (need1 : List Int) (periods1 : List Int) (t : Int) : spec_l7Fed_L1 N (fu_ + 1) need1 periods1 t = spec_l7Fed_B1 N (fun need1 periods1 t => spec_l7Fed_L1 N fu_ need1 periods1 t) need1 periods1 t := rfl
theorem spec_l7Fed_L1_run (N : Nat) (need1 : Nat → (List Int)) (periods1 : Nat → (List Int)) (t : Nat → Int) (n_ : Nat) {res_ : Option (Bool × Unit)} (hstep_ : ∀ j_, j_ < n_ → ∀ kx_, spec_l7Fed_B1 N kx_ (need1 j_) (periods1 j_) (t j_) = kx_ (need1 (j_ + 1)) (periods1 (j_ + 1)) (t (j_ + 1))) (hend_ : ∀ kx_, spec_l7Fed_B1 N kx_ (need1 n_) (periods1 n_) (t n_) = res_) (fu_ : Nat) (hm_ : n_ < fu_) : spec_l7Fed_L1 N fu_ (need1 0) (periods1 0) (t 0) = res_ := by
  exact loop_run (L := fun fu_ (x_ : (List Int) × (List Int) × Int) => spec_l7Fed_L1 N fu_ x_.1 x_.2.1 x_.2.2) (B := fun kx_ x_ => spec_l7Fed_B1 N (fun need1 periods1 t => kx_ (need1, periods1, t)) x_.1 x_.2.1 x_.2.2) (fun _ _ => rfl) (fun j_ => (need1 j_, periods1 j_, t j_)) n_ (fun j_ hi_ kx_ => hstep_ j_ hi_ _) (fun kx_ => hend_ _) fu_ hm_
def spec_l7Fed (N : Nat) (need : List Int) (periods : List Int) : Option (Bool × Unit) :=
  spec_l7Fed_L1 N N need periods 0
def spec_l7Row_K1 (N : Nat) (kx : (List Int) → (List Int) → Int → (List Int) → Option ((List Int) × Unit)) (need2 : List Int) (periods2 : List Int) (i1 : Int) (endx : Int) (out1 : List Int) : Option ((List Int) × Unit) :=
  chk (inB i1 periods2.length) <|
  chk (inB i1 periods2.length) <|
  chk (cutB (gd periods2 i1.toNat 0) endx need2.length) <|
  (spec_l2Sum N (cut need2 (gd periods2 i1.toNat 0) endx)).bind fun r =>
  chk (inB (gd periods2 i1.toNat 0) out1.length) <|
  kx need2 periods2 (iadd .i64 i1 1) (List.set out1 (gd periods2 i1.toNat 0).toNat r.1)
def spec_l7Row_K2 (N : Nat) (out2 : List Int) : Option ((List Int) × Unit) :=
  some (out2, ())
def spec_l7Row_B1 (N : Nat) (kx : (List Int) → (List Int) → Int → (List Int) → Option ((List Int) × Unit)) (need1 : List Int) (periods1 : List Int) (i : Int) (out : List Int) : Option ((List Int) × Unit) :=
  bif ilt i (len periods1) then
    bif ilt (iadd .i64 i 1) (len periods1) then
      chk (inB (iadd .i64 i 1) periods1.length) <|
      spec_l7Row_K1 N kx need1 periods1 i (gd periods1 (iadd .i64 i 1).toNat 0) out
    else
      spec_l7Row_K1 N kx need1 periods1 i (len need1) out
  else
    spec_l7Row_K2 N out
def spec_l7Row_L1 (N fu_ : Nat) (need1 : List Int) (periods1 : List Int) (i : Int) (out : List Int) : Option ((List Int) × Unit) :=
  iterK fu_ (fun kx (v_ : ((List Int) × (List Int) × Int × Unit) × ((List Int) × Unit)) => spec_l7Row_B1 N (fun need1 periods1 i out => kx ((need1, periods1, i, ()), (out, ()))) v_.1.1 v_.1.2.1 v_.1.2.2.1 v_.2.1) ((need1, periods1, i, ()), (out, ()))
theorem spec_l7Row_L1_succ (N fu_ : Nat) (need1 : List Int) (periods1 : List Int) (i : Int) (out : List Int) : spec_l7Row_L1 N (fu_ + 1) need1 periods1 i out = spec_l7Row_B1 N (fun need1 periods1 i out => spec_l7Row_L1 N fu_ need1 periods1 i out) need1 periods1 i out := rfl
theorem spec_l7Row_L1_run (N : Nat) (need1 : Nat → (List Int)) (periods1 : Nat → (List Int)) (i : Nat → Int) (out : Nat → (List Int)) (n_ : Nat) {res_ : Option ((List Int) × Unit)} (hstep_ : ∀ j_, j_ < n_ → ∀ kx_, spec_l7Row_B1 N kx_ (need1 j_) (periods1 j_) (i j_) (out j_) = kx_ (need1 (j_ + 1)) (periods1 (j_ + 1)) (i (j_ + 1)) (out (j_ + 1))) (hend_ : ∀ kx_, spec_l7Row_B1 N kx_ (need1 n_) (periods1 n_) (i n_) (out n_) = res_) (fu_ : Nat) (hm_ : n_ < fu_) : spec_l7Row_L1 N fu_ (need1 0) (periods1 0) (i 0) (out 0) = res_ := by
  exact loop_run (L := fun fu_ (x_ : (List Int) × (List Int) × Int × (List Int)) => spec_l7Row_L1 N fu_ x_.1 x_.2.1 x_.2.2.1 x_.2.2.2) (B := fun kx_ x_ => spec_l7Row_B1 N (fun need1 periods1 i out => kx_ (need1, periods1, i, out)) x_.1 x_.2.1 x_.2.2.1 x_.2.2.2) (fun _ _ => rfl) (fun j_ => (need1 j_, periods1 j_, i j_, out j_)) n_ (fun j_ hi_ kx_ => hstep_ j_ hi_ _) (fun kx_ => hend_ _) fu_ hm_
def spec_l7Row (N : Nat) (need : List Int) (periods : List Int) : Option ((List Int) × Unit) :=
  chk (mkB (len need) 8) <|
  spec_l7Row_L1 N N need periods 0 (List.replicate (len need).toNat 0)
def spec_l7Single_K1 (N : Nat) (sum1 : Int) : Option (Int × Unit) :=
  some (sum1, ())
def spec_l7Single_B1 (N : Nat) (kx : (List Int) → Int → Int → Int → Int → Int → (List Int) → Option (Int × Unit)) (need1 : List Int) (setup1 : Int) (hold1 : Int) (sum : Int) (now : Int) (t : Int) (row : List Int) : Option (Int × Unit) :=
  bif ilt t (len need1) then
    chk (inB t row.length) <|
    chk (inB t need1.length) <|
    chk (inB t row.length) <|
    bif ilt 0 (gd row t.toNat 0) then
      kx need1 setup1 hold1 (iadd .i64 (iadd .i64 sum (imul .i64 hold1 (isub .i64 (iadd .i64 now (gd row t.toNat 0)) (gd need1 t.toNat 0)))) setup1) (isub .i64 (iadd .i64 now (gd row t.toNat 0)) (gd need1 t.toNat 0)) (iadd .i64 t 1) row
    else
      kx need1 setup1 hold1 (iadd .i64 sum (imul .i64 hold1 (isub .i64 (iadd .i64 now (gd row t.toNat 0)) (gd need1 t.toNat 0)))) (isub .i64 (iadd .i64 now (gd row t.toNat 0)) (gd need1 t.toNat 0)) (iadd .i64 t 1) row
  else
    spec_l7Single_K1 N sum
def spec_l7Single_L1 (N fu_ : Nat) (need1 : List Int) (setup1 : Int) (hold1 : Int) (sum : Int) (now : Int) (t : Int) (row : List Int) : Option (Int × Unit) :=
  iterK fu_ (fun kx (v_ : ((List Int) × Int × Int × Int × Int × Int × Unit) × ((List Int) × Unit)) => spec_l7Single_B1 N (fun need1 setup1 hold1 sum now t row => kx ((need1, setup1, hold1, sum, now, t, ()), (row, ()))) v_.1.1 v_.1.2.1 v_.1.2.2.1 v_.1.2.2.2.1 v_.1.2.2.2.2.1 v_.1.2.2.2.2.2.1 v_.2.1) ((need1, setup1, hold1, sum, now, t, ()), (row, ()))
theorem spec_l7Single_L1_succ (N fu_ : Nat) (need1 : List Int) (setup1 : Int) (hold1 : Int) (sum : Int) (now : Int) (t : Int) (row : List Int) : spec_l7Single_L1 N (fu_ + 1) need1 setup1 hold1 sum now t row = spec_l7Single_B1 N (fun need1 setup1 hold1 sum now t row => spec_l7Single_L1 N fu_ need1 setup1 hold1 sum now t row) need1 setup1 hold1 sum now t row := rfl
theorem spec_l7Single_L1_run (N : Nat) (need1 : Nat → (List Int)) (setup1 : Nat → Int) (hold1 : Nat → Int) (sum : Nat → Int) (now : Nat → Int) (t : Nat → Int) (row : Nat → (List Int)) (n_ : Nat) {res_ : Option (Int × Unit)} (hstep_ : ∀ j_, j_ < n_ → ∀ kx_, spec_l7Single_B1 N kx_ (need1 j_) (setup1 j_) (hold1 j_) (sum j_) (now j_) (t j_) (row j_) = kx_ (need1 (j_ + 1)) (setup1 (j_ + 1)) (hold1 (j_ + 1)) (sum (j_ + 1)) (now (j_ + 1)) (t (j_ + 1)) (row (j_ + 1))) (hend_ : ∀ kx_, spec_l7Single_B1 N kx_ (need1 n_) (setup1 n_) (hold1 n_) (sum n_) (now n_) (t n_) (row n_) = res_) (fu_ : Nat) (hm_ : n_ < fu_) : spec_l7Single_L1 N fu_ (need1 0) (setup1 0) (hold1 0) (sum 0) (now 0) (t 0) (row 0) = res_ := by
  exact loop_run (L := fun fu_ (x_ : (List Int) × Int × Int × Int × Int × Int × (List Int)) => spec_l7Single_L1 N fu_ x_.1 x_.2.1 x_.2.2.1 x_.2.2.2.1 x_.2.2.2.2.1 x_.2.2.2.2.2.1 x_.2.2.2.2.2.2) (B := fun kx_ x_ => spec_l7Single_B1 N (fun need1 setup1 hold1 sum now t row => kx_ (need1, setup1, hold1, sum, now, t, row)) x_.1 x_.2.1 x_.2.2.1 x_.2.2.2.1 x_.2.2.2.2.1 x_.2.2.2.2.2.1 x_.2.2.2.2.2.2) (fun _ _ => rfl) (fun j_ => (need1 j_, setup1 j_, hold1 j_, sum j_, now j_, t j_, row j_)) n_ (fun j_ hi_ kx_ => hstep_ j_ hi_ _) (fun kx_ => hend_ _) fu_ hm_
def spec_l7Single (N : Nat) (need : List Int) (setup : Int) (hold : Int) (periods : List Int) : Option (Int × Unit) :=
  (spec_l7Row N need periods).bind fun r =>
  spec_l7Single_L1 N N need setup hold 0 0 0 r.1
def spec_l7Least_K1 (N : Nat) (best1 : Int) : Option (Int × Unit) :=
  some (best1, ())
def spec_l7Least_B1 (N : Nat) (kx : (List Int) → Int → Int → Int → Int → Option (Int × Unit)) (need1 : List Int) (setup1 : Int) (hold1 : Int) (best : Int) (code : Int) : Option (Int × Unit) :=
  chk (ile 0 (len need1)) <|
  bif ilt code (ishl .i64 1 (len need1)) then
    (spec_l2Bits N (len need1) code).bind fun r =>
    (spec_l7Fed N need1 r.1).bind fun r1 =>
    bif !r1.1 then
      kx need1 setup1 hold1 best (iadd .i64 code 1)
    else
      (spec_l7Single N need1 setup1 hold1 r.1).bind fun r2 =>
      bif ilt best 0 then
        kx need1 setup1 hold1 r2.1 (iadd .i64 code 1)
      else
        bif ilt r2.1 best then
          kx need1 setup1 hold1 r2.1 (iadd .i64 code 1)
        else
          kx need1 setup1 hold1 best (iadd .i64 code 1)
  else
    spec_l7Least_K1 N best
def spec_l7Least_L1 (N fu_ : Nat) (need1 : List Int) (setup1 : Int) (hold1 : Int) (best : Int) (code : Int) : Option (Int × Unit) :=
  iterK fu_ (fun kx (v_ : ((List Int) × Int × Int × Int × Int × Unit) × (Unit)) => spec_l7Least_B1 N (fun need1 setup1 hold1 best code => kx ((need1, setup1, hold1, best, code, ()), ())) v_.1.1 v_.1.2.1 v_.1.2.2.1 v_.1.2.2.2.1 v_.1.2.2.2.2.1) ((need1, setup1, hold1, best, code, ()), ())
theorem spec_l7Least_L1_succ (N fu_ : Nat) (need1 : List Int) (setup1 : Int) (hold1 : Int) (best : Int) (code : Int) : spec_l7Least_L1 N (fu_ + 1) need1 setup1 hold1 best code = spec_l7Least_B1 N (fun need1 setup1 hold1 best code => spec_l7Least_L1 N fu_ need1 setup1 hold1 best code) need1 setup1 hold1 best code := rfl
theorem spec_l7Least_L1_run (N : Nat) (need1 : Nat → (List Int)) (setup1 : Nat → Int) (hold1 : Nat → Int) (best : Nat → Int) (code : Nat → Int) (n_ : Nat) {res_ : Option (Int × Unit)} (hstep_ : ∀ j_, j_ < n_ → ∀ kx_, spec_l7Least_B1 N kx_ (need1 j_) (setup1 j_) (hold1 j_) (best j_) (code j_) = kx_ (need1 (j_ + 1)) (setup1 (j_ + 1)) (hold1 (j_ + 1)) (best (j_ + 1)) (code (j_ + 1))) (hend_ : ∀ kx_, spec_l7Least_B1 N kx_ (need1 n_) (setup1 n_) (hold1 n_) (best n_) (code n_) = res_) (fu_ : Nat) (hm_ : n_ < fu_) : spec_l7Least_L1 N fu_ (need1 0) (setup1 0) (hold1 0) (best 0) (code 0) = res_ := by
  exact loop_run (L := fun fu_ (x_ : (List Int) × Int × Int × Int × Int) => spec_l7Least_L1 N fu_ x_.1 x_.2.1 x_.2.2.1 x_.2.2.2.1 x_.2.2.2.2) (B := fun kx_ x_ => spec_l7Least_B1 N (fun need1 setup1 hold1 best code => kx_ (need1, setup1, hold1, best, code)) x_.1 x_.2.1 x_.2.2.1 x_.2.2.2.1 x_.2.2.2.2) (fun _ _ => rfl) (fun j_ => (need1 j_, setup1 j_, hold1 j_, best j_, code j_)) n_ (fun j_ hi_ kx_ => hstep_ j_ hi_ _) (fun kx_ => hend_ _) fu_ hm_
def spec_l7Least (N : Nat) (need : List Int) (setup : Int) (hold : Int) : Option (Int × Unit) :=
  spec_l7Least_L1 N N need setup hold (-1) 0
def spec_BestAssembly_K1 (N : Nat) (kx : (List Int) → (List Int) → (List Int) → Int → Int → Option ((Int × Bool) × Unit)) (need3 : List Int) (setups3 : List Int) (holds3 : List Int) (best2 : Int) (code2 : Int) (cost1 : Int) : Option ((Int × Bool) × Unit) :=
  bif ilt best2 0 then
    kx need3 setups3 holds3 cost1 (iadd .i64 code2 1)
  else
    bif ilt cost1 best2 then
      kx need3 setups3 holds3 cost1 (iadd .i64 code2 1)
    else
      kx need3 setups3 holds3 best2 (iadd .i64 code2 1)
def spec_BestAssembly_B1 (N : Nat) (kx : (List Int) → (List Int) → (List Int) → Int → Int → Option ((Int × Bool) × Unit)) (kx2 : (List Int) → (List Int) → (List Int) → Int → Int → Int → Int → (List Int) → Option ((Int × Bool) × Unit)) (need2 : List Int) (setups2 : List Int) (holds2 : List Int) (best1 : Int) (code1 : Int) (cost : Int) (kx1 : Int) (periods : List Int) : Option ((Int × Bool) × Unit) :=
  bif ilt kx1 (len setups2) then
    (spec_l7Row N need2 periods).bind fun r4 =>
    chk (inB kx1 setups2.length) <|
    chk (inB kx1 holds2.length) <|
    (spec_l7Least N r4.1 (gd setups2 kx1.toNat 0) (gd holds2 kx1.toNat 0)).bind fun r5 =>
    kx2 need2 setups2 holds2 best1 code1 (iadd .i64 cost r5.1) (iadd .i64 kx1 1) periods
  else
    spec_BestAssembly_K1 N kx need2 setups2 holds2 best1 code1 cost
def spec_BestAssembly_L1 (N fu_ : Nat) (kx : (List Int) → (List Int) → (List Int) → Int → Int → Option ((Int × Bool) × Unit)) (need2 : List Int) (setups2 : List Int) (holds2 : List Int) (best1 : Int) (code1 : Int) (cost : Int) (kx1 : Int) (periods : List Int) : Option ((Int × Bool) × Unit) :=
  iterK fu_ (fun kx2 (v_ : ((List Int) × (List Int) × (List Int) × Int × Int × Int × Int × Unit) × ((List Int) × Unit)) => spec_BestAssembly_B1 N kx (fun need2 setups2 holds2 best1 code1 cost kx1 periods => kx2 ((need2, setups2, holds2, best1, code1, cost, kx1, ()), (periods, ()))) v_.1.1 v_.1.2.1 v_.1.2.2.1 v_.1.2.2.2.1 v_.1.2.2.2.2.1 v_.1.2.2.2.2.2.1 v_.1.2.2.2.2.2.2.1 v_.2.1) ((need2, setups2, holds2, best1, code1, cost, kx1, ()), (periods, ()))
theorem spec_BestAssembly_L1_succ (N fu_ : Nat) (kx : (List Int) → (List Int) → (List Int) → Int → Int → Option ((Int × Bool) × Unit)) (need2 : List Int) (setups2 : List Int) (holds2 : List Int) (best1 : Int) (code1 : Int) (cost : Int) (kx1 : Int) (periods : List Int) : spec_BestAssembly_L1 N (fu_ + 1) kx need2 setups2 holds2 best1 code1 cost kx1 periods = spec_BestAssembly_B1 N kx (fun need2 setups2 holds2 best1 code1 cost kx1 periods => spec_BestAssembly_L1 N fu_ kx need2 setups2 holds2 best1 code1 cost kx1 periods) need2 setups2 holds2 best1 code1 cost kx1 periods := rfl
theorem spec_BestAssembly_L1_run (N : Nat) (kx : (List Int) → (List Int) → (List Int) → Int → Int → Option ((Int × Bool) × Unit)) (need2 : Nat → (List Int)) (setups2 : Nat → (List Int)) (holds2 : Nat → (List Int)) (best1 : Nat → Int) (code1 : Nat → Int) (cost : Nat → Int) (kx1 : Nat → Int) (periods : Nat → (List Int)) (n_ : Nat) {res_ : Option ((Int × Bool) × Unit)} (hstep_ : ∀ j_, j_ < n_ → ∀ kx_, spec_BestAssembly_B1 N kx kx_ (need2 j_) (setups2 j_) (holds2 j_) (best1 j_) (code1 j_) (cost j_) (kx1 j_) (periods j_) = kx_ (need2 (j_ + 1)) (setups2 (j_ + 1)) (holds2 (j_ + 1)) (best1 (j_ + 1)) (code1 (j_ + 1)) (cost (j_ + 1)) (kx1 (j_ + 1)) (periods (j_ + 1))) (hend_ : ∀ kx_, spec_BestAssembly_B1 N kx kx_ (need2 n_) (setups2 n_) (holds2 n_) (best1 n_) (code1 n_) (cost n_) (kx1 n_) (periods n_) = res_) (fu_ : Nat) (hm_ : n_ < fu_) : spec_BestAssembly_L1 N fu_ kx (need2 0) (setups2 0) (holds2 0) (best1 0) (code1 0) (cost 0) (kx1 0) (periods 0) = res_ := by
  exact loop_run (L := fun fu_ (x_ : (List Int) × (List Int) × (List Int) × Int × Int × Int × Int × (List Int)) => spec_BestAssembly_L1 N fu_ kx x_.1 x_.2.1 x_.2.2.1 x_.2.2.2.1 x_.2.2.2.2.1 x_.2.2.2.2.2.1 x_.2.2.2.2.2.2.1 x_.2.2.2.2.2.2.2) (B := fun kx_ x_ => spec_BestAssembly_B1 N kx (fun need2 setups2 holds2 best1 code1 cost kx1 periods => kx_ (need2, setups2, holds2, best1, code1, cost, kx1, periods)) x_.1 x_.2.1 x_.2.2.1 x_.2.2.2.1 x_.2.2.2.2.1 x_.2.2.2.2.2.1 x_.2.2.2.2.2.2.1 x_.2.2.2.2.2.2.2) (fun _ _ => rfl) (fun j_ => (need2 j_, setups2 j_, holds2 j_, best1 j_, code1 j_, cost j_, kx1 j_, periods j_)) n_ (fun j_ hi_ kx_ => hstep_ j_ hi_ _) (fun kx_ => hend_ _) fu_ hm_
def spec_BestAssembly_K2 (N : Nat) (best3 : Int) : Option ((Int × Bool) × Unit) :=
  some ((best3, true), ())
def spec_BestAssembly_B2 (N : Nat) (kx : (List Int) → (List Int) → (List Int) → Int → Int → Option ((Int × Bool) × Unit)) (need1 : List Int) (setups1 : List Int) (holds1 : List Int) (best : Int) (code : Int) : Option ((Int × Bool) × Unit) :=
  chk (ile 0 (len need1)) <|
  bif ilt code (ishl .i64 1 (len need1)) then
    (spec_l2Bits N (len need1) code).bind fun r1 =>
    (spec_l7Fed N need1 r1.1).bind fun r2 =>
    bif !r2.1 then
      kx need1 setups1 holds1 best (iadd .i64 code 1)
    else
      chk (inB 0 setups1.length) <|
      chk (inB 0 holds1.length) <|
      (spec_l7Single N need1 (gd setups1 0 0) (gd holds1 0 0) r1.1).bind fun r3 =>
      spec_BestAssembly_L1 N N kx need1 setups1 holds1 best code r3.1 1 r1.1
  else
    spec_BestAssembly_K2 N best
def spec_BestAssembly_L2 (N fu_ : Nat) (need1 : List Int) (setups1 : List Int) (holds1 : List Int) (best : Int) (code : Int) : Option ((Int × Bool) × Unit) :=
  iterK fu_ (fun kx (v_ : ((List Int) × (List Int) × (List Int) × Int × Int × Unit) × (Unit)) => spec_BestAssembly_B2 N (fun need1 setups1 holds1 best code => kx ((need1, setups1, holds1, best, code, ()), ())) v_.1.1 v_.1.2.1 v_.1.2.2.1 v_.1.2.2.2.1 v_.1.2.2.2.2.1) ((need1, setups1, holds1, best, code, ()), ())
theorem spec_BestAssembly_L2_succ (N fu_ : Nat) (need1 : List Int) (setups1 : List Int) (holds1 : List Int) (best : Int) (code : Int) : spec_BestAssembly_L2 N (fu_ + 1) need1 setups1 holds1 best code = spec_BestAssembly_B2 N (fun need1 setups1 holds1 best code => spec_BestAssembly_L2 N fu_ need1 setups1 holds1 best code) need1 setups1 holds1 best code := rfl
theorem spec_BestAssembly_L2_run (N : Nat) (need1 : Nat → (List Int)) (setups1 : Nat → (List Int)) (holds1 : Nat → (List Int)) (best : Nat → Int) (code : Nat → Int) (n_ : Nat) {res_ : Option ((Int × Bool) × Unit)} (hstep_ : ∀ j_, j_ < n_ → ∀ kx_, spec_BestAssembly_B2 N kx_ (need1 j_) (setups1 j_) (holds1 j_) (best j_) (code j_) = kx_ (need1 (j_ + 1)) (setups1 (j_ + 1)) (holds1 (j_ + 1)) (best (j_ + 1)) (code (j_ + 1))) (hend_ : ∀ kx_, spec_BestAssembly_B2 N kx_ (need1 n_) (setups1 n_) (holds1 n_) (best n_) (code n_) = res_) (fu_ : Nat) (hm_ : n_ < fu_) : spec_BestAssembly_L2 N fu_ (need1 0) (setups1 0) (holds1 0) (best 0) (code 0) = res_ := by
  exact loop_run (L := fun fu_ (x_ : (List Int) × (List Int) × (List Int) × Int × Int) => spec_BestAssembly_L2 N fu_ x_.1 x_.2.1 x_.2.2.1 x_.2.2.2.1 x_.2.2.2.2) (B := fun kx_ x_ => spec_BestAssembly_B2 N (fun need1 setups1 holds1 best code => kx_ (need1, setups1, holds1, best, code)) x_.1 x_.2.1 x_.2.2.1 x_.2.2.2.1 x_.2.2.2.2) (fun _ _ => rfl) (fun j_ => (need1 j_, setups1 j_, holds1 j_, best j_, code j_)) n_ (fun j_ hi_ kx_ => hstep_ j_ hi_ _) (fun kx_ => hend_ _) fu_ hm_
def spec_BestAssembly (N : Nat) (need : List Int) (setups : List Int) (holds : List Int) : Option ((Int × Bool) × Unit) :=
  (spec_l7Parts N need setups holds).bind fun r =>
  bif !r.1 then
    some ((0, false), ())
  else
    spec_BestAssembly_L2 N N need setups holds (-1) 0
def impl_within (N : Nat) (n : Int) (low : Int) (high : Int) : Option (Bool × Unit) :=
  bif ile low n then
    some (ile n high, ())
  else
    some (false, ())
def impl_allWithin_K1 (N : Nat) : Option (Bool × Unit) :=
  some (true, ())
def impl_allWithin_B1 (N : Nat) (kx : Int → Int → (List Int) → Int → Int → Option (Bool × Unit)) (low1 : Int) (high1 : Int) (v9 : List Int) (v10 : Int) (v11 : Int) : Option (Bool × Unit) :=
  bif ilt v11 v10 then
    chk (inB v11 v9.length) <|
    (impl_within N (gd v9 v11.toNat 0) low1 high1).bind fun r =>
    bif !r.1 then
      some (false, ())
    else
      kx low1 high1 v9 v10 (iadd .i64 v11 1)
  else
    impl_allWithin_K1 N
def impl_allWithin_L1 (N fu_ : Nat) (low1 : Int) (high1 : Int) (v9 : List Int) (v10 : Int) (v11 : Int) : Option (Bool × Unit) :=
  iterK fu_ (fun kx (v_ : (Int × Int × (List Int) × Int × Int × Unit) × (Unit)) => impl_allWithin_B1 N (fun low1 high1 v9 v10 v11 => kx ((low1, high1, v9, v10, v11, ()), ())) v_.1.1 v_.1.2.1 v_.1.2.2.1 v_.1.2.2.2.1 v_.1.2.2.2.2.1) ((low1, high1, v9, v10, v11, ()), ())
theorem impl_allWithin_L1_succ (N fu_ : Nat) (low1 : Int) (high1 : Int) (v9 : List Int) (v10 : Int) (v11 : Int) : impl_allWithin_L1 N (fu_ + 1) low1 high1 v9 v10 v11 = impl_allWithin_B1 N (fun low1 high1 v9 v10 v11 => impl_allWithin_L1 N fu_ low1 high1 v9 v10 v11) low1 high1 v9 v10 v11 := rfl
theorem impl_allWithin_L1_run (N : Nat) (low1 : Nat → Int) (high1 : Nat → Int) (v9 : Nat → (List Int)) (v10 : Nat → Int) (v11 : Nat → Int) (n_ : Nat) {res_ : Option (Bool × Unit)} (hstep_ : ∀ j_, j_ < n_ → ∀ kx_, impl_allWithin_B1 N kx_ (low1 j_) (high1 j_) (v9 j_) (v10 j_) (v11 j_) = kx_ (low1 (j_ + 1)) (high1 (j_ + 1)) (v9 (j_ + 1)) (v10 (j_ + 1)) (v11 (j_ + 1))) (hend_ : ∀ kx_, impl_allWithin_B1 N kx_ (low1 n_) (high1 n_) (v9 n_) (v10 n_) (v11 n_) = res_) (fu_ : Nat) (hm_ : n_ < fu_) : impl_allWithin_L1 N fu_ (low1 0) (high1 0) (v9 0) (v10 0) (v11 0) = res_ := by
  exact loop_run (L := fun fu_ (x_ : Int × Int × (List Int) × Int × Int) => impl_allWithin_L1 N fu_ x_.1 x_.2.1 x_.2.2.1 x_.2.2.2.1 x_.2.2.2.2) (B := fun kx_ x_ => impl_allWithin_B1 N (fun low1 high1 v9 v10 v11 => kx_ (low1, high1, v9, v10, v11)) x_.1 x_.2.1 x_.2.2.1 x_.2.2.2.1 x_.2.2.2.2) (fun _ _ => rfl) (fun j_ => (low1 j_, high1 j_, v9 j_, v10 j_, v11 j_)) n_ (fun j_ hi_ kx_ => hstep_ j_ hi_ _) (fun kx_ => hend_ _) fu_ hm_
def impl_allWithin (N : Nat) (list : List Int) (low : Int) (high : Int) : Option (Bool × Unit) :=
  impl_allWithin_L1 N N low high list (len list) 0
def impl_total_K1 (N : Nat) (sum1 : Int) : Option (Int × Unit) :=
  some (sum1, ())
def impl_total_B1 (N : Nat) (kx : Int → (List Int) → Int → Int → Option (Int × Unit)) (sum : Int) (v6 : List Int) (v7 : Int) (v8 : Int) : Option (Int × Unit) :=
  bif ilt v8 v7 then
    chk (inB v8 v6.length) <|
    kx (iadd .i64 sum (gd v6 v8.toNat 0)) v6 v7 (iadd .i64 v8 1)
  else
    impl_total_K1 N sum
def impl_total_L1 (N fu_ : Nat) (sum : Int) (v6 : List Int) (v7 : Int) (v8 : Int) : Option (Int × Unit) :=
  iterK fu_ (fun kx (v_ : (Int × (List Int) × Int × Int × Unit) × (Unit)) => impl_total_B1 N (fun sum v6 v7 v8 => kx ((sum, v6, v7, v8, ()), ())) v_.1.1 v_.1.2.1 v_.1.2.2.1 v_.1.2.2.2.1) ((sum, v6, v7, v8, ()), ())
theorem impl_total_L1_succ (N fu_ : Nat) (sum : Int) (v6 : List Int) (v7 : Int) (v8 : Int) : impl_total_L1 N (fu_ + 1) sum v6 v7 v8 = impl_total_B1 N (fun sum v6 v7 v8 => impl_total_L1 N fu_ sum v6 v7 v8) sum v6 v7 v8 := rfl
theorem impl_total_L1_run (N : Nat) (sum : Nat → Int) (v6 : Nat → (List Int)) (v7 : Nat → Int) (v8 : Nat → Int) (n_ : Nat) {res_ : Option (Int × Unit)} (hstep_ : ∀ j_, j_ < n_ → ∀ kx_, impl_total_B1 N kx_ (sum j_) (v6 j_) (v7 j_) (v8 j_) = kx_ (sum (j_ + 1)) (v6 (j_ + 1)) (v7 (j_ + 1)) (v8 (j_ + 1))) (hend_ : ∀ kx_, impl_total_B1 N kx_ (sum n_) (v6 n_) (v7 n_) (v8 n_) = res_) (fu_ : Nat) (hm_ : n_ < fu_) : impl_total_L1 N fu_ (sum 0) (v6 0) (v7 0) (v8 0) = res_ := by
  exact loop_run (L := fun fu_ (x_ : Int × (List Int) × Int × Int) => impl_total_L1 N fu_ x_.1 x_.2.1 x_.2.2.1 x_.2.2.2) (B := fun kx_ x_ => impl_total_B1 N (fun sum v6 v7 v8 => kx_ (sum, v6, v7, v8)) x_.1 x_.2.1 x_.2.2.1 x_.2.2.2) (fun _ _ => rfl) (fun j_ => (sum j_, v6 j_, v7 j_, v8 j_)) n_ (fun j_ hi_ kx_ => hstep_ j_ hi_ _) (fun kx_ => hend_ _) fu_ hm_
def impl_total (N : Nat) (list : List Int) : Option (Int × Unit) :=
  impl_total_L1 N N 0 list (len list) 0
def impl_copied (N : Nat) (list : List Int) : Option ((List Int) × Unit) :=
  chk (fitB (0 + list.length) 8) <|
  some (list, ())
def impl_evenCase_K1 (N : Nat) (v61 : (List Int) × (List Int) × (List Int) × (List Int)) (c1 : (List Int) × (List Int) × (List Int) × (List Int)) : Option (((List Int) × (List Int) × (List Int) × (List Int)) × Unit) :=
  some (c1, ())
def impl_evenCase_B1 (N : Nat) (kx : Int → Int → Int → Int → ((List Int) × (List Int) × (List Int) × (List Int)) → ((List Int) × (List Int) × (List Int) × (List Int)) → Option (((List Int) × (List Int) × (List Int) × (List Int)) × Unit)) (setup1 : Int) (hold1 : Int) (v15 : Int) (v16 : Int) (v6 : (List Int) × (List Int) × (List Int) × (List Int)) (c : (List Int) × (List Int) × (List Int) × (List Int)) : Option (((List Int) × (List Int) × (List Int) × (List Int)) × Unit) :=
  bif ilt v16 v15 then
    chk (fitB (c.2.1.length + 1) 8) <|
    chk (fitB (c.2.2.2.length + 1) 8) <|
    kx setup1 hold1 v15 (iadd .i64 v16 1) v6 (c.1, (c.2.1 ++ [setup1], (c.2.2.1, c.2.2.2 ++ [hold1])))
  else
    impl_evenCase_K1 N v6 c
def impl_evenCase_L1 (N fu_ : Nat) (setup1 : Int) (hold1 : Int) (v15 : Int) (v16 : Int) (v6 : (List Int) × (List Int) × (List Int) × (List Int)) (c : (List Int) × (List Int) × (List Int) × (List Int)) : Option (((List Int) × (List Int) × (List Int) × (List Int)) × Unit) :=
  iterK fu_ (fun kx (v_ : (Int × Int × Int × Int × Unit) × (((List Int) × (List Int) × (List Int) × (List Int)) × ((List Int) × (List Int) × (List Int) × (List Int)) × Unit)) => impl_evenCase_B1 N (fun setup1 hold1 v15 v16 v6 c => kx ((setup1, hold1, v15, v16, ()), (v6, c, ()))) v_.1.1 v_.1.2.1 v_.1.2.2.1 v_.1.2.2.2.1 v_.2.1 v_.2.2.1) ((setup1, hold1, v15, v16, ()), (v6, c, ()))
theorem impl_evenCase_L1_succ (N fu_ : Nat) (setup1 : Int) (hold1 : Int) (v15 : Int) (v16 : Int) (v6 : (List Int) × (List Int) × (List Int) × (List Int)) (c : (List Int) × (List Int) × (List Int) × (List Int)) : impl_evenCase_L1 N (fu_ + 1) setup1 hold1 v15 v16 v6 c = impl_evenCase_B1 N (fun setup1 hold1 v15 v16 v6 c => impl_evenCase_L1 N fu_ setup1 hold1 v15 v16 v6 c) setup1 hold1 v15 v16 v6 c := rfl
theorem impl_evenCase_L1_run (N : Nat) (setup1 : Nat → Int) (hold1 : Nat → Int) (v15 : Nat → Int) (v16 : Nat → Int) (v6 : Nat → ((List Int) × (List Int) × (List Int) × (List Int))) (c : Nat → ((List Int) × (List Int) × (List Int) × (List Int))) (n_ : Nat) {res_ : Option (((List Int) × (List Int) × (List Int) × (List Int)) × Unit)} (hstep_ : ∀ j_, j_ < n_ → ∀ kx_, impl_evenCase_B1 N kx_ (setup1 j_) (hold1 j_) (v15 j_) (v16 j_) (v6 j_) (c j_) = kx_ (setup1 (j_ + 1)) (hold1 (j_ + 1)) (v15 (j_ + 1)) (v16 (j_ + 1)) (v6 (j_ + 1)) (c (j_ + 1))) (hend_ : ∀ kx_, impl_evenCase_B1 N kx_ (setup1 n_) (hold1 n_) (v15 n_) (v16 n_) (v6 n_) (c n_) = res_) (fu_ : Nat) (hm_ : n_ < fu_) : impl_evenCase_L1 N fu_ (setup1 0) (hold1 0) (v15 0) (v16 0) (v6 0) (c 0) = res_ := by
  exact loop_run (L := fun fu_ (x_ : Int × Int × Int × Int × ((List Int) × (List Int) × (List Int) × (List Int)) × ((List Int) × (List Int) × (List Int) × (List Int))) => impl_evenCase_L1 N fu_ x_.1 x_.2.1 x_.2.2.1 x_.2.2.2.1 x_.2.2.2.2.1 x_.2.2.2.2.2) (B := fun kx_ x_ => impl_evenCase_B1 N (fun setup1 hold1 v15 v16 v6 c => kx_ (setup1, hold1, v15, v16, v6, c)) x_.1 x_.2.1 x_.2.2.1 x_.2.2.2.1 x_.2.2.2.2.1 x_.2.2.2.2.2) (fun _ _ => rfl) (fun j_ => (setup1 j_, hold1 j_, v15 j_, v16 j_, v6 j_, c j_)) n_ (fun j_ hi_ kx_ => hstep_ j_ hi_ _) (fun kx_ => hend_ _) fu_ hm_
def impl_evenCase (N : Nat) (need : List Int) (setup : Int) (hold : Int) : Option (((List Int) × (List Int) × (List Int) × (List Int)) × Unit) :=
  (impl_copied N need).bind fun r =>
  chk (mkB (len need) 8) <|
  impl_evenCase_L1 N N setup hold (len need) 0 ([], ([], ([], []))) (r.1, ([], (List.replicate (len need).toNat 0, [])))
def impl_Case_planFrom_K1 (N : Nat) (kx : (List Int) → Int → (List Int) → Int → Int → (List Int) → Option (((List Int) × Bool) × Unit)) (periods3 : List Int) (next2 : Int) (need1 : Int) (v152 : List Int) (v162 : Int) (v172 : Int) (plan2 : List Int) : Option (((List Int) × Bool) × Unit) :=
  bif ieq next2 0 then
    bif ilt 0 need1 then
      some (([], false), ())
    else
      kx periods3 next2 v152 v162 (iadd .i64 v172 1) plan2
  else
    chk (inB (isub .i64 next2 1) periods3.length) <|
    chk (inB (gd periods3 (isub .i64 next2 1).toNat 0) plan2.length) <|
    chk (inB (gd periods3 (isub .i64 next2 1).toNat 0) plan2.length) <|
    kx periods3 next2 v152 v162 (iadd .i64 v172 1) (List.set plan2 (gd periods3 (isub .i64 next2 1).toNat 0).toNat (iadd .i64 (gd plan2 (gd periods3 (isub .i64 next2 1).toNat 0).toNat 0) need1))
def impl_Case_planFrom_K2 (N : Nat) (kx : (List Int) → Int → (List Int) → Int → Int → (List Int) → Option (((List Int) × Bool) × Unit)) (periods2 : List Int) (next1 : Int) (need : Int) (v151 : List Int) (v161 : Int) (v171 : Int) (v33 : Bool) (plan1 : List Int) : Option (((List Int) × Bool) × Unit) :=
  bif v33 then
    impl_Case_planFrom_K1 N kx periods2 (iadd .i64 next1 1) need v151 v161 v171 plan1
  else
    impl_Case_planFrom_K1 N kx periods2 next1 need v151 v161 v171 plan1
def impl_Case_planFrom_K3 (N : Nat) (plan3 : List Int) : Option (((List Int) × Bool) × Unit) :=
  some ((plan3, true), ())
def impl_Case_planFrom_B1 (N : Nat) (kx : (List Int) → Int → (List Int) → Int → Int → (List Int) → Option (((List Int) × Bool) × Unit)) (periods1 : List Int) (next : Int) (v15 : List Int) (v16 : Int) (v17 : Int) (plan : List Int) : Option (((List Int) × Bool) × Unit) :=
  bif ilt v17 v16 then
    chk (inB v17 v15.length) <|
    bif ilt next (len periods1) then
      chk (inB next periods1.length) <|
      impl_Case_planFrom_K2 N kx periods1 next (gd v15 v17.toNat 0) v15 v16 v17 (ieq (gd periods1 next.toNat 0) v17) plan
    else
      impl_Case_planFrom_K2 N kx periods1 next (gd v15 v17.toNat 0) v15 v16 v17 false plan
  else
    impl_Case_planFrom_K3 N plan
def impl_Case_planFrom_L1 (N fu_ : Nat) (periods1 : List Int) (next : Int) (v15 : List Int) (v16 : Int) (v17 : Int) (plan : List Int) : Option (((List Int) × Bool) × Unit) :=
  iterK fu_ (fun kx (v_ : ((List Int) × Int × (List Int) × Int × Int × Unit) × ((List Int) × Unit)) => impl_Case_planFrom_B1 N (fun periods1 next v15 v16 v17 plan => kx ((periods1, next, v15, v16, v17, ()), (plan, ()))) v_.1.1 v_.1.2.1 v_.1.2.2.1 v_.1.2.2.2.1 v_.1.2.2.2.2.1 v_.2.1) ((periods1, next, v15, v16, v17, ()), (plan, ()))
theorem impl_Case_planFrom_L1_succ (N fu_ : Nat) (periods1 : List Int) (next : Int) (v15 : List Int) (v16 : Int) (v17 : Int) (plan : List Int) : impl_Case_planFrom_L1 N (fu_ + 1) periods1 next v15 v16 v17 plan = impl_Case_planFrom_B1 N (fun periods1 next v15 v16 v17 plan => impl_Case_planFrom_L1 N fu_ periods1 next v15 v16 v17 plan) periods1 next v15 v16 v17 plan := rfl
theorem impl_Case_planFrom_L1_run (N : Nat) (periods1 : Nat → (List Int)) (next : Nat → Int) (v15 : Nat → (List Int)) (v16 : Nat → Int) (v17 : Nat → Int) (plan : Nat → (List Int)) (n_ : Nat) {res_ : Option (((List Int) × Bool) × Unit)} (hstep_ : ∀ j_, j_ < n_ → ∀ kx_, impl_Case_planFrom_B1 N kx_ (periods1 j_) (next j_) (v15 j_) (v16 j_) (v17 j_) (plan j_) = kx_ (periods1 (j_ + 1)) (next (j_ + 1)) (v15 (j_ + 1)) (v16 (j_ + 1)) (v17 (j_ + 1)) (plan (j_ + 1))) (hend_ : ∀ kx_, impl_Case_planFrom_B1 N kx_ (periods1 n_) (next n_) (v15 n_) (v16 n_) (v17 n_) (plan n_) = res_) (fu_ : Nat) (hm_ : n_ < fu_) : impl_Case_planFrom_L1 N fu_ (periods1 0) (next 0) (v15 0) (v16 0) (v17 0) (plan 0) = res_ := by
  exact loop_run (L := fun fu_ (x_ : (List Int) × Int × (List Int) × Int × Int × (List Int)) => impl_Case_planFrom_L1 N fu_ x_.1 x_.2.1 x_.2.2.1 x_.2.2.2.1 x_.2.2.2.2.1 x_.2.2.2.2.2) (B := fun kx_ x_ => impl_Case_planFrom_B1 N (fun periods1 next v15 v16 v17 plan => kx_ (periods1, next, v15, v16, v17, plan)) x_.1 x_.2.1 x_.2.2.1 x_.2.2.2.1 x_.2.2.2.2.1 x_.2.2.2.2.2) (fun _ _ => rfl) (fun j_ => (periods1 j_, next j_, v15 j_, v16 j_, v17 j_, plan j_)) n_ (fun j_ hi_ kx_ => hstep_ j_ hi_ _) (fun kx_ => hend_ _) fu_ hm_
def impl_Case_planFrom (N : Nat) (c : (List Int) × (List Int) × (List Int) × (List Int)) (periods : List Int) : Option (((List Int) × Bool) × Unit) :=
  chk (mkB (len c.1) 8) <|
  impl_Case_planFrom_L1 N N periods 0 c.1 (len c.1) 0 (List.replicate (len c.1).toNat 0)
def impl_Case_parts_K1 (N : Nat) (kx : Int → Int → Int → Int → (List Int) → Int → Int → ((List Int) × (List Int) × (List Int) × (List Int)) → Option ((Int × Int × Int) × Unit)) (setups1 : Int) (units1 : Int) (holds1 : Int) (stock1 : Int) (i : Int) (amount : Int) (v131 : List Int) (v141 : Int) (v151 : Int) (c2 : (List Int) × (List Int) × (List Int) × (List Int)) : Option ((Int × Int × Int) × Unit) :=
  chk (inB i c2.2.2.1.length) <|
  chk (inB i c2.2.2.2.length) <|
  kx setups1 (iadd .i64 units1 (imul .i64 (gd c2.2.2.1 i.toNat 0) amount)) (iadd .i64 holds1 (imul .i64 (gd c2.2.2.2 i.toNat 0) stock1)) stock1 v131 v141 (iadd .i64 v151 1) c2
def impl_Case_parts_K2 (N : Nat) (setups2 : Int) (units2 : Int) (holds2 : Int) : Option ((Int × Int × Int) × Unit) :=
  some ((setups2, (units2, holds2)), ())
def impl_Case_parts_B1 (N : Nat) (kx : Int → Int → Int → Int → (List Int) → Int → Int → ((List Int) × (List Int) × (List Int) × (List Int)) → Option ((Int × Int × Int) × Unit)) (setups : Int) (units : Int) (holds : Int) (stock : Int) (v13 : List Int) (v14 : Int) (v15 : Int) (c1 : (List Int) × (List Int) × (List Int) × (List Int)) : Option ((Int × Int × Int) × Unit) :=
  bif ilt v15 v14 then
    chk (inB v15 v13.length) <|
    chk (inB v15 c1.1.length) <|
    bif ilt 0 (gd v13 v15.toNat 0) then
      chk (inB v15 c1.2.1.length) <|
      impl_Case_parts_K1 N kx (iadd .i64 setups (gd c1.2.1 v15.toNat 0)) units holds (iadd .i64 stock (isub .i64 (gd v13 v15.toNat 0) (gd c1.1 v15.toNat 0))) v15 (gd v13 v15.toNat 0) v13 v14 v15 c1
    else
      impl_Case_parts_K1 N kx setups units holds (iadd .i64 stock (isub .i64 (gd v13 v15.toNat 0) (gd c1.1 v15.toNat 0))) v15 (gd v13 v15.toNat 0) v13 v14 v15 c1
  else
    impl_Case_parts_K2 N setups units holds
def impl_Case_parts_L1 (N fu_ : Nat) (setups : Int) (units : Int) (holds : Int) (stock : Int) (v13 : List Int) (v14 : Int) (v15 : Int) (c1 : (List Int) × (List Int) × (List Int) × (List Int)) : Option ((Int × Int × Int) × Unit) :=
  iterK fu_ (fun kx (v_ : (Int × Int × Int × Int × (List Int) × Int × Int × Unit) × (((List Int) × (List Int) × (List Int) × (List Int)) × Unit)) => impl_Case_parts_B1 N (fun setups units holds stock v13 v14 v15 c1 => kx ((setups, units, holds, stock, v13, v14, v15, ()), (c1, ()))) v_.1.1 v_.1.2.1 v_.1.2.2.1 v_.1.2.2.2.1 v_.1.2.2.2.2.1 v_.1.2.2.2.2.2.1 v_.1.2.2.2.2.2.2.1 v_.2.1) ((setups, units, holds, stock, v13, v14, v15, ()), (c1, ()))
theorem impl_Case_parts_L1_succ (N fu_ : Nat) (setups : Int) (units : Int) (holds : Int) (stock : Int) (v13 : List Int) (v14 : Int) (v15 : Int) (c1 : (List Int) × (List Int) × (List Int) × (List Int)) : impl_Case_parts_L1 N (fu_ + 1) setups units holds stock v13 v14 v15 c1 = impl_Case_parts_B1 N (fun setups units holds stock v13 v14 v15 c1 => impl_Case_parts_L1 N fu_ setups units holds stock v13 v14 v15 c1) setups units holds stock v13 v14 v15 c1 := rfl
theorem impl_Case_parts_L1_run (N : Nat) (setups : Nat → Int) (units : Nat → Int) (holds : Nat → Int) (stock : Nat → Int) (v13 : Nat → (List Int)) (v14 : Nat → Int) (v15 : Nat → Int) (c1 : Nat → ((List Int) × (List Int) × (List Int) × (List Int))) (n_ : Nat) {res_ : Option ((Int × Int × Int) × Unit)} (hstep_ : ∀ j_, j_ < n_ → ∀ kx_, impl_Case_parts_B1 N kx_ (setups j_) (units j_) (holds j_) (stock j_) (v13 j_) (v14 j_) (v15 j_) (c1 j_) = kx_ (setups (j_ + 1)) (units (j_ + 1)) (holds (j_ + 1)) (stock (j_ + 1)) (v13 (j_ + 1)) (v14 (j_ + 1)) (v15 (j_ + 1)) (c1 (j_ + 1))) (hend_ : ∀ kx_, impl_Case_parts_B1 N kx_ (setups n_) (units n_) (holds n_) (stock n_) (v13 n_) (v14 n_) (v15 n_) (c1 n_) = res_) (fu_ : Nat) (hm_ : n_ < fu_) : impl_Case_parts_L1 N fu_ (setups 0) (units 0) (holds 0) (stock 0) (v13 0) (v14 0) (v15 0) (c1 0) = res_ := by
  exact loop_run (L := fun fu_ (x_ : Int × Int × Int × Int × (List Int) × Int × Int × ((List Int) × (List Int) × (List Int) × (List Int))) => impl_Case_parts_L1 N fu_ x_.1 x_.2.1 x_.2.2.1 x_.2.2.2.1 x_.2.2.2.2.1 x_.2.2.2.2.2.1 x_.2.2.2.2.2.2.1 x_.2.2.2.2.2.2.2) (B := fun kx_ x_ => impl_Case_parts_B1 N (fun setups units holds stock v13 v14 v15 c1 => kx_ (setups, units, holds, stock, v13, v14, v15, c1)) x_.1 x_.2.1 x_.2.2.1 x_.2.2.2.1 x_.2.2.2.2.1 x_.2.2.2.2.2.1 x_.2.2.2.2.2.2.1 x_.2.2.2.2.2.2.2) (fun _ _ => rfl) (fun j_ => (setups j_, units j_, holds j_, stock j_, v13 j_, v14 j_, v15 j_, c1 j_)) n_ (fun j_ hi_ kx_ => hstep_ j_ hi_ _) (fun kx_ => hend_ _) fu_ hm_
def impl_Case_parts (N : Nat) (c : (List Int) × (List Int) × (List Int) × (List Int)) (plan : List Int) : Option ((Int × Int × Int) × Unit) :=
  impl_Case_parts_L1 N N 0 0 0 0 plan (len plan) 0 c
def impl_Case_cost (N : Nat) (c : (List Int) × (List Int) × (List Int) × (List Int)) (plan : List Int) : Option (Int × Unit) :=
  (impl_Case_parts N c plan).bind fun r =>
  some (iadd .i64 (iadd .i64 r.1.1 r.1.2.1) r.1.2.2, ())
def impl_BestAssembly_K1 (N : Nat) (kx1 : (List Int) → (List Int) → (List Int) → Int → Int → Int → Int → Int → (List (List Int)) → ((List Int) × (List Int) × (List Int) × (List Int)) → Option ((Int × Bool) × Unit)) (need5 : List Int) (setups5 : List Int) (holds5 : List Int) (good3 : Int) (cost1 : Int) (v694 : Int) (v704 : Int) (v932 : Int) (v942 : Int) (costs4 : List (List Int)) (one2 : (List Int) × (List Int) × (List Int) × (List Int)) (periods1 : List Int) : Option ((Int × Bool) × Unit) :=
  (impl_Case_planFrom N one2 periods1).bind fun r7 =>
  bif r7.1.2 then
    (impl_Case_cost N one2 r7.1.1).bind fun r8 =>
    chk (inB good3 costs4.length) <|
    chk (fitB ((gd costs4 good3.toNat []).length + 1) 8) <|
    chk (inB good3 costs4.length) <|
    chk (natEq good3.toNat good3.toNat) <|
    kx1 need5 setups5 holds5 good3 v694 v704 v932 (iadd .i64 v942 1) (List.set costs4 good3.toNat ((gd costs4 good3.toNat []) ++ [r8.1])) one2
  else
    chk (inB good3 costs4.length) <|
    chk (fitB ((gd costs4 good3.toNat []).length + 1) 8) <|
    chk (inB good3 costs4.length) <|
    chk (natEq good3.toNat good3.toNat) <|
    kx1 need5 setups5 holds5 good3 v694 v704 v932 (iadd .i64 v942 1) (List.set costs4 good3.toNat ((gd costs4 good3.toNat []) ++ [cost1])) one2
def impl_BestAssembly_B1 (N : Nat) (kx1 : (List Int) → (List Int) → (List Int) → Int → Int → Int → Int → Int → (List (List Int)) → ((List Int) × (List Int) × (List Int) × (List Int)) → Option ((Int × Bool) × Unit)) (kx2 : (List Int) → (List Int) → (List Int) → Int → Int → Int → Int → Int → Int → Int → Int → Int → (List (List Int)) → ((List Int) × (List Int) × (List Int) × (List Int)) → (List Int) → Option ((Int × Bool) × Unit)) (need4 : List Int) (setups4 : List Int) (holds4 : List Int) (good2 : Int) (setx : Int) (cost : Int) (v693 : Int) (v703 : Int) (v931 : Int) (v941 : Int) (v99 : Int) (v100 : Int) (costs3 : List (List Int)) (one1 : (List Int) × (List Int) × (List Int) × (List Int)) (periods : List Int) : Option ((Int × Bool) × Unit) :=
  bif ilt v100 v99 then
    chk (ile 0 v100) <|
    bif ieq (iand .i64 (ishr .i64 setx v100) 1) 1 then
      chk (fitB (periods.length + 1) 8) <|
      kx2 need4 setups4 holds4 good2 setx cost v693 v703 v931 v941 v99 (iadd .i64 v100 1) costs3 one1 (periods ++ [v100])
    else
      kx2 need4 setups4 holds4 good2 setx cost v693 v703 v931 v941 v99 (iadd .i64 v100 1) costs3 one1 periods
  else
    impl_BestAssembly_K1 N kx1 need4 setups4 holds4 good2 cost v693 v703 v931 v941 costs3 one1 periods
def impl_BestAssembly_L1 (N fu_ : Nat) (kx1 : (List Int) → (List Int) → (List Int) → Int → Int → Int → Int → Int → (List (List Int)) → ((List Int) × (List Int) × (List Int) × (List Int)) → Option ((Int × Bool) × Unit)) (need4 : List Int) (setups4 : List Int) (holds4 : List Int) (good2 : Int) (setx : Int) (cost : Int) (v693 : Int) (v703 : Int) (v931 : Int) (v941 : Int) (v99 : Int) (v100 : Int) (costs3 : List (List Int)) (one1 : (List Int) × (List Int) × (List Int) × (List Int)) (periods : List Int) : Option ((Int × Bool) × Unit) :=
  iterK fu_ (fun kx2 (v_ : ((List Int) × (List Int) × (List Int) × Int × Int × Int × Int × Int × Int × Int × Int × Int × Unit) × ((List (List Int)) × ((List Int) × (List Int) × (List Int) × (List Int)) × (List Int) × Unit)) => impl_BestAssembly_B1 N kx1 (fun need4 setups4 holds4 good2 setx cost v693 v703 v931 v941 v99 v100 costs3 one1 periods => kx2 ((need4, setups4, holds4, good2, setx, cost, v693, v703, v931, v941, v99, v100, ()), (costs3, one1, periods, ()))) v_.1.1 v_.1.2.1 v_.1.2.2.1 v_.1.2.2.2.1 v_.1.2.2.2.2.1 v_.1.2.2.2.2.2.1 v_.1.2.2.2.2.2.2.1 v_.1.2.2.2.2.2.2.2.1 v_.1.2.2.2.2.2.2.2.2.1 v_.1.2.2.2.2.2.2.2.2.2.1 v_.1.2.2.2.2.2.2.2.2.2.2.1 v_.1.2.2.2.2.2.2.2.2.2.2.2.1 v_.2.1 v_.2.2.1 v_.2.2.2.1) ((need4, setups4, holds4, good2, setx, cost, v693, v703, v931, v941, v99, v100, ()), (costs3, one1, periods, ()))
theorem impl_BestAssembly_L1_succ (N fu_ : Nat) (kx1 : (List Int) → (List Int) → (List Int) → Int → Int → Int → Int → Int → (List (List Int)) → ((List Int) × (List Int) × (List Int) × (List Int)) → Option ((Int × Bool) × Unit)) (need4 : List Int) (setups4 : List Int) (holds4 : List Int) (good2 : Int) (setx : Int) (cost : Int) (v693 : Int) (v703 : Int) (v931 : Int) (v941 : Int) (v99 : Int) (v100 : Int) (costs3 : List (List Int)) (one1 : (List Int) × (List Int) × (List Int) × (List Int)) (periods : List Int) : impl_BestAssembly_L1 N (fu_ + 1) kx1 need4 setups4 holds4 good2 setx cost v693 v703 v931 v941 v99 v100 costs3 one1 periods = impl_BestAssembly_B1 N kx1 (fun need4 setups4 holds4 good2 setx cost v693 v703 v931 v941 v99 v100 costs3 one1 periods => impl_BestAssembly_L1 N fu_ kx1 need4 setups4 holds4 good2 setx cost v693 v703 v931 v941 v99 v100 costs3 one1 periods) need4 setups4 holds4 good2 setx cost v693 v703 v931 v941 v99 v100 costs3 one1 periods := rfl
theorem impl_BestAssembly_L1_run (N : Nat) (kx1 : (List Int) → (List Int) → (List Int) → Int → Int → Int → Int → Int → (List (List Int)) → ((List Int) × (List Int) × (List Int) × (List Int)) → Option ((Int × Bool) × Unit)) (need4 : Nat → (List Int)) (setups4 : Nat → (List Int)) (holds4 : Nat → (List Int)) (good2 : Nat → Int) (setx : Nat → Int) (cost : Nat → Int) (v693 : Nat → Int) (v703 : Nat → Int) (v931 : Nat → Int) (v941 : Nat → Int) (v99 : Nat → Int) (v100 : Nat → Int) (costs3 : Nat → (List (List Int))) (one1 : Nat → ((List Int) × (List Int) × (List Int) × (List Int))) (periods : Nat → (List Int)) (n_ : Nat) {res_ : Option ((Int × Bool) × Unit)} (hstep_ : ∀ j_, j_ < n_ → ∀ kx_, impl_BestAssembly_B1 N kx1 kx_ (need4 j_) (setups4 j_) (holds4 j_) (good2 j_) (setx j_) (cost j_) (v693 j_) (v703 j_) (v931 j_) (v941 j_) (v99 j_) (v100 j_) (costs3 j_) (one1 j_) (periods j_) = kx_ (need4 (j_ + 1)) (setups4 (j_ + 1)) (holds4 (j_ + 1)) (good2 (j_ + 1)) (setx (j_ + 1)) (cost (j_ + 1)) (v693 (j_ + 1)) (v703 (j_ + 1)) (v931 (j_ + 1)) (v941 (j_ + 1)) (v99 (j_ + 1)) (v100 (j_ + 1)) (costs3 (j_ + 1)) (one1 (j_ + 1)) (periods (j_ + 1))) (hend_ : ∀ kx_, impl_BestAssembly_B1 N kx1 kx_ (need4 n_) (setups4 n_) (holds4 n_) (good2 n_) (setx n_) (cost n_) (v693 n_) (v703 n_) (v931 n_) (v941 n_) (v99 n_) (v100 n_) (costs3 n_) (one1 n_) (periods n_) = res_) (fu_ : Nat) (hm_ : n_ < fu_) : impl_BestAssembly_L1 N fu_ kx1 (need4 0) (setups4 0) (holds4 0) (good2 0) (setx 0) (cost 0) (v693 0) (v703 0) (v931 0) (v941 0) (v99 0) (v100 0) (costs3 0) (one1 0) (periods 0) = res_ := by
  exact loop_run (L := fun fu_ (x_ : (List Int) × (List Int) × (List Int) × Int × Int × Int × Int × Int × Int × Int × Int × Int × (List (List Int)) × ((List Int) × (List Int) × (List Int) × (List Int)) × (List Int)) => impl_BestAssembly_L1 N fu_ kx1 x_.1 x_.2.1 x_.2.2.1 x_.2.2.2.1 x_.2.2.2.2.1 x_.2.2.2.2.2.1 x_.2.2.2.2.2.2.1 x_.2.2.2.2.2.2.2.1 x_.2.2.2.2.2.2.2.2.1 x_.2.2.2.2.2.2.2.2.2.1 x_.2.2.2.2.2.2.2.2.2.2.1 x_.2.2.2.2.2.2.2.2.2.2.2.1 x_.2.2.2.2.2.2.2.2.2.2.2.2.1 x_.2.2.2.2.2.2.2.2.2.2.2.2.2.1 x_.2.2.2.2.2.2.2.2.2.2.2.2.2.2) (B := fun kx_ x_ => impl_BestAssembly_B1 N kx1 (fun need4 setups4 holds4 good2 setx cost v693 v703 v931 v941 v99 v100 costs3 one1 periods => kx_ (need4, setups4, holds4, good2, setx, cost, v693, v703, v931, v941, v99, v100, costs3, one1, periods)) x_.1 x_.2.1 x_.2.2.1 x_.2.2.2.1 x_.2.2.2.2.1 x_.2.2.2.2.2.1 x_.2.2.2.2.2.2.1 x_.2.2.2.2.2.2.2.1 x_.2.2.2.2.2.2.2.2.1 x_.2.2.2.2.2.2.2.2.2.1 x_.2.2.2.2.2.2.2.2.2.2.1 x_.2.2.2.2.2.2.2.2.2.2.2.1 x_.2.2.2.2.2.2.2.2.2.2.2.2.1 x_.2.2.2.2.2.2.2.2.2.2.2.2.2.1 x_.2.2.2.2.2.2.2.2.2.2.2.2.2.2) (fun _ _ => rfl) (fun j_ => (need4 j_, setups4 j_, holds4 j_, good2 j_, setx j_, cost j_, v693 j_, v703 j_, v931 j_, v941 j_, v99 j_, v100 j_, costs3 j_, one1 j_, periods j_)) n_ (fun j_ hi_ kx_ => hstep_ j_ hi_ _) (fun kx_ => hend_ _) fu_ hm_
def impl_BestAssembly_K2 (N : Nat) (kx : (List Int) → (List Int) → (List Int) → Int → Int → (List (List Int)) → Option ((Int × Bool) × Unit)) (need6 : List Int) (setups6 : List Int) (holds6 : List Int) (v695 : Int) (v705 : Int) (costs5 : List (List Int)) : Option ((Int × Bool) × Unit) :=
  kx need6 setups6 holds6 v695 (iadd .i64 v705 1) costs5
def impl_BestAssembly_B2 (N : Nat) (kx : (List Int) → (List Int) → (List Int) → Int → Int → (List (List Int)) → Option ((Int × Bool) × Unit)) (kx1 : (List Int) → (List Int) → (List Int) → Int → Int → Int → Int → Int → (List (List Int)) → ((List Int) × (List Int) × (List Int) × (List Int)) → Option ((Int × Bool) × Unit)) (need3 : List Int) (setups3 : List Int) (holds3 : List Int) (good1 : Int) (v692 : Int) (v702 : Int) (v93 : Int) (v94 : Int) (costs2 : List (List Int)) (one : (List Int) × (List Int) × (List Int) × (List Int)) : Option ((Int × Bool) × Unit) :=
  bif ilt v94 v93 then
    impl_BestAssembly_L1 N N kx1 need3 setups3 holds3 good1 v94 1099511627776 v692 v702 v93 v94 (len need3) 0 costs2 one []
  else
    impl_BestAssembly_K2 N kx need3 setups3 holds3 v692 v702 costs2
def impl_BestAssembly_L2 (N fu_ : Nat) (kx : (List Int) → (List Int) → (List Int) → Int → Int → (List (List Int)) → Option ((Int × Bool) × Unit)) (need3 : List Int) (setups3 : List Int) (holds3 : List Int) (good1 : Int) (v692 : Int) (v702 : Int) (v93 : Int) (v94 : Int) (costs2 : List (List Int)) (one : (List Int) × (List Int) × (List Int) × (List Int)) : Option ((Int × Bool) × Unit) :=
  iterK fu_ (fun kx1 (v_ : ((List Int) × (List Int) × (List Int) × Int × Int × Int × Int × Int × Unit) × ((List (List Int)) × ((List Int) × (List Int) × (List Int) × (List Int)) × Unit)) => impl_BestAssembly_B2 N kx (fun need3 setups3 holds3 good1 v692 v702 v93 v94 costs2 one => kx1 ((need3, setups3, holds3, good1, v692, v702, v93, v94, ()), (costs2, one, ()))) v_.1.1 v_.1.2.1 v_.1.2.2.1 v_.1.2.2.2.1 v_.1.2.2.2.2.1 v_.1.2.2.2.2.2.1 v_.1.2.2.2.2.2.2.1 v_.1.2.2.2.2.2.2.2.1 v_.2.1 v_.2.2.1) ((need3, setups3, holds3, good1, v692, v702, v93, v94, ()), (costs2, one, ()))
theorem impl_BestAssembly_L2_succ (N fu_ : Nat) (kx : (List Int) → (List Int) → (List Int) → Int → Int → (List (List Int)) → Option ((Int × Bool) × Unit)) (need3 : List Int) (setups3 : List Int) (holds3 : List Int) (good1 : Int) (v692 : Int) (v702 : Int) (v93 : Int) (v94 : Int) (costs2 : List (List Int)) (one : (List Int) × (List Int) × (List Int) × (List Int)) : impl_BestAssembly_L2 N (fu_ + 1) kx need3 setups3 holds3 good1 v692 v702 v93 v94 costs2 one = impl_BestAssembly_B2 N kx (fun need3 setups3 holds3 good1 v692 v702 v93 v94 costs2 one => impl_BestAssembly_L2 N fu_ kx need3 setups3 holds3 good1 v692 v702 v93 v94 costs2 one) need3 setups3 holds3 good1 v692 v702 v93 v94 costs2 one := rfl
theorem impl_BestAssembly_L2_run (N : Nat) (kx : (List Int) → (List Int) → (List Int) → Int → Int → (List (List Int)) → Option ((Int × Bool) × Unit)) (need3 : Nat → (List Int)) (setups3 : Nat → (List Int)) (holds3 : Nat → (List Int)) (good1 : Nat → Int) (v692 : Nat → Int) (v702 : Nat → Int) (v93 : Nat → Int) (v94 : Nat → Int) (costs2 : Nat → (List (List Int))) (one : Nat → ((List Int) × (List Int) × (List Int) × (List Int))) (n_ : Nat) {res_ : Option ((Int × Bool) × Unit)} (hstep_ : ∀ j_, j_ < n_ → ∀ kx_, impl_BestAssembly_B2 N kx kx_ (need3 j_) (setups3 j_) (holds3 j_) (good1 j_) (v692 j_) (v702 j_) (v93 j_) (v94 j_) (costs2 j_) (one j_) = kx_ (need3 (j_ + 1)) (setups3 (j_ + 1)) (holds3 (j_ + 1)) (good1 (j_ + 1)) (v692 (j_ + 1)) (v702 (j_ + 1)) (v93 (j_ + 1)) (v94 (j_ + 1)) (costs2 (j_ + 1)) (one (j_ + 1))) (hend_ : ∀ kx_, impl_BestAssembly_B2 N kx kx_ (need3 n_) (setups3 n_) (holds3 n_) (good1 n_) (v692 n_) (v702 n_) (v93 n_) (v94 n_) (costs2 n_) (one n_) = res_) (fu_ : Nat) (hm_ : n_ < fu_) : impl_BestAssembly_L2 N fu_ kx (need3 0) (setups3 0) (holds3 0) (good1 0) (v692 0) (v702 0) (v93 0) (v94 0) (costs2 0) (one 0) = res_ := by
  exact loop_run (L := fun fu_ (x_ : (List Int) × (List Int) × (List Int) × Int × Int × Int × Int × Int × (List (List Int)) × ((List Int) × (List Int) × (List Int) × (List Int))) => impl_BestAssembly_L2 N fu_ kx x_.1 x_.2.1 x_.2.2.1 x_.2.2.2.1 x_.2.2.2.2.1 x_.2.2.2.2.2.1 x_.2.2.2.2.2.2.1 x_.2.2.2.2.2.2.2.1 x_.2.2.2.2.2.2.2.2.1 x_.2.2.2.2.2.2.2.2.2) (B := fun kx_ x_ => impl_BestAssembly_B2 N kx (fun need3 setups3 holds3 good1 v692 v702 v93 v94 costs2 one => kx_ (need3, setups3, holds3, good1, v692, v702, v93, v94, costs2, one)) x_.1 x_.2.1 x_.2.2.1 x_.2.2.2.1 x_.2.2.2.2.1 x_.2.2.2.2.2.1 x_.2.2.2.2.2.2.1 x_.2.2.2.2.2.2.2.1 x_.2.2.2.2.2.2.2.2.1 x_.2.2.2.2.2.2.2.2.2) (fun _ _ => rfl) (fun j_ => (need3 j_, setups3 j_, holds3 j_, good1 j_, v692 j_, v702 j_, v93 j_, v94 j_, costs2 j_, one j_)) n_ (fun j_ hi_ kx_ => hstep_ j_ hi_ _) (fun kx_ => hend_ _) fu_ hm_
def impl_BestAssembly_K3 (N : Nat) (kx : (List Int) → (List Int) → (List Int) → Int → Int → (List (List Int)) → Option ((Int × Bool) × Unit)) (need2 : List Int) (setups2 : List Int) (holds2 : List Int) (good : Int) (hold : Int) (v691 : Int) (v701 : Int) (costs1 : List (List Int)) : Option ((Int × Bool) × Unit) :=
  chk (inB good setups2.length) <|
  (impl_evenCase N need2 (gd setups2 good.toNat 0) hold).bind fun r6 =>
  chk (ile 0 (len need2)) <|
  impl_BestAssembly_L2 N N kx need2 setups2 holds2 good v691 v701 (ishl .i64 1 (len need2)) 0 costs1 r6.1
def impl_BestAssembly_K4 (N : Nat) (kx4 : (List (List Int)) → Int → Int → Int → (List Int) → Int → Int → (List (List Int)) → Int → Int → Option ((Int × Bool) × Unit)) (costs10 : List (List Int)) (best3 : Int) (setx3 : Int) (sum2 : Int) (least1 : Int) (v1373 : List Int) (v1383 : Int) (v1393 : Int) (v1452 : List (List Int)) (v1462 : Int) (v1472 : Int) : Option ((Int × Bool) × Unit) :=
  kx4 costs10 best3 setx3 (iadd .i64 sum2 least1) v1373 v1383 v1393 v1452 v1462 (iadd .i64 v1472 1)
def impl_BestAssembly_B3 (N : Nat) (kx4 : (List (List Int)) → Int → Int → Int → (List Int) → Int → Int → (List (List Int)) → Int → Int → Option ((Int × Bool) × Unit)) (kx5 : (List (List Int)) → Int → Int → Int → Int → (List Int) → Int → Int → (List (List Int)) → Int → Int → (List Int) → Int → Int → Option ((Int × Bool) × Unit)) (costs9 : List (List Int)) (best2 : Int) (setx2 : Int) (sum1 : Int) (least : Int) (v1372 : List Int) (v1382 : Int) (v1392 : Int) (v1451 : List (List Int)) (v1461 : Int) (v1471 : Int) (v151 : List Int) (v152 : Int) (v153 : Int) : Option ((Int × Bool) × Unit) :=
  bif ilt v153 v152 then
    chk (inB v153 v151.length) <|
    bif ieq (iandn .i64 v153 setx2) 0 then
      kx5 costs9 best2 setx2 sum1 (imin least (gd v151 v153.toNat 0)) v1372 v1382 v1392 v1451 v1461 v1471 v151 v152 (iadd .i64 v153 1)
    else
      kx5 costs9 best2 setx2 sum1 least v1372 v1382 v1392 v1451 v1461 v1471 v151 v152 (iadd .i64 v153 1)
  else
    impl_BestAssembly_K4 N kx4 costs9 best2 setx2 sum1 least v1372 v1382 v1392 v1451 v1461 v1471
def impl_BestAssembly_L3 (N fu_ : Nat) (kx4 : (List (List Int)) → Int → Int → Int → (List Int) → Int → Int → (List (List Int)) → Int → Int → Option ((Int × Bool) × Unit)) (costs9 : List (List Int)) (best2 : Int) (setx2 : Int) (sum1 : Int) (least : Int) (v1372 : List Int) (v1382 : Int) (v1392 : Int) (v1451 : List (List Int)) (v1461 : Int) (v1471 : Int) (v151 : List Int) (v152 : Int) (v153 : Int) : Option ((Int × Bool) × Unit) :=
  iterK fu_ (fun kx5 (v_ : ((List (List Int)) × Int × Int × Int × Int × (List Int) × Int × Int × (List (List Int)) × Int × Int × (List Int) × Int × Int × Unit) × (Unit)) => impl_BestAssembly_B3 N kx4 (fun costs9 best2 setx2 sum1 least v1372 v1382 v1392 v1451 v1461 v1471 v151 v152 v153 => kx5 ((costs9, best2, setx2, sum1, least, v1372, v1382, v1392, v1451, v1461, v1471, v151, v152, v153, ()), ())) v_.1.1 v_.1.2.1 v_.1.2.2.1 v_.1.2.2.2.1 v_.1.2.2.2.2.1 v_.1.2.2.2.2.2.1 v_.1.2.2.2.2.2.2.1 v_.1.2.2.2.2.2.2.2.1 v_.1.2.2.2.2.2.2.2.2.1 v_.1.2.2.2.2.2.2.2.2.2.1 v_.1.2.2.2.2.2.2.2.2.2.2.1 v_.1.2.2.2.2.2.2.2.2.2.2.2.1 v_.1.2.2.2.2.2.2.2.2.2.2.2.2.1 v_.1.2.2.2.2.2.2.2.2.2.2.2.2.2.1) ((costs9, best2, setx2, sum1, least, v1372, v1382, v1392, v1451, v1461, v1471, v151, v152, v153, ()), ())
theorem impl_BestAssembly_L3_succ (N fu_ : Nat) (kx4 : (List (List Int)) → Int → Int → Int → (List Int) → Int → Int → (List (List Int)) → Int → Int → Option ((Int × Bool) × Unit)) (costs9 : List (List Int)) (best2 : Int) (setx2 : Int) (sum1 : Int) (least : Int) (v1372 : List Int) (v1382 : Int) (v1392 : Int) (v1451 : List (List Int)) (v1461 : Int) (v1471 : Int) (v151 : List Int) (v152 : Int) (v153 : Int) : impl_BestAssembly_L3 N (fu_ + 1) kx4 costs9 best2 setx2 sum1 least v1372 v1382 v1392 v1451 v1461 v1471 v151 v152 v153 = impl_BestAssembly_B3 N kx4 (fun costs9 best2 setx2 sum1 least v1372 v1382 v1392 v1451 v1461 v1471 v151 v152 v153 => impl_BestAssembly_L3 N fu_ kx4 costs9 best2 setx2 sum1 least v1372 v1382 v1392 v1451 v1461 v1471 v151 v152 v153) costs9 best2 setx2 sum1 least v1372 v1382 v1392 v1451 v1461 v1471 v151 v152 v153 := rfl
theorem impl_BestAssembly_L3_run (N : Nat) (kx4 : (List (List Int)) → Int → Int → Int → (List Int) → Int → Int → (List (List Int)) → Int → Int → Option ((Int × Bool) × Unit)) (costs9 : Nat → (List (List Int))) (best2 : Nat → Int) (setx2 : Nat → Int) (sum1 : Nat → Int) (least : Nat → Int) (v1372 : Nat → (List Int)) (v1382 : Nat → Int) (v1392 : Nat → Int) (v1451 : Nat → (List (List Int))) (v1461 : Nat → Int) (v1471 : Nat → Int) (v151 : Nat → (List Int)) (v152 : Nat → Int) (v153 : Nat → Int) (n_ : Nat) {res_ : Option ((Int × Bool) × Unit)} (hstep_ : ∀ j_, j_ < n_ → ∀ kx_, impl_BestAssembly_B3 N kx4 kx_ (costs9 j_) (best2 j_) (setx2 j_) (sum1 j_) (least j_) (v1372 j_) (v1382 j_) (v1392 j_) (v1451 j_) (v1461 j_) (v1471 j_) (v151 j_) (v152 j_) (v153 j_) = kx_ (costs9 (j_ + 1)) (best2 (j_ + 1)) (setx2 (j_ + 1)) (sum1 (j_ + 1)) (least (j_ + 1)) (v1372 (j_ + 1)) (v1382 (j_ + 1)) (v1392 (j_ + 1)) (v1451 (j_ + 1)) (v1461 (j_ + 1)) (v1471 (j_ + 1)) (v151 (j_ + 1)) (v152 (j_ + 1)) (v153 (j_ + 1))) (hend_ : ∀ kx_, impl_BestAssembly_B3 N kx4 kx_ (costs9 n_) (best2 n_) (setx2 n_) (sum1 n_) (least n_) (v1372 n_) (v1382 n_) (v1392 n_) (v1451 n_) (v1461 n_) (v1471 n_) (v151 n_) (v152 n_) (v153 n_) = res_) (fu_ : Nat) (hm_ : n_ < fu_) : impl_BestAssembly_L3 N fu_ kx4 (costs9 0) (best2 0) (setx2 0) (sum1 0) (least 0) (v1372 0) (v1382 0) (v1392 0) (v1451 0) (v1461 0) (v1471 0) (v151 0) (v152 0) (v153 0) = res_ := by
  exact loop_run (L := fun fu_ (x_ : (List (List Int)) × Int × Int × Int × Int × (List Int) × Int × Int × (List (List Int)) × Int × Int × (List Int) × Int × Int) => impl_BestAssembly_L3 N fu_ kx4 x_.1 x_.2.1 x_.2.2.1 x_.2.2.2.1 x_.2.2.2.2.1 x_.2.2.2.2.2.1 x_.2.2.2.2.2.2.1 x_.2.2.2.2.2.2.2.1 x_.2.2.2.2.2.2.2.2.1 x_.2.2.2.2.2.2.2.2.2.1 x_.2.2.2.2.2.2.2.2.2.2.1 x_.2.2.2.2.2.2.2.2.2.2.2.1 x_.2.2.2.2.2.2.2.2.2.2.2.2.1 x_.2.2.2.2.2.2.2.2.2.2.2.2.2) (B := fun kx_ x_ => impl_BestAssembly_B3 N kx4 (fun costs9 best2 setx2 sum1 least v1372 v1382 v1392 v1451 v1461 v1471 v151 v152 v153 => kx_ (costs9, best2, setx2, sum1, least, v1372, v1382, v1392, v1451, v1461, v1471, v151, v152, v153)) x_.1 x_.2.1 x_.2.2.1 x_.2.2.2.1 x_.2.2.2.2.1 x_.2.2.2.2.2.1 x_.2.2.2.2.2.2.1 x_.2.2.2.2.2.2.2.1 x_.2.2.2.2.2.2.2.2.1 x_.2.2.2.2.2.2.2.2.2.1 x_.2.2.2.2.2.2.2.2.2.2.1 x_.2.2.2.2.2.2.2.2.2.2.2.1 x_.2.2.2.2.2.2.2.2.2.2.2.2.1 x_.2.2.2.2.2.2.2.2.2.2.2.2.2) (fun _ _ => rfl) (fun j_ => (costs9 j_, best2 j_, setx2 j_, sum1 j_, least j_, v1372 j_, v1382 j_, v1392 j_, v1451 j_, v1461 j_, v1471 j_, v151 j_, v152 j_, v153 j_)) n_ (fun j_ hi_ kx_ => hstep_ j_ hi_ _) (fun kx_ => hend_ _) fu_ hm_
def impl_BestAssembly_K5 (N : Nat) (kx3 : (List (List Int)) → Int → (List Int) → Int → Int → Option ((Int × Bool) × Unit)) (costs11 : List (List Int)) (best4 : Int) (sum3 : Int) (v1374 : List Int) (v1384 : Int) (v1394 : Int) : Option ((Int × Bool) × Unit) :=
  kx3 costs11 (imin best4 sum3) v1374 v1384 (iadd .i64 v1394 1)
def impl_BestAssembly_B4 (N : Nat) (kx3 : (List (List Int)) → Int → (List Int) → Int → Int → Option ((Int × Bool) × Unit)) (kx4 : (List (List Int)) → Int → Int → Int → (List Int) → Int → Int → (List (List Int)) → Int → Int → Option ((Int × Bool) × Unit)) (costs8 : List (List Int)) (best1 : Int) (setx1 : Int) (sum : Int) (v1371 : List Int) (v1381 : Int) (v1391 : Int) (v145 : List (List Int)) (v146 : Int) (v147 : Int) : Option ((Int × Bool) × Unit) :=
  bif ilt v147 v146 then
    chk (inB v147 v145.length) <|
    impl_BestAssembly_L3 N N kx4 costs8 best1 setx1 sum 1099511627776 v1371 v1381 v1391 v145 v146 v147 (gd v145 v147.toNat []) (len (gd v145 v147.toNat [])) 0
  else
    impl_BestAssembly_K5 N kx3 costs8 best1 sum v1371 v1381 v1391
def impl_BestAssembly_L4 (N fu_ : Nat) (kx3 : (List (List Int)) → Int → (List Int) → Int → Int → Option ((Int × Bool) × Unit)) (costs8 : List (List Int)) (best1 : Int) (setx1 : Int) (sum : Int) (v1371 : List Int) (v1381 : Int) (v1391 : Int) (v145 : List (List Int)) (v146 : Int) (v147 : Int) : Option ((Int × Bool) × Unit) :=
  iterK fu_ (fun kx4 (v_ : ((List (List Int)) × Int × Int × Int × (List Int) × Int × Int × (List (List Int)) × Int × Int × Unit) × (Unit)) => impl_BestAssembly_B4 N kx3 (fun costs8 best1 setx1 sum v1371 v1381 v1391 v145 v146 v147 => kx4 ((costs8, best1, setx1, sum, v1371, v1381, v1391, v145, v146, v147, ()), ())) v_.1.1 v_.1.2.1 v_.1.2.2.1 v_.1.2.2.2.1 v_.1.2.2.2.2.1 v_.1.2.2.2.2.2.1 v_.1.2.2.2.2.2.2.1 v_.1.2.2.2.2.2.2.2.1 v_.1.2.2.2.2.2.2.2.2.1 v_.1.2.2.2.2.2.2.2.2.2.1) ((costs8, best1, setx1, sum, v1371, v1381, v1391, v145, v146, v147, ()), ())
theorem impl_BestAssembly_L4_succ (N fu_ : Nat) (kx3 : (List (List Int)) → Int → (List Int) → Int → Int → Option ((Int × Bool) × Unit)) (costs8 : List (List Int)) (best1 : Int) (setx1 : Int) (sum : Int) (v1371 : List Int) (v1381 : Int) (v1391 : Int) (v145 : List (List Int)) (v146 : Int) (v147 : Int) : impl_BestAssembly_L4 N (fu_ + 1) kx3 costs8 best1 setx1 sum v1371 v1381 v1391 v145 v146 v147 = impl_BestAssembly_B4 N kx3 (fun costs8 best1 setx1 sum v1371 v1381 v1391 v145 v146 v147 => impl_BestAssembly_L4 N fu_ kx3 costs8 best1 setx1 sum v1371 v1381 v1391 v145 v146 v147) costs8 best1 setx1 sum v1371 v1381 v1391 v145 v146 v147 := rfl
theorem impl_BestAssembly_L4_run (N : Nat) (kx3 : (List (List Int)) → Int → (List Int) → Int → Int → Option ((Int × Bool) × Unit)) (costs8 : Nat → (List (List Int))) (best1 : Nat → Int) (setx1 : Nat → Int) (sum : Nat → Int) (v1371 : Nat → (List Int)) (v1381 : Nat → Int) (v1391 : Nat → Int) (v145 : Nat → (List (List Int))) (v146 : Nat → Int) (v147 : Nat → Int) (n_ : Nat) {res_ : Option ((Int × Bool) × Unit)} (hstep_ : ∀ j_, j_ < n_ → ∀ kx_, impl_BestAssembly_B4 N kx3 kx_ (costs8 j_) (best1 j_) (setx1 j_) (sum j_) (v1371 j_) (v1381 j_) (v1391 j_) (v145 j_) (v146 j_) (v147 j_) = kx_ (costs8 (j_ + 1)) (best1 (j_ + 1)) (setx1 (j_ + 1)) (sum (j_ + 1)) (v1371 (j_ + 1)) (v1381 (j_ + 1)) (v1391 (j_ + 1)) (v145 (j_ + 1)) (v146 (j_ + 1)) (v147 (j_ + 1))) (hend_ : ∀ kx_, impl_BestAssembly_B4 N kx3 kx_ (costs8 n_) (best1 n_) (setx1 n_) (sum n_) (v1371 n_) (v1381 n_) (v1391 n_) (v145 n_) (v146 n_) (v147 n_) = res_) (fu_ : Nat) (hm_ : n_ < fu_) : impl_BestAssembly_L4 N fu_ kx3 (costs8 0) (best1 0) (setx1 0) (sum 0) (v1371 0) (v1381 0) (v1391 0) (v145 0) (v146 0) (v147 0) = res_ := by
  exact loop_run (L := fun fu_ (x_ : (List (List Int)) × Int × Int × Int × (List Int) × Int × Int × (List (List Int)) × Int × Int) => impl_BestAssembly_L4 N fu_ kx3 x_.1 x_.2.1 x_.2.2.1 x_.2.2.2.1 x_.2.2.2.2.1 x_.2.2.2.2.2.1 x_.2.2.2.2.2.2.1 x_.2.2.2.2.2.2.2.1 x_.2.2.2.2.2.2.2.2.1 x_.2.2.2.2.2.2.2.2.2) (B := fun kx_ x_ => impl_BestAssembly_B4 N kx3 (fun costs8 best1 setx1 sum v1371 v1381 v1391 v145 v146 v147 => kx_ (costs8, best1, setx1, sum, v1371, v1381, v1391, v145, v146, v147)) x_.1 x_.2.1 x_.2.2.1 x_.2.2.2.1 x_.2.2.2.2.1 x_.2.2.2.2.2.1 x_.2.2.2.2.2.2.1 x_.2.2.2.2.2.2.2.1 x_.2.2.2.2.2.2.2.2.1 x_.2.2.2.2.2.2.2.2.2) (fun _ _ => rfl) (fun j_ => (costs8 j_, best1 j_, setx1 j_, sum j_, v1371 j_, v1381 j_, v1391 j_, v145 j_, v146 j_, v147 j_)) n_ (fun j_ hi_ kx_ => hstep_ j_ hi_ _) (fun kx_ => hend_ _) fu_ hm_
def impl_BestAssembly_K6 (N : Nat) (best5 : Int) : Option ((Int × Bool) × Unit) :=
  some ((best5, true), ())
def impl_BestAssembly_B5 (N : Nat) (kx3 : (List (List Int)) → Int → (List Int) → Int → Int → Option ((Int × Bool) × Unit)) (costs7 : List (List Int)) (best : Int) (v137 : List Int) (v138 : Int) (v139 : Int) : Option ((Int × Bool) × Unit) :=
  bif ilt v139 v138 then
    chk (inB v139 v137.length) <|
    chk (cutB 1 (len costs7) costs7.length) <|
    impl_BestAssembly_L4 N N kx3 costs7 best v139 (gd v137 v139.toNat 0) v137 v138 v139 (cut costs7 1 (len costs7)) (len (cut costs7 1 (len costs7))) 0
  else
    impl_BestAssembly_K6 N best
def impl_BestAssembly_L5 (N fu_ : Nat) (costs7 : List (List Int)) (best : Int) (v137 : List Int) (v138 : Int) (v139 : Int) : Option ((Int × Bool) × Unit) :=
  iterK fu_ (fun kx3 (v_ : ((List (List Int)) × Int × (List Int) × Int × Int × Unit) × (Unit)) => impl_BestAssembly_B5 N (fun costs7 best v137 v138 v139 => kx3 ((costs7, best, v137, v138, v139, ()), ())) v_.1.1 v_.1.2.1 v_.1.2.2.1 v_.1.2.2.2.1 v_.1.2.2.2.2.1) ((costs7, best, v137, v138, v139, ()), ())
theorem impl_BestAssembly_L5_succ (N fu_ : Nat) (costs7 : List (List Int)) (best : Int) (v137 : List Int) (v138 : Int) (v139 : Int) : impl_BestAssembly_L5 N (fu_ + 1) costs7 best v137 v138 v139 = impl_BestAssembly_B5 N (fun costs7 best v137 v138 v139 => impl_BestAssembly_L5 N fu_ costs7 best v137 v138 v139) costs7 best v137 v138 v139 := rfl
theorem impl_BestAssembly_L5_run (N : Nat) (costs7 : Nat → (List (List Int))) (best : Nat → Int) (v137 : Nat → (List Int)) (v138 : Nat → Int) (v139 : Nat → Int) (n_ : Nat) {res_ : Option ((Int × Bool) × Unit)} (hstep_ : ∀ j_, j_ < n_ → ∀ kx_, impl_BestAssembly_B5 N kx_ (costs7 j_) (best j_) (v137 j_) (v138 j_) (v139 j_) = kx_ (costs7 (j_ + 1)) (best (j_ + 1)) (v137 (j_ + 1)) (v138 (j_ + 1)) (v139 (j_ + 1))) (hend_ : ∀ kx_, impl_BestAssembly_B5 N kx_ (costs7 n_) (best n_) (v137 n_) (v138 n_) (v139 n_) = res_) (fu_ : Nat) (hm_ : n_ < fu_) : impl_BestAssembly_L5 N fu_ (costs7 0) (best 0) (v137 0) (v138 0) (v139 0) = res_ := by
  exact loop_run (L := fun fu_ (x_ : (List (List Int)) × Int × (List Int) × Int × Int) => impl_BestAssembly_L5 N fu_ x_.1 x_.2.1 x_.2.2.1 x_.2.2.2.1 x_.2.2.2.2) (B := fun kx_ x_ => impl_BestAssembly_B5 N (fun costs7 best v137 v138 v139 => kx_ (costs7, best, v137, v138, v139)) x_.1 x_.2.1 x_.2.2.1 x_.2.2.2.1 x_.2.2.2.2) (fun _ _ => rfl) (fun j_ => (costs7 j_, best j_, v137 j_, v138 j_, v139 j_)) n_ (fun j_ hi_ kx_ => hstep_ j_ hi_ _) (fun kx_ => hend_ _) fu_ hm_
def impl_BestAssembly_K7 (N : Nat) (costs6 : List (List Int)) : Option ((Int × Bool) × Unit) :=
  chk (inB 0 costs6.length) <|
  impl_BestAssembly_L5 N N costs6 1099511627776 (gd costs6 0 []) (len (gd costs6 0 [])) 0
def impl_BestAssembly_B6 (N : Nat) (kx : (List Int) → (List Int) → (List Int) → Int → Int → (List (List Int)) → Option ((Int × Bool) × Unit)) (need1 : List Int) (setups1 : List Int) (holds1 : List Int) (v69 : Int) (v70 : Int) (costs : List (List Int)) : Option ((Int × Bool) × Unit) :=
  bif ilt v70 v69 then
    chk (inB v70 holds1.length) <|
    bif ieq v70 0 then
      chk (cutB 1 (len holds1) holds1.length) <|
      (impl_total N (cut holds1 1 (len holds1))).bind fun r5 =>
      impl_BestAssembly_K3 N kx need1 setups1 holds1 v70 (isub .i64 (gd holds1 v70.toNat 0) r5.1) v69 v70 costs
    else
      impl_BestAssembly_K3 N kx need1 setups1 holds1 v70 (gd holds1 v70.toNat 0) v69 v70 costs
  else
    impl_BestAssembly_K7 N costs
def impl_BestAssembly_L6 (N fu_ : Nat) (need1 : List Int) (setups1 : List Int) (holds1 : List Int) (v69 : Int) (v70 : Int) (costs : List (List Int)) : Option ((Int × Bool) × Unit) :=
  iterK fu_ (fun kx (v_ : ((List Int) × (List Int) × (List Int) × Int × Int × Unit) × ((List (List Int)) × Unit)) => impl_BestAssembly_B6 N (fun need1 setups1 holds1 v69 v70 costs => kx ((need1, setups1, holds1, v69, v70, ()), (costs, ()))) v_.1.1 v_.1.2.1 v_.1.2.2.1 v_.1.2.2.2.1 v_.1.2.2.2.2.1 v_.2.1) ((need1, setups1, holds1, v69, v70, ()), (costs, ()))
theorem impl_BestAssembly_L6_succ (N fu_ : Nat) (need1 : List Int) (setups1 : List Int) (holds1 : List Int) (v69 : Int) (v70 : Int) (costs : List (List Int)) : impl_BestAssembly_L6 N (fu_ + 1) need1 setups1 holds1 v69 v70 costs = impl_BestAssembly_B6 N (fun need1 setups1 holds1 v69 v70 costs => impl_BestAssembly_L6 N fu_ need1 setups1 holds1 v69 v70 costs) need1 setups1 holds1 v69 v70 costs := rfl
theorem impl_BestAssembly_L6_run (N : Nat) (need1 : Nat → (List Int)) (setups1 : Nat → (List Int)) (holds1 : Nat → (List Int)) (v69 : Nat → Int) (v70 : Nat → Int) (costs : Nat → (List (List Int))) (n_ : Nat) {res_ : Option ((Int × Bool) × Unit)} (hstep_ : ∀ j_, j_ < n_ → ∀ kx_, impl_BestAssembly_B6 N kx_ (need1 j_) (setups1 j_) (holds1 j_) (v69 j_) (v70 j_) (costs j_) = kx_ (need1 (j_ + 1)) (setups1 (j_ + 1)) (holds1 (j_ + 1)) (v69 (j_ + 1)) (v70 (j_ + 1)) (costs (j_ + 1))) (hend_ : ∀ kx_, impl_BestAssembly_B6 N kx_ (need1 n_) (setups1 n_) (holds1 n_) (v69 n_) (v70 n_) (costs n_) = res_) (fu_ : Nat) (hm_ : n_ < fu_) : impl_BestAssembly_L6 N fu_ (need1 0) (setups1 0) (holds1 0) (v69 0) (v70 0) (costs 0) = res_ := by
  exact loop_run (L := fun fu_ (x_ : (List Int) × (List Int) × (List Int) × Int × Int × (List (List Int))) => impl_BestAssembly_L6 N fu_ x_.1 x_.2.1 x_.2.2.1 x_.2.2.2.1 x_.2.2.2.2.1 x_.2.2.2.2.2) (B := fun kx_ x_ => impl_BestAssembly_B6 N (fun need1 setups1 holds1 v69 v70 costs => kx_ (need1, setups1, holds1, v69, v70, costs)) x_.1 x_.2.1 x_.2.2.1 x_.2.2.2.1 x_.2.2.2.2.1 x_.2.2.2.2.2) (fun _ _ => rfl) (fun j_ => (need1 j_, setups1 j_, holds1 j_, v69 j_, v70 j_, costs j_)) n_ (fun j_ hi_ kx_ => hstep_ j_ hi_ _) (fun kx_ => hend_ _) fu_ hm_
def impl_BestAssembly (N : Nat) (need : List Int) (setups : List Int) (holds : List Int) : Option ((Int × Bool) × Unit) :=
  bif ilt 6 (len need) then
    some ((0, false), ())
  else
    (impl_allWithin N need 0 20).bind fun r =>
    bif !r.1 then
      some ((0, false), ())
    else
      (impl_within N (len setups) 1 3).bind fun r1 =>
      bif !r1.1 then
        some ((0, false), ())
      else
        bif ine (len holds) (len setups) then
          some ((0, false), ())
        else
          (impl_allWithin N setups 0 99).bind fun r2 =>
          bif !r2.1 then
            some ((0, false), ())
          else
            (impl_allWithin N holds 0 9).bind fun r3 =>
            bif !r3.1 then
              some ((0, false), ())
            else
              chk (inB 0 holds.length) <|
              chk (cutB 1 (len holds) holds.length) <|
              (impl_total N (cut holds 1 (len holds))).bind fun r4 =>
              bif ilt (gd holds 0 0) r4.1 then
                some ((0, false), ())
              else
                chk (mkB (len setups) 24) <|
                impl_BestAssembly_L6 N N need setups holds (len setups) 0 (List.replicate (len setups).toNat ([] : List Int))
def cmp_isNaN_int (N : Nat) (x : Int) : Option (Bool × Unit) :=
  some (ine x x, ())
def cmp_Less_int (N : Nat) (x : Int) (y : Int) : Option (Bool × Unit) :=
  (cmp_isNaN_int N x).bind fun r =>
  bif r.1 then
    (cmp_isNaN_int N y).bind fun r1 =>
    bif !r1.1 then
      some (true, ())
    else
      some (ilt x y, ())
  else
    some (ilt x y, ())
def slices_IsSorted_int_int_K1 (N : Nat) : Option (Bool × Unit) :=
  some (true, ())
def slices_IsSorted_int_int_B1 (N : Nat) (kx : (List Int) → Int → Option (Bool × Unit)) (x1 : List Int) (i : Int) : Option (Bool × Unit) :=
  bif ilt 0 i then
    chk (inB i x1.length) <|
    chk (inB (isub .i64 i 1) x1.length) <|
    (cmp_Less_int N (gd x1 i.toNat 0) (gd x1 (isub .i64 i 1).toNat 0)).bind fun r =>
    bif r.1 then
      some (false, ())
    else
      kx x1 (isub .i64 i 1)
  else
    slices_IsSorted_int_int_K1 N
def slices_IsSorted_int_int_L1 (N fu_ : Nat) (x1 : List Int) (i : Int) : Option (Bool × Unit) :=
  iterK fu_ (fun kx (v_ : ((List Int) × Int × Unit) × (Unit)) => slices_IsSorted_int_int_B1 N (fun x1 i => kx ((x1, i, ()), ())) v_.1.1 v_.1.2.1) ((x1, i, ()), ())
theorem slices_IsSorted_int_int_L1_succ (N fu_ : Nat) (x1 : List Int) (i : Int) : slices_IsSorted_int_int_L1 N (fu_ + 1) x1 i = slices_IsSorted_int_int_B1 N (fun x1 i => slices_IsSorted_int_int_L1 N fu_ x1 i) x1 i := rfl
theorem slices_IsSorted_int_int_L1_run (N : Nat) (x1 : Nat → (List Int)) (i : Nat → Int) (n_ : Nat) {res_ : Option (Bool × Unit)} (hstep_ : ∀ j_, j_ < n_ → ∀ kx_, slices_IsSorted_int_int_B1 N kx_ (x1 j_) (i j_) = kx_ (x1 (j_ + 1)) (i (j_ + 1))) (hend_ : ∀ kx_, slices_IsSorted_int_int_B1 N kx_ (x1 n_) (i n_) = res_) (fu_ : Nat) (hm_ : n_ < fu_) : slices_IsSorted_int_int_L1 N fu_ (x1 0) (i 0) = res_ := by
  exact loop_run (L := fun fu_ (x_ : (List Int) × Int) => slices_IsSorted_int_int_L1 N fu_ x_.1 x_.2) (B := fun kx_ x_ => slices_IsSorted_int_int_B1 N (fun x1 i => kx_ (x1, i)) x_.1 x_.2) (fun _ _ => rfl) (fun j_ => (x1 j_, i j_)) n_ (fun j_ hi_ kx_ => hstep_ j_ hi_ _) (fun kx_ => hend_ _) fu_ hm_
def slices_IsSorted_int_int (N : Nat) (x : List Int) : Option (Bool × Unit) :=
  slices_IsSorted_int_int_L1 N N x (isub .i64 (len x) 1)
def impl_IsChain (N : Nat) (c : (List Int) × (List Int) × (List Int)) : Option (Bool × Unit) :=
  bif ile (len c.1) 6 then
    (impl_allWithin N c.1 0 20).bind fun r =>
    bif r.1 then
      (impl_within N (len c.2.1) 1 3).bind fun r1 =>
      bif r1.1 then
        bif ieq (len c.2.2) (len c.2.1) then
          (impl_allWithin N c.2.1 0 99).bind fun r2 =>
          bif r2.1 then
            (impl_allWithin N c.2.2 0 9).bind fun r3 =>
            bif r3.1 then
              (slices_IsSorted_int_int N c.2.2).bind fun r4 =>
              some (r4.1, ())
            else
              some (false, ())
          else
            some (false, ())
        else
          some (false, ())
      else
        some (false, ())
    else
      some (false, ())
  else
    some (false, ())
def impl_Chain_stocks_K1 (N : Nat) (kx : (List (List Int)) → (List (List Int)) → Int → Int → ((List Int) × (List Int) × (List Int)) → (List (List Int)) → Option (((List (List Int)) × Bool) × Unit)) (plan4 : List (List Int)) (stock1 : Int) (v213 : List (List Int)) (v223 : Int) (v233 : Int) (v471 : List Int) (v481 : Int) (v501 : List Int) (v511 : Int) (v521 : Bool) (v551 : List Int) (v561 : Bool) (v571 : Bool) (v601 : List Int) (v611 : Bool) (v621 : Bool) (c4 : (List Int) × (List Int) × (List Int)) (out3 : List (List Int)) (row1 : List Int) : Option (((List (List Int)) × Bool) × Unit) :=
  bif ine stock1 0 then
    some (([], false), ())
  else
    chk (fitB (out3.length + 1) 24) <|
    kx plan4 v213 v223 (iadd .i64 v233 1) c4 (out3 ++ [row1])
def impl_Chain_stocks_B1 (N : Nat) (kx : (List (List Int)) → (List (List Int)) → Int → Int → ((List Int) × (List Int) × (List Int)) → (List (List Int)) → Option (((List (List Int)) × Bool) × Unit)) (kx1 : (List (List Int)) → (List Int) → Int → (List (List Int)) → Int → Int → (List Int) → Int → (List Int) → Int → Bool → (List Int) → Bool → Bool → (List Int) → Bool → Bool → (List Int) → Int → Int → ((List Int) × (List Int) × (List Int)) → (List (List Int)) → (List Int) → Option (((List (List Int)) × Bool) × Unit)) (plan3 : List (List Int)) (taken1 : List Int) (stock : Int) (v212 : List (List Int)) (v222 : Int) (v232 : Int) (v47 : List Int) (v48 : Int) (v50 : List Int) (v51 : Int) (v52 : Bool) (v55 : List Int) (v56 : Bool) (v57 : Bool) (v60 : List Int) (v61 : Bool) (v62 : Bool) (v65 : List Int) (v66 : Int) (v67 : Int) (c3 : (List Int) × (List Int) × (List Int)) (out2 : List (List Int)) (row : List Int) : Option (((List (List Int)) × Bool) × Unit) :=
  bif ilt v67 v66 then
    chk (inB v67 v65.length) <|
    chk (inB v67 taken1.length) <|
    bif ilt (iadd .i64 stock (isub .i64 (gd v65 v67.toNat 0) (gd taken1 v67.toNat 0))) 0 then
      some (([], false), ())
    else
      chk (fitB (row.length + 1) 8) <|
      kx1 plan3 taken1 (iadd .i64 stock (isub .i64 (gd v65 v67.toNat 0) (gd taken1 v67.toNat 0))) v212 v222 v232 v47 v48 v50 v51 v52 v55 v56 v57 v60 v61 v62 v65 v66 (iadd .i64 v67 1) c3 out2 (row ++ [iadd .i64 stock (isub .i64 (gd v65 v67.toNat 0) (gd taken1 v67.toNat 0))])
  else
    impl_Chain_stocks_K1 N kx plan3 stock v212 v222 v232 v47 v48 v50 v51 v52 v55 v56 v57 v60 v61 v62 c3 out2 row
def impl_Chain_stocks_L1 (N fu_ : Nat) (kx : (List (List Int)) → (List (List Int)) → Int → Int → ((List Int) × (List Int) × (List Int)) → (List (List Int)) → Option (((List (List Int)) × Bool) × Unit)) (plan3 : List (List Int)) (taken1 : List Int) (stock : Int) (v212 : List (List Int)) (v222 : Int) (v232 : Int) (v47 : List Int) (v48 : Int) (v50 : List Int) (v51 : Int) (v52 : Bool) (v55 : List Int) (v56 : Bool) (v57 : Bool) (v60 : List Int) (v61 : Bool) (v62 : Bool) (v65 : List Int) (v66 : Int) (v67 : Int) (c3 : (List Int) × (List Int) × (List Int)) (out2 : List (List Int)) (row : List Int) : Option (((List (List Int)) × Bool) × Unit) :=
  iterK fu_ (fun kx1 (v_ : ((List (List Int)) × (List Int) × Int × (List (List Int)) × Int × Int × (List Int) × Int × (List Int) × Int × Bool × (List Int) × Bool × Bool × (List Int) × Bool × Bool × (List Int) × Int × Int × Unit) × (((List Int) × (List Int) × (List Int)) × (List (List Int)) × (List Int) × Unit)) => impl_Chain_stocks_B1 N kx (fun plan3 taken1 stock v212 v222 v232 v47 v48 v50 v51 v52 v55 v56 v57 v60 v61 v62 v65 v66 v67 c3 out2 row => kx1 ((plan3, taken1, stock, v212, v222, v232, v47, v48, v50, v51, v52, v55, v56, v57, v60, v61, v62, v65, v66, v67, ()), (c3, out2, row, ()))) v_.1.1 v_.1.2.1 v_.1.2.2.1 v_.1.2.2.2.1 v_.1.2.2.2.2.1 v_.1.2.2.2.2.2.1 v_.1.2.2.2.2.2.2.1 v_.1.2.2.2.2.2.2.2.1 v_.1.2.2.2.2.2.2.2.2.1 v_.1.2.2.2.2.2.2.2.2.2.1 v_.1.2.2.2.2.2.2.2.2.2.2.1 v_.1.2.2.2.2.2.2.2.2.2.2.2.1 v_.1.2.2.2.2.2.2.2.2.2.2.2.2.1 v_.1.2.2.2.2.2.2.2.2.2.2.2.2.2.1 v_.1.2.2.2.2.2.2.2.2.2.2.2.2.2.2.1 v_.1.2.2.2.2.2.2.2.2.2.2.2.2.2.2.2.1 v_.1.2.2.2.2.2.2.2.2.2.2.2.2.2.2.2.2.1 v_.1.2.2.2.2.2.2.2.2.2.2.2.2.2.2.2.2.2.1 v_.1.2.2.2.2.2.2.2.2.2.2.2.2.2.2.2.2.2.2.1 v_.1.2.2.2.2.2.2.2.2.2.2.2.2.2.2.2.2.2.2.2.1 v_.2.1 v_.2.2.1 v_.2.2.2.1) ((plan3, taken1, stock, v212, v222, v232, v47, v48, v50, v51, v52, v55, v56, v57, v60, v61, v62, v65, v66, v67, ()), (c3, out2, row, ()))
theorem impl_Chain_stocks_L1_succ (N fu_ : Nat) (kx : (List (List Int)) → (List (List Int)) → Int → Int → ((List Int) × (List Int) × (List Int)) → (List (List Int)) → Option (((List (List Int)) × Bool) × Unit)) (plan3 : List (List Int)) (taken1 : List Int) (stock : Int) (v212 : List (List Int)) (v222 : Int) (v232 : Int) (v47 : List Int) (v48 : Int) (v50 : List Int) (v51 : Int) (v52 : Bool) (v55 : List Int) (v56 : Bool) (v57 : Bool) (v60 : List Int) (v61 : Bool) (v62 : Bool) (v65 : List Int) (v66 : Int) (v67 : Int) (c3 : (List Int) × (List Int) × (List Int)) (out2 : List (List Int)) (row : List Int) : impl_Chain_stocks_L1 N (fu_ + 1) kx plan3 taken1 stock v212 v222 v232 v47 v48 v50 v51 v52 v55 v56 v57 v60 v61 v62 v65 v66 v67 c3 out2 row = impl_Chain_stocks_B1 N kx (fun plan3 taken1 stock v212 v222 v232 v47 v48 v50 v51 v52 v55 v56 v57 v60 v61 v62 v65 v66 v67 c3 out2 row => impl_Chain_stocks_L1 N fu_ kx plan3 taken1 stock v212 v222 v232 v47 v48 v50 v51 v52 v55 v56 v57 v60 v61 v62 v65 v66 v67 c3 out2 row) plan3 taken1 stock v212 v222 v232 v47 v48 v50 v51 v52 v55 v56 v57 v60 v61 v62 v65 v66 v67 c3 out2 row := rfl
theorem impl_Chain_stocks_L1_run (N : Nat) (kx : (List (List Int)) → (List (List Int)) → Int → Int → ((List Int) × (List Int) × (List Int)) → (List (List Int)) → Option (((List (List Int)) × Bool) × Unit)) (plan3 : Nat → (List (List Int))) (taken1 : Nat → (List Int)) (stock : Nat → Int) (v212 : Nat → (List (List Int))) (v222 : Nat → Int) (v232 : Nat → Int) (v47 : Nat → (List Int)) (v48 : Nat → Int) (v50 : Nat → (List Int)) (v51 : Nat → Int) (v52 : Nat → Bool) (v55 : Nat → (List Int)) (v56 : Nat → Bool) (v57 : Nat → Bool) (v60 : Nat → (List Int)) (v61 : Nat → Bool) (v62 : Nat → Bool) (v65 : Nat → (List Int)) (v66 : Nat → Int) (v67 : Nat → Int) (c3 : Nat → ((List Int) × (List Int) × (List Int))) (out2 : Nat → (List (List Int))) (row : Nat → (List Int)) (n_ : Nat) {res_ : Option (((List (List Int)) × Bool) × Unit)} (hstep_ : ∀ j_, j_ < n_ → ∀ kx_, impl_Chain_stocks_B1 N kx kx_ (plan3 j_) (taken1 j_) (stock j_) (v212 j_) (v222 j_) (v232 j_) (v47 j_) (v48 j_) (v50 j_) (v51 j_) (v52 j_) (v55 j_) (v56 j_) (v57 j_) (v60 j_) (v61 j_) (v62 j_) (v65 j_) (v66 j_) (v67 j_) (c3 j_) (out2 j_) (row j_) = kx_ (plan3 (j_ + 1)) (taken1 (j_ + 1)) (stock (j_ + 1)) (v212 (j_ + 1)) (v222 (j_ + 1)) (v232 (j_ + 1)) (v47 (j_ + 1)) (v48 (j_ + 1)) (v50 (j_ + 1)) (v51 (j_ + 1)) (v52 (j_ + 1)) (v55 (j_ + 1)) (v56 (j_ + 1)) (v57 (j_ + 1)) (v60 (j_ + 1)) (v61 (j_ + 1)) (v62 (j_ + 1)) (v65 (j_ + 1)) (v66 (j_ + 1)) (v67 (j_ + 1)) (c3 (j_ + 1)) (out2 (j_ + 1)) (row (j_ + 1))) (hend_ : ∀ kx_, impl_Chain_stocks_B1 N kx kx_ (plan3 n_) (taken1 n_) (stock n_) (v212 n_) (v222 n_) (v232 n_) (v47 n_) (v48 n_) (v50 n_) (v51 n_) (v52 n_) (v55 n_) (v56 n_) (v57 n_) (v60 n_) (v61 n_) (v62 n_) (v65 n_) (v66 n_) (v67 n_) (c3 n_) (out2 n_) (row n_) = res_) (fu_ : Nat) (hm_ : n_ < fu_) : impl_Chain_stocks_L1 N fu_ kx (plan3 0) (taken1 0) (stock 0) (v212 0) (v222 0) (v232 0) (v47 0) (v48 0) (v50 0) (v51 0) (v52 0) (v55 0) (v56 0) (v57 0) (v60 0) (v61 0) (v62 0) (v65 0) (v66 0) (v67 0) (c3 0) (out2 0) (row 0) = res_ := by
  exact loop_run (L := fun fu_ (x_ : (List (List Int)) × (List Int) × Int × (List (List Int)) × Int × Int × (List Int) × Int × (List Int) × Int × Bool × (List Int) × Bool × Bool × (List Int) × Bool × Bool × (List Int) × Int × Int × ((List Int) × (List Int) × (List Int)) × (List (List Int)) × (List Int)) => impl_Chain_stocks_L1 N fu_ kx x_.1 x_.2.1 x_.2.2.1 x_.2.2.2.1 x_.2.2.2.2.1 x_.2.2.2.2.2.1 x_.2.2.2.2.2.2.1 x_.2.2.2.2.2.2.2.1 x_.2.2.2.2.2.2.2.2.1 x_.2.2.2.2.2.2.2.2.2.1 x_.2.2.2.2.2.2.2.2.2.2.1 x_.2.2.2.2.2.2.2.2.2.2.2.1 x_.2.2.2.2.2.2.2.2.2.2.2.2.1 x_.2.2.2.2.2.2.2.2.2.2.2.2.2.1 x_.2.2.2.2.2.2.2.2.2.2.2.2.2.2.1 x_.2.2.2.2.2.2.2.2.2.2.2.2.2.2.2.1 x_.2.2.2.2.2.2.2.2.2.2.2.2.2.2.2.2.1 x_.2.2.2.2.2.2.2.2.2.2.2.2.2.2.2.2.2.1 x_.2.2.2.2.2.2.2.2.2.2.2.2.2.2.2.2.2.2.1 x_.2.2.2.2.2.2.2.2.2.2.2.2.2.2.2.2.2.2.2.1 x_.2.2.2.2.2.2.2.2.2.2.2.2.2.2.2.2.2.2.2.2.1 x_.2.2.2.2.2.2.2.2.2.2.2.2.2.2.2.2.2.2.2.2.2.1 x_.2.2.2.2.2.2.2.2.2.2.2.2.2.2.2.2.2.2.2.2.2.2) (B := fun kx_ x_ => impl_Chain_stocks_B1 N kx (fun plan3 taken1 stock v212 v222 v232 v47 v48 v50 v51 v52 v55 v56 v57 v60 v61 v62 v65 v66 v67 c3 out2 row => kx_ (plan3, taken1, stock, v212, v222, v232, v47, v48, v50, v51, v52, v55, v56, v57, v60, v61, v62, v65, v66, v67, c3, out2, row)) x_.1 x_.2.1 x_.2.2.1 x_.2.2.2.1 x_.2.2.2.2.1 x_.2.2.2.2.2.1 x_.2.2.2.2.2.2.1 x_.2.2.2.2.2.2.2.1 x_.2.2.2.2.2.2.2.2.1 x_.2.2.2.2.2.2.2.2.2.1 x_.2.2.2.2.2.2.2.2.2.2.1 x_.2.2.2.2.2.2.2.2.2.2.2.1 x_.2.2.2.2.2.2.2.2.2.2.2.2.1 x_.2.2.2.2.2.2.2.2.2.2.2.2.2.1 x_.2.2.2.2.2.2.2.2.2.2.2.2.2.2.1 x_.2.2.2.2.2.2.2.2.2.2.2.2.2.2.2.1 x_.2.2.2.2.2.2.2.2.2.2.2.2.2.2.2.2.1 x_.2.2.2.2.2.2.2.2.2.2.2.2.2.2.2.2.2.1 x_.2.2.2.2.2.2.2.2.2.2.2.2.2.2.2.2.2.2.1 x_.2.2.2.2.2.2.2.2.2.2.2.2.2.2.2.2.2.2.2.1 x_.2.2.2.2.2.2.2.2.2.2.2.2.2.2.2.2.2.2.2.2.1 x_.2.2.2.2.2.2.2.2.2.2.2.2.2.2.2.2.2.2.2.2.2.1 x_.2.2.2.2.2.2.2.2.2.2.2.2.2.2.2.2.2.2.2.2.2.2) (fun _ _ => rfl) (fun j_ => (plan3 j_, taken1 j_, stock j_, v212 j_, v222 j_, v232 j_, v47 j_, v48 j_, v50 j_, v51 j_, v52 j_, v55 j_, v56 j_, v57 j_, v60 j_, v61 j_, v62 j_, v65 j_, v66 j_, v67 j_, c3 j_, out2 j_, row j_)) n_ (fun j_ hi_ kx_ => hstep_ j_ hi_ _) (fun kx_ => hend_ _) fu_ hm_
def impl_Chain_stocks_K2 (N : Nat) (kx : (List (List Int)) → (List (List Int)) → Int → Int → ((List Int) × (List Int) × (List Int)) → (List (List Int)) → Option (((List (List Int)) × Bool) × Unit)) (plan2 : List (List Int)) (list : List Int) (taken : List Int) (v211 : List (List Int)) (v221 : Int) (v231 : Int) (c2 : (List Int) × (List Int) × (List Int)) (out1 : List (List Int)) : Option (((List (List Int)) × Bool) × Unit) :=
  bif ine (len list) (len c2.1) then
    some (([], false), ())
  else
    bif ine (len taken) (len c2.1) then
      some (([], false), ())
    else
      (impl_allWithin N list 0 120).bind fun r =>
      bif !r.1 then
        some (([], false), ())
      else
        (impl_allWithin N taken 0 120).bind fun r1 =>
        bif !r1.1 then
          some (([], false), ())
        else
          impl_Chain_stocks_L1 N N kx plan2 taken 0 v211 v221 v231 taken (len taken) c2.1 (len c2.1) (ine (len taken) (len c2.1)) list r.1 (!r.1) taken r1.1 (!r1.1) list (len list) 0 c2 out1 []
def impl_Chain_stocks_K3 (N : Nat) (out4 : List (List Int)) : Option (((List (List Int)) × Bool) × Unit) :=
  some ((out4, true), ())
def impl_Chain_stocks_B2 (N : Nat) (kx : (List (List Int)) → (List (List Int)) → Int → Int → ((List Int) × (List Int) × (List Int)) → (List (List Int)) → Option (((List (List Int)) × Bool) × Unit)) (plan1 : List (List Int)) (v21 : List (List Int)) (v22 : Int) (v23 : Int) (c1 : (List Int) × (List Int) × (List Int)) (out : List (List Int)) : Option (((List (List Int)) × Bool) × Unit) :=
  bif ilt v23 v22 then
    chk (inB v23 v21.length) <|
    bif ilt (iadd .i64 v23 1) (len plan1) then
      chk (inB (iadd .i64 v23 1) plan1.length) <|
      impl_Chain_stocks_K2 N kx plan1 (gd v21 v23.toNat []) (gd plan1 (iadd .i64 v23 1).toNat []) v21 v22 v23 c1 out
    else
      impl_Chain_stocks_K2 N kx plan1 (gd v21 v23.toNat []) c1.1 v21 v22 v23 c1 out
  else
    impl_Chain_stocks_K3 N out
def impl_Chain_stocks_L2 (N fu_ : Nat) (plan1 : List (List Int)) (v21 : List (List Int)) (v22 : Int) (v23 : Int) (c1 : (List Int) × (List Int) × (List Int)) (out : List (List Int)) : Option (((List (List Int)) × Bool) × Unit) :=
  iterK fu_ (fun kx (v_ : ((List (List Int)) × (List (List Int)) × Int × Int × Unit) × (((List Int) × (List Int) × (List Int)) × (List (List Int)) × Unit)) => impl_Chain_stocks_B2 N (fun plan1 v21 v22 v23 c1 out => kx ((plan1, v21, v22, v23, ()), (c1, out, ()))) v_.1.1 v_.1.2.1 v_.1.2.2.1 v_.1.2.2.2.1 v_.2.1 v_.2.2.1) ((plan1, v21, v22, v23, ()), (c1, out, ()))
theorem impl_Chain_stocks_L2_succ (N fu_ : Nat) (plan1 : List (List Int)) (v21 : List (List Int)) (v22 : Int) (v23 : Int) (c1 : (List Int) × (List Int) × (List Int)) (out : List (List Int)) : impl_Chain_stocks_L2 N (fu_ + 1) plan1 v21 v22 v23 c1 out = impl_Chain_stocks_B2 N (fun plan1 v21 v22 v23 c1 out => impl_Chain_stocks_L2 N fu_ plan1 v21 v22 v23 c1 out) plan1 v21 v22 v23 c1 out := rfl
theorem impl_Chain_stocks_L2_run (N : Nat) (plan1 : Nat → (List (List Int))) (v21 : Nat → (List (List Int))) (v22 : Nat → Int) (v23 : Nat → Int) (c1 : Nat → ((List Int) × (List Int) × (List Int))) (out : Nat → (List (List Int))) (n_ : Nat) {res_ : Option (((List (List Int)) × Bool) × Unit)} (hstep_ : ∀ j_, j_ < n_ → ∀ kx_, impl_Chain_stocks_B2 N kx_ (plan1 j_) (v21 j_) (v22 j_) (v23 j_) (c1 j_) (out j_) = kx_ (plan1 (j_ + 1)) (v21 (j_ + 1)) (v22 (j_ + 1)) (v23 (j_ + 1)) (c1 (j_ + 1)) (out (j_ + 1))) (hend_ : ∀ kx_, impl_Chain_stocks_B2 N kx_ (plan1 n_) (v21 n_) (v22 n_) (v23 n_) (c1 n_) (out n_) = res_) (fu_ : Nat) (hm_ : n_ < fu_) : impl_Chain_stocks_L2 N fu_ (plan1 0) (v21 0) (v22 0) (v23 0) (c1 0) (out 0) = res_ := by
  exact loop_run (L := fun fu_ (x_ : (List (List Int)) × (List (List Int)) × Int × Int × ((List Int) × (List Int) × (List Int)) × (List (List Int))) => impl_Chain_stocks_L2 N fu_ x_.1 x_.2.1 x_.2.2.1 x_.2.2.2.1 x_.2.2.2.2.1 x_.2.2.2.2.2) (B := fun kx_ x_ => impl_Chain_stocks_B2 N (fun plan1 v21 v22 v23 c1 out => kx_ (plan1, v21, v22, v23, c1, out)) x_.1 x_.2.1 x_.2.2.1 x_.2.2.2.1 x_.2.2.2.2.1 x_.2.2.2.2.2) (fun _ _ => rfl) (fun j_ => (plan1 j_, v21 j_, v22 j_, v23 j_, c1 j_, out j_)) n_ (fun j_ hi_ kx_ => hstep_ j_ hi_ _) (fun kx_ => hend_ _) fu_ hm_
def impl_Chain_stocks (N : Nat) (c : (List Int) × (List Int) × (List Int)) (plan : List (List Int)) : Option (((List (List Int)) × Bool) × Unit) :=
  bif ine (len plan) (len c.2.1) then
    some (([], false), ())
  else
    impl_Chain_stocks_L2 N N plan plan (len plan) 0 c []
def impl_Chain_cost_K1 (N : Nat) (kx1 : Int → Int → (List (List Int)) → Int → Int → (List Int) → Int → Int → ((List Int) × (List Int) × (List Int)) → ((List (List Int)) × Bool) → Option (Int × Unit)) (sum2 : Int) (stage1 : Int) (i : Int) (v182 : List (List Int)) (v192 : Int) (v202 : Int) (v251 : List Int) (v261 : Int) (v271 : Int) (c3 : (List Int) × (List Int) × (List Int)) (b152 : (List (List Int)) × Bool) : Option (Int × Unit) :=
  chk (inB stage1 c3.2.2.length) <|
  chk (inB stage1 b152.1.length) <|
  chk (inB i (gd b152.1 stage1.toNat []).length) <|
  kx1 (iadd .i64 sum2 (imul .i64 (gd c3.2.2 stage1.toNat 0) (gd (gd b152.1 stage1.toNat []) i.toNat 0))) stage1 v182 v192 v202 v251 v261 (iadd .i64 v271 1) c3 b152
def impl_Chain_cost_K2 (N : Nat) (kx : Int → (List (List Int)) → Int → Int → ((List Int) × (List Int) × (List Int)) → ((List (List Int)) × Bool) → Option (Int × Unit)) (sum3 : Int) (v183 : List (List Int)) (v193 : Int) (v203 : Int) (c4 : (List Int) × (List Int) × (List Int)) (b153 : (List (List Int)) × Bool) : Option (Int × Unit) :=
  kx sum3 v183 v193 (iadd .i64 v203 1) c4 b153
def impl_Chain_cost_B1 (N : Nat) (kx : Int → (List (List Int)) → Int → Int → ((List Int) × (List Int) × (List Int)) → ((List (List Int)) × Bool) → Option (Int × Unit)) (kx1 : Int → Int → (List (List Int)) → Int → Int → (List Int) → Int → Int → ((List Int) × (List Int) × (List Int)) → ((List (List Int)) × Bool) → Option (Int × Unit)) (sum1 : Int) (stage : Int) (v181 : List (List Int)) (v191 : Int) (v201 : Int) (v25 : List Int) (v26 : Int) (v27 : Int) (c2 : (List Int) × (List Int) × (List Int)) (b151 : (List (List Int)) × Bool) : Option (Int × Unit) :=
  bif ilt v27 v26 then
    chk (inB v27 v25.length) <|
    bif ilt 0 (gd v25 v27.toNat 0) then
      chk (inB stage c2.2.1.length) <|
      impl_Chain_cost_K1 N kx1 (iadd .i64 sum1 (gd c2.2.1 stage.toNat 0)) stage v27 v181 v191 v201 v25 v26 v27 c2 b151
    else
      impl_Chain_cost_K1 N kx1 sum1 stage v27 v181 v191 v201 v25 v26 v27 c2 b151
  else
    impl_Chain_cost_K2 N kx sum1 v181 v191 v201 c2 b151
def impl_Chain_cost_L1 (N fu_ : Nat) (kx : Int → (List (List Int)) → Int → Int → ((List Int) × (List Int) × (List Int)) → ((List (List Int)) × Bool) → Option (Int × Unit)) (sum1 : Int) (stage : Int) (v181 : List (List Int)) (v191 : Int) (v201 : Int) (v25 : List Int) (v26 : Int) (v27 : Int) (c2 : (List Int) × (List Int) × (List Int)) (b151 : (List (List Int)) × Bool) : Option (Int × Unit) :=
  iterK fu_ (fun kx1 (v_ : (Int × Int × (List (List Int)) × Int × Int × (List Int) × Int × Int × Unit) × (((List Int) × (List Int) × (List Int)) × ((List (List Int)) × Bool) × Unit)) => impl_Chain_cost_B1 N kx (fun sum1 stage v181 v191 v201 v25 v26 v27 c2 b151 => kx1 ((sum1, stage, v181, v191, v201, v25, v26, v27, ()), (c2, b151, ()))) v_.1.1 v_.1.2.1 v_.1.2.2.1 v_.1.2.2.2.1 v_.1.2.2.2.2.1 v_.1.2.2.2.2.2.1 v_.1.2.2.2.2.2.2.1 v_.1.2.2.2.2.2.2.2.1 v_.2.1 v_.2.2.1) ((sum1, stage, v181, v191, v201, v25, v26, v27, ()), (c2, b151, ()))
theorem impl_Chain_cost_L1_succ (N fu_ : Nat) (kx : Int → (List (List Int)) → Int → Int → ((List Int) × (List Int) × (List Int)) → ((List (List Int)) × Bool) → Option (Int × Unit)) (sum1 : Int) (stage : Int) (v181 : List (List Int)) (v191 : Int) (v201 : Int) (v25 : List Int) (v26 : Int) (v27 : Int) (c2 : (List Int) × (List Int) × (List Int)) (b151 : (List (List Int)) × Bool) : impl_Chain_cost_L1 N (fu_ + 1) kx sum1 stage v181 v191 v201 v25 v26 v27 c2 b151 = impl_Chain_cost_B1 N kx (fun sum1 stage v181 v191 v201 v25 v26 v27 c2 b151 => impl_Chain_cost_L1 N fu_ kx sum1 stage v181 v191 v201 v25 v26 v27 c2 b151) sum1 stage v181 v191 v201 v25 v26 v27 c2 b151 := rfl
theorem impl_Chain_cost_L1_run (N : Nat) (kx : Int → (List (List Int)) → Int → Int → ((List Int) × (List Int) × (List Int)) → ((List (List Int)) × Bool) → Option (Int × Unit)) (sum1 : Nat → Int) (stage : Nat → Int) (v181 : Nat → (List (List Int))) (v191 : Nat → Int) (v201 : Nat → Int) (v25 : Nat → (List Int)) (v26 : Nat → Int) (v27 : Nat → Int) (c2 : Nat → ((List Int) × (List Int) × (List Int))) (b151 : Nat → ((List (List Int)) × Bool)) (n_ : Nat) {res_ : Option (Int × Unit)} (hstep_ : ∀ j_, j_ < n_ → ∀ kx_, impl_Chain_cost_B1 N kx kx_ (sum1 j_) (stage j_) (v181 j_) (v191 j_) (v201 j_) (v25 j_) (v26 j_) (v27 j_) (c2 j_) (b151 j_) = kx_ (sum1 (j_ + 1)) (stage (j_ + 1)) (v181 (j_ + 1)) (v191 (j_ + 1)) (v201 (j_ + 1)) (v25 (j_ + 1)) (v26 (j_ + 1)) (v27 (j_ + 1)) (c2 (j_ + 1)) (b151 (j_ + 1))) (hend_ : ∀ kx_, impl_Chain_cost_B1 N kx kx_ (sum1 n_) (stage n_) (v181 n_) (v191 n_) (v201 n_) (v25 n_) (v26 n_) (v27 n_) (c2 n_) (b151 n_) = res_) (fu_ : Nat) (hm_ : n_ < fu_) : impl_Chain_cost_L1 N fu_ kx (sum1 0) (stage 0) (v181 0) (v191 0) (v201 0) (v25 0) (v26 0) (v27 0) (c2 0) (b151 0) = res_ := by
  exact loop_run (L := fun fu_ (x_ : Int × Int × (List (List Int)) × Int × Int × (List Int) × Int × Int × ((List Int) × (List Int) × (List Int)) × ((List (List Int)) × Bool)) => impl_Chain_cost_L1 N fu_ kx x_.1 x_.2.1 x_.2.2.1 x_.2.2.2.1 x_.2.2.2.2.1 x_.2.2.2.2.2.1 x_.2.2.2.2.2.2.1 x_.2.2.2.2.2.2.2.1 x_.2.2.2.2.2.2.2.2.1 x_.2.2.2.2.2.2.2.2.2) (B := fun kx_ x_ => impl_Chain_cost_B1 N kx (fun sum1 stage v181 v191 v201 v25 v26 v27 c2 b151 => kx_ (sum1, stage, v181, v191, v201, v25, v26, v27, c2, b151)) x_.1 x_.2.1 x_.2.2.1 x_.2.2.2.1 x_.2.2.2.2.1 x_.2.2.2.2.2.1 x_.2.2.2.2.2.2.1 x_.2.2.2.2.2.2.2.1 x_.2.2.2.2.2.2.2.2.1 x_.2.2.2.2.2.2.2.2.2) (fun _ _ => rfl) (fun j_ => (sum1 j_, stage j_, v181 j_, v191 j_, v201 j_, v25 j_, v26 j_, v27 j_, c2 j_, b151 j_)) n_ (fun j_ hi_ kx_ => hstep_ j_ hi_ _) (fun kx_ => hend_ _) fu_ hm_
def impl_Chain_cost_K3 (N : Nat) (sum4 : Int) : Option (Int × Unit) :=
  some (sum4, ())
def impl_Chain_cost_B2 (N : Nat) (kx : Int → (List (List Int)) → Int → Int → ((List Int) × (List Int) × (List Int)) → ((List (List Int)) × Bool) → Option (Int × Unit)) (sum : Int) (v18 : List (List Int)) (v19 : Int) (v20 : Int) (c1 : (List Int) × (List Int) × (List Int)) (b15 : (List (List Int)) × Bool) : Option (Int × Unit) :=
  bif ilt v20 v19 then
    chk (inB v20 v18.length) <|
    impl_Chain_cost_L1 N N kx sum v20 v18 v19 v20 (gd v18 v20.toNat []) (len (gd v18 v20.toNat [])) 0 c1 b15
  else
    impl_Chain_cost_K3 N sum
def impl_Chain_cost_L2 (N fu_ : Nat) (sum : Int) (v18 : List (List Int)) (v19 : Int) (v20 : Int) (c1 : (List Int) × (List Int) × (List Int)) (b15 : (List (List Int)) × Bool) : Option (Int × Unit) :=
  iterK fu_ (fun kx (v_ : (Int × (List (List Int)) × Int × Int × Unit) × (((List Int) × (List Int) × (List Int)) × ((List (List Int)) × Bool) × Unit)) => impl_Chain_cost_B2 N (fun sum v18 v19 v20 c1 b15 => kx ((sum, v18, v19, v20, ()), (c1, b15, ()))) v_.1.1 v_.1.2.1 v_.1.2.2.1 v_.1.2.2.2.1 v_.2.1 v_.2.2.1) ((sum, v18, v19, v20, ()), (c1, b15, ()))
theorem impl_Chain_cost_L2_succ (N fu_ : Nat) (sum : Int) (v18 : List (List Int)) (v19 : Int) (v20 : Int) (c1 : (List Int) × (List Int) × (List Int)) (b15 : (List (List Int)) × Bool) : impl_Chain_cost_L2 N (fu_ + 1) sum v18 v19 v20 c1 b15 = impl_Chain_cost_B2 N (fun sum v18 v19 v20 c1 b15 => impl_Chain_cost_L2 N fu_ sum v18 v19 v20 c1 b15) sum v18 v19 v20 c1 b15 := rfl
theorem impl_Chain_cost_L2_run (N : Nat) (sum : Nat → Int) (v18 : Nat → (List (List Int))) (v19 : Nat → Int) (v20 : Nat → Int) (c1 : Nat → ((List Int) × (List Int) × (List Int))) (b15 : Nat → ((List (List Int)) × Bool)) (n_ : Nat) {res_ : Option (Int × Unit)} (hstep_ : ∀ j_, j_ < n_ → ∀ kx_, impl_Chain_cost_B2 N kx_ (sum j_) (v18 j_) (v19 j_) (v20 j_) (c1 j_) (b15 j_) = kx_ (sum (j_ + 1)) (v18 (j_ + 1)) (v19 (j_ + 1)) (v20 (j_ + 1)) (c1 (j_ + 1)) (b15 (j_ + 1))) (hend_ : ∀ kx_, impl_Chain_cost_B2 N kx_ (sum n_) (v18 n_) (v19 n_) (v20 n_) (c1 n_) (b15 n_) = res_) (fu_ : Nat) (hm_ : n_ < fu_) : impl_Chain_cost_L2 N fu_ (sum 0) (v18 0) (v19 0) (v20 0) (c1 0) (b15 0) = res_ := by
  exact loop_run (L := fun fu_ (x_ : Int × (List (List Int)) × Int × Int × ((List Int) × (List Int) × (List Int)) × ((List (List Int)) × Bool)) => impl_Chain_cost_L2 N fu_ x_.1 x_.2.1 x_.2.2.1 x_.2.2.2.1 x_.2.2.2.2.1 x_.2.2.2.2.2) (B := fun kx_ x_ => impl_Chain_cost_B2 N (fun sum v18 v19 v20 c1 b15 => kx_ (sum, v18, v19, v20, c1, b15)) x_.1 x_.2.1 x_.2.2.1 x_.2.2.2.1 x_.2.2.2.2.1 x_.2.2.2.2.2) (fun _ _ => rfl) (fun j_ => (sum j_, v18 j_, v19 j_, v20 j_, c1 j_, b15 j_)) n_ (fun j_ hi_ kx_ => hstep_ j_ hi_ _) (fun kx_ => hend_ _) fu_ hm_
def impl_Chain_cost (N : Nat) (c : (List Int) × (List Int) × (List Int)) (plan : List (List Int)) : Option (Int × Unit) :=
  (impl_Chain_stocks N c plan).bind fun r =>
  impl_Chain_cost_L2 N N 0 plan (len plan) 0 c r.1
def impl_power_K1 (N : Nat) (out1 : Int) : Option (Int × Unit) :=
  some (out1, ())
def impl_power_B1 (N : Nat) (kx : Int → Int → Int → Int → Option (Int × Unit)) (a1 : Int) (out : Int) (v6 : Int) (v7 : Int) : Option (Int × Unit) :=
  bif ilt v7 v6 then
    kx a1 (imul .i64 out a1) v6 (iadd .i64 v7 1)
  else
    impl_power_K1 N out
def impl_power_L1 (N fu_ : Nat) (a1 : Int) (out : Int) (v6 : Int) (v7 : Int) : Option (Int × Unit) :=
  iterK fu_ (fun kx (v_ : (Int × Int × Int × Int × Unit) × (Unit)) => impl_power_B1 N (fun a1 out v6 v7 => kx ((a1, out, v6, v7, ()), ())) v_.1.1 v_.1.2.1 v_.1.2.2.1 v_.1.2.2.2.1) ((a1, out, v6, v7, ()), ())
theorem impl_power_L1_succ (N fu_ : Nat) (a1 : Int) (out : Int) (v6 : Int) (v7 : Int) : impl_power_L1 N (fu_ + 1) a1 out v6 v7 = impl_power_B1 N (fun a1 out v6 v7 => impl_power_L1 N fu_ a1 out v6 v7) a1 out v6 v7 := rfl
theorem impl_power_L1_run (N : Nat) (a1 : Nat → Int) (out : Nat → Int) (v6 : Nat → Int) (v7 : Nat → Int) (n_ : Nat) {res_ : Option (Int × Unit)} (hstep_ : ∀ j_, j_ < n_ → ∀ kx_, impl_power_B1 N kx_ (a1 j_) (out j_) (v6 j_) (v7 j_) = kx_ (a1 (j_ + 1)) (out (j_ + 1)) (v6 (j_ + 1)) (v7 (j_ + 1))) (hend_ : ∀ kx_, impl_power_B1 N kx_ (a1 n_) (out n_) (v6 n_) (v7 n_) = res_) (fu_ : Nat) (hm_ : n_ < fu_) : impl_power_L1 N fu_ (a1 0) (out 0) (v6 0) (v7 0) = res_ := by
  exact loop_run (L := fun fu_ (x_ : Int × Int × Int × Int) => impl_power_L1 N fu_ x_.1 x_.2.1 x_.2.2.1 x_.2.2.2) (B := fun kx_ x_ => impl_power_B1 N (fun a1 out v6 v7 => kx_ (a1, out, v6, v7)) x_.1 x_.2.1 x_.2.2.1 x_.2.2.2) (fun _ _ => rfl) (fun j_ => (a1 j_, out j_, v6 j_, v7 j_)) n_ (fun j_ hi_ kx_ => hstep_ j_ hi_ _) (fun kx_ => hend_ _) fu_ hm_
def impl_power (N : Nat) (a : Int) (n : Int) : Option (Int × Unit) :=
  impl_power_L1 N N a 1 n 0
def impl_Chain_nested_K1 (N : Nat) (out1 : List (List Int)) : Option (((List (List Int)) × Bool) × Unit) :=
  some ((out1, true), ())
def impl_Chain_nested_B1 (N : Nat) (kx : (List (List Int)) → Int → Int → ((List Int) × (List Int) × (List Int)) → (List (List Int)) → Option (((List (List Int)) × Bool) × Unit)) (v12 : List (List Int)) (v13 : Int) (v14 : Int) (c1 : (List Int) × (List Int) × (List Int)) (out : List (List Int)) : Option (((List (List Int)) × Bool) × Unit) :=
  bif ilt v14 v13 then
    chk (inB v14 v12.length) <|
    (impl_evenCase N c1.1 0 0).bind fun r =>
    (impl_Case_planFrom N r.1 (gd v12 v14.toNat [])).bind fun r1 =>
    bif !r1.1.2 then
      some (([], false), ())
    else
      chk (fitB (out.length + 1) 24) <|
      kx v12 v13 (iadd .i64 v14 1) c1 (out ++ [r1.1.1])
  else
    impl_Chain_nested_K1 N out
def impl_Chain_nested_L1 (N fu_ : Nat) (v12 : List (List Int)) (v13 : Int) (v14 : Int) (c1 : (List Int) × (List Int) × (List Int)) (out : List (List Int)) : Option (((List (List Int)) × Bool) × Unit) :=
  iterK fu_ (fun kx (v_ : ((List (List Int)) × Int × Int × Unit) × (((List Int) × (List Int) × (List Int)) × (List (List Int)) × Unit)) => impl_Chain_nested_B1 N (fun v12 v13 v14 c1 out => kx ((v12, v13, v14, ()), (c1, out, ()))) v_.1.1 v_.1.2.1 v_.1.2.2.1 v_.2.1 v_.2.2.1) ((v12, v13, v14, ()), (c1, out, ()))
theorem impl_Chain_nested_L1_succ (N fu_ : Nat) (v12 : List (List Int)) (v13 : Int) (v14 : Int) (c1 : (List Int) × (List Int) × (List Int)) (out : List (List Int)) : impl_Chain_nested_L1 N (fu_ + 1) v12 v13 v14 c1 out = impl_Chain_nested_B1 N (fun v12 v13 v14 c1 out => impl_Chain_nested_L1 N fu_ v12 v13 v14 c1 out) v12 v13 v14 c1 out := rfl
theorem impl_Chain_nested_L1_run (N : Nat) (v12 : Nat → (List (List Int))) (v13 : Nat → Int) (v14 : Nat → Int) (c1 : Nat → ((List Int) × (List Int) × (List Int))) (out : Nat → (List (List Int))) (n_ : Nat) {res_ : Option (((List (List Int)) × Bool) × Unit)} (hstep_ : ∀ j_, j_ < n_ → ∀ kx_, impl_Chain_nested_B1 N kx_ (v12 j_) (v13 j_) (v14 j_) (c1 j_) (out j_) = kx_ (v12 (j_ + 1)) (v13 (j_ + 1)) (v14 (j_ + 1)) (c1 (j_ + 1)) (out (j_ + 1))) (hend_ : ∀ kx_, impl_Chain_nested_B1 N kx_ (v12 n_) (v13 n_) (v14 n_) (c1 n_) (out n_) = res_) (fu_ : Nat) (hm_ : n_ < fu_) : impl_Chain_nested_L1 N fu_ (v12 0) (v13 0) (v14 0) (c1 0) (out 0) = res_ := by
  exact loop_run (L := fun fu_ (x_ : (List (List Int)) × Int × Int × ((List Int) × (List Int) × (List Int)) × (List (List Int))) => impl_Chain_nested_L1 N fu_ x_.1 x_.2.1 x_.2.2.1 x_.2.2.2.1 x_.2.2.2.2) (B := fun kx_ x_ => impl_Chain_nested_B1 N (fun v12 v13 v14 c1 out => kx_ (v12, v13, v14, c1, out)) x_.1 x_.2.1 x_.2.2.1 x_.2.2.2.1 x_.2.2.2.2) (fun _ _ => rfl) (fun j_ => (v12 j_, v13 j_, v14 j_, c1 j_, out j_)) n_ (fun j_ hi_ kx_ => hstep_ j_ hi_ _) (fun kx_ => hend_ _) fu_ hm_
def impl_Chain_nested (N : Nat) (c : (List Int) × (List Int) × (List Int)) (periods : List (List Int)) : Option (((List (List Int)) × Bool) × Unit) :=
  impl_Chain_nested_L1 N N periods (len periods) 0 c []
def cmp_Compare_int (N : Nat) (x : Int) (y : Int) : Option (Int × Unit) :=
  (cmp_isNaN_int N x).bind fun r =>
  (cmp_isNaN_int N y).bind fun r1 =>
  bif r.1 then
    bif r1.1 then
      some (0, ())
    else
      some ((-1), ())
  else
    bif r1.1 then
      some (1, ())
    else
      bif ilt x y then
        some ((-1), ())
      else
        bif ilt y x then
          some (1, ())
        else
          some (0, ())
def slices_Compare_int_int_K1 (N : Nat) (s12 : List Int) (s22 : List Int) : Option (Int × Unit) :=
  bif ilt (len s12) (len s22) then
    some ((-1), ())
  else
    some (0, ())
def slices_Compare_int_int_B1 (N : Nat) (kx : (List Int) → (List Int) → (List Int) → Int → Int → Option (Int × Unit)) (s11 : List Int) (s21 : List Int) (v9 : List Int) (v10 : Int) (v11 : Int) : Option (Int × Unit) :=
  bif ilt v11 v10 then
    chk (inB v11 v9.length) <|
    bif ile (len s21) v11 then
      some (1, ())
    else
      chk (inB v11 s21.length) <|
      (cmp_Compare_int N (gd v9 v11.toNat 0) (gd s21 v11.toNat 0)).bind fun r =>
      bif ine r.1 0 then
        some (r.1, ())
      else
        kx s11 s21 v9 v10 (iadd .i64 v11 1)
  else
    slices_Compare_int_int_K1 N s11 s21
def slices_Compare_int_int_L1 (N fu_ : Nat) (s11 : List Int) (s21 : List Int) (v9 : List Int) (v10 : Int) (v11 : Int) : Option (Int × Unit) :=
  iterK fu_ (fun kx (v_ : ((List Int) × (List Int) × (List Int) × Int × Int × Unit) × (Unit)) => slices_Compare_int_int_B1 N (fun s11 s21 v9 v10 v11 => kx ((s11, s21, v9, v10, v11, ()), ())) v_.1.1 v_.1.2.1 v_.1.2.2.1 v_.1.2.2.2.1 v_.1.2.2.2.2.1) ((s11, s21, v9, v10, v11, ()), ())
theorem slices_Compare_int_int_L1_succ (N fu_ : Nat) (s11 : List Int) (s21 : List Int) (v9 : List Int) (v10 : Int) (v11 : Int) : slices_Compare_int_int_L1 N (fu_ + 1) s11 s21 v9 v10 v11 = slices_Compare_int_int_B1 N (fun s11 s21 v9 v10 v11 => slices_Compare_int_int_L1 N fu_ s11 s21 v9 v10 v11) s11 s21 v9 v10 v11 := rfl
theorem slices_Compare_int_int_L1_run (N : Nat) (s11 : Nat → (List Int)) (s21 : Nat → (List Int)) (v9 : Nat → (List Int)) (v10 : Nat → Int) (v11 : Nat → Int) (n_ : Nat) {res_ : Option (Int × Unit)} (hstep_ : ∀ j_, j_ < n_ → ∀ kx_, slices_Compare_int_int_B1 N kx_ (s11 j_) (s21 j_) (v9 j_) (v10 j_) (v11 j_) = kx_ (s11 (j_ + 1)) (s21 (j_ + 1)) (v9 (j_ + 1)) (v10 (j_ + 1)) (v11 (j_ + 1))) (hend_ : ∀ kx_, slices_Compare_int_int_B1 N kx_ (s11 n_) (s21 n_) (v9 n_) (v10 n_) (v11 n_) = res_) (fu_ : Nat) (hm_ : n_ < fu_) : slices_Compare_int_int_L1 N fu_ (s11 0) (s21 0) (v9 0) (v10 0) (v11 0) = res_ := by
  exact loop_run (L := fun fu_ (x_ : (List Int) × (List Int) × (List Int) × Int × Int) => slices_Compare_int_int_L1 N fu_ x_.1 x_.2.1 x_.2.2.1 x_.2.2.2.1 x_.2.2.2.2) (B := fun kx_ x_ => slices_Compare_int_int_B1 N (fun s11 s21 v9 v10 v11 => kx_ (s11, s21, v9, v10, v11)) x_.1 x_.2.1 x_.2.2.1 x_.2.2.2.1 x_.2.2.2.2) (fun _ _ => rfl) (fun j_ => (s11 j_, s21 j_, v9 j_, v10 j_, v11 j_)) n_ (fun j_ hi_ kx_ => hstep_ j_ hi_ _) (fun kx_ => hend_ _) fu_ hm_
def slices_Compare_int_int (N : Nat) (s1 : List Int) (s2 : List Int) : Option (Int × Unit) :=
  slices_Compare_int_int_L1 N N s1 s2 s1 (len s1) 0
def impl_Chain_bestNested_1 (N : Nat) (a : List Int) (b : List Int) : Option (Int × Unit) :=
  (slices_Compare_int_int N a b).bind fun r =>
  some (r.1, ())
def slices_CompareFunc_int_int_int_int__impl_Chain_bestNested_1_K1 (N : Nat) (s12 : List (List Int)) (s22 : List (List Int)) : Option (Int × Unit) :=
  bif ilt (len s12) (len s22) then
    some ((-1), ())
  else
    some (0, ())
def slices_CompareFunc_int_int_int_int__impl_Chain_bestNested_1_B1 (N : Nat) (kx : (List (List Int)) → (List (List Int)) → (List (List Int)) → Int → Int → Option (Int × Unit)) (s11 : List (List Int)) (s21 : List (List Int)) (v11 : List (List Int)) (v12 : Int) (v13 : Int) : Option (Int × Unit) :=
  bif ilt v13 v12 then
    chk (inB v13 v11.length) <|
    bif ile (len s21) v13 then
      some (1, ())
    else
      chk (inB v13 s21.length) <|
      (impl_Chain_bestNested_1 N (gd v11 v13.toNat []) (gd s21 v13.toNat [])).bind fun r =>
      bif ine r.1 0 then
        some (r.1, ())
      else
        kx s11 s21 v11 v12 (iadd .i64 v13 1)
  else
    slices_CompareFunc_int_int_int_int__impl_Chain_bestNested_1_K1 N s11 s21
def slices_CompareFunc_int_int_int_int__impl_Chain_bestNested_1_L1 (N fu_ : Nat) (s11 : List (List Int)) (s21 : List (List Int)) (v11 : List (List Int)) (v12 : Int) (v13 : Int) : Option (Int × Unit) :=
  iterK fu_ (fun kx (v_ : ((List (List Int)) × (List (List Int)) × (List (List Int)) × Int × Int × Unit) × (Unit)) => slices_CompareFunc_int_int_int_int__impl_Chain_bestNested_1_B1 N (fun s11 s21 v11 v12 v13 => kx ((s11, s21, v11, v12, v13, ()), ())) v_.1.1 v_.1.2.1 v_.1.2.2.1 v_.1.2.2.2.1 v_.1.2.2.2.2.1) ((s11, s21, v11, v12, v13, ()), ())
theorem slices_CompareFunc_int_int_int_int__impl_Chain_bestNested_1_L1_succ (N fu_ : Nat) (s11 : List (List Int)) (s21 : List (List Int)) (v11 : List (List Int)) (v12 : Int) (v13 : Int) : slices_CompareFunc_int_int_int_int__impl_Chain_bestNested_1_L1 N (fu_ + 1) s11 s21 v11 v12 v13 = slices_CompareFunc_int_int_int_int__impl_Chain_bestNested_1_B1 N (fun s11 s21 v11 v12 v13 => slices_CompareFunc_int_int_int_int__impl_Chain_bestNested_1_L1 N fu_ s11 s21 v11 v12 v13) s11 s21 v11 v12 v13 := rfl
theorem slices_CompareFunc_int_int_int_int__impl_Chain_bestNested_1_L1_run (N : Nat) (s11 : Nat → (List (List Int))) (s21 : Nat → (List (List Int))) (v11 : Nat → (List (List Int))) (v12 : Nat → Int) (v13 : Nat → Int) (n_ : Nat) {res_ : Option (Int × Unit)} (hstep_ : ∀ j_, j_ < n_ → ∀ kx_, slices_CompareFunc_int_int_int_int__impl_Chain_bestNested_1_B1 N kx_ (s11 j_) (s21 j_) (v11 j_) (v12 j_) (v13 j_) = kx_ (s11 (j_ + 1)) (s21 (j_ + 1)) (v11 (j_ + 1)) (v12 (j_ + 1)) (v13 (j_ + 1))) (hend_ : ∀ kx_, slices_CompareFunc_int_int_int_int__impl_Chain_bestNested_1_B1 N kx_ (s11 n_) (s21 n_) (v11 n_) (v12 n_) (v13 n_) = res_) (fu_ : Nat) (hm_ : n_ < fu_) : slices_CompareFunc_int_int_int_int__impl_Chain_bestNested_1_L1 N fu_ (s11 0) (s21 0) (v11 0) (v12 0) (v13 0) = res_ := by
  exact loop_run (L := fun fu_ (x_ : (List (List Int)) × (List (List Int)) × (List (List Int)) × Int × Int) => slices_CompareFunc_int_int_int_int__impl_Chain_bestNested_1_L1 N fu_ x_.1 x_.2.1 x_.2.2.1 x_.2.2.2.1 x_.2.2.2.2) (B := fun kx_ x_ => slices_CompareFunc_int_int_int_int__impl_Chain_bestNested_1_B1 N (fun s11 s21 v11 v12 v13 => kx_ (s11, s21, v11, v12, v13)) x_.1 x_.2.1 x_.2.2.1 x_.2.2.2.1 x_.2.2.2.2) (fun _ _ => rfl) (fun j_ => (s11 j_, s21 j_, v11 j_, v12 j_, v13 j_)) n_ (fun j_ hi_ kx_ => hstep_ j_ hi_ _) (fun kx_ => hend_ _) fu_ hm_
def slices_CompareFunc_int_int_int_int__impl_Chain_bestNested_1 (N : Nat) (s1 : List (List Int)) (s2 : List (List Int)) : Option (Int × Unit) :=
  slices_CompareFunc_int_int_int_int__impl_Chain_bestNested_1_L1 N N s1 s2 s1 (len s1) 0
def impl_Chain_bestNested_K1 (N : Nat) (kx1 : Int → Int → Int → Int → Int → Int → Int → Int → Int → Int → ((List Int) × (List Int) × (List Int)) → (List (List Int)) → (List (List Int)) → Option (((List (List Int)) × Int) × Unit)) (n3 : Int) (stages3 : Int) (least3 : Int) (length3 : Int) (code2 : Int) (sum2 : Int) (digit1 : Int) (v283 : Int) (v293 : Int) (v342 : Int) (v352 : Int) (c4 : (List Int) × (List Int) × (List Int)) (best3 : List (List Int)) (periods2 : List (List Int)) : Option (((List (List Int)) × Int) × Unit) :=
  kx1 n3 stages3 least3 length3 code2 (iadd .i64 sum2 digit1) v283 v293 v342 (iadd .i64 v352 1) c4 best3 periods2
def impl_Chain_bestNested_B1 (N : Nat) (kx1 : Int → Int → Int → Int → Int → Int → Int → Int → Int → Int → ((List Int) × (List Int) × (List Int)) → (List (List Int)) → (List (List Int)) → Option (((List (List Int)) × Int) × Unit)) (kx2 : Int → Int → Int → Int → Int → Int → Int → Int → Int → Int → Int → Int → Int → ((List Int) × (List Int) × (List Int)) → (List (List Int)) → (List (List Int)) → Option (((List (List Int)) × Int) × Unit)) (n2 : Int) (stages2 : Int) (least2 : Int) (length2 : Int) (code1 : Int) (sum1 : Int) (i : Int) (digit : Int) (stage : Int) (v282 : Int) (v292 : Int) (v341 : Int) (v351 : Int) (c3 : (List Int) × (List Int) × (List Int)) (best2 : List (List Int)) (periods1 : List (List Int)) : Option (((List (List Int)) × Int) × Unit) :=
  bif ilt stage stages2 then
    chk (inB stage periods1.length) <|
    chk (fitB ((gd periods1 stage.toNat []).length + 1) 8) <|
    chk (inB stage periods1.length) <|
    chk (natEq stage.toNat stage.toNat) <|
    kx2 n2 stages2 least2 length2 code1 sum1 i digit (iadd .i64 stage 1) v282 v292 v341 v351 c3 best2 (List.set periods1 stage.toNat ((gd periods1 stage.toNat []) ++ [i]))
  else
    impl_Chain_bestNested_K1 N kx1 n2 stages2 least2 length2 code1 sum1 digit v282 v292 v341 v351 c3 best2 periods1
def impl_Chain_bestNested_L1 (N fu_ : Nat) (kx1 : Int → Int → Int → Int → Int → Int → Int → Int → Int → Int → ((List Int) × (List Int) × (List Int)) → (List (List Int)) → (List (List Int)) → Option (((List (List Int)) × Int) × Unit)) (n2 : Int) (stages2 : Int) (least2 : Int) (length2 : Int) (code1 : Int) (sum1 : Int) (i : Int) (digit : Int) (stage : Int) (v282 : Int) (v292 : Int) (v341 : Int) (v351 : Int) (c3 : (List Int) × (List Int) × (List Int)) (best2 : List (List Int)) (periods1 : List (List Int)) : Option (((List (List Int)) × Int) × Unit) :=
  iterK fu_ (fun kx2 (v_ : (Int × Int × Int × Int × Int × Int × Int × Int × Int × Int × Int × Int × Int × Unit) × (((List Int) × (List Int) × (List Int)) × (List (List Int)) × (List (List Int)) × Unit)) => impl_Chain_bestNested_B1 N kx1 (fun n2 stages2 least2 length2 code1 sum1 i digit stage v282 v292 v341 v351 c3 best2 periods1 => kx2 ((n2, stages2, least2, length2, code1, sum1, i, digit, stage, v282, v292, v341, v351, ()), (c3, best2, periods1, ()))) v_.1.1 v_.1.2.1 v_.1.2.2.1 v_.1.2.2.2.1 v_.1.2.2.2.2.1 v_.1.2.2.2.2.2.1 v_.1.2.2.2.2.2.2.1 v_.1.2.2.2.2.2.2.2.1 v_.1.2.2.2.2.2.2.2.2.1 v_.1.2.2.2.2.2.2.2.2.2.1 v_.1.2.2.2.2.2.2.2.2.2.2.1 v_.1.2.2.2.2.2.2.2.2.2.2.2.1 v_.1.2.2.2.2.2.2.2.2.2.2.2.2.1 v_.2.1 v_.2.2.1 v_.2.2.2.1) ((n2, stages2, least2, length2, code1, sum1, i, digit, stage, v282, v292, v341, v351, ()), (c3, best2, periods1, ()))
theorem impl_Chain_bestNested_L1_succ (N fu_ : Nat) (kx1 : Int → Int → Int → Int → Int → Int → Int → Int → Int → Int → ((List Int) × (List Int) × (List Int)) → (List (List Int)) → (List (List Int)) → Option (((List (List Int)) × Int) × Unit)) (n2 : Int) (stages2 : Int) (least2 : Int) (length2 : Int) (code1 : Int) (sum1 : Int) (i : Int) (digit : Int) (stage : Int) (v282 : Int) (v292 : Int) (v341 : Int) (v351 : Int) (c3 : (List Int) × (List Int) × (List Int)) (best2 : List (List Int)) (periods1 : List (List Int)) : impl_Chain_bestNested_L1 N (fu_ + 1) kx1 n2 stages2 least2 length2 code1 sum1 i digit stage v282 v292 v341 v351 c3 best2 periods1 = impl_Chain_bestNested_B1 N kx1 (fun n2 stages2 least2 length2 code1 sum1 i digit stage v282 v292 v341 v351 c3 best2 periods1 => impl_Chain_bestNested_L1 N fu_ kx1 n2 stages2 least2 length2 code1 sum1 i digit stage v282 v292 v341 v351 c3 best2 periods1) n2 stages2 least2 length2 code1 sum1 i digit stage v282 v292 v341 v351 c3 best2 periods1 := rfl
theorem impl_Chain_bestNested_L1_run (N : Nat) (kx1 : Int → Int → Int → Int → Int → Int → Int → Int → Int → Int → ((List Int) × (List Int) × (List Int)) → (List (List Int)) → (List (List Int)) → Option (((List (List Int)) × Int) × Unit)) (n2 : Nat → Int) (stages2 : Nat → Int) (least2 : Nat → Int) (length2 : Nat → Int) (code1 : Nat → Int) (sum1 : Nat → Int) (i : Nat → Int) (digit : Nat → Int) (stage : Nat → Int) (v282 : Nat → Int) (v292 : Nat → Int) (v341 : Nat → Int) (v351 : Nat → Int) (c3 : Nat → ((List Int) × (List Int) × (List Int))) (best2 : Nat → (List (List Int))) (periods1 : Nat → (List (List Int))) (n_ : Nat) {res_ : Option (((List (List Int)) × Int) × Unit)} (hstep_ : ∀ j_, j_ < n_ → ∀ kx_, impl_Chain_bestNested_B1 N kx1 kx_ (n2 j_) (stages2 j_) (least2 j_) (length2 j_) (code1 j_) (sum1 j_) (i j_) (digit j_) (stage j_) (v282 j_) (v292 j_) (v341 j_) (v351 j_) (c3 j_) (best2 j_) (periods1 j_) = kx_ (n2 (j_ + 1)) (stages2 (j_ + 1)) (least2 (j_ + 1)) (length2 (j_ + 1)) (code1 (j_ + 1)) (sum1 (j_ + 1)) (i (j_ + 1)) (digit (j_ + 1)) (stage (j_ + 1)) (v282 (j_ + 1)) (v292 (j_ + 1)) (v341 (j_ + 1)) (v351 (j_ + 1)) (c3 (j_ + 1)) (best2 (j_ + 1)) (periods1 (j_ + 1))) (hend_ : ∀ kx_, impl_Chain_bestNested_B1 N kx1 kx_ (n2 n_) (stages2 n_) (least2 n_) (length2 n_) (code1 n_) (sum1 n_) (i n_) (digit n_) (stage n_) (v282 n_) (v292 n_) (v341 n_) (v351 n_) (c3 n_) (best2 n_) (periods1 n_) = res_) (fu_ : Nat) (hm_ : n_ < fu_) : impl_Chain_bestNested_L1 N fu_ kx1 (n2 0) (stages2 0) (least2 0) (length2 0) (code1 0) (sum1 0) (i 0) (digit 0) (stage 0) (v282 0) (v292 0) (v341 0) (v351 0) (c3 0) (best2 0) (periods1 0) = res_ := by
  exact loop_run (L := fun fu_ (x_ : Int × Int × Int × Int × Int × Int × Int × Int × Int × Int × Int × Int × Int × ((List Int) × (List Int) × (List Int)) × (List (List Int)) × (List (List Int))) => impl_Chain_bestNested_L1 N fu_ kx1 x_.1 x_.2.1 x_.2.2.1 x_.2.2.2.1 x_.2.2.2.2.1 x_.2.2.2.2.2.1 x_.2.2.2.2.2.2.1 x_.2.2.2.2.2.2.2.1 x_.2.2.2.2.2.2.2.2.1 x_.2.2.2.2.2.2.2.2.2.1 x_.2.2.2.2.2.2.2.2.2.2.1 x_.2.2.2.2.2.2.2.2.2.2.2.1 x_.2.2.2.2.2.2.2.2.2.2.2.2.1 x_.2.2.2.2.2.2.2.2.2.2.2.2.2.1 x_.2.2.2.2.2.2.2.2.2.2.2.2.2.2.1 x_.2.2.2.2.2.2.2.2.2.2.2.2.2.2.2) (B := fun kx_ x_ => impl_Chain_bestNested_B1 N kx1 (fun n2 stages2 least2 length2 code1 sum1 i digit stage v282 v292 v341 v351 c3 best2 periods1 => kx_ (n2, stages2, least2, length2, code1, sum1, i, digit, stage, v282, v292, v341, v351, c3, best2, periods1)) x_.1 x_.2.1 x_.2.2.1 x_.2.2.2.1 x_.2.2.2.2.1 x_.2.2.2.2.2.1 x_.2.2.2.2.2.2.1 x_.2.2.2.2.2.2.2.1 x_.2.2.2.2.2.2.2.2.1 x_.2.2.2.2.2.2.2.2.2.1 x_.2.2.2.2.2.2.2.2.2.2.1 x_.2.2.2.2.2.2.2.2.2.2.2.1 x_.2.2.2.2.2.2.2.2.2.2.2.2.1 x_.2.2.2.2.2.2.2.2.2.2.2.2.2.1 x_.2.2.2.2.2.2.2.2.2.2.2.2.2.2.1 x_.2.2.2.2.2.2.2.2.2.2.2.2.2.2.2) (fun _ _ => rfl) (fun j_ => (n2 j_, stages2 j_, least2 j_, length2 j_, code1 j_, sum1 j_, i j_, digit j_, stage j_, v282 j_, v292 j_, v341 j_, v351 j_, c3 j_, best2 j_, periods1 j_)) n_ (fun j_ hi_ kx_ => hstep_ j_ hi_ _) (fun kx_ => hend_ _) fu_ hm_
def impl_Chain_bestNested_K2 (N : Nat) (kx : Int → Int → Int → Int → Int → Int → ((List Int) × (List Int) × (List Int)) → (List (List Int)) → Option (((List (List Int)) × Int) × Unit)) (n5 : Int) (stages5 : Int) (least5 : Int) (length5 : Int) (sum4 : Int) (cost : Int) (before : Bool) (v285 : Int) (v295 : Int) (c6 : (List Int) × (List Int) × (List Int)) (best5 : List (List Int)) (periods4 : List (List Int)) : Option (((List (List Int)) × Int) × Unit) :=
  bif ilt cost least5 then
    kx n5 stages5 cost sum4 v285 (iadd .i64 v295 1) c6 periods4
  else
    bif ieq cost least5 then
      bif before then
        kx n5 stages5 cost sum4 v285 (iadd .i64 v295 1) c6 periods4
      else
        kx n5 stages5 least5 length5 v285 (iadd .i64 v295 1) c6 best5
    else
      kx n5 stages5 least5 length5 v285 (iadd .i64 v295 1) c6 best5
def impl_Chain_bestNested_K3 (N : Nat) (kx : Int → Int → Int → Int → Int → Int → ((List Int) × (List Int) × (List Int)) → (List (List Int)) → Option (((List (List Int)) × Int) × Unit)) (n4 : Int) (stages4 : Int) (least4 : Int) (length4 : Int) (sum3 : Int) (v284 : Int) (v294 : Int) (c5 : (List Int) × (List Int) × (List Int)) (best4 : List (List Int)) (periods3 : List (List Int)) : Option (((List (List Int)) × Int) × Unit) :=
  (impl_Chain_nested N c5 periods3).bind fun r2 =>
  bif !r2.1.2 then
    kx n4 stages4 least4 length4 v284 (iadd .i64 v294 1) c5 best4
  else
    (impl_Chain_cost N c5 r2.1.1).bind fun r3 =>
    bif ilt sum3 length4 then
      impl_Chain_bestNested_K2 N kx n4 stages4 least4 length4 sum3 r3.1 true v284 v294 c5 best4 periods3
    else
      bif ieq sum3 length4 then
        (slices_CompareFunc_int_int_int_int__impl_Chain_bestNested_1 N periods3 best4).bind fun r4 =>
        impl_Chain_bestNested_K2 N kx n4 stages4 least4 length4 sum3 r3.1 (ilt r4.1 0) v284 v294 c5 best4 periods3
      else
        impl_Chain_bestNested_K2 N kx n4 stages4 least4 length4 sum3 r3.1 false v284 v294 c5 best4 periods3
def impl_Chain_bestNested_B2 (N : Nat) (kx : Int → Int → Int → Int → Int → Int → ((List Int) × (List Int) × (List Int)) → (List (List Int)) → Option (((List (List Int)) × Int) × Unit)) (kx1 : Int → Int → Int → Int → Int → Int → Int → Int → Int → Int → ((List Int) × (List Int) × (List Int)) → (List (List Int)) → (List (List Int)) → Option (((List (List Int)) × Int) × Unit)) (n1 : Int) (stages1 : Int) (least1 : Int) (length1 : Int) (code : Int) (sum : Int) (v281 : Int) (v291 : Int) (v34 : Int) (v35 : Int) (c2 : (List Int) × (List Int) × (List Int)) (best1 : List (List Int)) (periods : List (List Int)) : Option (((List (List Int)) × Int) × Unit) :=
  bif ilt v35 v34 then
    (impl_power N (iadd .i64 stages1 1) v35).bind fun r1 =>
    chk (ine r1.1 0) <|
    chk (ine (iadd .i64 stages1 1) 0) <|
    impl_Chain_bestNested_L1 N N kx1 n1 stages1 least1 length1 code sum v35 (irem (iquo .i64 code r1.1) (iadd .i64 stages1 1)) (isub .i64 stages1 (irem (iquo .i64 code r1.1) (iadd .i64 stages1 1))) v281 v291 v34 v35 c2 best1 periods
  else
    impl_Chain_bestNested_K3 N kx n1 stages1 least1 length1 sum v281 v291 c2 best1 periods
def impl_Chain_bestNested_L2 (N fu_ : Nat) (kx : Int → Int → Int → Int → Int → Int → ((List Int) × (List Int) × (List Int)) → (List (List Int)) → Option (((List (List Int)) × Int) × Unit)) (n1 : Int) (stages1 : Int) (least1 : Int) (length1 : Int) (code : Int) (sum : Int) (v281 : Int) (v291 : Int) (v34 : Int) (v35 : Int) (c2 : (List Int) × (List Int) × (List Int)) (best1 : List (List Int)) (periods : List (List Int)) : Option (((List (List Int)) × Int) × Unit) :=
  iterK fu_ (fun kx1 (v_ : (Int × Int × Int × Int × Int × Int × Int × Int × Int × Int × Unit) × (((List Int) × (List Int) × (List Int)) × (List (List Int)) × (List (List Int)) × Unit)) => impl_Chain_bestNested_B2 N kx (fun n1 stages1 least1 length1 code sum v281 v291 v34 v35 c2 best1 periods => kx1 ((n1, stages1, least1, length1, code, sum, v281, v291, v34, v35, ()), (c2, best1, periods, ()))) v_.1.1 v_.1.2.1 v_.1.2.2.1 v_.1.2.2.2.1 v_.1.2.2.2.2.1 v_.1.2.2.2.2.2.1 v_.1.2.2.2.2.2.2.1 v_.1.2.2.2.2.2.2.2.1 v_.1.2.2.2.2.2.2.2.2.1 v_.1.2.2.2.2.2.2.2.2.2.1 v_.2.1 v_.2.2.1 v_.2.2.2.1) ((n1, stages1, least1, length1, code, sum, v281, v291, v34, v35, ()), (c2, best1, periods, ()))
theorem impl_Chain_bestNested_L2_succ (N fu_ : Nat) (kx : Int → Int → Int → Int → Int → Int → ((List Int) × (List Int) × (List Int)) → (List (List Int)) → Option (((List (List Int)) × Int) × Unit)) (n1 : Int) (stages1 : Int) (least1 : Int) (length1 : Int) (code : Int) (sum : Int) (v281 : Int) (v291 : Int) (v34 : Int) (v35 : Int) (c2 : (List Int) × (List Int) × (List Int)) (best1 : List (List Int)) (periods : List (List Int)) : impl_Chain_bestNested_L2 N (fu_ + 1) kx n1 stages1 least1 length1 code sum v281 v291 v34 v35 c2 best1 periods = impl_Chain_bestNested_B2 N kx (fun n1 stages1 least1 length1 code sum v281 v291 v34 v35 c2 best1 periods => impl_Chain_bestNested_L2 N fu_ kx n1 stages1 least1 length1 code sum v281 v291 v34 v35 c2 best1 periods) n1 stages1 least1 length1 code sum v281 v291 v34 v35 c2 best1 periods := rfl
theorem impl_Chain_bestNested_L2_run (N : Nat) (kx : Int → Int → Int → Int → Int → Int → ((List Int) × (List Int) × (List Int)) → (List (List Int)) → Option (((List (List Int)) × Int) × Unit)) (n1 : Nat → Int) (stages1 : Nat → Int) (least1 : Nat → Int) (length1 : Nat → Int) (code : Nat → Int) (sum : Nat → Int) (v281 : Nat → Int) (v291 : Nat → Int) (v34 : Nat → Int) (v35 : Nat → Int) (c2 : Nat → ((List Int) × (List Int) × (List Int))) (best1 : Nat → (List (List Int))) (periods : Nat → (List (List Int))) (n_ : Nat) {res_ : Option (((List (List Int)) × Int) × Unit)} (hstep_ : ∀ j_, j_ < n_ → ∀ kx_, impl_Chain_bestNested_B2 N kx kx_ (n1 j_) (stages1 j_) (least1 j_) (length1 j_) (code j_) (sum j_) (v281 j_) (v291 j_) (v34 j_) (v35 j_) (c2 j_) (best1 j_) (periods j_) = kx_ (n1 (j_ + 1)) (stages1 (j_ + 1)) (least1 (j_ + 1)) (length1 (j_ + 1)) (code (j_ + 1)) (sum (j_ + 1)) (v281 (j_ + 1)) (v291 (j_ + 1)) (v34 (j_ + 1)) (v35 (j_ + 1)) (c2 (j_ + 1)) (best1 (j_ + 1)) (periods (j_ + 1))) (hend_ : ∀ kx_, impl_Chain_bestNested_B2 N kx kx_ (n1 n_) (stages1 n_) (least1 n_) (length1 n_) (code n_) (sum n_) (v281 n_) (v291 n_) (v34 n_) (v35 n_) (c2 n_) (best1 n_) (periods n_) = res_) (fu_ : Nat) (hm_ : n_ < fu_) : impl_Chain_bestNested_L2 N fu_ kx (n1 0) (stages1 0) (least1 0) (length1 0) (code 0) (sum 0) (v281 0) (v291 0) (v34 0) (v35 0) (c2 0) (best1 0) (periods 0) = res_ := by
  exact loop_run (L := fun fu_ (x_ : Int × Int × Int × Int × Int × Int × Int × Int × Int × Int × ((List Int) × (List Int) × (List Int)) × (List (List Int)) × (List (List Int))) => impl_Chain_bestNested_L2 N fu_ kx x_.1 x_.2.1 x_.2.2.1 x_.2.2.2.1 x_.2.2.2.2.1 x_.2.2.2.2.2.1 x_.2.2.2.2.2.2.1 x_.2.2.2.2.2.2.2.1 x_.2.2.2.2.2.2.2.2.1 x_.2.2.2.2.2.2.2.2.2.1 x_.2.2.2.2.2.2.2.2.2.2.1 x_.2.2.2.2.2.2.2.2.2.2.2.1 x_.2.2.2.2.2.2.2.2.2.2.2.2) (B := fun kx_ x_ => impl_Chain_bestNested_B2 N kx (fun n1 stages1 least1 length1 code sum v281 v291 v34 v35 c2 best1 periods => kx_ (n1, stages1, least1, length1, code, sum, v281, v291, v34, v35, c2, best1, periods)) x_.1 x_.2.1 x_.2.2.1 x_.2.2.2.1 x_.2.2.2.2.1 x_.2.2.2.2.2.1 x_.2.2.2.2.2.2.1 x_.2.2.2.2.2.2.2.1 x_.2.2.2.2.2.2.2.2.1 x_.2.2.2.2.2.2.2.2.2.1 x_.2.2.2.2.2.2.2.2.2.2.1 x_.2.2.2.2.2.2.2.2.2.2.2.1 x_.2.2.2.2.2.2.2.2.2.2.2.2) (fun _ _ => rfl) (fun j_ => (n1 j_, stages1 j_, least1 j_, length1 j_, code j_, sum j_, v281 j_, v291 j_, v34 j_, v35 j_, c2 j_, best1 j_, periods j_)) n_ (fun j_ hi_ kx_ => hstep_ j_ hi_ _) (fun kx_ => hend_ _) fu_ hm_
def impl_Chain_bestNested_K4 (N : Nat) (least6 : Int) (best6 : List (List Int)) : Option (((List (List Int)) × Int) × Unit) :=
  some ((best6, least6), ())
def impl_Chain_bestNested_B3 (N : Nat) (kx : Int → Int → Int → Int → Int → Int → ((List Int) × (List Int) × (List Int)) → (List (List Int)) → Option (((List (List Int)) × Int) × Unit)) (n : Int) (stages : Int) (least : Int) (length : Int) (v28 : Int) (v29 : Int) (c1 : (List Int) × (List Int) × (List Int)) (best : List (List Int)) : Option (((List (List Int)) × Int) × Unit) :=
  bif ilt v29 v28 then
    chk (mkB stages 24) <|
    impl_Chain_bestNested_L2 N N kx n stages least length v29 0 v28 v29 n 0 c1 best (List.replicate stages.toNat ([] : List Int))
  else
    impl_Chain_bestNested_K4 N least best
def impl_Chain_bestNested_L3 (N fu_ : Nat) (n : Int) (stages : Int) (least : Int) (length : Int) (v28 : Int) (v29 : Int) (c1 : (List Int) × (List Int) × (List Int)) (best : List (List Int)) : Option (((List (List Int)) × Int) × Unit) :=
  iterK fu_ (fun kx (v_ : (Int × Int × Int × Int × Int × Int × Unit) × (((List Int) × (List Int) × (List Int)) × (List (List Int)) × Unit)) => impl_Chain_bestNested_B3 N (fun n stages least length v28 v29 c1 best => kx ((n, stages, least, length, v28, v29, ()), (c1, best, ()))) v_.1.1 v_.1.2.1 v_.1.2.2.1 v_.1.2.2.2.1 v_.1.2.2.2.2.1 v_.1.2.2.2.2.2.1 v_.2.1 v_.2.2.1) ((n, stages, least, length, v28, v29, ()), (c1, best, ()))
theorem impl_Chain_bestNested_L3_succ (N fu_ : Nat) (n : Int) (stages : Int) (least : Int) (length : Int) (v28 : Int) (v29 : Int) (c1 : (List Int) × (List Int) × (List Int)) (best : List (List Int)) : impl_Chain_bestNested_L3 N (fu_ + 1) n stages least length v28 v29 c1 best = impl_Chain_bestNested_B3 N (fun n stages least length v28 v29 c1 best => impl_Chain_bestNested_L3 N fu_ n stages least length v28 v29 c1 best) n stages least length v28 v29 c1 best := rfl
theorem impl_Chain_bestNested_L3_run (N : Nat) (n : Nat → Int) (stages : Nat → Int) (least : Nat → Int) (length : Nat → Int) (v28 : Nat → Int) (v29 : Nat → Int) (c1 : Nat → ((List Int) × (List Int) × (List Int))) (best : Nat → (List (List Int))) (n_ : Nat) {res_ : Option (((List (List Int)) × Int) × Unit)} (hstep_ : ∀ j_, j_ < n_ → ∀ kx_, impl_Chain_bestNested_B3 N kx_ (n j_) (stages j_) (least j_) (length j_) (v28 j_) (v29 j_) (c1 j_) (best j_) = kx_ (n (j_ + 1)) (stages (j_ + 1)) (least (j_ + 1)) (length (j_ + 1)) (v28 (j_ + 1)) (v29 (j_ + 1)) (c1 (j_ + 1)) (best (j_ + 1))) (hend_ : ∀ kx_, impl_Chain_bestNested_B3 N kx_ (n n_) (stages n_) (least n_) (length n_) (v28 n_) (v29 n_) (c1 n_) (best n_) = res_) (fu_ : Nat) (hm_ : n_ < fu_) : impl_Chain_bestNested_L3 N fu_ (n 0) (stages 0) (least 0) (length 0) (v28 0) (v29 0) (c1 0) (best 0) = res_ := by
  exact loop_run (L := fun fu_ (x_ : Int × Int × Int × Int × Int × Int × ((List Int) × (List Int) × (List Int)) × (List (List Int))) => impl_Chain_bestNested_L3 N fu_ x_.1 x_.2.1 x_.2.2.1 x_.2.2.2.1 x_.2.2.2.2.1 x_.2.2.2.2.2.1 x_.2.2.2.2.2.2.1 x_.2.2.2.2.2.2.2) (B := fun kx_ x_ => impl_Chain_bestNested_B3 N (fun n stages least length v28 v29 c1 best => kx_ (n, stages, least, length, v28, v29, c1, best)) x_.1 x_.2.1 x_.2.2.1 x_.2.2.2.1 x_.2.2.2.2.1 x_.2.2.2.2.2.1 x_.2.2.2.2.2.2.1 x_.2.2.2.2.2.2.2) (fun _ _ => rfl) (fun j_ => (n j_, stages j_, least j_, length j_, v28 j_, v29 j_, c1 j_, best j_)) n_ (fun j_ hi_ kx_ => hstep_ j_ hi_ _) (fun kx_ => hend_ _) fu_ hm_
def impl_Chain_bestNested (N : Nat) (c : (List Int) × (List Int) × (List Int)) : Option (((List (List Int)) × Int) × Unit) :=
  (impl_power N (iadd .i64 (len c.2.1) 1) (len c.1)).bind fun r =>
  impl_Chain_bestNested_L3 N N (len c.1) (len c.2.1) 1099511627776 0 r.1 0 c []
def impl_BestChainCost (N : Nat) (c : (List Int) × (List Int) × (List Int)) : Option ((Int × Bool) × Unit) :=
  (impl_IsChain N c).bind fun r =>
  bif !r.1 then
    some ((0, false), ())
  else
    (impl_Chain_bestNested N c).bind fun r1 =>
    some ((r1.1.2, true), ())
def laws_vBig (N : Nat) (code : List Int) : Option (Bool × Unit) :=
  some (ilt 65536 (len code), ())
def pspec_l1Cur_next_K1 (N : Nat) (b : Int) (c1 : (List Int) × Int × Int) : Option (Int × ((List Int) × Int × Int)) :=
  bif ile (iadd .i64 c1.2.1 1) (len c1.1) then
    some (b, (c1.1, (iadd .i64 c1.2.1 1, iadd .u64 (iadd .u64 (imul .u64 c1.2.2 6364136223846793005) (icv .u64 b)) 462197)))
  else
    chk (ile 0 40) <|
    some (icv .i64 (iand .u64 (ishr .u64 (iadd .u64 (iadd .u64 (imul .u64 c1.2.2 6364136223846793005) (icv .u64 b)) 462197) 40) 255), (c1.1, (iadd .i64 c1.2.1 1, iadd .u64 (iadd .u64 (imul .u64 c1.2.2 6364136223846793005) (icv .u64 b)) 462197)))
def pspec_l1Cur_next (N : Nat) (c : (List Int) × Int × Int) : Option (Int × ((List Int) × Int × Int)) :=
  bif ilt c.2.1 (len c.1) then
    chk (inB c.2.1 c.1.length) <|
    pspec_l1Cur_next_K1 N (icv .i64 (gd c.1 c.2.1.toNat 0)) c
  else
    pspec_l1Cur_next_K1 N 0 c
def pspec_l1Cur_pick (N : Nat) (c : (List Int) × Int × Int) (n : Int) : Option (Int × ((List Int) × Int × Int)) :=
  bif ile n 1 then
    some (0, c)
  else
    (pspec_l1Cur_next N c).bind fun r =>
    bif ilt 200 n then
      (pspec_l1Cur_next N r.2).bind fun r1 =>
      chk (ine n 0) <|
      some (irem (iadd .i64 (imul .i64 r.1 256) r1.1) n, r1.2)
    else
      chk (ine n 0) <|
      some (irem r.1 n, r.2)
def pspec_l1Cur_among (N : Nat) (c : (List Int) × Int × Int) (list : List Int) : Option (Int × ((List Int) × Int × Int)) :=
  (pspec_l1Cur_pick N c (len list)).bind fun r =>
  chk (inB r.1 list.length) <|
  some (gd list r.1.toNat 0, r.2)
def pspec_l1Cur_needs7_K1 (N : Nat) (c4 : (List Int) × Int × Int) (out3 : List Int) : Option ((List Int) × ((List Int) × Int × Int)) :=
  some (out3, c4)
def pspec_l1Cur_needs7_B1 (N : Nat) (kx1 : ((List Int) × Int × Int) → (List Int) → Option ((List Int) × ((List Int) × Int × Int))) (c3 : (List Int) × Int × Int) (out2 : List Int) : Option ((List Int) × ((List Int) × Int × Int)) :=
  (pspec_l1Cur_pick N c3 2).bind fun r4 =>
  bif ilt (len out2) (iadd .i64 6 r4.1) then
    chk (fitB (out2.length + 1) 8) <|
    kx1 r4.2 (out2 ++ [1])
  else
    pspec_l1Cur_needs7_K1 N r4.2 out2
def pspec_l1Cur_needs7_L1 (N fu_ : Nat) (c3 : (List Int) × Int × Int) (out2 : List Int) : Option ((List Int) × ((List Int) × Int × Int)) :=
  iterK fu_ (fun kx1 (v_ : (Unit) × (((List Int) × Int × Int) × (List Int) × Unit)) => pspec_l1Cur_needs7_B1 N (fun c3 out2 => kx1 ((), (c3, out2, ()))) v_.2.1 v_.2.2.1) ((), (c3, out2, ()))
theorem pspec_l1Cur_needs7_L1_succ (N fu_ : Nat) (c3 : (List Int) × Int × Int) (out2 : List Int) : pspec_l1Cur_needs7_L1 N (fu_ + 1) c3 out2 = pspec_l1Cur_needs7_B1 N (fun c3 out2 => pspec_l1Cur_needs7_L1 N fu_ c3 out2) c3 out2 := rfl
theorem pspec_l1Cur_needs7_L1_run (N : Nat) (c3 : Nat → ((List Int) × Int × Int)) (out2 : Nat → (List Int)) (n_ : Nat) {res_ : Option ((List Int) × ((List Int) × Int × Int))} (hstep_ : ∀ j_, j_ < n_ → ∀ kx_, pspec_l1Cur_needs7_B1 N kx_ (c3 j_) (out2 j_) = kx_ (c3 (j_ + 1)) (out2 (j_ + 1))) (hend_ : ∀ kx_, pspec_l1Cur_needs7_B1 N kx_ (c3 n_) (out2 n_) = res_) (fu_ : Nat) (hm_ : n_ < fu_) : pspec_l1Cur_needs7_L1 N fu_ (c3 0) (out2 0) = res_ := by
  exact loop_run (L := fun fu_ (x_ : ((List Int) × Int × Int) × (List Int)) => pspec_l1Cur_needs7_L1 N fu_ x_.1 x_.2) (B := fun kx_ x_ => pspec_l1Cur_needs7_B1 N (fun c3 out2 => kx_ (c3, out2)) x_.1 x_.2) (fun _ _ => rfl) (fun j_ => (c3 j_, out2 j_)) n_ (fun j_ hi_ kx_ => hstep_ j_ hi_ _) (fun kx_ => hend_ _) fu_ hm_
def pspec_l1Cur_needs7_K2 (N : Nat) (c2 : (List Int) × Int × Int) (out1 : List Int) : Option ((List Int) × ((List Int) × Int × Int)) :=
  (pspec_l1Cur_pick N c2 40).bind fun r2 =>
  bif ieq r2.1 0 then
    (pspec_l1Cur_among N r2.2 [(-1), 20, 21]).bind fun r3 =>
    chk (fitB (out1.length + 1) 8) <|
    some (out1 ++ [r3.1], r3.2)
  else
    bif ieq r2.1 1 then
      pspec_l1Cur_needs7_L1 N N r2.2 out1
    else
      some (out1, r2.2)
def pspec_l1Cur_needs7_B2 (N : Nat) (kx : Int → ((List Int) × Int × Int) → (List Int) → Option ((List Int) × ((List Int) × Int × Int))) (n : Int) (c1 : (List Int) × Int × Int) (out : List Int) : Option ((List Int) × ((List Int) × Int × Int)) :=
  bif ilt 0 n then
    (pspec_l1Cur_among N c1 [1, 2, 0, 3, 5, 8]).bind fun r1 =>
    chk (fitB (out.length + 1) 8) <|
    kx (isub .i64 n 1) r1.2 (out ++ [r1.1])
  else
    pspec_l1Cur_needs7_K2 N c1 out
def pspec_l1Cur_needs7_L2 (N fu_ : Nat) (n : Int) (c1 : (List Int) × Int × Int) (out : List Int) : Option ((List Int) × ((List Int) × Int × Int)) :=
  iterK fu_ (fun kx (v_ : (Int × Unit) × (((List Int) × Int × Int) × (List Int) × Unit)) => pspec_l1Cur_needs7_B2 N (fun n c1 out => kx ((n, ()), (c1, out, ()))) v_.1.1 v_.2.1 v_.2.2.1) ((n, ()), (c1, out, ()))
theorem pspec_l1Cur_needs7_L2_succ (N fu_ : Nat) (n : Int) (c1 : (List Int) × Int × Int) (out : List Int) : pspec_l1Cur_needs7_L2 N (fu_ + 1) n c1 out = pspec_l1Cur_needs7_B2 N (fun n c1 out => pspec_l1Cur_needs7_L2 N fu_ n c1 out) n c1 out := rfl
theorem pspec_l1Cur_needs7_L2_run (N : Nat) (n : Nat → Int) (c1 : Nat → ((List Int) × Int × Int)) (out : Nat → (List Int)) (n_ : Nat) {res_ : Option ((List Int) × ((List Int) × Int × Int))} (hstep_ : ∀ j_, j_ < n_ → ∀ kx_, pspec_l1Cur_needs7_B2 N kx_ (n j_) (c1 j_) (out j_) = kx_ (n (j_ + 1)) (c1 (j_ + 1)) (out (j_ + 1))) (hend_ : ∀ kx_, pspec_l1Cur_needs7_B2 N kx_ (n n_) (c1 n_) (out n_) = res_) (fu_ : Nat) (hm_ : n_ < fu_) : pspec_l1Cur_needs7_L2 N fu_ (n 0) (c1 0) (out 0) = res_ := by
  exact loop_run (L := fun fu_ (x_ : Int × ((List Int) × Int × Int) × (List Int)) => pspec_l1Cur_needs7_L2 N fu_ x_.1 x_.2.1 x_.2.2) (B := fun kx_ x_ => pspec_l1Cur_needs7_B2 N (fun n c1 out => kx_ (n, c1, out)) x_.1 x_.2.1 x_.2.2) (fun _ _ => rfl) (fun j_ => (n j_, c1 j_, out j_)) n_ (fun j_ hi_ kx_ => hstep_ j_ hi_ _) (fun kx_ => hend_ _) fu_ hm_
def pspec_l1Cur_needs7 (N : Nat) (c : (List Int) × Int × Int) : Option ((List Int) × ((List Int) × Int × Int)) :=
  (pspec_l1Cur_among N c [4, 3, 5, 2, 1, 0]).bind fun r =>
  pspec_l1Cur_needs7_L2 N N r.1 r.2 []
def pspec_l1Cur_chain_K1 (N : Nat) (c2 : (List Int) × Int × Int) (v21 : (List Int) × (List Int) × (List Int)) (out1 : (List Int) × (List Int) × (List Int)) : Option (((List Int) × (List Int) × (List Int)) × ((List Int) × Int × Int)) :=
  (pspec_l1Cur_pick N c2 48).bind fun r4 =>
  bif ieq r4.1 0 then
    chk (fitB (out1.2.2.length + 1) 8) <|
    some ((out1.1, (out1.2.1, out1.2.2 ++ [9])), r4.2)
  else
    bif ieq r4.1 1 then
      (pspec_l1Cur_among N r4.2 [(-1), 9, 10]).bind fun r5 =>
      chk (inB 0 out1.2.2.length) <|
      some ((out1.1, (out1.2.1, List.set out1.2.2 0 r5.1)), r5.2)
    else
      bif ieq r4.1 2 then
        (pspec_l1Cur_among N r4.2 [(-1), 99, 100]).bind fun r6 =>
        chk (inB 0 out1.2.1.length) <|
        some ((out1.1, (List.set out1.2.1 0 r6.1, out1.2.2)), r6.2)
      else
        bif ieq r4.1 3 then
          some ((out1.1, ([], out1.2.2)), r4.2)
        else
          some (out1, r4.2)
def pspec_l1Cur_chain_B1 (N : Nat) (kx : Int → Int → ((List Int) × Int × Int) → ((List Int) × (List Int) × (List Int)) → ((List Int) × (List Int) × (List Int)) → Option (((List Int) × (List Int) × (List Int)) × ((List Int) × Int × Int))) (hold : Int) (n : Int) (c1 : (List Int) × Int × Int) (v2 : (List Int) × (List Int) × (List Int)) (out : (List Int) × (List Int) × (List Int)) : Option (((List Int) × (List Int) × (List Int)) × ((List Int) × Int × Int)) :=
  bif ilt 0 n then
    (pspec_l1Cur_among N c1 [5, 8, 3, 12, 0, 20]).bind fun r2 =>
    chk (fitB (out.2.1.length + 1) 8) <|
    (pspec_l1Cur_among N r2.2 [1, 0, 1, 2]).bind fun r3 =>
    chk (fitB (out.2.2.length + 1) 8) <|
    kx (iadd .i64 hold r3.1) (isub .i64 n 1) r3.2 v2 (out.1, (out.2.1 ++ [r2.1], out.2.2 ++ [iadd .i64 hold r3.1]))
  else
    pspec_l1Cur_chain_K1 N c1 v2 out
def pspec_l1Cur_chain_L1 (N fu_ : Nat) (hold : Int) (n : Int) (c1 : (List Int) × Int × Int) (v2 : (List Int) × (List Int) × (List Int)) (out : (List Int) × (List Int) × (List Int)) : Option (((List Int) × (List Int) × (List Int)) × ((List Int) × Int × Int)) :=
  iterK fu_ (fun kx (v_ : (Int × Int × Unit) × (((List Int) × Int × Int) × ((List Int) × (List Int) × (List Int)) × ((List Int) × (List Int) × (List Int)) × Unit)) => pspec_l1Cur_chain_B1 N (fun hold n c1 v2 out => kx ((hold, n, ()), (c1, v2, out, ()))) v_.1.1 v_.1.2.1 v_.2.1 v_.2.2.1 v_.2.2.2.1) ((hold, n, ()), (c1, v2, out, ()))
theorem pspec_l1Cur_chain_L1_succ (N fu_ : Nat) (hold : Int) (n : Int) (c1 : (List Int) × Int × Int) (v2 : (List Int) × (List Int) × (List Int)) (out : (List Int) × (List Int) × (List Int)) : pspec_l1Cur_chain_L1 N (fu_ + 1) hold n c1 v2 out = pspec_l1Cur_chain_B1 N (fun hold n c1 v2 out => pspec_l1Cur_chain_L1 N fu_ hold n c1 v2 out) hold n c1 v2 out := rfl
theorem pspec_l1Cur_chain_L1_run (N : Nat) (hold : Nat → Int) (n : Nat → Int) (c1 : Nat → ((List Int) × Int × Int)) (v2 : Nat → ((List Int) × (List Int) × (List Int))) (out : Nat → ((List Int) × (List Int) × (List Int))) (n_ : Nat) {res_ : Option (((List Int) × (List Int) × (List Int)) × ((List Int) × Int × Int))} (hstep_ : ∀ j_, j_ < n_ → ∀ kx_, pspec_l1Cur_chain_B1 N kx_ (hold j_) (n j_) (c1 j_) (v2 j_) (out j_) = kx_ (hold (j_ + 1)) (n (j_ + 1)) (c1 (j_ + 1)) (v2 (j_ + 1)) (out (j_ + 1))) (hend_ : ∀ kx_, pspec_l1Cur_chain_B1 N kx_ (hold n_) (n n_) (c1 n_) (v2 n_) (out n_) = res_) (fu_ : Nat) (hm_ : n_ < fu_) : pspec_l1Cur_chain_L1 N fu_ (hold 0) (n 0) (c1 0) (v2 0) (out 0) = res_ := by
  exact loop_run (L := fun fu_ (x_ : Int × Int × ((List Int) × Int × Int) × ((List Int) × (List Int) × (List Int)) × ((List Int) × (List Int) × (List Int))) => pspec_l1Cur_chain_L1 N fu_ x_.1 x_.2.1 x_.2.2.1 x_.2.2.2.1 x_.2.2.2.2) (B := fun kx_ x_ => pspec_l1Cur_chain_B1 N (fun hold n c1 v2 out => kx_ (hold, n, c1, v2, out)) x_.1 x_.2.1 x_.2.2.1 x_.2.2.2.1 x_.2.2.2.2) (fun _ _ => rfl) (fun j_ => (hold j_, n j_, c1 j_, v2 j_, out j_)) n_ (fun j_ hi_ kx_ => hstep_ j_ hi_ _) (fun kx_ => hend_ _) fu_ hm_
def pspec_l1Cur_chain (N : Nat) (c : (List Int) × Int × Int) : Option (((List Int) × (List Int) × (List Int)) × ((List Int) × Int × Int)) :=
  (pspec_l1Cur_needs7 N c).bind fun r =>
  (pspec_l1Cur_among N r.2 [2, 3, 2, 1]).bind fun r1 =>
  pspec_l1Cur_chain_L1 N N 0 r1.1 r1.2 ([], ([], [])) (r.1, ([], []))
def spec_DrawStageCase (N : Nat) (code : List Int) : Option ((((List Int) × (List Int) × (List Int)) × Int) × Unit) :=
  (pspec_l1Cur_chain N (code, (0, 0))).bind fun r =>
  (pspec_l1Cur_pick N r.2 (iadd .i64 (len r.1.2.1) 2)).bind fun r1 =>
  some ((r.1, isub .i64 r1.1 1), ())
def impl_Chain_echelons_K1 (N : Nat) (out1 : List Int) : Option ((List Int) × Unit) :=
  some (out1, ())
def impl_Chain_echelons_B1 (N : Nat) (kx : Int → (List Int) → Int → Int → (List Int) → Option ((List Int) × Unit)) (before : Int) (v9 : List Int) (v10 : Int) (v11 : Int) (out : List Int) : Option ((List Int) × Unit) :=
  bif ilt v11 v10 then
    chk (inB v11 v9.length) <|
    chk (fitB (out.length + 1) 8) <|
    kx (gd v9 v11.toNat 0) v9 v10 (iadd .i64 v11 1) (out ++ [isub .i64 (gd v9 v11.toNat 0) before])
  else
    impl_Chain_echelons_K1 N out
def impl_Chain_echelons_L1 (N fu_ : Nat) (before : Int) (v9 : List Int) (v10 : Int) (v11 : Int) (out : List Int) : Option ((List Int) × Unit) :=
  iterK fu_ (fun kx (v_ : (Int × (List Int) × Int × Int × Unit) × ((List Int) × Unit)) => impl_Chain_echelons_B1 N (fun before v9 v10 v11 out => kx ((before, v9, v10, v11, ()), (out, ()))) v_.1.1 v_.1.2.1 v_.1.2.2.1 v_.1.2.2.2.1 v_.2.1) ((before, v9, v10, v11, ()), (out, ()))
theorem impl_Chain_echelons_L1_succ (N fu_ : Nat) (before : Int) (v9 : List Int) (v10 : Int) (v11 : Int) (out : List Int) : impl_Chain_echelons_L1 N (fu_ + 1) before v9 v10 v11 out = impl_Chain_echelons_B1 N (fun before v9 v10 v11 out => impl_Chain_echelons_L1 N fu_ before v9 v10 v11 out) before v9 v10 v11 out := rfl
theorem impl_Chain_echelons_L1_run (N : Nat) (before : Nat → Int) (v9 : Nat → (List Int)) (v10 : Nat → Int) (v11 : Nat → Int) (out : Nat → (List Int)) (n_ : Nat) {res_ : Option ((List Int) × Unit)} (hstep_ : ∀ j_, j_ < n_ → ∀ kx_, impl_Chain_echelons_B1 N kx_ (before j_) (v9 j_) (v10 j_) (v11 j_) (out j_) = kx_ (before (j_ + 1)) (v9 (j_ + 1)) (v10 (j_ + 1)) (v11 (j_ + 1)) (out (j_ + 1))) (hend_ : ∀ kx_, impl_Chain_echelons_B1 N kx_ (before n_) (v9 n_) (v10 n_) (v11 n_) (out n_) = res_) (fu_ : Nat) (hm_ : n_ < fu_) : impl_Chain_echelons_L1 N fu_ (before 0) (v9 0) (v10 0) (v11 0) (out 0) = res_ := by
  exact loop_run (L := fun fu_ (x_ : Int × (List Int) × Int × Int × (List Int)) => impl_Chain_echelons_L1 N fu_ x_.1 x_.2.1 x_.2.2.1 x_.2.2.2.1 x_.2.2.2.2) (B := fun kx_ x_ => impl_Chain_echelons_B1 N (fun before v9 v10 v11 out => kx_ (before, v9, v10, v11, out)) x_.1 x_.2.1 x_.2.2.1 x_.2.2.2.1 x_.2.2.2.2) (fun _ _ => rfl) (fun j_ => (before j_, v9 j_, v10 j_, v11 j_, out j_)) n_ (fun j_ hi_ kx_ => hstep_ j_ hi_ _) (fun kx_ => hend_ _) fu_ hm_
def impl_Chain_echelons (N : Nat) (c : (List Int) × (List Int) × (List Int)) : Option ((List Int) × Unit) :=
  impl_Chain_echelons_L1 N N 0 c.2.2 (len c.2.2) 0 []
def impl_StageCase (N : Nat) (c : (List Int) × (List Int) × (List Int)) (stage : Int) : Option ((((List Int) × (List Int) × (List Int) × (List Int)) × Bool) × Unit) :=
  (impl_IsChain N c).bind fun r =>
  bif !r.1 then
    some ((([], ([], ([], []))), false), ())
  else
    (impl_within N stage 0 (isub .i64 (len c.2.1) 1)).bind fun r1 =>
    bif !r1.1 then
      some ((([], ([], ([], []))), false), ())
    else
      chk (inB stage c.2.1.length) <|
      (impl_Chain_echelons N c).bind fun r2 =>
      chk (inB stage r2.1.length) <|
      (impl_evenCase N c.1 (gd c.2.1 stage.toNat 0) (gd r2.1 stage.toNat 0)).bind fun r3 =>
      some ((r3.1, true), ())
def spec_l7Good_K1 (N : Nat) : Option (Bool × Unit) :=
  some (true, ())
def spec_l7Good_B1 (N : Nat) (kx : Int → ((List Int) × (List Int) × (List Int)) → Option (Bool × Unit)) (s : Int) (c1 : (List Int) × (List Int) × (List Int)) : Option (Bool × Unit) :=
  bif ilt s (len c1.2.2) then
    chk (inB s c1.2.2.length) <|
    chk (inB (isub .i64 s 1) c1.2.2.length) <|
    bif ilt (gd c1.2.2 s.toNat 0) (gd c1.2.2 (isub .i64 s 1).toNat 0) then
      some (false, ())
    else
      kx (iadd .i64 s 1) c1
  else
    spec_l7Good_K1 N
def spec_l7Good_L1 (N fu_ : Nat) (s : Int) (c1 : (List Int) × (List Int) × (List Int)) : Option (Bool × Unit) :=
  iterK fu_ (fun kx (v_ : (Int × Unit) × (((List Int) × (List Int) × (List Int)) × Unit)) => spec_l7Good_B1 N (fun s c1 => kx ((s, ()), (c1, ()))) v_.1.1 v_.2.1) ((s, ()), (c1, ()))
theorem spec_l7Good_L1_succ (N fu_ : Nat) (s : Int) (c1 : (List Int) × (List Int) × (List Int)) : spec_l7Good_L1 N (fu_ + 1) s c1 = spec_l7Good_B1 N (fun s c1 => spec_l7Good_L1 N fu_ s c1) s c1 := rfl
theorem spec_l7Good_L1_run (N : Nat) (s : Nat → Int) (c1 : Nat → ((List Int) × (List Int) × (List Int))) (n_ : Nat) {res_ : Option (Bool × Unit)} (hstep_ : ∀ j_, j_ < n_ → ∀ kx_, spec_l7Good_B1 N kx_ (s j_) (c1 j_) = kx_ (s (j_ + 1)) (c1 (j_ + 1))) (hend_ : ∀ kx_, spec_l7Good_B1 N kx_ (s n_) (c1 n_) = res_) (fu_ : Nat) (hm_ : n_ < fu_) : spec_l7Good_L1 N fu_ (s 0) (c1 0) = res_ := by
  exact loop_run (L := fun fu_ (x_ : Int × ((List Int) × (List Int) × (List Int))) => spec_l7Good_L1 N fu_ x_.1 x_.2) (B := fun kx_ x_ => spec_l7Good_B1 N (fun s c1 => kx_ (s, c1)) x_.1 x_.2) (fun _ _ => rfl) (fun j_ => (s j_, c1 j_)) n_ (fun j_ hi_ kx_ => hstep_ j_ hi_ _) (fun kx_ => hend_ _) fu_ hm_
def spec_l7Good (N : Nat) (c : (List Int) × (List Int) × (List Int)) : Option (Bool × Unit) :=
  bif ilt 6 (len c.1) then
    some (false, ())
  else
    (spec_l2Row N c.1 (len c.1) 20).bind fun r =>
    bif !r.1 then
      some (false, ())
    else
      (spec_l1In N (len c.2.1) 1 3).bind fun r1 =>
      bif !r1.1 then
        some (false, ())
      else
        (spec_l2Row N c.2.1 (len c.2.1) 99).bind fun r2 =>
        bif !r2.1 then
          some (false, ())
        else
          (spec_l2Row N c.2.2 (len c.2.1) 9).bind fun r3 =>
          bif !r3.1 then
            some (false, ())
          else
            spec_l7Good_L1 N N 1 c
def spec_l7Case_K1 (N : Nat) (v61 : (List Int) × (List Int) × (List Int) × (List Int)) (out1 : (List Int) × (List Int) × (List Int) × (List Int)) : Option (((List Int) × (List Int) × (List Int) × (List Int)) × Unit) :=
  some (out1, ())
def spec_l7Case_B1 (N : Nat) (kx : (List Int) → Int → Int → Int → ((List Int) × (List Int) × (List Int) × (List Int)) → ((List Int) × (List Int) × (List Int) × (List Int)) → Option (((List Int) × (List Int) × (List Int) × (List Int)) × Unit)) (need1 : List Int) (setup1 : Int) (hold1 : Int) (t : Int) (v6 : (List Int) × (List Int) × (List Int) × (List Int)) (out : (List Int) × (List Int) × (List Int) × (List Int)) : Option (((List Int) × (List Int) × (List Int) × (List Int)) × Unit) :=
  bif ilt t (len need1) then
    chk (inB t need1.length) <|
    chk (fitB (out.1.length + 1) 8) <|
    chk (fitB (out.2.1.length + 1) 8) <|
    chk (fitB (out.2.2.1.length + 1) 8) <|
    chk (fitB (out.2.2.2.length + 1) 8) <|
    kx need1 setup1 hold1 (iadd .i64 t 1) v6 (out.1 ++ [gd need1 t.toNat 0], (out.2.1 ++ [setup1], (out.2.2.1 ++ [0], out.2.2.2 ++ [hold1])))
  else
    spec_l7Case_K1 N v6 out
def spec_l7Case_L1 (N fu_ : Nat) (need1 : List Int) (setup1 : Int) (hold1 : Int) (t : Int) (v6 : (List Int) × (List Int) × (List Int) × (List Int)) (out : (List Int) × (List Int) × (List Int) × (List Int)) : Option (((List Int) × (List Int) × (List Int) × (List Int)) × Unit) :=
  iterK fu_ (fun kx (v_ : ((List Int) × Int × Int × Int × Unit) × (((List Int) × (List Int) × (List Int) × (List Int)) × ((List Int) × (List Int) × (List Int) × (List Int)) × Unit)) => spec_l7Case_B1 N (fun need1 setup1 hold1 t v6 out => kx ((need1, setup1, hold1, t, ()), (v6, out, ()))) v_.1.1 v_.1.2.1 v_.1.2.2.1 v_.1.2.2.2.1 v_.2.1 v_.2.2.1) ((need1, setup1, hold1, t, ()), (v6, out, ()))
theorem spec_l7Case_L1_succ (N fu_ : Nat) (need1 : List Int) (setup1 : Int) (hold1 : Int) (t : Int) (v6 : (List Int) × (List Int) × (List Int) × (List Int)) (out : (List Int) × (List Int) × (List Int) × (List Int)) : spec_l7Case_L1 N (fu_ + 1) need1 setup1 hold1 t v6 out = spec_l7Case_B1 N (fun need1 setup1 hold1 t v6 out => spec_l7Case_L1 N fu_ need1 setup1 hold1 t v6 out) need1 setup1 hold1 t v6 out := rfl
theorem spec_l7Case_L1_run (N : Nat) (need1 : Nat → (List Int)) (setup1 : Nat → Int) (hold1 : Nat → Int) (t : Nat → Int) (v6 : Nat → ((List Int) × (List Int) × (List Int) × (List Int))) (out : Nat → ((List Int) × (List Int) × (List Int) × (List Int))) (n_ : Nat) {res_ : Option (((List Int) × (List Int) × (List Int) × (List Int)) × Unit)} (hstep_ : ∀ j_, j_ < n_ → ∀ kx_, spec_l7Case_B1 N kx_ (need1 j_) (setup1 j_) (hold1 j_) (t j_) (v6 j_) (out j_) = kx_ (need1 (j_ + 1)) (setup1 (j_ + 1)) (hold1 (j_ + 1)) (t (j_ + 1)) (v6 (j_ + 1)) (out (j_ + 1))) (hend_ : ∀ kx_, spec_l7Case_B1 N kx_ (need1 n_) (setup1 n_) (hold1 n_) (t n_) (v6 n_) (out n_) = res_) (fu_ : Nat) (hm_ : n_ < fu_) : spec_l7Case_L1 N fu_ (need1 0) (setup1 0) (hold1 0) (t 0) (v6 0) (out 0) = res_ := by
  exact loop_run (L := fun fu_ (x_ : (List Int) × Int × Int × Int × ((List Int) × (List Int) × (List Int) × (List Int)) × ((List Int) × (List Int) × (List Int) × (List Int))) => spec_l7Case_L1 N fu_ x_.1 x_.2.1 x_.2.2.1 x_.2.2.2.1 x_.2.2.2.2.1 x_.2.2.2.2.2) (B := fun kx_ x_ => spec_l7Case_B1 N (fun need1 setup1 hold1 t v6 out => kx_ (need1, setup1, hold1, t, v6, out)) x_.1 x_.2.1 x_.2.2.1 x_.2.2.2.1 x_.2.2.2.2.1 x_.2.2.2.2.2) (fun _ _ => rfl) (fun j_ => (need1 j_, setup1 j_, hold1 j_, t j_, v6 j_, out j_)) n_ (fun j_ hi_ kx_ => hstep_ j_ hi_ _) (fun kx_ => hend_ _) fu_ hm_
def spec_l7Case (N : Nat) (need : List Int) (setup : Int) (hold : Int) : Option (((List Int) × (List Int) × (List Int) × (List Int)) × Unit) :=
  spec_l7Case_L1 N N need setup hold 0 ([], ([], ([], []))) ([], ([], ([], [])))
def spec_l7Echelon (N : Nat) (c : (List Int) × (List Int) × (List Int)) (stage : Int) : Option (Int × Unit) :=
  bif ieq stage 0 then
    chk (inB 0 c.2.2.length) <|
    some (gd c.2.2 0 0, ())
  else
    chk (inB stage c.2.2.length) <|
    chk (inB (isub .i64 stage 1) c.2.2.length) <|
    some (isub .i64 (gd c.2.2 stage.toNat 0) (gd c.2.2 (isub .i64 stage 1).toNat 0), ())
def spec_StageCase (N : Nat) (c : (List Int) × (List Int) × (List Int)) (stage : Int) : Option ((((List Int) × (List Int) × (List Int) × (List Int)) × Bool) × Unit) :=
  (spec_l7Good N c).bind fun r =>
  bif !r.1 then
    some ((([], ([], ([], []))), false), ())
  else
    (spec_l1In N stage 0 (isub .i64 (len c.2.1) 1)).bind fun r1 =>
    bif !r1.1 then
      some ((([], ([], ([], []))), false), ())
    else
      chk (inB stage c.2.1.length) <|
      (spec_l7Echelon N c stage).bind fun r2 =>
      (spec_l7Case N c.1 (gd c.2.1 stage.toNat 0) r2.1).bind fun r3 =>
      some ((r3.1, true), ())
def pspec_l1Cur_one (N : Nat) (c : (List Int) × Int × Int) (n : Int) : Option (Bool × ((List Int) × Int × Int)) :=
  (pspec_l1Cur_pick N c n).bind fun r =>
  some (ieq r.1 0, r.2)
def spec_DrawBestAssembly_K1 (N : Nat) (c3 : (List Int) × Int × Int) (setups3 : List Int) (holds3 : List Int) : Option (((List Int) × (List Int) × (List Int)) × Unit) :=
  (pspec_l1Cur_one N c3 24).bind fun r4 =>
  bif r4.1 then
    chk (fitB (holds3.length + 1) 8) <|
    (pspec_l1Cur_needs7 N r4.2).bind fun r5 =>
    some ((r5.1, (setups3, holds3 ++ [0])), ())
  else
    (pspec_l1Cur_needs7 N r4.2).bind fun r6 =>
    some ((r6.1, (setups3, holds3)), ())
def spec_DrawBestAssembly_B1 (N : Nat) (kx3 : Int → Int → ((List Int) × Int × Int) → (List Int) → (List Int) → Option (((List Int) × (List Int) × (List Int)) × Unit)) (n2 : Int) (kx2 : Int) (c2 : (List Int) × Int × Int) (setups2 : List Int) (holds2 : List Int) : Option (((List Int) × (List Int) × (List Int)) × Unit) :=
  bif ilt kx2 n2 then
    (pspec_l1Cur_among N c2 [1, 0, 1, 2]).bind fun r3 =>
    chk (fitB (holds2.length + 1) 8) <|
    kx3 n2 (iadd .i64 kx2 1) r3.2 setups2 (holds2 ++ [r3.1])
  else
    spec_DrawBestAssembly_K1 N c2 setups2 holds2
def spec_DrawBestAssembly_L1 (N fu_ : Nat) (n2 : Int) (kx2 : Int) (c2 : (List Int) × Int × Int) (setups2 : List Int) (holds2 : List Int) : Option (((List Int) × (List Int) × (List Int)) × Unit) :=
  iterK fu_ (fun kx3 (v_ : (Int × Int × Unit) × (((List Int) × Int × Int) × (List Int) × (List Int) × Unit)) => spec_DrawBestAssembly_B1 N (fun n2 kx2 c2 setups2 holds2 => kx3 ((n2, kx2, ()), (c2, setups2, holds2, ()))) v_.1.1 v_.1.2.1 v_.2.1 v_.2.2.1 v_.2.2.2.1) ((n2, kx2, ()), (c2, setups2, holds2, ()))
theorem spec_DrawBestAssembly_L1_succ (N fu_ : Nat) (n2 : Int) (kx2 : Int) (c2 : (List Int) × Int × Int) (setups2 : List Int) (holds2 : List Int) : spec_DrawBestAssembly_L1 N (fu_ + 1) n2 kx2 c2 setups2 holds2 = spec_DrawBestAssembly_B1 N (fun n2 kx2 c2 setups2 holds2 => spec_DrawBestAssembly_L1 N fu_ n2 kx2 c2 setups2 holds2) n2 kx2 c2 setups2 holds2 := rfl
theorem spec_DrawBestAssembly_L1_run (N : Nat) (n2 : Nat → Int) (kx2 : Nat → Int) (c2 : Nat → ((List Int) × Int × Int)) (setups2 : Nat → (List Int)) (holds2 : Nat → (List Int)) (n_ : Nat) {res_ : Option (((List Int) × (List Int) × (List Int)) × Unit)} (hstep_ : ∀ j_, j_ < n_ → ∀ kx_, spec_DrawBestAssembly_B1 N kx_ (n2 j_) (kx2 j_) (c2 j_) (setups2 j_) (holds2 j_) = kx_ (n2 (j_ + 1)) (kx2 (j_ + 1)) (c2 (j_ + 1)) (setups2 (j_ + 1)) (holds2 (j_ + 1))) (hend_ : ∀ kx_, spec_DrawBestAssembly_B1 N kx_ (n2 n_) (kx2 n_) (c2 n_) (setups2 n_) (holds2 n_) = res_) (fu_ : Nat) (hm_ : n_ < fu_) : spec_DrawBestAssembly_L1 N fu_ (n2 0) (kx2 0) (c2 0) (setups2 0) (holds2 0) = res_ := by
  exact loop_run (L := fun fu_ (x_ : Int × Int × ((List Int) × Int × Int) × (List Int) × (List Int)) => spec_DrawBestAssembly_L1 N fu_ x_.1 x_.2.1 x_.2.2.1 x_.2.2.2.1 x_.2.2.2.2) (B := fun kx_ x_ => spec_DrawBestAssembly_B1 N (fun n2 kx2 c2 setups2 holds2 => kx_ (n2, kx2, c2, setups2, holds2)) x_.1 x_.2.1 x_.2.2.1 x_.2.2.2.1 x_.2.2.2.2) (fun _ _ => rfl) (fun j_ => (n2 j_, kx2 j_, c2 j_, setups2 j_, holds2 j_)) n_ (fun j_ hi_ kx_ => hstep_ j_ hi_ _) (fun kx_ => hend_ _) fu_ hm_
def spec_DrawBestAssembly_K2 (N : Nat) (n1 : Int) (c1 : (List Int) × Int × Int) (setups1 : List Int) (holds1 : List Int) : Option (((List Int) × (List Int) × (List Int)) × Unit) :=
  spec_DrawBestAssembly_L1 N N n1 1 c1 setups1 holds1
def spec_DrawBestAssembly_B2 (N : Nat) (kx1 : Int → Int → ((List Int) × Int × Int) → (List Int) → (List Int) → Option (((List Int) × (List Int) × (List Int)) × Unit)) (n : Int) (kx : Int) (c : (List Int) × Int × Int) (setups : List Int) (holds : List Int) : Option (((List Int) × (List Int) × (List Int)) × Unit) :=
  bif ilt kx n then
    (pspec_l1Cur_among N c [5, 8, 3, 12, 0, 20]).bind fun r2 =>
    chk (fitB (setups.length + 1) 8) <|
    kx1 n (iadd .i64 kx 1) r2.2 (setups ++ [r2.1]) holds
  else
    spec_DrawBestAssembly_K2 N n c setups holds
def spec_DrawBestAssembly_L2 (N fu_ : Nat) (n : Int) (kx : Int) (c : (List Int) × Int × Int) (setups : List Int) (holds : List Int) : Option (((List Int) × (List Int) × (List Int)) × Unit) :=
  iterK fu_ (fun kx1 (v_ : (Int × Int × Unit) × (((List Int) × Int × Int) × (List Int) × (List Int) × Unit)) => spec_DrawBestAssembly_B2 N (fun n kx c setups holds => kx1 ((n, kx, ()), (c, setups, holds, ()))) v_.1.1 v_.1.2.1 v_.2.1 v_.2.2.1 v_.2.2.2.1) ((n, kx, ()), (c, setups, holds, ()))
theorem spec_DrawBestAssembly_L2_succ (N fu_ : Nat) (n : Int) (kx : Int) (c : (List Int) × Int × Int) (setups : List Int) (holds : List Int) : spec_DrawBestAssembly_L2 N (fu_ + 1) n kx c setups holds = spec_DrawBestAssembly_B2 N (fun n kx c setups holds => spec_DrawBestAssembly_L2 N fu_ n kx c setups holds) n kx c setups holds := rfl
theorem spec_DrawBestAssembly_L2_run (N : Nat) (n : Nat → Int) (kx : Nat → Int) (c : Nat → ((List Int) × Int × Int)) (setups : Nat → (List Int)) (holds : Nat → (List Int)) (n_ : Nat) {res_ : Option (((List Int) × (List Int) × (List Int)) × Unit)} (hstep_ : ∀ j_, j_ < n_ → ∀ kx_, spec_DrawBestAssembly_B2 N kx_ (n j_) (kx j_) (c j_) (setups j_) (holds j_) = kx_ (n (j_ + 1)) (kx (j_ + 1)) (c (j_ + 1)) (setups (j_ + 1)) (holds (j_ + 1))) (hend_ : ∀ kx_, spec_DrawBestAssembly_B2 N kx_ (n n_) (kx n_) (c n_) (setups n_) (holds n_) = res_) (fu_ : Nat) (hm_ : n_ < fu_) : spec_DrawBestAssembly_L2 N fu_ (n 0) (kx 0) (c 0) (setups 0) (holds 0) = res_ := by
  exact loop_run (L := fun fu_ (x_ : Int × Int × ((List Int) × Int × Int) × (List Int) × (List Int)) => spec_DrawBestAssembly_L2 N fu_ x_.1 x_.2.1 x_.2.2.1 x_.2.2.2.1 x_.2.2.2.2) (B := fun kx_ x_ => spec_DrawBestAssembly_B2 N (fun n kx c setups holds => kx_ (n, kx, c, setups, holds)) x_.1 x_.2.1 x_.2.2.1 x_.2.2.2.1 x_.2.2.2.2) (fun _ _ => rfl) (fun j_ => (n j_, kx j_, c j_, setups j_, holds j_)) n_ (fun j_ hi_ kx_ => hstep_ j_ hi_ _) (fun kx_ => hend_ _) fu_ hm_
def spec_DrawBestAssembly (N : Nat) (code : List Int) : Option (((List Int) × (List Int) × (List Int)) × Unit) :=
  (pspec_l1Cur_among N (code, (0, 0)) [3, 4, 2, 5, 9]).bind fun r =>
  (pspec_l1Cur_among N r.2 [2, 3, 1, 3]).bind fun r1 =>
  spec_DrawBestAssembly_L2 N N r1.1 0 r1.2 [] [r.1]
def laws_vCut (N : Nat) (code : List Int) (n : Int) : Option ((List Int) × Unit) :=
  bif ilt (len code) n then
    chk (cutB (len code) (len code) code.length) <|
    chk (fitB (0 + (cut code (len code) (len code)).length) 1) <|
    chk (fitB ((cut code (len code) (len code)).length + 1) 1) <|
    some ((cut code (len code) (len code)) ++ [icv .u8 (len code)], ())
  else
    chk (cutB n (len code) code.length) <|
    chk (fitB (0 + (cut code n (len code)).length) 1) <|
    chk (fitB ((cut code n (len code)).length + 1) 1) <|
    some ((cut code n (len code)) ++ [icv .u8 n], ())
def laws_vInts_K1 (N : Nat) : Option (Bool × Unit) :=
  some (true, ())
def laws_vInts_B1 (N : Nat) (kx : (List Int) → (List Int) → Int → Option (Bool × Unit)) (a1 : List Int) (b1 : List Int) (i : Int) : Option (Bool × Unit) :=
  bif ilt i (len a1) then
    chk (inB i a1.length) <|
    chk (inB i b1.length) <|
    bif ine (gd a1 i.toNat 0) (gd b1 i.toNat 0) then
      some (false, ())
    else
      kx a1 b1 (iadd .i64 i 1)
  else
    laws_vInts_K1 N
def laws_vInts_L1 (N fu_ : Nat) (a1 : List Int) (b1 : List Int) (i : Int) : Option (Bool × Unit) :=
  iterK fu_ (fun kx (v_ : ((List Int) × (List Int) × Int × Unit) × (Unit)) => laws_vInts_B1 N (fun a1 b1 i => kx ((a1, b1, i, ()), ())) v_.1.1 v_.1.2.1 v_.1.2.2.1) ((a1, b1, i, ()), ())
theorem laws_vInts_L1_succ (N fu_ : Nat) (a1 : List Int) (b1 : List Int) (i : Int) : laws_vInts_L1 N (fu_ + 1) a1 b1 i = laws_vInts_B1 N (fun a1 b1 i => laws_vInts_L1 N fu_ a1 b1 i) a1 b1 i := rfl
theorem laws_vInts_L1_run (N : Nat) (a1 : Nat → (List Int)) (b1 : Nat → (List Int)) (i : Nat → Int) (n_ : Nat) {res_ : Option (Bool × Unit)} (hstep_ : ∀ j_, j_ < n_ → ∀ kx_, laws_vInts_B1 N kx_ (a1 j_) (b1 j_) (i j_) = kx_ (a1 (j_ + 1)) (b1 (j_ + 1)) (i (j_ + 1))) (hend_ : ∀ kx_, laws_vInts_B1 N kx_ (a1 n_) (b1 n_) (i n_) = res_) (fu_ : Nat) (hm_ : n_ < fu_) : laws_vInts_L1 N fu_ (a1 0) (b1 0) (i 0) = res_ := by
  exact loop_run (L := fun fu_ (x_ : (List Int) × (List Int) × Int) => laws_vInts_L1 N fu_ x_.1 x_.2.1 x_.2.2) (B := fun kx_ x_ => laws_vInts_B1 N (fun a1 b1 i => kx_ (a1, b1, i)) x_.1 x_.2.1 x_.2.2) (fun _ _ => rfl) (fun j_ => (a1 j_, b1 j_, i j_)) n_ (fun j_ hi_ kx_ => hstep_ j_ hi_ _) (fun kx_ => hend_ _) fu_ hm_
def laws_vInts (N : Nat) (a : List Int) (b : List Int) : Option (Bool × Unit) :=
  bif ine (len a) (len b) then
    some (false, ())
  else
    laws_vInts_L1 N N a b 0
def laws_vCase (N : Nat) (a : (List Int) × (List Int) × (List Int) × (List Int)) (b : (List Int) × (List Int) × (List Int) × (List Int)) : Option (Bool × Unit) :=
  (laws_vInts N a.1 b.1).bind fun r =>
  bif r.1 then
    (laws_vInts N a.2.1 b.2.1).bind fun r1 =>
    bif r1.1 then
      (laws_vInts N a.2.2.1 b.2.2.1).bind fun r2 =>
      bif r2.1 then
        (laws_vInts N a.2.2.2 b.2.2.2).bind fun r3 =>
        some (r3.1, ())
      else
        some (false, ())
    else
      some (false, ())
  else
    some (false, ())
def impl_Case_best_K1 (N : Nat) (kx : Int → Int → Int → ((List Int) × (List Int) × (List Int) × (List Int)) → (List Int) → Option (((List Int) × Int) × Unit)) (least3 : Int) (cost : Int) (before : Bool) (v163 : Int) (v173 : Int) (c4 : (List Int) × (List Int) × (List Int) × (List Int)) (best3 : List Int) (periods2 : List Int) : Option (((List Int) × Int) × Unit) :=
  bif ilt least3 0 then
    kx cost v163 (iadd .i64 v173 1) c4 periods2
  else
    bif ilt cost least3 then
      kx cost v163 (iadd .i64 v173 1) c4 periods2
    else
      bif ieq cost least3 then
        bif before then
          kx cost v163 (iadd .i64 v173 1) c4 periods2
        else
          kx least3 v163 (iadd .i64 v173 1) c4 best3
      else
        kx least3 v163 (iadd .i64 v173 1) c4 best3
def impl_Case_best_K2 (N : Nat) (kx : Int → Int → Int → ((List Int) × (List Int) × (List Int) × (List Int)) → (List Int) → Option (((List Int) × Int) × Unit)) (least2 : Int) (v162 : Int) (v172 : Int) (c3 : (List Int) × (List Int) × (List Int) × (List Int)) (best2 : List Int) (periods1 : List Int) : Option (((List Int) × Int) × Unit) :=
  (impl_Case_planFrom N c3 periods1).bind fun r =>
  bif !r.1.2 then
    kx least2 v162 (iadd .i64 v172 1) c3 best2
  else
    (impl_Case_cost N c3 r.1.1).bind fun r1 =>
    bif ilt (len periods1) (len best2) then
      impl_Case_best_K1 N kx least2 r1.1 true v162 v172 c3 best2 periods1
    else
      bif ieq (len periods1) (len best2) then
        (slices_Compare_int_int N periods1 best2).bind fun r2 =>
        impl_Case_best_K1 N kx least2 r1.1 (ilt r2.1 0) v162 v172 c3 best2 periods1
      else
        impl_Case_best_K1 N kx least2 r1.1 false v162 v172 c3 best2 periods1
def impl_Case_best_B1 (N : Nat) (kx : Int → Int → Int → ((List Int) × (List Int) × (List Int) × (List Int)) → (List Int) → Option (((List Int) × Int) × Unit)) (kx1 : Int → Int → Int → Int → Int → Int → ((List Int) × (List Int) × (List Int) × (List Int)) → (List Int) → (List Int) → Option (((List Int) × Int) × Unit)) (least1 : Int) (setx : Int) (v161 : Int) (v171 : Int) (v23 : Int) (v24 : Int) (c2 : (List Int) × (List Int) × (List Int) × (List Int)) (best1 : List Int) (periods : List Int) : Option (((List Int) × Int) × Unit) :=
  bif ilt v24 v23 then
    chk (ile 0 v24) <|
    bif ieq (iand .i64 (ishr .i64 setx v24) 1) 1 then
      chk (fitB (periods.length + 1) 8) <|
      kx1 least1 setx v161 v171 v23 (iadd .i64 v24 1) c2 best1 (periods ++ [v24])
    else
      kx1 least1 setx v161 v171 v23 (iadd .i64 v24 1) c2 best1 periods
  else
    impl_Case_best_K2 N kx least1 v161 v171 c2 best1 periods
def impl_Case_best_L1 (N fu_ : Nat) (kx : Int → Int → Int → ((List Int) × (List Int) × (List Int) × (List Int)) → (List Int) → Option (((List Int) × Int) × Unit)) (least1 : Int) (setx : Int) (v161 : Int) (v171 : Int) (v23 : Int) (v24 : Int) (c2 : (List Int) × (List Int) × (List Int) × (List Int)) (best1 : List Int) (periods : List Int) : Option (((List Int) × Int) × Unit) :=
  iterK fu_ (fun kx1 (v_ : (Int × Int × Int × Int × Int × Int × Unit) × (((List Int) × (List Int) × (List Int) × (List Int)) × (List Int) × (List Int) × Unit)) => impl_Case_best_B1 N kx (fun least1 setx v161 v171 v23 v24 c2 best1 periods => kx1 ((least1, setx, v161, v171, v23, v24, ()), (c2, best1, periods, ()))) v_.1.1 v_.1.2.1 v_.1.2.2.1 v_.1.2.2.2.1 v_.1.2.2.2.2.1 v_.1.2.2.2.2.2.1 v_.2.1 v_.2.2.1 v_.2.2.2.1) ((least1, setx, v161, v171, v23, v24, ()), (c2, best1, periods, ()))
theorem impl_Case_best_L1_succ (N fu_ : Nat) (kx : Int → Int → Int → ((List Int) × (List Int) × (List Int) × (List Int)) → (List Int) → Option (((List Int) × Int) × Unit)) (least1 : Int) (setx : Int) (v161 : Int) (v171 : Int) (v23 : Int) (v24 : Int) (c2 : (List Int) × (List Int) × (List Int) × (List Int)) (best1 : List Int) (periods : List Int) : impl_Case_best_L1 N (fu_ + 1) kx least1 setx v161 v171 v23 v24 c2 best1 periods = impl_Case_best_B1 N kx (fun least1 setx v161 v171 v23 v24 c2 best1 periods => impl_Case_best_L1 N fu_ kx least1 setx v161 v171 v23 v24 c2 best1 periods) least1 setx v161 v171 v23 v24 c2 best1 periods := rfl
theorem impl_Case_best_L1_run (N : Nat) (kx : Int → Int → Int → ((List Int) × (List Int) × (List Int) × (List Int)) → (List Int) → Option (((List Int) × Int) × Unit)) (least1 : Nat → Int) (setx : Nat → Int) (v161 : Nat → Int) (v171 : Nat → Int) (v23 : Nat → Int) (v24 : Nat → Int) (c2 : Nat → ((List Int) × (List Int) × (List Int) × (List Int))) (best1 : Nat → (List Int)) (periods : Nat → (List Int)) (n_ : Nat) {res_ : Option (((List Int) × Int) × Unit)} (hstep_ : ∀ j_, j_ < n_ → ∀ kx_, impl_Case_best_B1 N kx kx_ (least1 j_) (setx j_) (v161 j_) (v171 j_) (v23 j_) (v24 j_) (c2 j_) (best1 j_) (periods j_) = kx_ (least1 (j_ + 1)) (setx (j_ + 1)) (v161 (j_ + 1)) (v171 (j_ + 1)) (v23 (j_ + 1)) (v24 (j_ + 1)) (c2 (j_ + 1)) (best1 (j_ + 1)) (periods (j_ + 1))) (hend_ : ∀ kx_, impl_Case_best_B1 N kx kx_ (least1 n_) (setx n_) (v161 n_) (v171 n_) (v23 n_) (v24 n_) (c2 n_) (best1 n_) (periods n_) = res_) (fu_ : Nat) (hm_ : n_ < fu_) : impl_Case_best_L1 N fu_ kx (least1 0) (setx 0) (v161 0) (v171 0) (v23 0) (v24 0) (c2 0) (best1 0) (periods 0) = res_ := by
  exact loop_run (L := fun fu_ (x_ : Int × Int × Int × Int × Int × Int × ((List Int) × (List Int) × (List Int) × (List Int)) × (List Int) × (List Int)) => impl_Case_best_L1 N fu_ kx x_.1 x_.2.1 x_.2.2.1 x_.2.2.2.1 x_.2.2.2.2.1 x_.2.2.2.2.2.1 x_.2.2.2.2.2.2.1 x_.2.2.2.2.2.2.2.1 x_.2.2.2.2.2.2.2.2) (B := fun kx_ x_ => impl_Case_best_B1 N kx (fun least1 setx v161 v171 v23 v24 c2 best1 periods => kx_ (least1, setx, v161, v171, v23, v24, c2, best1, periods)) x_.1 x_.2.1 x_.2.2.1 x_.2.2.2.1 x_.2.2.2.2.1 x_.2.2.2.2.2.1 x_.2.2.2.2.2.2.1 x_.2.2.2.2.2.2.2.1 x_.2.2.2.2.2.2.2.2) (fun _ _ => rfl) (fun j_ => (least1 j_, setx j_, v161 j_, v171 j_, v23 j_, v24 j_, c2 j_, best1 j_, periods j_)) n_ (fun j_ hi_ kx_ => hstep_ j_ hi_ _) (fun kx_ => hend_ _) fu_ hm_
def impl_Case_best_K3 (N : Nat) (least4 : Int) (best4 : List Int) : Option (((List Int) × Int) × Unit) :=
  some ((best4, least4), ())
def impl_Case_best_B2 (N : Nat) (kx : Int → Int → Int → ((List Int) × (List Int) × (List Int) × (List Int)) → (List Int) → Option (((List Int) × Int) × Unit)) (least : Int) (v16 : Int) (v17 : Int) (c1 : (List Int) × (List Int) × (List Int) × (List Int)) (best : List Int) : Option (((List Int) × Int) × Unit) :=
  bif ilt v17 v16 then
    impl_Case_best_L1 N N kx least v17 v16 v17 (len c1.1) 0 c1 best []
  else
    impl_Case_best_K3 N least best
def impl_Case_best_L2 (N fu_ : Nat) (least : Int) (v16 : Int) (v17 : Int) (c1 : (List Int) × (List Int) × (List Int) × (List Int)) (best : List Int) : Option (((List Int) × Int) × Unit) :=
  iterK fu_ (fun kx (v_ : (Int × Int × Int × Unit) × (((List Int) × (List Int) × (List Int) × (List Int)) × (List Int) × Unit)) => impl_Case_best_B2 N (fun least v16 v17 c1 best => kx ((least, v16, v17, ()), (c1, best, ()))) v_.1.1 v_.1.2.1 v_.1.2.2.1 v_.2.1 v_.2.2.1) ((least, v16, v17, ()), (c1, best, ()))
theorem impl_Case_best_L2_succ (N fu_ : Nat) (least : Int) (v16 : Int) (v17 : Int) (c1 : (List Int) × (List Int) × (List Int) × (List Int)) (best : List Int) : impl_Case_best_L2 N (fu_ + 1) least v16 v17 c1 best = impl_Case_best_B2 N (fun least v16 v17 c1 best => impl_Case_best_L2 N fu_ least v16 v17 c1 best) least v16 v17 c1 best := rfl
theorem impl_Case_best_L2_run (N : Nat) (least : Nat → Int) (v16 : Nat → Int) (v17 : Nat → Int) (c1 : Nat → ((List Int) × (List Int) × (List Int) × (List Int))) (best : Nat → (List Int)) (n_ : Nat) {res_ : Option (((List Int) × Int) × Unit)} (hstep_ : ∀ j_, j_ < n_ → ∀ kx_, impl_Case_best_B2 N kx_ (least j_) (v16 j_) (v17 j_) (c1 j_) (best j_) = kx_ (least (j_ + 1)) (v16 (j_ + 1)) (v17 (j_ + 1)) (c1 (j_ + 1)) (best (j_ + 1))) (hend_ : ∀ kx_, impl_Case_best_B2 N kx_ (least n_) (v16 n_) (v17 n_) (c1 n_) (best n_) = res_) (fu_ : Nat) (hm_ : n_ < fu_) : impl_Case_best_L2 N fu_ (least 0) (v16 0) (v17 0) (c1 0) (best 0) = res_ := by
  exact loop_run (L := fun fu_ (x_ : Int × Int × Int × ((List Int) × (List Int) × (List Int) × (List Int)) × (List Int)) => impl_Case_best_L2 N fu_ x_.1 x_.2.1 x_.2.2.1 x_.2.2.2.1 x_.2.2.2.2) (B := fun kx_ x_ => impl_Case_best_B2 N (fun least v16 v17 c1 best => kx_ (least, v16, v17, c1, best)) x_.1 x_.2.1 x_.2.2.1 x_.2.2.2.1 x_.2.2.2.2) (fun _ _ => rfl) (fun j_ => (least j_, v16 j_, v17 j_, c1 j_, best j_)) n_ (fun j_ hi_ kx_ => hstep_ j_ hi_ _) (fun kx_ => hend_ _) fu_ hm_
def impl_Case_best (N : Nat) (c : (List Int) × (List Int) × (List Int) × (List Int)) : Option (((List Int) × Int) × Unit) :=
  chk (ile 0 (len c.1)) <|
  impl_Case_best_L2 N N (-1) (ishl .i64 1 (len c.1)) 0 c []
def impl_IsCase (N : Nat) (c : (List Int) × (List Int) × (List Int) × (List Int)) : Option (Bool × Unit) :=
  bif ile (len c.1) 8 then
    bif ieq (len c.2.1) (len c.1) then
      bif ieq (len c.2.2.1) (len c.1) then
        bif ieq (len c.2.2.2) (len c.1) then
          (impl_allWithin N c.1 0 20).bind fun r =>
          bif r.1 then
            (impl_allWithin N c.2.1 0 99).bind fun r1 =>
            bif r1.1 then
              (impl_allWithin N c.2.2.1 0 9).bind fun r2 =>
              bif r2.1 then
                (impl_allWithin N c.2.2.2 0 9).bind fun r3 =>
                some (r3.1, ())
              else
                some (false, ())
            else
              some (false, ())
          else
            some (false, ())
        else
          some (false, ())
      else
        some (false, ())
    else
      some (false, ())
  else
    some (false, ())
def impl_BestCost (N : Nat) (c : (List Int) × (List Int) × (List Int) × (List Int)) : Option ((Int × Bool) × Unit) :=
  (impl_IsCase N c).bind fun r =>
  bif !r.1 then
    some ((0, false), ())
  else
    (impl_Case_best N c).bind fun r1 =>
    some ((r1.1.2, true), ())
def laws_FnAssemblies_K1 (N : Nat) (need3 : List Int) (setups3 : List Int) (holds3 : List Int) (cost3 : Int) : Option (Bool × Unit) :=
  chk (cutB 0 1 setups3.length) <|
  chk (cutB 0 1 holds3.length) <|
  (impl_BestChainCost N (need3, (cut setups3 0 1, cut holds3 0 1))).bind fun r12 =>
  bif r12.1.2 then
    bif ilt 1 (len setups3) then
      some (ile r12.1.1 cost3, ())
    else
      bif ieq cost3 r12.1.1 then
        some (ile r12.1.1 cost3, ())
      else
        some (false, ())
  else
    some (false, ())
def laws_FnAssemblies_B1 (N : Nat) (kx1 : (List Int) → (List Int) → (List Int) → Int → Int → Option (Bool × Unit)) (need2 : List Int) (setups2 : List Int) (holds2 : List Int) (cost2 : Int) (i : Int) : Option (Bool × Unit) :=
  bif ilt i (len setups2) then
    chk (inB i setups2.length) <|
    chk (inB 0 setups2.length) <|
    chk (inB i holds2.length) <|
    chk (inB 0 holds2.length) <|
    (impl_BestChainCost N (need2, ([gd setups2 i.toNat 0, gd setups2 0 0], [gd holds2 i.toNat 0, gd holds2 0 0]))).bind fun r11 =>
    bif !r11.1.2 then
      some (false, ())
    else
      bif ilt cost2 r11.1.1 then
        some (false, ())
      else
        bif ieq (len setups2) 2 then
          bif ine cost2 r11.1.1 then
            some (false, ())
          else
            kx1 need2 setups2 holds2 cost2 (iadd .i64 i 1)
        else
          kx1 need2 setups2 holds2 cost2 (iadd .i64 i 1)
  else
    laws_FnAssemblies_K1 N need2 setups2 holds2 cost2
def laws_FnAssemblies_L1 (N fu_ : Nat) (need2 : List Int) (setups2 : List Int) (holds2 : List Int) (cost2 : Int) (i : Int) : Option (Bool × Unit) :=
  iterK fu_ (fun kx1 (v_ : ((List Int) × (List Int) × (List Int) × Int × Int × Unit) × (Unit)) => laws_FnAssemblies_B1 N (fun need2 setups2 holds2 cost2 i => kx1 ((need2, setups2, holds2, cost2, i, ()), ())) v_.1.1 v_.1.2.1 v_.1.2.2.1 v_.1.2.2.2.1 v_.1.2.2.2.2.1) ((need2, setups2, holds2, cost2, i, ()), ())
theorem laws_FnAssemblies_L1_succ (N fu_ : Nat) (need2 : List Int) (setups2 : List Int) (holds2 : List Int) (cost2 : Int) (i : Int) : laws_FnAssemblies_L1 N (fu_ + 1) need2 setups2 holds2 cost2 i = laws_FnAssemblies_B1 N (fun need2 setups2 holds2 cost2 i => laws_FnAssemblies_L1 N fu_ need2 setups2 holds2 cost2 i) need2 setups2 holds2 cost2 i := rfl
theorem laws_FnAssemblies_L1_run (N : Nat) (need2 : Nat → (List Int)) (setups2 : Nat → (List Int)) (holds2 : Nat → (List Int)) (cost2 : Nat → Int) (i : Nat → Int) (n_ : Nat) {res_ : Option (Bool × Unit)} (hstep_ : ∀ j_, j_ < n_ → ∀ kx_, laws_FnAssemblies_B1 N kx_ (need2 j_) (setups2 j_) (holds2 j_) (cost2 j_) (i j_) = kx_ (need2 (j_ + 1)) (setups2 (j_ + 1)) (holds2 (j_ + 1)) (cost2 (j_ + 1)) (i (j_ + 1))) (hend_ : ∀ kx_, laws_FnAssemblies_B1 N kx_ (need2 n_) (setups2 n_) (holds2 n_) (cost2 n_) (i n_) = res_) (fu_ : Nat) (hm_ : n_ < fu_) : laws_FnAssemblies_L1 N fu_ (need2 0) (setups2 0) (holds2 0) (cost2 0) (i 0) = res_ := by
  exact loop_run (L := fun fu_ (x_ : (List Int) × (List Int) × (List Int) × Int × Int) => laws_FnAssemblies_L1 N fu_ x_.1 x_.2.1 x_.2.2.1 x_.2.2.2.1 x_.2.2.2.2) (B := fun kx_ x_ => laws_FnAssemblies_B1 N (fun need2 setups2 holds2 cost2 i => kx_ (need2, setups2, holds2, cost2, i)) x_.1 x_.2.1 x_.2.2.1 x_.2.2.2.1 x_.2.2.2.2) (fun _ _ => rfl) (fun j_ => (need2 j_, setups2 j_, holds2 j_, cost2 j_, i j_)) n_ (fun j_ hi_ kx_ => hstep_ j_ hi_ _) (fun kx_ => hend_ _) fu_ hm_
def laws_FnAssemblies_K2 (N : Nat) (need1 : List Int) (setups1 : List Int) (holds1 : List Int) (cost1 : Int) (fine1 : Bool) : Option (Bool × Unit) :=
  bif !fine1 then
    some (true, ())
  else
    laws_FnAssemblies_L1 N N need1 setups1 holds1 cost1 1
def laws_FnAssemblies_K3 (N : Nat) (need : List Int) (setups : List Int) (holds : List Int) (cost : Int) (fine : Bool) (v90 : Bool) (c : (List Int) × (List Int) × (List Int)) (kx : (List Int) × (List Int) × (List Int) × (List Int)) : Option (Bool × Unit) :=
  bif v90 then
    (impl_BestCost N kx).bind fun r9 =>
    (impl_BestChainCost N c).bind fun r10 =>
    bif ine r9.1.1 r10.1.1 then
      some (false, ())
    else
      laws_FnAssemblies_K2 N need setups holds cost fine
  else
    laws_FnAssemblies_K2 N need setups holds cost fine
def laws_FnAssemblies (N : Nat) (code : List Int) : Option (Bool × Unit) :=
  (laws_vBig N code).bind fun r =>
  bif r.1 then
    some (true, ())
  else
    (spec_DrawStageCase N code).bind fun r1 =>
    (impl_StageCase N r1.1.1 r1.1.2).bind fun r2 =>
    (spec_StageCase N r1.1.1 r1.1.2).bind fun r3 =>
    (laws_vCut N code 1).bind fun r4 =>
    (spec_DrawBestAssembly N r4.1).bind fun r5 =>
    (impl_BestAssembly N r5.1.1 r5.1.2.1 r5.1.2.2).bind fun r6 =>
    (spec_BestAssembly N r5.1.1 r5.1.2.1 r5.1.2.2).bind fun r7 =>
    bif !(Go.Rx.beq r2.1.2 r3.1.2) then
      some (false, ())
    else
      (laws_vCase N r2.1.1 r3.1.1).bind fun r8 =>
      bif !r8.1 then
        some (false, ())
      else
        bif ine r6.1.1 r7.1.1 then
          some (false, ())
        else
          bif !(Go.Rx.beq r6.1.2 r7.1.2) then
            some (false, ())
          else
            bif r2.1.2 then
              laws_FnAssemblies_K3 N r5.1.1 r5.1.2.1 r5.1.2.2 r6.1.1 r6.1.2 (ieq (len r1.1.1.2.1) 1) r1.1.1 r2.1.1
            else
              laws_FnAssemblies_K3 N r5.1.1 r5.1.2.1 r5.1.2.2 r6.1.1 r6.1.2 false r1.1.1 r2.1.1
end Px
end Go.Rx
