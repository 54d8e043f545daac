/- This text defines the plain functions that the Go functions behind FnExactBestAssembly compute; no condition. -/
import Derived.Test.YtkkmjhibacgmfaaRxd
set_option linter.unusedVariables false
set_option linter.unusedSimpArgs false
namespace Go.Rx
namespace Px
def spec_l1In (N : Nat) (x : Int) (a : Int) (b : Int) : Option (Bool × Unit) :=
  bif ile a x then
    some (ile x b, ())
  else
    some (false, ())
def spec_l2Row_K1 (N : Nat) (row2 : List Int) (n2 : Int) : Option (Bool × Unit) :=
  some (ieq (len row2) n2, ())
def spec_l2Row_B1 (N : Nat) (kx : (List Int) → Int → Int → Int → Option (Bool × Unit)) (row1 : List Int) (n1 : Int) (most1 : Int) (i : Int) : Option (Bool × Unit) :=
  bif ilt i (len row1) then
    chk (inB i row1.length) <|
    (spec_l1In N (gd row1 i.toNat 0) 0 most1).bind fun r =>
    bif !r.1 then
      some (false, ())
    else
      kx row1 n1 most1 (iadd .i64 i 1)
  else
    spec_l2Row_K1 N row1 n1
def spec_l2Row_L1 (N fu_ : Nat) (row1 : List Int) (n1 : Int) (most1 : Int) (i : Int) : Option (Bool × Unit) :=
  iterK fu_ (fun kx (v_ : ((List Int) × Int × Int × Int × Unit) × (Unit)) => spec_l2Row_B1 N (fun row1 n1 most1 i => kx ((row1, n1, most1, i, ()), ())) v_.1.1 v_.1.2.1 v_.1.2.2.1 v_.1.2.2.2.1) ((row1, n1, most1, i, ()), ())
theorem spec_l2Row_L1_succ (N fu_ : Nat) (row1 : List Int) (n1 : Int) (most1 : Int) (i : Int) : spec_l2Row_L1 N (fu_ + 1) row1 n1 most1 i = spec_l2Row_B1 N (fun row1 n1 most1 i => spec_l2Row_L1 N fu_ row1 n1 most1 i) row1 n1 most1 i := rfl
theorem spec_l2Row_L1_run (N : Nat) (row1 : Nat → (List Int)) (n1 : Nat → Int) (most1 : Nat → Int) (i : Nat → Int) (n_ : Nat) {res_ : Option (Bool × Unit)} (hstep_ : ∀ j_, j_ < n_ → ∀ kx_, spec_l2Row_B1 N kx_ (row1 j_) (n1 j_) (most1 j_) (i j_) = kx_ (row1 (j_ + 1)) (n1 (j_ + 1)) (most1 (j_ + 1)) (i (j_ + 1))) (hend_ : ∀ kx_, spec_l2Row_B1 N kx_ (row1 n_) (n1 n_) (most1 n_) (i n_) = res_) (fu_ : Nat) (hm_ : n_ < fu_) : spec_l2Row_L1 N fu_ (row1 0) (n1 0) (most1 0) (i 0) = res_ := by
  exact loop_run (L := fun fu_ (x_ : (List Int) × Int × Int × Int) => spec_l2Row_L1 N fu_ x_.1 x_.2.1 x_.2.2.1 x_.2.2.2) (B := fun kx_ x_ => spec_l2Row_B1 N (fun row1 n1 most1 i => kx_ (row1, n1, most1, i)) x_.1 x_.2.1 x_.2.2.1 x_.2.2.2) (fun _ _ => rfl) (fun j_ => (row1 j_, n1 j_, most1 j_, i j_)) n_ (fun j_ hi_ kx_ => hstep_ j_ hi_ _) (fun kx_ => hend_ _) fu_ hm_
def spec_l2Row (N : Nat) (row : List Int) (n : Int) (most : Int) : Option (Bool × Unit) :=
  spec_l2Row_L1 N N row n most 0
def spec_l2Sum_K1 (N : Nat) (sum1 : Int) : Option (Int × Unit) :=
  some (sum1, ())
def spec_l2Sum_B1 (N : Nat) (kx : (List Int) → Int → Int → Option (Int × Unit)) (list1 : List Int) (sum : Int) (i : Int) : Option (Int × Unit) :=
  bif ilt i (len list1) then
    chk (inB i list1.length) <|
    kx list1 (iadd .i64 sum (gd list1 i.toNat 0)) (iadd .i64 i 1)
  else
    spec_l2Sum_K1 N sum
def spec_l2Sum_L1 (N fu_ : Nat) (list1 : List Int) (sum : Int) (i : Int) : Option (Int × Unit) :=
  iterK fu_ (fun kx (v_ : ((List Int) × Int × Int × Unit) × (Unit)) => spec_l2Sum_B1 N (fun list1 sum i => kx ((list1, sum, i, ()), ())) v_.1.1 v_.1.2.1 v_.1.2.2.1) ((list1, sum, i, ()), ())
theorem spec_l2Sum_L1_succ (N fu_ : Nat) (list1 : List Int) (sum : Int) (i : Int) : spec_l2Sum_L1 N (fu_ + 1) list1 sum i = spec_l2Sum_B1 N (fun list1 sum i => spec_l2Sum_L1 N fu_ list1 sum i) list1 sum i := rfl
theorem spec_l2Sum_L1_run (N : Nat) (list1 : Nat → (List Int)) (sum : Nat → Int) (i : Nat → Int) (n_ : Nat) {res_ : Option (Int × Unit)} (hstep_ : ∀ j_, j_ < n_ → ∀ kx_, spec_l2Sum_B1 N kx_ (list1 j_) (sum j_) (i j_) = kx_ (list1 (j_ + 1)) (sum (j_ + 1)) (i (j_ + 1))) (hend_ : ∀ kx_, spec_l2Sum_B1 N kx_ (list1 n_) (sum n_) (i n_) = res_) (fu_ : Nat) (hm_ : n_ < fu_) : spec_l2Sum_L1 N fu_ (list1 0) (sum 0) (i 0) = res_ := by
  exact loop_run (L := fun fu_ (x_ : (List Int) × Int × Int) => spec_l2Sum_L1 N fu_ x_.1 x_.2.1 x_.2.2) (B := fun kx_ x_ => spec_l2Sum_B1 N (fun list1 sum i => kx_ (list1, sum, i)) x_.1 x_.2.1 x_.2.2) (fun _ _ => rfl) (fun j_ => (list1 j_, sum j_, i j_)) n_ (fun j_ hi_ kx_ => hstep_ j_ hi_ _) (fun kx_ => hend_ _) fu_ hm_
def spec_l2Sum (N : Nat) (list : List Int) : Option (Int × Unit) :=
  spec_l2Sum_L1 N N list 0 0
def spec_l7Parts (N : Nat) (need : List Int) (setups : List Int) (holds : List Int) : Option (Bool × Unit) :=
  bif ilt 6 (len need) then
    some (false, ())
  else
    (spec_l2Row N need (len need) 20).bind fun r =>
    bif !r.1 then
      some (false, ())
    else
      (spec_l1In N (len setups) 1 3).bind fun r1 =>
      bif !r1.1 then
        some (false, ())
      else
        (spec_l2Row N setups (len setups) 99).bind fun r2 =>
        bif r2.1 then
          (spec_l2Row N holds (len setups) 9).bind fun r3 =>
          bif r3.1 then
            chk (inB 0 holds.length) <|
            chk (cutB 1 (len holds) holds.length) <|
            (spec_l2Sum N (cut holds 1 (len holds))).bind fun r4 =>
            some (ile r4.1 (gd holds 0 0), ())
          else
            some (false, ())
        else
          some (false, ())
def spec_l2Bits_K1 (N : Nat) (out1 : List Int) : Option ((List Int) × Unit) :=
  some (out1, ())
def spec_l2Bits_B1 (N : Nat) (kx : Int → Int → Int → (List Int) → Option ((List Int) × Unit)) (n1 : Int) (code1 : Int) (x : Int) (out : List Int) : Option ((List Int) × Unit) :=
  bif ilt x n1 then
    chk (ile 0 x) <|
    bif ieq (iand .i64 (ishr .i64 code1 x) 1) 1 then
      chk (fitB (out.length + 1) 8) <|
      kx n1 code1 (iadd .i64 x 1) (out ++ [x])
    else
      kx n1 code1 (iadd .i64 x 1) out
  else
    spec_l2Bits_K1 N out
def spec_l2Bits_L1 (N fu_ : Nat) (n1 : Int) (code1 : Int) (x : Int) (out : List Int) : Option ((List Int) × Unit) :=
  iterK fu_ (fun kx (v_ : (Int × Int × Int × Unit) × ((List Int) × Unit)) => spec_l2Bits_B1 N (fun n1 code1 x out => kx ((n1, code1, x, ()), (out, ()))) v_.1.1 v_.1.2.1 v_.1.2.2.1 v_.2.1) ((n1, code1, x, ()), (out, ()))
theorem spec_l2Bits_L1_succ (N fu_ : Nat) (n1 : Int) (code1 : Int) (x : Int) (out : List Int) : spec_l2Bits_L1 N (fu_ + 1) n1 code1 x out = spec_l2Bits_B1 N (fun n1 code1 x out => spec_l2Bits_L1 N fu_ n1 code1 x out) n1 code1 x out := rfl
theorem spec_l2Bits_L1_run (N : Nat) (n1 : Nat → Int) (code1 : Nat → Int) (x : Nat → Int) (out : Nat → (List Int)) (n_ : Nat) {res_ : Option ((List Int) × Unit)} (hstep_ : ∀ j_, j_ < n_ → ∀ kx_, spec_l2Bits_B1 N kx_ (n1 j_) (code1 j_) (x j_) (out j_) = kx_ (n1 (j_ + 1)) (code1 (j_ + 1)) (x (j_ + 1)) (out (j_ + 1))) (hend_ : ∀ kx_, spec_l2Bits_B1 N kx_ (n1 n_) (code1 n_) (x n_) (out n_) = res_) (fu_ : Nat) (hm_ : n_ < fu_) : spec_l2Bits_L1 N fu_ (n1 0) (code1 0) (x 0) (out 0) = res_ := by
  exact loop_run (L := fun fu_ (x_ : Int × Int × Int × (List Int)) => spec_l2Bits_L1 N fu_ x_.1 x_.2.1 x_.2.2.1 x_.2.2.2) (B := fun kx_ x_ => spec_l2Bits_B1 N (fun n1 code1 x out => kx_ (n1, code1, x, out)) x_.1 x_.2.1 x_.2.2.1 x_.2.2.2) (fun _ _ => rfl) (fun j_ => (n1 j_, code1 j_, x j_, out j_)) n_ (fun j_ hi_ kx_ => hstep_ j_ hi_ _) (fun kx_ => hend_ _) fu_ hm_
def spec_l2Bits (N : Nat) (n : Int) (code : Int) : Option ((List Int) × Unit) :=
  spec_l2Bits_L1 N N n code 0 []
def spec_l7Fed_K1 (N : Nat) : Option (Bool × Unit) :=
  some (true, ())
def spec_l7Fed_B1 (N : Nat) (kx : (List Int) → (List Int) → Int → Option (Bool × Unit)) (need1 : List Int) (periods1 : List Int) (t : Int) : Option (Bool × Unit) :=
  bif ilt t (len need1) then
    chk (inB t need1.length) <|
    bif ilt 0 (gd need1 t.toNat 0) then
      bif ilt 0 (len periods1) then
        chk (inB 0 periods1.length) <|
        some (ile (gd periods1 0 0) t, ())
      else
        some (false, ())
    else
      kx need1 periods1 (iadd .i64 t 1)
  else
    spec_l7Fed_K1 N
def spec_l7Fed_L1 (N fu_ : Nat) (need1 : List Int) (periods1 : List Int) (t : Int) : Option (Bool × Unit) :=
  iterK fu_ (fun kx (v_ : ((List Int) × (List Int) × Int × Unit) × (Unit)) => spec_l7Fed_B1 N (fun need1 periods1 t => kx ((need1, periods1, t, ()), ())) v_.1.1 v_.1.2.1 v_.1.2.2.1) ((need1, periods1, t, ()), ())
theorem spec_l7Fed_L1_succ (N fu_ : Nat) (need1 : List Int) (periods1 : List Int) (t : Int) : spec_l7Fed_L1 N (fu_ + 1) need1 periods1 t = spec_l7Fed_B1 N (fun need1 periods1 t => spec_l7Fed_L1 N fu_ need1 periods1 t) need1 periods1 t := rfl
theorem spec_l7Fed_L1_run (N : Nat) (need1 : Nat → (List Int)) (periods1 : Nat → (List Int)) (t : Nat → Int) (n_ : Nat) {res_ : Option (Bool × Unit)} (hstep_ : ∀ j_, j_ < n_ → ∀ kx_, spec_l7Fed_B1 N kx_ (need1 j_) (periods1 j_) (t j_) = kx_ (need1 (j_ + 1)) (periods1 (j_ + 1)) (t (j_ + 1))) (hend_ : ∀ kx_, spec_l7Fed_B1 N kx_ (need1 n_) (periods1 n_) (t n_) = res_) (fu_ : Nat) (hm_ : n_ < fu_) : spec_l7Fed_L1 N fu_ (need1 0) (periods1 0) (t 0) = res_ := by
  exact loop_run (L := fun fu_ (x_ : (List Int) × (List Int) × Int) => spec_l7Fed_L1 N fu_ x_.1 x_.2.1 x_.2.2) (B := fun kx_ x_ => spec_l7Fed_B1 N (fun need1 periods1 t => kx_ (need1, periods1, t)) x_.1 x_.2.1 x_.2.2) (fun _ _ => rfl) (fun j_ => (need1 j_, periods1 j_, t j_)) n_ (fun j_ hi_ kx_ => hstep_ j_ hi_ _) (fun kx_ => hend_ _) fu_ hm_
def spec_l7Fed (N : Nat) (need : List Int) (periods : List Int) : Option (Bool × Unit) :=
  spec_l7Fed_L1 N N need periods 0
def spec_l7Row_K1 (N : Nat) (kx : (List Int) → (List Int) → Int → (List Int) → Option ((List Int) × Unit)) (need2 : List Int) (periods2 : List Int) (i1 : Int) (endx : Int) (out1 : List Int) : Option ((List Int) × Unit) :=
  chk (inB i1 periods2.length) <|
  chk (inB i1 periods2.length) <|
  chk (cutB (gd periods2 i1.toNat 0) endx need2.length) <|
  (spec_l2Sum N (cut need2 (gd periods2 i1.toNat 0) endx)).bind fun r =>
  chk (inB (gd periods2 i1.toNat 0) out1.length) <|
  kx need2 periods2 (iadd .i64 i1 1) (List.set out1 (gd periods2 i1.toNat 0).toNat r.1)
def spec_l7Row_K2 (N : Nat) (out2 : List Int) : Option ((List Int) × Unit) :=
  some (out2, ())
def spec_l7Row_B1 (N : Nat) (kx : (List Int) → (List Int) → Int → (List Int) → Option ((List Int) × Unit)) (need1 : List Int) (periods1 : List Int) (i : Int) (out : List Int) : Option ((List Int) × Unit) :=
  bif ilt i (len periods1) then
    bif ilt (iadd .i64 i 1) (len periods1) then
      chk (inB (iadd .i64 i 1) periods1.length) <|
      spec_l7Row_K1 N kx need1 periods1 i (gd periods1 (iadd .i64 i 1).toNat 0) out
    else
      spec_l7Row_K1 N kx need1 periods1 i (len need1) out
  else
    spec_l7Row_K2 N out
def spec_l7Row_L1 (N fu_ : Nat) (need1 : List Int) (periods1 : List Int) (i : Int) (out : List Int) : Option ((List Int) × Unit) :=
  iterK fu_ (fun kx (v_ : ((List Int) × (List Int) × Int × Unit) × ((List Int) × Unit)) => spec_l7Row_B1 N (fun need1 periods1 i out => kx ((need1, periods1, i, ()), (out, ()))) v_.1.1 v_.1.2.1 v_.1.2.2.1 v_.2.1) ((need1, periods1, i, ()), (out, ()))
theorem spec_l7Row_L1_succ (N fu_ : Nat) (need1 : List Int) (periods1 : List Int) (i : Int) (out : List Int) : spec_l7Row_L1 N (fu_ + 1) need1 periods1 i out = spec_l7Row_B1 N (fun need1 periods1 i out => spec_l7Row_L1 N fu_ need1 periods1 i out) need1 periods1 i out := rfl
theorem spec_l7Row_L1_run (N : Nat) (need1 : Nat → (List Int)) (periods1 : Nat → (List Int)) (i : Nat → Int) (out : Nat → (List Int)) (n_ : Nat) {res_ : Option ((List Int) × Unit)} (hstep_ : ∀ j_, j_ < n_ → ∀ kx_, spec_l7Row_B1 N kx_ (need1 j_) (periods1 j_) (i j_) (out j_) = kx_ (need1 (j_ + 1)) (periods1 (j_ + 1)) (i (j_ + 1)) (out (j_ + 1))) (hend_ : ∀ kx_, spec_l7Row_B1 N kx_ (need1 n_) (periods1 n_) (i n_) (out n_) = res_) (fu_ : Nat) (hm_ : n_ < fu_) : spec_l7Row_L1 N fu_ (need1 0) (periods1 0) (i 0) (out 0) = res_ := by
  exact loop_run (L := fun fu_ (x_ : (List Int) × (List Int) × Int × (List Int)) => spec_l7Row_L1 N fu_ x_.1 x_.2.1 x_.2.2.1 x_.2.2.2) (B := fun kx_ x_ => spec_l7Row_B1 N (fun need1 periods1 i out => kx_ (need1, periods1, i, out)) x_.1 x_.2.1 x_.2.2.1 x_.2.2.2) (fun _ _ => rfl) (fun j_ => (need1 j_, periods1 j_, i j_, out j_)) n_ (fun j_ hi_ kx_ => hstep_ j_ hi_ _) (fun kx_ => hend_ _) fu_ hm_
def spec_l7Row (N : Nat) (need : List Int) (periods : List Int) : Option ((List Int) × Unit) :=
  chk (mkB (len need) 8) <|
  spec_l7Row_L1 N N need periods 0 (List.replicate (len need).toNat 0)
def spec_l7Single_K1 (N : Nat) (sum1 : Int) : Option (Int × Unit) :=
  some (sum1, ())
def spec_l7Single_B1 (N : Nat) (kx : (List Int) → Int → Int → Int → Int → Int → (List Int) → Option (Int × Unit)) (need1 : List Int) (setup1 : Int) (hold1 : Int) (sum : Int) (now : Int) (t : Int) (row : List Int) : Option (Int × Unit) :=
  bif ilt t (len need1) then
    chk (inB t row.length) <|
    chk (inB t need1.length) <|
    chk (inB t row.length) <|
    bif ilt 0 (gd row t.toNat 0) then
      kx need1 setup1 hold1 (iadd .i64 (iadd .i64 sum (imul .i64 hold1 (isub .i64 (iadd .i64 now (gd row t.toNat 0)) (gd need1 t.toNat 0)))) setup1) (isub .i64 (iadd .i64 now (gd row t.toNat 0)) (gd need1 t.toNat 0)) (iadd .i64 t 1) row
    else
      kx need1 setup1 hold1 (iadd .i64 sum (imul .i64 hold1 (isub .i64 (iadd .i64 now (gd row t.toNat 0)) (gd need1 t.toNat 0)))) (isub .i64 (iadd .i64 now (gd row t.toNat 0)) (gd need1 t.toNat 0)) (iadd .i64 t 1) row
  else
    spec_l7Single_K1 N sum
def spec_l7Single_L1 (N fu_ : Nat) (need1 : List Int) (setup1 : Int) (hold1 : Int) (sum : Int) (now : Int) (t : Int) (row : List Int) : Option (Int × Unit) :=
  iterK fu_ (fun kx (v_ : ((List Int) × Int × Int × Int × Int × Int × Unit) × ((List Int) × Unit)) => spec_l7Single_B1 N (fun need1 setup1 hold1 sum now t row => kx ((need1, setup1, hold1, sum, now, t, ()), (row, ()))) v_.1.1 v_.1.2.1 v_.1.2.2.1 v_.1.2.2.2.1 v_.1.2.2.2.2.1 v_.1.2.2.2.2.2.1 v_.2.1) ((need1, setup1, hold1, sum, now, t, ()), (row, ()))
theorem spec_l7Single_L1_succ (N fu_ : Nat) (need1 : List Int) (setup1 : Int) (hold1 : Int) (sum : Int) (now : Int) (t : Int) (row : List Int) : spec_l7Single_L1 N (fu_ + 1) need1 setup1 hold1 sum now t row = spec_l7Single_B1 N (fun need1 setup1 hold1 sum now t row => spec_l7Single_L1 N fu_ need1 setup1 hold1 sum now t row) need1 setup1 hold1 sum now t row := rfl
theorem spec_l7Single_L1_run (N : Nat) (need1 : Nat → (List Int)) (setup1 : Nat → Int) (hold1 : Nat → Int) (sum : Nat → Int) (now : Nat → Int) (t : Nat → Int) (row : Nat → (List Int)) (n_ : Nat) {res_ : Option (Int × Unit)} (hstep_ : ∀ j_, j_ < n_ → ∀ kx_, spec_l7Single_B1 N kx_ (need1 j_) (setup1 j_) (hold1 j_) (sum j_) (now j_) (t j_) (row j_) = kx_ (need1 (j_ + 1)) (setup1 (j_ + 1)) (hold1 (j_ + 1)) (sum (j_ + 1)) (now (j_ + 1)) (t (j_ + 1)) (row (j_ + 1))) (hend_ : ∀ kx_, spec_l7Single_B1 N kx_ (need1 n_) (setup1 n_) (hold1 n_) (sum n_) (now n_) (t n_) (row n_) = res_) (fu_ : Nat) (hm_ : n_ < fu_) : spec_l7Single_L1 N fu_ (need1 0) (setup1 0) (hold1 0) (sum 0) (now 0) (t 0) (row 0) = res_ := by
  exact loop_run (L := fun fu_ (x_ : (List Int) × Int × Int × Int × Int × Int × (List Int)) => spec_l7Single_L1 N fu_ x_.1 x_.2.1 x_.2.2.1 x_.2.2.2.1 x_.2.2.2.2.1 x_.2.2.2.2.2.1 x_.2.2.2.2.2.2) (B := fun kx_ x_ => spec_l7Single_B1 N (fun need1 setup1 hold1 sum now t row => kx_ (need1, setup1, hold1, sum, now, t, row)) x_.1 x_.2.1 x_.2.2.1 x_.2.2.2.1 x_.2.2.2.2.1 x_.2.2.2.2.2.1 x_.2.2.2.2.2.2) (fun _ _ => rfl) (fun j_ => (need1 j_, setup1 j_, hold1 j_, sum j_, now j_, t j_, row j_)) n_ (fun j_ hi_ kx_ => hstep_ j_ hi_ _) (fun kx_ => hend_ _) fu_ hm_
def spec_l7Single (N : Nat) (need : List Int) (setup : Int) (hold : Int) (periods : List Int) : Option (Int × Unit) :=
  (spec_l7Row N need periods).bind fun r =>
  spec_l7Single_L1 N N need setup hold 0 0 0 r.1
def spec_l7Least_K1 (N : Nat) (best1 : Int) : Option (Int × Unit) :=
  some (best1, ())
def spec_l7Least_B1 (N : Nat) (kx : (List Int) → Int → Int → Int → Int → Option (Int × Unit)) (need1 : List Int) (setup1 : Int) (hold1 : Int) (best : Int) (code : Int) : Option (Int × Unit) :=
  chk (ile 0 (len need1)) <|
  bif ilt code (ishl .i64 1 (len need1)) then
    (spec_l2Bits N (len need1) code).bind fun r =>
    (spec_l7Fed N need1 r.1).bind fun r1 =>
    bif !r1.1 then
      kx need1 setup1 hold1 best (iadd .i64 code 1)
    else
      (spec_l7Single N need1 setup1 hold1 r.1).bind fun r2 =>
      bif ilt best 0 then
        kx need1 setup1 hold1 r2.1 (iadd .i64 code 1)
      else
        bif ilt r2.1 best then
          kx need1 setup1 hold1 r2.1 (iadd .i64 code 1)
        else
          kx need1 setup1 hold1 best (iadd .i64 code 1)
  else
    spec_l7Least_K1 N best
def spec_l7Least_L1 (N fu_ : Nat) (need1 : List Int) (setup1 : Int) (hold1 : Int) (best : Int) (code : Int) : Option (Int × Unit) :=
  iterK fu_ (fun kx (v_ : ((List Int) × Int × Int × Int × Int × Unit) × (Unit)) => spec_l7Least_B1 N (fun need1 setup1 hold1 best code => kx ((need1, setup1, hold1, best, code, ()), ())) v_.1.1 v_.1.2.1 v_.1.2.2.1 v_.1.2.2.2.1 v_.1.2.2.2.2.1) ((need1, setup1, hold1, best, code, ()), ())
theorem spec_l7Least_L1_succ (N fu_ : Nat) (need1 : List Int) (setup1 : Int) (hold1 : Int) (best : Int) (code : Int) : spec_l7Least_L1 N (fu_ + 1) need1 setup1 hold1 best code = spec_l7Least_B1 N (fun need1 setup1 hold1 best code => spec_l7Least_L1 N fu_ need1 setup1 hold1 best code) need1 setup1 hold1 best code := rfl
theorem spec_l7Least_L1_run (N : Nat) (need1 : Nat → (List Int)) (setup1 : Nat → Int) (hold1 : Nat → Int) (best : Nat → Int) (code : Nat → Int) (n_ : Nat) {res_ : Option (Int × Unit)} (hstep_ : ∀ j_, j_ < n_ → ∀ kx_, spec_l7Least_B1 N kx_ (need1 j_) (setup1 j_) (hold1 j_) (best j_) (code j_) = kx_ (need1 (j_ + 1)) (setup1 (j_ + 1)) (hold1 (j_ + 1)) (best (j_ + 1)) (code (j_ + 1))) (hend_ : ∀ kx_, spec_l7Least_B1 N kx_ (need1 n_) (setup1 n_) (hold1 n_) (best n_) (code n_) = res_) (fu_ : Nat) (hm_ : n_ < fu_) : spec_l7Least_L1 N fu_ (need1 0) (setup1 0) (hold1 0) (best 0) (code 0) = res_ := by
  exact loop_run (L := fun fu_ (x_ : (List Int) × Int × Int × Int × Int) => spec_l7Least_L1 N fu_ x_.1 x_.2.1 x_.2.2.1 x_.2.2.2.1 x_.2.2.2.2) (B := fun kx_ x_ => spec_l7Least_B1 N (fun need1 setup1 hold1 best code => kx_ (need1, setup1, hold1, best, code)) x_.1 x_.2.1 x_.2.2.1 x_.2.2.2.1 x_.2.2.2.2) (fun _ _ => rfl) (fun j_ => (need1 j_, setup1 j_, hold1 j_, best j_, code j_)) n_ (fun j_ hi_ kx_ => hstep_ j_ hi_ _) (fun kx_ => hend_ _) fu_ hm_
def spec_l7Least (N : Nat) (need : List Int) (setup : Int) (hold : Int) : Option (Int × Unit) :=
  spec_l7Least_L1 N N need setup hold (-1) 0
def spec_BestAssembly_K1 (N : Nat) (kx : (List Int) → (List Int) → (List Int) → Int → Int → Option ((Int × Bool) × Unit)) (app3 : List Int) (v13 : List Int) (v23 : List Int) (v82 : Int) (v92 : Int) (v112 : Int) : Option ((Int × Bool) × Unit) :=
  bif ilt v82 0 then
    kx app3 v13 v23 v112 (iadd .i64 v92 1)
  else
    bif ilt v112 v82 then
      kx app3 v13 v23 v112 (iadd .i64 v92 1)
    else
      kx app3 v13 v23 v82 (iadd .i64 v92 1)
def spec_BestAssembly_B1 (N : Nat) (kx : (List Int) → (List Int) → (List Int) → Int → Int → Option ((Int × Bool) × Unit)) (kx1 : (List Int) → (List Int) → (List Int) → Int → Int → Int → Int → (List Int) → Option ((Int × Bool) × Unit)) (app2 : List Int) (v12 : List Int) (v22 : List Int) (v81 : Int) (v91 : Int) (v111 : Int) (v121 : Int) (v10 : List Int) : Option ((Int × Bool) × Unit) :=
  bif ilt v121 (len v12) then
    (spec_l7Row N app2 v10).bind fun r4 =>
    chk (inB v121 v12.length) <|
    chk (inB v121 v22.length) <|
    (spec_l7Least N r4.1 (gd v12 v121.toNat 0) (gd v22 v121.toNat 0)).bind fun r5 =>
    kx1 app2 v12 v22 v81 v91 (iadd .i64 v111 r5.1) (iadd .i64 v121 1) v10
  else
    spec_BestAssembly_K1 N kx app2 v12 v22 v81 v91 v111
def spec_BestAssembly_L1 (N fu_ : Nat) (kx : (List Int) → (List Int) → (List Int) → Int → Int → Option ((Int × Bool) × Unit)) (app2 : List Int) (v12 : List Int) (v22 : List Int) (v81 : Int) (v91 : Int) (v111 : Int) (v121 : Int) (v10 : List Int) : Option ((Int × Bool) × Unit) :=
  iterK fu_ (fun kx1 (v_ : ((List Int) × (List Int) × (List Int) × Int × Int × Int × Int × Unit) × ((List Int) × Unit)) => spec_BestAssembly_B1 N kx (fun app2 v12 v22 v81 v91 v111 v121 v10 => kx1 ((app2, v12, v22, v81, v91, v111, v121, ()), (v10, ()))) v_.1.1 v_.1.2.1 v_.1.2.2.1 v_.1.2.2.2.1 v_.1.2.2.2.2.1 v_.1.2.2.2.2.2.1 v_.1.2.2.2.2.2.2.1 v_.2.1) ((app2, v12, v22, v81, v91, v111, v121, ()), (v10, ()))
theorem spec_BestAssembly_L1_succ (N fu_ : Nat) (kx : (List Int) → (List Int) → (List Int) → Int → Int → Option ((Int × Bool) × Unit)) (app2 : List Int) (v12 : List Int) (v22 : List Int) (v81 : Int) (v91 : Int) (v111 : Int) (v121 : Int) (v10 : List Int) : spec_BestAssembly_L1 N (fu_ + 1) kx app2 v12 v22 v81 v91 v111 v121 v10 = spec_BestAssembly_B1 N kx (fun app2 v12 v22 v81 v91 v111 v121 v10 => spec_BestAssembly_L1 N fu_ kx app2 v12 v22 v81 v91 v111 v121 v10) app2 v12 v22 v81 v91 v111 v121 v10 := rfl
theorem spec_BestAssembly_L1_run (N : Nat) (kx : (List Int) → (List Int) → (List Int) → Int → Int → Option ((Int × Bool) × Unit)) (app2 : Nat → (List Int)) (v12 : Nat → (List Int)) (v22 : Nat → (List Int)) (v81 : Nat → Int) (v91 : Nat → Int) (v111 : Nat → Int) (v121 : Nat → Int) (v10 : Nat → (List Int)) (n_ : Nat) {res_ : Option ((Int × Bool) × Unit)} (hstep_ : ∀ j_, j_ < n_ → ∀ kx_, spec_BestAssembly_B1 N kx kx_ (app2 j_) (v12 j_) (v22 j_) (v81 j_) (v91 j_) (v111 j_) (v121 j_) (v10 j_) = kx_ (app2 (j_ + 1)) (v12 (j_ + 1)) (v22 (j_ + 1)) (v81 (j_ + 1)) (v91 (j_ + 1)) (v111 (j_ + 1)) (v121 (j_ + 1)) (v10 (j_ + 1))) (hend_ : ∀ kx_, spec_BestAssembly_B1 N kx kx_ (app2 n_) (v12 n_) (v22 n_) (v81 n_) (v91 n_) (v111 n_) (v121 n_) (v10 n_) = res_) (fu_ : Nat) (hm_ : n_ < fu_) : spec_BestAssembly_L1 N fu_ kx (app2 0) (v12 0) (v22 0) (v81 0) (v91 0) (v111 0) (v121 0) (v10 0) = res_ := by
  exact loop_run (L := fun fu_ (x_ : (List Int) × (List Int) × (List Int) × Int × Int × Int × Int × (List Int)) => spec_BestAssembly_L1 N fu_ kx x_.1 x_.2.1 x_.2.2.1 x_.2.2.2.1 x_.2.2.2.2.1 x_.2.2.2.2.2.1 x_.2.2.2.2.2.2.1 x_.2.2.2.2.2.2.2) (B := fun kx_ x_ => spec_BestAssembly_B1 N kx (fun app2 v12 v22 v81 v91 v111 v121 v10 => kx_ (app2, v12, v22, v81, v91, v111, v121, v10)) x_.1 x_.2.1 x_.2.2.1 x_.2.2.2.1 x_.2.2.2.2.1 x_.2.2.2.2.2.1 x_.2.2.2.2.2.2.1 x_.2.2.2.2.2.2.2) (fun _ _ => rfl) (fun j_ => (app2 j_, v12 j_, v22 j_, v81 j_, v91 j_, v111 j_, v121 j_, v10 j_)) n_ (fun j_ hi_ kx_ => hstep_ j_ hi_ _) (fun kx_ => hend_ _) fu_ hm_
def spec_BestAssembly_K2 (N : Nat) (v83 : Int) : Option ((Int × Bool) × Unit) :=
  some ((v83, true), ())
def spec_BestAssembly_B2 (N : Nat) (kx : (List Int) → (List Int) → (List Int) → Int → Int → Option ((Int × Bool) × Unit)) (app1 : List Int) (v11 : List Int) (v21 : List Int) (v8 : Int) (v9 : Int) : Option ((Int × Bool) × Unit) :=
  chk (ile 0 (len app1)) <|
  bif ilt v9 (ishl .i64 1 (len app1)) then
    (spec_l2Bits N (len app1) v9).bind fun r1 =>
    (spec_l7Fed N app1 r1.1).bind fun r2 =>
    bif !r2.1 then
      kx app1 v11 v21 v8 (iadd .i64 v9 1)
    else
      chk (inB 0 v11.length) <|
      chk (inB 0 v21.length) <|
      (spec_l7Single N app1 (gd v11 0 0) (gd v21 0 0) r1.1).bind fun r3 =>
      spec_BestAssembly_L1 N N kx app1 v11 v21 v8 v9 r3.1 1 r1.1
  else
    spec_BestAssembly_K2 N v8
def spec_BestAssembly_L2 (N fu_ : Nat) (app1 : List Int) (v11 : List Int) (v21 : List Int) (v8 : Int) (v9 : Int) : Option ((Int × Bool) × Unit) :=
  iterK fu_ (fun kx (v_ : ((List Int) × (List Int) × (List Int) × Int × Int × Unit) × (Unit)) => spec_BestAssembly_B2 N (fun app1 v11 v21 v8 v9 => kx ((app1, v11, v21, v8, v9, ()), ())) v_.1.1 v_.1.2.1 v_.1.2.2.1 v_.1.2.2.2.1 v_.1.2.2.2.2.1) ((app1, v11, v21, v8, v9, ()), ())
theorem spec_BestAssembly_L2_succ (N fu_ : Nat) (app1 : List Int) (v11 : List Int) (v21 : List Int) (v8 : Int) (v9 : Int) : spec_BestAssembly_L2 N (fu_ + 1) app1 v11 v21 v8 v9 = spec_BestAssembly_B2 N (fun app1 v11 v21 v8 v9 => spec_BestAssembly_L2 N fu_ app1 v11 v21 v8 v9) app1 v11 v21 v8 v9 := rfl
theorem spec_BestAssembly_L2_run (N : Nat) (app1 : Nat → (List Int)) (v11 : Nat → (List Int)) (v21 : Nat → (List Int)) (v8 : Nat → Int) (v9 : Nat → Int) (n_ : Nat) {res_ : Option ((Int × Bool) × Unit)} (hstep_ : ∀ j_, j_ < n_ → ∀ kx_, spec_BestAssembly_B2 N kx_ (app1 j_) (v11 j_) (v21 j_) (v8 j_) (v9 j_) = kx_ (app1 (j_ + 1)) (v11 (j_ + 1)) (v21 (j_ + 1)) (v8 (j_ + 1)) (v9 (j_ + 1))) (hend_ : ∀ kx_, spec_BestAssembly_B2 N kx_ (app1 n_) (v11 n_) (v21 n_) (v8 n_) (v9 n_) = res_) (fu_ : Nat) (hm_ : n_ < fu_) : spec_BestAssembly_L2 N fu_ (app1 0) (v11 0) (v21 0) (v8 0) (v9 0) = res_ := by
  exact loop_run (L := fun fu_ (x_ : (List Int) × (List Int) × (List Int) × Int × Int) => spec_BestAssembly_L2 N fu_ x_.1 x_.2.1 x_.2.2.1 x_.2.2.2.1 x_.2.2.2.2) (B := fun kx_ x_ => spec_BestAssembly_B2 N (fun app1 v11 v21 v8 v9 => kx_ (app1, v11, v21, v8, v9)) x_.1 x_.2.1 x_.2.2.1 x_.2.2.2.1 x_.2.2.2.2) (fun _ _ => rfl) (fun j_ => (app1 j_, v11 j_, v21 j_, v8 j_, v9 j_)) n_ (fun j_ hi_ kx_ => hstep_ j_ hi_ _) (fun kx_ => hend_ _) fu_ hm_
def spec_BestAssembly (N : Nat) (app : List Int) (v1 : List Int) (v2 : List Int) : Option ((Int × Bool) × Unit) :=
  (spec_l7Parts N app v1 v2).bind fun r =>
  bif !r.1 then
    some ((0, false), ())
  else
    spec_BestAssembly_L2 N N app v1 v2 (-1) 0
def laws_toIntS_K1 (N : Nat) (out1 : List Int) : Option ((List Int) × Unit) :=
  some (out1, ())
def laws_toIntS_B1 (N : Nat) (kx : (List Int) → Int → (List Int) → Option ((List Int) × Unit)) (a1 : List Int) (i : Int) (out : List Int) : Option ((List Int) × Unit) :=
  bif ilt i (len a1) then
    chk (inB i a1.length) <|
    chk (inB i out.length) <|
    kx a1 (iadd .i64 i 1) (List.set out i.toNat (gd a1 i.toNat 0))
  else
    laws_toIntS_K1 N out
def laws_toIntS_L1 (N fu_ : Nat) (a1 : List Int) (i : Int) (out : List Int) : Option ((List Int) × Unit) :=
  iterK fu_ (fun kx (v_ : ((List Int) × Int × Unit) × ((List Int) × Unit)) => laws_toIntS_B1 N (fun a1 i out => kx ((a1, i, ()), (out, ()))) v_.1.1 v_.1.2.1 v_.2.1) ((a1, i, ()), (out, ()))
theorem laws_toIntS_L1_succ (N fu_ : Nat) (a1 : List Int) (i : Int) (out : List Int) : laws_toIntS_L1 N (fu_ + 1) a1 i out = laws_toIntS_B1 N (fun a1 i out => laws_toIntS_L1 N fu_ a1 i out) a1 i out := rfl
theorem laws_toIntS_L1_run (N : Nat) (a1 : Nat → (List Int)) (i : Nat → Int) (out : Nat → (List Int)) (n_ : Nat) {res_ : Option ((List Int) × Unit)} (hstep_ : ∀ j_, j_ < n_ → ∀ kx_, laws_toIntS_B1 N kx_ (a1 j_) (i j_) (out j_) = kx_ (a1 (j_ + 1)) (i (j_ + 1)) (out (j_ + 1))) (hend_ : ∀ kx_, laws_toIntS_B1 N kx_ (a1 n_) (i n_) (out n_) = res_) (fu_ : Nat) (hm_ : n_ < fu_) : laws_toIntS_L1 N fu_ (a1 0) (i 0) (out 0) = res_ := by
  exact loop_run (L := fun fu_ (x_ : (List Int) × Int × (List Int)) => laws_toIntS_L1 N fu_ x_.1 x_.2.1 x_.2.2) (B := fun kx_ x_ => laws_toIntS_B1 N (fun a1 i out => kx_ (a1, i, out)) x_.1 x_.2.1 x_.2.2) (fun _ _ => rfl) (fun j_ => (a1 j_, i j_, out j_)) n_ (fun j_ hi_ kx_ => hstep_ j_ hi_ _) (fun kx_ => hend_ _) fu_ hm_
def laws_toIntS (N : Nat) (a : List Int) : Option ((List Int) × Unit) :=
  chk (mkB (len a) 8) <|
  laws_toIntS_L1 N N a 0 (List.replicate (len a).toNat 0)
def impl_within (N : Nat) (n : Int) (low : Int) (high : Int) : Option (Bool × Unit) :=
  bif ile low n then
    some (ile n high, ())
  else
    some (false, ())
def impl_allWithin_K1 (N : Nat) : Option (Bool × Unit) :=
  some (true, ())
def impl_allWithin_B1 (N : Nat) (kx : Int → Int → (List Int) → Int → Int → Option (Bool × Unit)) (low1 : Int) (high1 : Int) (v9 : List Int) (v10 : Int) (v11 : Int) : Option (Bool × Unit) :=
  bif ilt v11 v10 then
    chk (inB v11 v9.length) <|
    (impl_within N (gd v9 v11.toNat 0) low1 high1).bind fun r =>
    bif !r.1 then
      some (false, ())
    else
      kx low1 high1 v9 v10 (iadd .i64 v11 1)
  else
    impl_allWithin_K1 N
def impl_allWithin_L1 (N fu_ : Nat) (low1 : Int) (high1 : Int) (v9 : List Int) (v10 : Int) (v11 : Int) : Option (Bool × Unit) :=
  iterK fu_ (fun kx (v_ : (Int × Int × (List Int) × Int × Int × Unit) × (Unit)) => impl_allWithin_B1 N (fun low1 high1 v9 v10 v11 => kx ((low1, high1, v9, v10, v11, ()), ())) v_.1.1 v_.1.2.1 v_.1.2.2.1 v_.1.2.2.2.1 v_.1.2.2.2.2.1) ((low1, high1, v9, v10, v11, ()), ())
theorem impl_allWithin_L1_succ (N fu_ : Nat) (low1 : Int) (high1 : Int) (v9 : List Int) (v10 : Int) (v11 : Int) : impl_allWithin_L1 N (fu_ + 1) low1 high1 v9 v10 v11 = impl_allWithin_B1 N (fun low1 high1 v9 v10 v11 => impl_allWithin_L1 N fu_ low1 high1 v9 v10 v11) low1 high1 v9 v10 v11 := rfl
theorem impl_allWithin_L1_run (N : Nat) (low1 : Nat → Int) (high1 : Nat → Int) (v9 : Nat → (List Int)) (v10 : Nat → Int) (v11 : Nat → Int) (n_ : Nat) {res_ : Option (Bool × Unit)} (hstep_ : ∀ j_, j_ < n_ → ∀ kx_, impl_allWithin_B1 N kx_ (low1 j_) (high1 j_) (v9 j_) (v10 j_) (v11 j_) = kx_ (low1 (j_ + 1)) (high1 (j_ + 1)) (v9 (j_ + 1)) (v10 (j_ + 1)) (v11 (j_ + 1))) (hend_ : ∀ kx_, impl_allWithin_B1 N kx_ (low1 n_) (high1 n_) (v9 n_) (v10 n_) (v11 n_) = res_) (fu_ : Nat) (hm_ : n_ < fu_) : impl_allWithin_L1 N fu_ (low1 0) (high1 0) (v9 0) (v10 0) (v11 0) = res_ := by
  exact loop_run (L := fun fu_ (x_ : Int × Int × (List Int) × Int × Int) => impl_allWithin_L1 N fu_ x_.1 x_.2.1 x_.2.2.1 x_.2.2.2.1 x_.2.2.2.2) (B := fun kx_ x_ => impl_allWithin_B1 N (fun low1 high1 v9 v10 v11 => kx_ (low1, high1, v9, v10, v11)) x_.1 x_.2.1 x_.2.2.1 x_.2.2.2.1 x_.2.2.2.2) (fun _ _ => rfl) (fun j_ => (low1 j_, high1 j_, v9 j_, v10 j_, v11 j_)) n_ (fun j_ hi_ kx_ => hstep_ j_ hi_ _) (fun kx_ => hend_ _) fu_ hm_
def impl_allWithin (N : Nat) (list : List Int) (low : Int) (high : Int) : Option (Bool × Unit) :=
  impl_allWithin_L1 N N low high list (len list) 0
def impl_total_K1 (N : Nat) (sum1 : Int) : Option (Int × Unit) :=
  some (sum1, ())
def impl_total_B1 (N : Nat) (kx : Int → (List Int) → Int → Int → Option (Int × Unit)) (sum : Int) (v6 : List Int) (v7 : Int) (v8 : Int) : Option (Int × Unit) :=
  bif ilt v8 v7 then
    chk (inB v8 v6.length) <|
    kx (iadd .i64 sum (gd v6 v8.toNat 0)) v6 v7 (iadd .i64 v8 1)
  else
    impl_total_K1 N sum
def impl_total_L1 (N fu_ : Nat) (sum : Int) (v6 : List Int) (v7 : Int) (v8 : Int) : Option (Int × Unit) :=
  iterK fu_ (fun kx (v_ : (Int × (List Int) × Int × Int × Unit) × (Unit)) => impl_total_B1 N (fun sum v6 v7 v8 => kx ((sum, v6, v7, v8, ()), ())) v_.1.1 v_.1.2.1 v_.1.2.2.1 v_.1.2.2.2.1) ((sum, v6, v7, v8, ()), ())
theorem impl_total_L1_succ (N fu_ : Nat) (sum : Int) (v6 : List Int) (v7 : Int) (v8 : Int) : impl_total_L1 N (fu_ + 1) sum v6 v7 v8 = impl_total_B1 N (fun sum v6 v7 v8 => impl_total_L1 N fu_ sum v6 v7 v8) sum v6 v7 v8 := rfl
theorem impl_total_L1_run (N : Nat) (sum : Nat → Int) (v6 : Nat → (List Int)) (v7 : Nat → Int) (v8 : Nat → Int) (n_ : Nat) {res_ : Option (Int × Unit)} (hstep_ : ∀ j_, j_ < n_ → ∀ kx_, impl_total_B1 N kx_ (sum j_) (v6 j_) (v7 j_) (v8 j_) = kx_ (sum (j_ + 1)) (v6 (j_ + 1)) (v7 (j_ + 1)) (v8 (j_ + 1))) (hend_ : ∀ kx_, impl_total_B1 N kx_ (sum n_) (v6 n_) (v7 n_) (v8 n_) = res_) (fu_ : Nat) (hm_ : n_ < fu_) : impl_total_L1 N fu_ (sum 0) (v6 0) (v7 0) (v8 0) = res_ := by
  exact loop_run (L := fun fu_ (x_ : Int × (List Int) × Int × Int) => impl_total_L1 N fu_ x_.1 x_.2.1 x_.2.2.1 x_.2.2.2) (B := fun kx_ x_ => impl_total_B1 N (fun sum v6 v7 v8 => kx_ (sum, v6, v7, v8)) x_.1 x_.2.1 x_.2.2.1 x_.2.2.2) (fun _ _ => rfl) (fun j_ => (sum j_, v6 j_, v7 j_, v8 j_)) n_ (fun j_ hi_ kx_ => hstep_ j_ hi_ _) (fun kx_ => hend_ _) fu_ hm_
def impl_total (N : Nat) (list : List Int) : Option (Int × Unit) :=
  impl_total_L1 N N 0 list (len list) 0
def impl_copied (N : Nat) (list : List Int) : Option ((List Int) × Unit) :=
  chk (fitB (0 + list.length) 8) <|
  some (list, ())
def impl_evenCase_K1 (N : Nat) (v61 : (List Int) × (List Int) × (List Int) × (List Int)) (c1 : (List Int) × (List Int) × (List Int) × (List Int)) : Option (((List Int) × (List Int) × (List Int) × (List Int)) × Unit) :=
  some (c1, ())
def impl_evenCase_B1 (N : Nat) (kx : Int → Int → Int → Int → ((List Int) × (List Int) × (List Int) × (List Int)) → ((List Int) × (List Int) × (List Int) × (List Int)) → Option (((List Int) × (List Int) × (List Int) × (List Int)) × Unit)) (setup1 : Int) (hold1 : Int) (v15 : Int) (v16 : Int) (v6 : (List Int) × (List Int) × (List Int) × (List Int)) (c : (List Int) × (List Int) × (List Int) × (List Int)) : Option (((List Int) × (List Int) × (List Int) × (List Int)) × Unit) :=
  bif ilt v16 v15 then
    chk (fitB (c.2.1.length + 1) 8) <|
    chk (fitB (c.2.2.2.length + 1) 8) <|
    kx setup1 hold1 v15 (iadd .i64 v16 1) v6 (c.1, (c.2.1 ++ [setup1], (c.2.2.1, c.2.2.2 ++ [hold1])))
  else
    impl_evenCase_K1 N v6 c
def impl_evenCase_L1 (N fu_ : Nat) (setup1 : Int) (hold1 : Int) (v15 : Int) (v16 : Int) (v6 : (List Int) × (List Int) × (List Int) × (List Int)) (c : (List Int) × (List Int) × (List Int) × (List Int)) : Option (((List Int) × (List Int) × (List Int) × (List Int)) × Unit) :=
  iterK fu_ (fun kx (v_ : (Int × Int × Int × Int × Unit) × (((List Int) × (List Int) × (List Int) × (List Int)) × ((List Int) × (List Int) × (List Int) × (List Int)) × Unit)) => impl_evenCase_B1 N (fun setup1 hold1 v15 v16 v6 c => kx ((setup1, hold1, v15, v16, ()), (v6, c, ()))) v_.1.1 v_.1.2.1 v_.1.2.2.1 v_.1.2.2.2.1 v_.2.1 v_.2.2.1) ((setup1, hold1, v15, v16, ()), (v6, c, ()))
theorem impl_evenCase_L1_succ (N fu_ : Nat) (setup1 : Int) (hold1 : Int) (v15 : Int) (v16 : Int) (v6 : (List Int) × (List Int) × (List Int) × (List Int)) (c : (List Int) × (List Int) × (List Int) × (List Int)) : impl_evenCase_L1 N (fu_ + 1) setup1 hold1 v15 v16 v6 c = impl_evenCase_B1 N (fun setup1 hold1 v15 v16 v6 c => impl_evenCase_L1 N fu_ setup1 hold1 v15 v16 v6 c) setup1 hold1 v15 v16 v6 c := rfl
theorem impl_evenCase_L1_run (N : Nat) (setup1 : Nat → Int) (hold1 : Nat → Int) (v15 : Nat → Int) (v16 : Nat → Int) (v6 : Nat → ((List Int) × (List Int) × (List Int) × (List Int))) (c : Nat → ((List Int) × (List Int) × (List Int) × (List Int))) (n_ : Nat) {res_ : Option (((List Int) × (List Int) × (List Int) × (List Int)) × Unit)} (hstep_ : ∀ j_, j_ < n_ → ∀ kx_, impl_evenCase_B1 N kx_ (setup1 j_) (hold1 j_) (v15 j_) (v16 j_) (v6 j_) (c j_) = kx_ (setup1 (j_ + 1)) (hold1 (j_ + 1)) (v15 (j_ + 1)) (v16 (j_ + 1)) (v6 (j_ + 1)) (c (j_ + 1))) (hend_ : ∀ kx_, impl_evenCase_B1 N kx_ (setup1 n_) (hold1 n_) (v15 n_) (v16 n_) (v6 n_) (c n_) = res_) (fu_ : Nat) (hm_ : n_ < fu_) : impl_evenCase_L1 N fu_ (setup1 0) (hold1 0) (v15 0) (v16 0) (v6 0) (c 0) = res_ := by
  exact loop_run (L := fun fu_ (x_ : Int × Int × Int × Int × ((List Int) × (List Int) × (List Int) × (List Int)) × ((List Int) × (List Int) × (List Int) × (List Int))) => impl_evenCase_L1 N fu_ x_.1 x_.2.1 x_.2.2.1 x_.2.2.2.1 x_.2.2.2.2.1 x_.2.2.2.2.2) (B := fun kx_ x_ => impl_evenCase_B1 N (fun setup1 hold1 v15 v16 v6 c => kx_ (setup1, hold1, v15, v16, v6, c)) x_.1 x_.2.1 x_.2.2.1 x_.2.2.2.1 x_.2.2.2.2.1 x_.2.2.2.2.2) (fun _ _ => rfl) (fun j_ => (setup1 j_, hold1 j_, v15 j_, v16 j_, v6 j_, c j_)) n_ (fun j_ hi_ kx_ => hstep_ j_ hi_ _) (fun kx_ => hend_ _) fu_ hm_
def impl_evenCase (N : Nat) (need : List Int) (setup : Int) (hold : Int) : Option (((List Int) × (List Int) × (List Int) × (List Int)) × Unit) :=
  (impl_copied N need).bind fun r =>
  chk (mkB (len need) 8) <|
  impl_evenCase_L1 N N setup hold (len need) 0 ([], ([], ([], []))) (r.1, ([], (List.replicate (len need).toNat 0, [])))
def impl_Case_planFrom_K1 (N : Nat) (kx : (List Int) → Int → (List Int) → Int → Int → (List Int) → Option (((List Int) × Bool) × Unit)) (periods3 : List Int) (next2 : Int) (need1 : Int) (v152 : List Int) (v162 : Int) (v172 : Int) (plan2 : List Int) : Option (((List Int) × Bool) × Unit) :=
  bif ieq next2 0 then
    bif ilt 0 need1 then
      some (([], false), ())
    else
      kx periods3 next2 v152 v162 (iadd .i64 v172 1) plan2
  else
    chk (inB (isub .i64 next2 1) periods3.length) <|
    chk (inB (gd periods3 (isub .i64 next2 1).toNat 0) plan2.length) <|
    chk (inB (gd periods3 (isub .i64 next2 1).toNat 0) plan2.length) <|
    kx periods3 next2 v152 v162 (iadd .i64 v172 1) (List.set plan2 (gd periods3 (isub .i64 next2 1).toNat 0).toNat (iadd .i64 (gd plan2 (gd periods3 (isub .i64 next2 1).toNat 0).toNat 0) need1))
def impl_Case_planFrom_K2 (N : Nat) (kx : (List Int) → Int → (List Int) → Int → Int → (List Int) → Option (((List Int) × Bool) × Unit)) (periods2 : List Int) (next1 : Int) (need : Int) (v151 : List Int) (v161 : Int) (v171 : Int) (v33 : Bool) (plan1 : List Int) : Option (((List Int) × Bool) × Unit) :=
  bif v33 then
    impl_Case_planFrom_K1 N kx periods2 (iadd .i64 next1 1) need v151 v161 v171 plan1
  else
    impl_Case_planFrom_K1 N kx periods2 next1 need v151 v161 v171 plan1
def impl_Case_planFrom_K3 (N : Nat) (plan3 : List Int) : Option (((List Int) × Bool) × Unit) :=
  some ((plan3, true), ())
def impl_Case_planFrom_B1 (N : Nat) (kx : (List Int) → Int → (List Int) → Int → Int → (List Int) → Option (((List Int) × Bool) × Unit)) (periods1 : List Int) (next : Int) (v15 : List Int) (v16 : Int) (v17 : Int) (plan : List Int) : Option (((List Int) × Bool) × Unit) :=
  bif ilt v17 v16 then
    chk (inB v17 v15.length) <|
    bif ilt next (len periods1) then
      chk (inB next periods1.length) <|
      impl_Case_planFrom_K2 N kx periods1 next (gd v15 v17.toNat 0) v15 v16 v17 (ieq (gd periods1 next.toNat 0) v17) plan
    else
      impl_Case_planFrom_K2 N kx periods1 next (gd v15 v17.toNat 0) v15 v16 v17 false plan
  else
    impl_Case_planFrom_K3 N plan
def impl_Case_planFrom_L1 (N fu_ : Nat) (periods1 : List Int) (next : Int) (v15 : List Int) (v16 : Int) (v17 : Int) (plan : List Int) : Option (((List Int) × Bool) × Unit) :=
  iterK fu_ (fun kx (v_ : ((List Int) × Int × (List Int) × Int × Int × Unit) × ((List Int) × Unit)) => impl_Case_planFrom_B1 N (fun periods1 next v15 v16 v17 plan => kx ((periods1, next, v15, v16, v17, ()), (plan, ()))) v_.1.1 v_.1.2.1 v_.1.2.2.1 v_.1.2.2.2.1 v_.1.2.2.2.2.1 v_.2.1) ((periods1, next, v15, v16, v17, ()), (plan, ()))
theorem impl_Case_planFrom_L1_succ (N fu_ : Nat) (periods1 : List Int) (next : Int) (v15 : List Int) (v16 : Int) (v17 : Int) (plan : List Int) : impl_Case_planFrom_L1 N (fu_ + 1) periods1 next v15 v16 v17 plan = impl_Case_planFrom_B1 N (fun periods1 next v15 v16 v17 plan => impl_Case_planFrom_L1 N fu_ periods1 next v15 v16 v17 plan) periods1 next v15 v16 v17 plan := rfl
theorem impl_Case_planFrom_L1_run (N : Nat) (periods1 : Nat → (List Int)) (next : Nat → Int) (v15 : Nat → (List Int)) (v16 : Nat → Int) (v17 : Nat → Int) (plan : Nat → (List Int)) (n_ : Nat) {res_ : Option (((List Int) × Bool) × Unit)} (hstep_ : ∀ j_, j_ < n_ → ∀ kx_, impl_Case_planFrom_B1 N kx_ (periods1 j_) (next j_) (v15 j_) (v16 j_) (v17 j_) (plan j_) = kx_ (periods1 (j_ + 1)) (next (j_ + 1)) (v15 (j_ + 1)) (v16 (j_ + 1)) (v17 (j_ + 1)) (plan (j_ + 1))) (hend_ : ∀ kx_, impl_Case_planFrom_B1 N kx_ (periods1 n_) (next n_) (v15 n_) (v16 n_) (v17 n_) (plan n_) = res_) (fu_ : Nat) (hm_ : n_ < fu_) : impl_Case_planFrom_L1 N fu_ (periods1 0) (next 0) (v15 0) (v16 0) (v17 0) (plan 0) = res_ := by
  exact loop_run (L := fun fu_ (x_ : (List Int) × Int × (List Int) × Int × Int × (List Int)) => impl_Case_planFrom_L1 N fu_ x_.1 x_.2.1 x_.2.2.1 x_.2.2.2.1 x_.2.2.2.2.1 x_.2.2.2.2.2) (B := fun kx_ x_ => impl_Case_planFrom_B1 N (fun periods1 next v15 v16 v17 plan => kx_ (periods1, next, v15, v16, v17, plan)) x_.1 x_.2.1 x_.2.2.1 x_.2.2.2.1 x_.2.2.2.2.1 x_.2.2.2.2.2) (fun _ _ => rfl) (fun j_ => (periods1 j_, next j_, v15 j_, v16 j_, v17 j_, plan j_)) n_ (fun j_ hi_ kx_ => hstep_ j_ hi_ _) (fun kx_ => hend_ _) fu_ hm_
def impl_Case_planFrom (N : Nat) (c : (List Int) × (List Int) × (List Int) × (List Int)) (periods : List Int) : Option (((List Int) × Bool) × Unit) :=
  chk (mkB (len c.1) 8) <|
  impl_Case_planFrom_L1 N N periods 0 c.1 (len c.1) 0 (List.replicate (len c.1).toNat 0)
def impl_Case_parts_K1 (N : Nat) (kx : Int → Int → Int → Int → (List Int) → Int → Int → ((List Int) × (List Int) × (List Int) × (List Int)) → Option ((Int × Int × Int) × Unit)) (setups1 : Int) (units1 : Int) (holds1 : Int) (stock1 : Int) (i : Int) (amount : Int) (v131 : List Int) (v141 : Int) (v151 : Int) (c2 : (List Int) × (List Int) × (List Int) × (List Int)) : Option ((Int × Int × Int) × Unit) :=
  chk (inB i c2.2.2.1.length) <|
  chk (inB i c2.2.2.2.length) <|
  kx setups1 (iadd .i64 units1 (imul .i64 (gd c2.2.2.1 i.toNat 0) amount)) (iadd .i64 holds1 (imul .i64 (gd c2.2.2.2 i.toNat 0) stock1)) stock1 v131 v141 (iadd .i64 v151 1) c2
def impl_Case_parts_K2 (N : Nat) (setups2 : Int) (units2 : Int) (holds2 : Int) : Option ((Int × Int × Int) × Unit) :=
  some ((setups2, (units2, holds2)), ())
def impl_Case_parts_B1 (N : Nat) (kx : Int → Int → Int → Int → (List Int) → Int → Int → ((List Int) × (List Int) × (List Int) × (List Int)) → Option ((Int × Int × Int) × Unit)) (setups : Int) (units : Int) (holds : Int) (stock : Int) (v13 : List Int) (v14 : Int) (v15 : Int) (c1 : (List Int) × (List Int) × (List Int) × (List Int)) : Option ((Int × Int × Int) × Unit) :=
  bif ilt v15 v14 then
    chk (inB v15 v13.length) <|
    chk (inB v15 c1.1.length) <|
    bif ilt 0 (gd v13 v15.toNat 0) then
      chk (inB v15 c1.2.1.length) <|
      impl_Case_parts_K1 N kx (iadd .i64 setups (gd c1.2.1 v15.toNat 0)) units holds (iadd .i64 stock (isub .i64 (gd v13 v15.toNat 0) (gd c1.1 v15.toNat 0))) v15 (gd v13 v15.toNat 0) v13 v14 v15 c1
    else
      impl_Case_parts_K1 N kx setups units holds (iadd .i64 stock (isub .i64 (gd v13 v15.toNat 0) (gd c1.1 v15.toNat 0))) v15 (gd v13 v15.toNat 0) v13 v14 v15 c1
  else
    impl_Case_parts_K2 N setups units holds
def impl_Case_parts_L1 (N fu_ : Nat) (setups : Int) (units : Int) (holds : Int) (stock : Int) (v13 : List Int) (v14 : Int) (v15 : Int) (c1 : (List Int) × (List Int) × (List Int) × (List Int)) : Option ((Int × Int × Int) × Unit) :=
  iterK fu_ (fun kx (v_ : (Int × Int × Int × Int × (List Int) × Int × Int × Unit) × (((List Int) × (List Int) × (List Int) × (List Int)) × Unit)) => impl_Case_parts_B1 N (fun setups units holds stock v13 v14 v15 c1 => kx ((setups, units, holds, stock, v13, v14, v15, ()), (c1, ()))) v_.1.1 v_.1.2.1 v_.1.2.2.1 v_.1.2.2.2.1 v_.1.2.2.2.2.1 v_.1.2.2.2.2.2.1 v_.1.2.2.2.2.2.2.1 v_.2.1) ((setups, units, holds, stock, v13, v14, v15, ()), (c1, ()))
theorem impl_Case_parts_L1_succ (N fu_ : Nat) (setups : Int) (units : Int) (holds : Int) (stock : Int) (v13 : List Int) (v14 : Int) (v15 : Int) (c1 : (List Int) × (List Int) × (List Int) × (List Int)) : impl_Case_parts_L1 N (fu_ + 1) setups units holds stock v13 v14 v15 c1 = impl_Case_parts_B1 N (fun setups units holds stock v13 v14 v15 c1 => impl_Case_parts_L1 N fu_ setups units holds stock v13 v14 v15 c1) setups units holds stock v13 v14 v15 c1 := rfl
theorem impl_Case_parts_L1_run (N : Nat) (setups : Nat → Int) (units : Nat → Int) (holds : Nat → Int) (stock : Nat → Int) (v13 : Nat → (List Int)) (v14 : Nat → Int) (v15 : Nat → Int) (c1 : Nat → ((List Int) × (List Int) × (List Int) × (List Int))) (n_ : Nat) {res_ : Option ((Int × Int × Int) × Unit)} (hstep_ : ∀ j_, j_ < n_ → ∀ kx_, impl_Case_parts_B1 N kx_ (setups j_) (units j_) (holds j_) (stock j_) (v13 j_) (v14 j_) (v15 j_) (c1 j_) = kx_ (setups (j_ + 1)) (units (j_ + 1)) (holds (j_ + 1)) (stock (j_ + 1)) (v13 (j_ + 1)) (v14 (j_ + 1)) (v15 (j_ + 1)) (c1 (j_ + 1))) (hend_ : ∀ kx_, impl_Case_parts_B1 N kx_ (setups n_) (units n_) (holds n_) (stock n_) (v13 n_) (v14 n_) (v15 n_) (c1 n_) = res_) (fu_ : Nat) (hm_ : n_ < fu_) : impl_Case_parts_L1 N fu_ (setups 0) (units 0) (holds 0) (stock 0) (v13 0) (v14 0) (v15 0) (c1 0) = res_ := by
  exact loop_run (L := fun fu_ (x_ : Int × Int × Int × Int × (List Int) × Int × Int × ((List Int) × (List Int) × (List Int) × (List Int))) => impl_Case_parts_L1 N fu_ x_.1 x_.2.1 x_.2.2.1 x_.2.2.2.1 x_.2.2.2.2.1 x_.2.2.2.2.2.1 x_.2.2.2.2.2.2.1 x_.2.2.2.2.2.2.2) (B := fun kx_ x_ => impl_Case_parts_B1 N (fun setups units holds stock v13 v14 v15 c1 => kx_ (setups, units, holds, stock, v13, v14, v15, c1)) x_.1 x_.2.1 x_.2.2.1 x_.2.2.2.1 x_.2.2.2.2.1 x_.2.2.2.2.2.1 x_.2.2.2.2.2.2.1 x_.2.2.2.2.2.2.2) (fun _ _ => rfl) (fun j_ => (setups j_, units j_, holds j_, stock j_, v13 j_, v14 j_, v15 j_, c1 j_)) n_ (fun j_ hi_ kx_ => hstep_ j_ hi_ _) (fun kx_ => hend_ _) fu_ hm_
def impl_Case_parts (N : Nat) (c : (List Int) × (List Int) × (List Int) × (List Int)) (plan : List Int) : Option ((Int × Int × Int) × Unit) :=
  impl_Case_parts_L1 N N 0 0 0 0 plan (len plan) 0 c
def impl_Case_cost (N : Nat) (c : (List Int) × (List Int) × (List Int) × (List Int)) (plan : List Int) : Option (Int × Unit) :=
  (impl_Case_parts N c plan).bind fun r =>
  some (iadd .i64 (iadd .i64 r.1.1 r.1.2.1) r.1.2.2, ())
def impl_BestAssembly_K1 (N : Nat) (kx1 : (List Int) → (List Int) → (List Int) → Int → Int → Int → Int → Int → (List (List Int)) → ((List Int) × (List Int) × (List Int) × (List Int)) → Option ((Int × Bool) × Unit)) (app5 : List Int) (v16 : List Int) (v25 : List Int) (v103 : Int) (v151 : Int) (v694 : Int) (v704 : Int) (v932 : Int) (v942 : Int) (v96 : List (List Int)) (v123 : (List Int) × (List Int) × (List Int) × (List Int)) (v142 : List Int) : Option ((Int × Bool) × Unit) :=
  (impl_Case_planFrom N v123 v142).bind fun r7 =>
  bif r7.1.2 then
    (impl_Case_cost N v123 r7.1.1).bind fun r8 =>
    chk (inB v103 v96.length) <|
    chk (fitB ((gd v96 v103.toNat []).length + 1) 8) <|
    chk (inB v103 v96.length) <|
    chk (natEq v103.toNat v103.toNat) <|
    kx1 app5 v16 v25 v103 v694 v704 v932 (iadd .i64 v942 1) (List.set v96 v103.toNat ((gd v96 v103.toNat []) ++ [r8.1])) v123
  else
    chk (inB v103 v96.length) <|
    chk (fitB ((gd v96 v103.toNat []).length + 1) 8) <|
    chk (inB v103 v96.length) <|
    chk (natEq v103.toNat v103.toNat) <|
    kx1 app5 v16 v25 v103 v694 v704 v932 (iadd .i64 v942 1) (List.set v96 v103.toNat ((gd v96 v103.toNat []) ++ [v151])) v123
def impl_BestAssembly_B1 (N : Nat) (kx1 : (List Int) → (List Int) → (List Int) → Int → Int → Int → Int → Int → (List (List Int)) → ((List Int) × (List Int) × (List Int) × (List Int)) → Option ((Int × Bool) × Unit)) (kx2 : (List Int) → (List Int) → (List Int) → Int → Int → Int → Int → Int → Int → Int → Int → Int → (List (List Int)) → ((List Int) × (List Int) × (List Int) × (List Int)) → (List Int) → Option ((Int × Bool) × Unit)) (app4 : List Int) (v14 : List Int) (v24 : List Int) (v102 : Int) (v131 : Int) (v15 : Int) (v693 : Int) (v703 : Int) (v931 : Int) (v941 : Int) (v99 : Int) (v100 : Int) (v95 : List (List Int)) (v122 : (List Int) × (List Int) × (List Int) × (List Int)) (v141 : List Int) : Option ((Int × Bool) × Unit) :=
  bif ilt v100 v99 then
    chk (ile 0 v100) <|
    bif ieq (iand .i64 (ishr .i64 v131 v100) 1) 1 then
      chk (fitB (v141.length + 1) 8) <|
      kx2 app4 v14 v24 v102 v131 v15 v693 v703 v931 v941 v99 (iadd .i64 v100 1) v95 v122 (v141 ++ [v100])
    else
      kx2 app4 v14 v24 v102 v131 v15 v693 v703 v931 v941 v99 (iadd .i64 v100 1) v95 v122 v141
  else
    impl_BestAssembly_K1 N kx1 app4 v14 v24 v102 v15 v693 v703 v931 v941 v95 v122 v141
def impl_BestAssembly_L1 (N fu_ : Nat) (kx1 : (List Int) → (List Int) → (List Int) → Int → Int → Int → Int → Int → (List (List Int)) → ((List Int) × (List Int) × (List Int) × (List Int)) → Option ((Int × Bool) × Unit)) (app4 : List Int) (v14 : List Int) (v24 : List Int) (v102 : Int) (v131 : Int) (v15 : Int) (v693 : Int) (v703 : Int) (v931 : Int) (v941 : Int) (v99 : Int) (v100 : Int) (v95 : List (List Int)) (v122 : (List Int) × (List Int) × (List Int) × (List Int)) (v141 : List Int) : Option ((Int × Bool) × Unit) :=
  iterK fu_ (fun kx2 (v_ : ((List Int) × (List Int) × (List Int) × Int × Int × Int × Int × Int × Int × Int × Int × Int × Unit) × ((List (List Int)) × ((List Int) × (List Int) × (List Int) × (List Int)) × (List Int) × Unit)) => impl_BestAssembly_B1 N kx1 (fun app4 v14 v24 v102 v131 v15 v693 v703 v931 v941 v99 v100 v95 v122 v141 => kx2 ((app4, v14, v24, v102, v131, v15, v693, v703, v931, v941, v99, v100, ()), (v95, v122, v141, ()))) v_.1.1 v_.1.2.1 v_.1.2.2.1 v_.1.2.2.2.1 v_.1.2.2.2.2.1 v_.1.2.2.2.2.2.1 v_.1.2.2.2.2.2.2.1 v_.1.2.2.2.2.2.2.2.1 v_.1.2.2.2.2.2.2.2.2.1 v_.1.2.2.2.2.2.2.2.2.2.1 v_.1.2.2.2.2.2.2.2.2.2.2.1 v_.1.2.2.2.2.2.2.2.2.2.2.2.1 v_.2.1 v_.2.2.1 v_.2.2.2.1) ((app4, v14, v24, v102, v131, v15, v693, v703, v931, v941, v99, v100, ()), (v95, v122, v141, ()))
theorem impl_BestAssembly_L1_succ (N fu_ : Nat) (kx1 : (List Int) → (List Int) → (List Int) → Int → Int → Int → Int → Int → (List (List Int)) → ((List Int) × (List Int) × (List Int) × (List Int)) → Option ((Int × Bool) × Unit)) (app4 : List Int) (v14 : List Int) (v24 : List Int) (v102 : Int) (v131 : Int) (v15 : Int) (v693 : Int) (v703 : Int) (v931 : Int) (v941 : Int) (v99 : Int) (v100 : Int) (v95 : List (List Int)) (v122 : (List Int) × (List Int) × (List Int) × (List Int)) (v141 : List Int) : impl_BestAssembly_L1 N (fu_ + 1) kx1 app4 v14 v24 v102 v131 v15 v693 v703 v931 v941 v99 v100 v95 v122 v141 = impl_BestAssembly_B1 N kx1 (fun app4 v14 v24 v102 v131 v15 v693 v703 v931 v941 v99 v100 v95 v122 v141 => impl_BestAssembly_L1 N fu_ kx1 app4 v14 v24 v102 v131 v15 v693 v703 v931 v941 v99 v100 v95 v122 v141) app4 v14 v24 v102 v131 v15 v693 v703 v931 v941 v99 v100 v95 v122 v141 := rfl
theorem impl_BestAssembly_L1_run (N : Nat) (kx1 : (List Int) → (List Int) → (List Int) → Int → Int → Int → Int → Int → (List (List Int)) → ((List Int) × (List Int) × (List Int) × (List Int)) → Option ((Int × Bool) × Unit)) (app4 : Nat → (List Int)) (v14 : Nat → (List Int)) (v24 : Nat → (List Int)) (v102 : Nat → Int) (v131 : Nat → Int) (v15 : Nat → Int) (v693 : Nat → Int) (v703 : Nat → Int) (v931 : Nat → Int) (v941 : Nat → Int) (v99 : Nat → Int) (v100 : Nat → Int) (v95 : Nat → (List (List Int))) (v122 : Nat → ((List Int) × (List Int) × (List Int) × (List Int))) (v141 : Nat → (List Int)) (n_ : Nat) {res_ : Option ((Int × Bool) × Unit)} (hstep_ : ∀ j_, j_ < n_ → ∀ kx_, impl_BestAssembly_B1 N kx1 kx_ (app4 j_) (v14 j_) (v24 j_) (v102 j_) (v131 j_) (v15 j_) (v693 j_) (v703 j_) (v931 j_) (v941 j_) (v99 j_) (v100 j_) (v95 j_) (v122 j_) (v141 j_) = kx_ (app4 (j_ + 1)) (v14 (j_ + 1)) (v24 (j_ + 1)) (v102 (j_ + 1)) (v131 (j_ + 1)) (v15 (j_ + 1)) (v693 (j_ + 1)) (v703 (j_ + 1)) (v931 (j_ + 1)) (v941 (j_ + 1)) (v99 (j_ + 1)) (v100 (j_ + 1)) (v95 (j_ + 1)) (v122 (j_ + 1)) (v141 (j_ + 1))) (hend_ : ∀ kx_, impl_BestAssembly_B1 N kx1 kx_ (app4 n_) (v14 n_) (v24 n_) (v102 n_) (v131 n_) (v15 n_) (v693 n_) (v703 n_) (v931 n_) (v941 n_) (v99 n_) (v100 n_) (v95 n_) (v122 n_) (v141 n_) = res_) (fu_ : Nat) (hm_ : n_ < fu_) : impl_BestAssembly_L1 N fu_ kx1 (app4 0) (v14 0) (v24 0) (v102 0) (v131 0) (v15 0) (v693 0) (v703 0) (v931 0) (v941 0) (v99 0) (v100 0) (v95 0) (v122 0) (v141 0) = res_ := by
  exact loop_run (L := fun fu_ (x_ : (List Int) × (List Int) × (List Int) × Int × Int × Int × Int × Int × Int × Int × Int × Int × (List (List Int)) × ((List Int) × (List Int) × (List Int) × (List Int)) × (List Int)) => impl_BestAssembly_L1 N fu_ kx1 x_.1 x_.2.1 x_.2.2.1 x_.2.2.2.1 x_.2.2.2.2.1 x_.2.2.2.2.2.1 x_.2.2.2.2.2.2.1 x_.2.2.2.2.2.2.2.1 x_.2.2.2.2.2.2.2.2.1 x_.2.2.2.2.2.2.2.2.2.1 x_.2.2.2.2.2.2.2.2.2.2.1 x_.2.2.2.2.2.2.2.2.2.2.2.1 x_.2.2.2.2.2.2.2.2.2.2.2.2.1 x_.2.2.2.2.2.2.2.2.2.2.2.2.2.1 x_.2.2.2.2.2.2.2.2.2.2.2.2.2.2) (B := fun kx_ x_ => impl_BestAssembly_B1 N kx1 (fun app4 v14 v24 v102 v131 v15 v693 v703 v931 v941 v99 v100 v95 v122 v141 => kx_ (app4, v14, v24, v102, v131, v15, v693, v703, v931, v941, v99, v100, v95, v122, v141)) x_.1 x_.2.1 x_.2.2.1 x_.2.2.2.1 x_.2.2.2.2.1 x_.2.2.2.2.2.1 x_.2.2.2.2.2.2.1 x_.2.2.2.2.2.2.2.1 x_.2.2.2.2.2.2.2.2.1 x_.2.2.2.2.2.2.2.2.2.1 x_.2.2.2.2.2.2.2.2.2.2.1 x_.2.2.2.2.2.2.2.2.2.2.2.1 x_.2.2.2.2.2.2.2.2.2.2.2.2.1 x_.2.2.2.2.2.2.2.2.2.2.2.2.2.1 x_.2.2.2.2.2.2.2.2.2.2.2.2.2.2) (fun _ _ => rfl) (fun j_ => (app4 j_, v14 j_, v24 j_, v102 j_, v131 j_, v15 j_, v693 j_, v703 j_, v931 j_, v941 j_, v99 j_, v100 j_, v95 j_, v122 j_, v141 j_)) n_ (fun j_ hi_ kx_ => hstep_ j_ hi_ _) (fun kx_ => hend_ _) fu_ hm_
def impl_BestAssembly_K2 (N : Nat) (kx : (List Int) → (List Int) → (List Int) → Int → Int → (List (List Int)) → Option ((Int × Bool) × Unit)) (app6 : List Int) (v17 : List Int) (v26 : List Int) (v695 : Int) (v705 : Int) (v97 : List (List Int)) : Option ((Int × Bool) × Unit) :=
  kx app6 v17 v26 v695 (iadd .i64 v705 1) v97
def impl_BestAssembly_B2 (N : Nat) (kx : (List Int) → (List Int) → (List Int) → Int → Int → (List (List Int)) → Option ((Int × Bool) × Unit)) (kx1 : (List Int) → (List Int) → (List Int) → Int → Int → Int → Int → Int → (List (List Int)) → ((List Int) × (List Int) × (List Int) × (List Int)) → Option ((Int × Bool) × Unit)) (app3 : List Int) (v13 : List Int) (v23 : List Int) (v101 : Int) (v692 : Int) (v702 : Int) (v93 : Int) (v94 : Int) (v92 : List (List Int)) (v121 : (List Int) × (List Int) × (List Int) × (List Int)) : Option ((Int × Bool) × Unit) :=
  bif ilt v94 v93 then
    impl_BestAssembly_L1 N N kx1 app3 v13 v23 v101 v94 1099511627776 v692 v702 v93 v94 (len app3) 0 v92 v121 []
  else
    impl_BestAssembly_K2 N kx app3 v13 v23 v692 v702 v92
def impl_BestAssembly_L2 (N fu_ : Nat) (kx : (List Int) → (List Int) → (List Int) → Int → Int → (List (List Int)) → Option ((Int × Bool) × Unit)) (app3 : List Int) (v13 : List Int) (v23 : List Int) (v101 : Int) (v692 : Int) (v702 : Int) (v93 : Int) (v94 : Int) (v92 : List (List Int)) (v121 : (List Int) × (List Int) × (List Int) × (List Int)) : Option ((Int × Bool) × Unit) :=
  iterK fu_ (fun kx1 (v_ : ((List Int) × (List Int) × (List Int) × Int × Int × Int × Int × Int × Unit) × ((List (List Int)) × ((List Int) × (List Int) × (List Int) × (List Int)) × Unit)) => impl_BestAssembly_B2 N kx (fun app3 v13 v23 v101 v692 v702 v93 v94 v92 v121 => kx1 ((app3, v13, v23, v101, v692, v702, v93, v94, ()), (v92, v121, ()))) v_.1.1 v_.1.2.1 v_.1.2.2.1 v_.1.2.2.2.1 v_.1.2.2.2.2.1 v_.1.2.2.2.2.2.1 v_.1.2.2.2.2.2.2.1 v_.1.2.2.2.2.2.2.2.1 v_.2.1 v_.2.2.1) ((app3, v13, v23, v101, v692, v702, v93, v94, ()), (v92, v121, ()))
theorem impl_BestAssembly_L2_succ (N fu_ : Nat) (kx : (List Int) → (List Int) → (List Int) → Int → Int → (List (List Int)) → Option ((Int × Bool) × Unit)) (app3 : List Int) (v13 : List Int) (v23 : List Int) (v101 : Int) (v692 : Int) (v702 : Int) (v93 : Int) (v94 : Int) (v92 : List (List Int)) (v121 : (List Int) × (List Int) × (List Int) × (List Int)) : impl_BestAssembly_L2 N (fu_ + 1) kx app3 v13 v23 v101 v692 v702 v93 v94 v92 v121 = impl_BestAssembly_B2 N kx (fun app3 v13 v23 v101 v692 v702 v93 v94 v92 v121 => impl_BestAssembly_L2 N fu_ kx app3 v13 v23 v101 v692 v702 v93 v94 v92 v121) app3 v13 v23 v101 v692 v702 v93 v94 v92 v121 := rfl
theorem impl_BestAssembly_L2_run (N : Nat) (kx : (List Int) → (List Int) → (List Int) → Int → Int → (List (List Int)) → Option ((Int × Bool) × Unit)) (app3 : Nat → (List Int)) (v13 : Nat → (List Int)) (v23 : Nat → (List Int)) (v101 : Nat → Int) (v692 : Nat → Int) (v702 : Nat → Int) (v93 : Nat → Int) (v94 : Nat → Int) (v92 : Nat → (List (List Int))) (v121 : Nat → ((List Int) × (List Int) × (List Int) × (List Int))) (n_ : Nat) {res_ : Option ((Int × Bool) × Unit)} (hstep_ : ∀ j_, j_ < n_ → ∀ kx_, impl_BestAssembly_B2 N kx kx_ (app3 j_) (v13 j_) (v23 j_) (v101 j_) (v692 j_) (v702 j_) (v93 j_) (v94 j_) (v92 j_) (v121 j_) = kx_ (app3 (j_ + 1)) (v13 (j_ + 1)) (v23 (j_ + 1)) (v101 (j_ + 1)) (v692 (j_ + 1)) (v702 (j_ + 1)) (v93 (j_ + 1)) (v94 (j_ + 1)) (v92 (j_ + 1)) (v121 (j_ + 1))) (hend_ : ∀ kx_, impl_BestAssembly_B2 N kx kx_ (app3 n_) (v13 n_) (v23 n_) (v101 n_) (v692 n_) (v702 n_) (v93 n_) (v94 n_) (v92 n_) (v121 n_) = res_) (fu_ : Nat) (hm_ : n_ < fu_) : impl_BestAssembly_L2 N fu_ kx (app3 0) (v13 0) (v23 0) (v101 0) (v692 0) (v702 0) (v93 0) (v94 0) (v92 0) (v121 0) = res_ := by
  exact loop_run (L := fun fu_ (x_ : (List Int) × (List Int) × (List Int) × Int × Int × Int × Int × Int × (List (List Int)) × ((List Int) × (List Int) × (List Int) × (List Int))) => impl_BestAssembly_L2 N fu_ kx x_.1 x_.2.1 x_.2.2.1 x_.2.2.2.1 x_.2.2.2.2.1 x_.2.2.2.2.2.1 x_.2.2.2.2.2.2.1 x_.2.2.2.2.2.2.2.1 x_.2.2.2.2.2.2.2.2.1 x_.2.2.2.2.2.2.2.2.2) (B := fun kx_ x_ => impl_BestAssembly_B2 N kx (fun app3 v13 v23 v101 v692 v702 v93 v94 v92 v121 => kx_ (app3, v13, v23, v101, v692, v702, v93, v94, v92, v121)) x_.1 x_.2.1 x_.2.2.1 x_.2.2.2.1 x_.2.2.2.2.1 x_.2.2.2.2.2.1 x_.2.2.2.2.2.2.1 x_.2.2.2.2.2.2.2.1 x_.2.2.2.2.2.2.2.2.1 x_.2.2.2.2.2.2.2.2.2) (fun _ _ => rfl) (fun j_ => (app3 j_, v13 j_, v23 j_, v101 j_, v692 j_, v702 j_, v93 j_, v94 j_, v92 j_, v121 j_)) n_ (fun j_ hi_ kx_ => hstep_ j_ hi_ _) (fun kx_ => hend_ _) fu_ hm_
def impl_BestAssembly_K3 (N : Nat) (kx : (List Int) → (List Int) → (List Int) → Int → Int → (List (List Int)) → Option ((Int × Bool) × Unit)) (app2 : List Int) (v12 : List Int) (v22 : List Int) (v10 : Int) (v111 : Int) (v691 : Int) (v701 : Int) (v91 : List (List Int)) : Option ((Int × Bool) × Unit) :=
  chk (inB v10 v12.length) <|
  (impl_evenCase N app2 (gd v12 v10.toNat 0) v111).bind fun r6 =>
  chk (ile 0 (len app2)) <|
  impl_BestAssembly_L2 N N kx app2 v12 v22 v10 v691 v701 (ishl .i64 1 (len app2)) 0 v91 r6.1
def impl_BestAssembly_K4 (N : Nat) (kx4 : (List (List Int)) → Int → Int → Int → (List Int) → Int → Int → (List (List Int)) → Int → Int → Option ((Int × Bool) × Unit)) (v913 : List (List Int)) (v193 : Int) (v202 : Int) (v213 : Int) (v242 : Int) (v1373 : List Int) (v1383 : Int) (v1393 : Int) (v1452 : List (List Int)) (v1462 : Int) (v1472 : Int) : Option ((Int × Bool) × Unit) :=
  kx4 v913 v193 v202 (iadd .i64 v213 v242) v1373 v1383 v1393 v1452 v1462 (iadd .i64 v1472 1)
def impl_BestAssembly_B3 (N : Nat) (kx4 : (List (List Int)) → Int → Int → Int → (List Int) → Int → Int → (List (List Int)) → Int → Int → Option ((Int × Bool) × Unit)) (kx5 : (List (List Int)) → Int → Int → Int → Int → (List Int) → Int → Int → (List (List Int)) → Int → Int → (List Int) → Int → Int → Option ((Int × Bool) × Unit)) (v912 : List (List Int)) (v192 : Int) (v201 : Int) (v212 : Int) (v241 : Int) (v1372 : List Int) (v1382 : Int) (v1392 : Int) (v1451 : List (List Int)) (v1461 : Int) (v1471 : Int) (v1511 : List Int) (v152 : Int) (v153 : Int) : Option ((Int × Bool) × Unit) :=
  bif ilt v153 v152 then
    chk (inB v153 v1511.length) <|
    bif ieq (iandn .i64 v153 v201) 0 then
      kx5 v912 v192 v201 v212 (imin v241 (gd v1511 v153.toNat 0)) v1372 v1382 v1392 v1451 v1461 v1471 v1511 v152 (iadd .i64 v153 1)
    else
      kx5 v912 v192 v201 v212 v241 v1372 v1382 v1392 v1451 v1461 v1471 v1511 v152 (iadd .i64 v153 1)
  else
    impl_BestAssembly_K4 N kx4 v912 v192 v201 v212 v241 v1372 v1382 v1392 v1451 v1461 v1471
def impl_BestAssembly_L3 (N fu_ : Nat) (kx4 : (List (List Int)) → Int → Int → Int → (List Int) → Int → Int → (List (List Int)) → Int → Int → Option ((Int × Bool) × Unit)) (v912 : List (List Int)) (v192 : Int) (v201 : Int) (v212 : Int) (v241 : Int) (v1372 : List Int) (v1382 : Int) (v1392 : Int) (v1451 : List (List Int)) (v1461 : Int) (v1471 : Int) (v1511 : List Int) (v152 : Int) (v153 : Int) : Option ((Int × Bool) × Unit) :=
  iterK fu_ (fun kx5 (v_ : ((List (List Int)) × Int × Int × Int × Int × (List Int) × Int × Int × (List (List Int)) × Int × Int × (List Int) × Int × Int × Unit) × (Unit)) => impl_BestAssembly_B3 N kx4 (fun v912 v192 v201 v212 v241 v1372 v1382 v1392 v1451 v1461 v1471 v1511 v152 v153 => kx5 ((v912, v192, v201, v212, v241, v1372, v1382, v1392, v1451, v1461, v1471, v1511, v152, v153, ()), ())) v_.1.1 v_.1.2.1 v_.1.2.2.1 v_.1.2.2.2.1 v_.1.2.2.2.2.1 v_.1.2.2.2.2.2.1 v_.1.2.2.2.2.2.2.1 v_.1.2.2.2.2.2.2.2.1 v_.1.2.2.2.2.2.2.2.2.1 v_.1.2.2.2.2.2.2.2.2.2.1 v_.1.2.2.2.2.2.2.2.2.2.2.1 v_.1.2.2.2.2.2.2.2.2.2.2.2.1 v_.1.2.2.2.2.2.2.2.2.2.2.2.2.1 v_.1.2.2.2.2.2.2.2.2.2.2.2.2.2.1) ((v912, v192, v201, v212, v241, v1372, v1382, v1392, v1451, v1461, v1471, v1511, v152, v153, ()), ())
theorem impl_BestAssembly_L3_succ (N fu_ : Nat) (kx4 : (List (List Int)) → Int → Int → Int → (List Int) → Int → Int → (List (List Int)) → Int → Int → Option ((Int × Bool) × Unit)) (v912 : List (List Int)) (v192 : Int) (v201 : Int) (v212 : Int) (v241 : Int) (v1372 : List Int) (v1382 : Int) (v1392 : Int) (v1451 : List (List Int)) (v1461 : Int) (v1471 : Int) (v1511 : List Int) (v152 : Int) (v153 : Int) : impl_BestAssembly_L3 N (fu_ + 1) kx4 v912 v192 v201 v212 v241 v1372 v1382 v1392 v1451 v1461 v1471 v1511 v152 v153 = impl_BestAssembly_B3 N kx4 (fun v912 v192 v201 v212 v241 v1372 v1382 v1392 v1451 v1461 v1471 v1511 v152 v153 => impl_BestAssembly_L3 N fu_ kx4 v912 v192 v201 v212 v241 v1372 v1382 v1392 v1451 v1461 v1471 v1511 v152 v153) v912 v192 v201 v212 v241 v1372 v1382 v1392 v1451 v1461 v1471 v1511 v152 v153 := rfl
theorem impl_BestAssembly_L3_run (N : Nat) (kx4 : (List (List Int)) → Int → Int → Int → (List Int) → Int → Int → (List (List Int)) → Int → Int → Option ((Int × Bool) × Unit)) (v912 : Nat → (List (List Int))) (v192 : Nat → Int) (v201 : Nat → Int) (v212 : Nat → Int) (v241 : Nat → Int) (v1372 : Nat → (List Int)) (v1382 : Nat → Int) (v1392 : Nat → Int) (v1451 : Nat → (List (List Int))) (v1461 : Nat → Int) (v1471 : Nat → Int) (v1511 : Nat → (List Int)) (v152 : Nat → Int) (v153 : Nat → Int) (n_ : Nat) {res_ : Option ((Int × Bool) × Unit)} (hstep_ : ∀ j_, j_ < n_ → ∀ kx_, impl_BestAssembly_B3 N kx4 kx_ (v912 j_) (v192 j_) (v201 j_) (v212 j_) (v241 j_) (v1372 j_) (v1382 j_) (v1392 j_) (v1451 j_) (v1461 j_) (v1471 j_) (v1511 j_) (v152 j_) (v153 j_) = kx_ (v912 (j_ + 1)) (v192 (j_ + 1)) (v201 (j_ + 1)) (v212 (j_ + 1)) (v241 (j_ + 1)) (v1372 (j_ + 1)) (v1382 (j_ + 1)) (v1392 (j_ + 1)) (v1451 (j_ + 1)) (v1461 (j_ + 1)) (v1471 (j_ + 1)) (v1511 (j_ + 1)) (v152 (j_ + 1)) (v153 (j_ + 1))) (hend_ : ∀ kx_, impl_BestAssembly_B3 N kx4 kx_ (v912 n_) (v192 n_) (v201 n_) (v212 n_) (v241 n_) (v1372 n_) (v1382 n_) (v1392 n_) (v1451 n_) (v1461 n_) (v1471 n_) (v1511 n_) (v152 n_) (v153 n_) = res_) (fu_ : Nat) (hm_ : n_ < fu_) : impl_BestAssembly_L3 N fu_ kx4 (v912 0) (v192 0) (v201 0) (v212 0) (v241 0) (v1372 0) (v1382 0) (v1392 0) (v1451 0) (v1461 0) (v1471 0) (v1511 0) (v152 0) (v153 0) = res_ := by
  exact loop_run (L := fun fu_ (x_ : (List (List Int)) × Int × Int × Int × Int × (List Int) × Int × Int × (List (List Int)) × Int × Int × (List Int) × Int × Int) => impl_BestAssembly_L3 N fu_ kx4 x_.1 x_.2.1 x_.2.2.1 x_.2.2.2.1 x_.2.2.2.2.1 x_.2.2.2.2.2.1 x_.2.2.2.2.2.2.1 x_.2.2.2.2.2.2.2.1 x_.2.2.2.2.2.2.2.2.1 x_.2.2.2.2.2.2.2.2.2.1 x_.2.2.2.2.2.2.2.2.2.2.1 x_.2.2.2.2.2.2.2.2.2.2.2.1 x_.2.2.2.2.2.2.2.2.2.2.2.2.1 x_.2.2.2.2.2.2.2.2.2.2.2.2.2) (B := fun kx_ x_ => impl_BestAssembly_B3 N kx4 (fun v912 v192 v201 v212 v241 v1372 v1382 v1392 v1451 v1461 v1471 v1511 v152 v153 => kx_ (v912, v192, v201, v212, v241, v1372, v1382, v1392, v1451, v1461, v1471, v1511, v152, v153)) x_.1 x_.2.1 x_.2.2.1 x_.2.2.2.1 x_.2.2.2.2.1 x_.2.2.2.2.2.1 x_.2.2.2.2.2.2.1 x_.2.2.2.2.2.2.2.1 x_.2.2.2.2.2.2.2.2.1 x_.2.2.2.2.2.2.2.2.2.1 x_.2.2.2.2.2.2.2.2.2.2.1 x_.2.2.2.2.2.2.2.2.2.2.2.1 x_.2.2.2.2.2.2.2.2.2.2.2.2.1 x_.2.2.2.2.2.2.2.2.2.2.2.2.2) (fun _ _ => rfl) (fun j_ => (v912 j_, v192 j_, v201 j_, v212 j_, v241 j_, v1372 j_, v1382 j_, v1392 j_, v1451 j_, v1461 j_, v1471 j_, v1511 j_, v152 j_, v153 j_)) n_ (fun j_ hi_ kx_ => hstep_ j_ hi_ _) (fun kx_ => hend_ _) fu_ hm_
def impl_BestAssembly_K5 (N : Nat) (kx3 : (List (List Int)) → Int → (List Int) → Int → Int → Option ((Int × Bool) × Unit)) (v914 : List (List Int)) (v194 : Int) (v214 : Int) (v1374 : List Int) (v1384 : Int) (v1394 : Int) : Option ((Int × Bool) × Unit) :=
  kx3 v914 (imin v194 v214) v1374 v1384 (iadd .i64 v1394 1)
def impl_BestAssembly_B4 (N : Nat) (kx3 : (List (List Int)) → Int → (List Int) → Int → Int → Option ((Int × Bool) × Unit)) (kx4 : (List (List Int)) → Int → Int → Int → (List Int) → Int → Int → (List (List Int)) → Int → Int → Option ((Int × Bool) × Unit)) (v911 : List (List Int)) (v191 : Int) (v20 : Int) (v211 : Int) (v1371 : List Int) (v1381 : Int) (v1391 : Int) (v145 : List (List Int)) (v146 : Int) (v147 : Int) : Option ((Int × Bool) × Unit) :=
  bif ilt v147 v146 then
    chk (inB v147 v145.length) <|
    impl_BestAssembly_L3 N N kx4 v911 v191 v20 v211 1099511627776 v1371 v1381 v1391 v145 v146 v147 (gd v145 v147.toNat []) (len (gd v145 v147.toNat [])) 0
  else
    impl_BestAssembly_K5 N kx3 v911 v191 v211 v1371 v1381 v1391
def impl_BestAssembly_L4 (N fu_ : Nat) (kx3 : (List (List Int)) → Int → (List Int) → Int → Int → Option ((Int × Bool) × Unit)) (v911 : List (List Int)) (v191 : Int) (v20 : Int) (v211 : Int) (v1371 : List Int) (v1381 : Int) (v1391 : Int) (v145 : List (List Int)) (v146 : Int) (v147 : Int) : Option ((Int × Bool) × Unit) :=
  iterK fu_ (fun kx4 (v_ : ((List (List Int)) × Int × Int × Int × (List Int) × Int × Int × (List (List Int)) × Int × Int × Unit) × (Unit)) => impl_BestAssembly_B4 N kx3 (fun v911 v191 v20 v211 v1371 v1381 v1391 v145 v146 v147 => kx4 ((v911, v191, v20, v211, v1371, v1381, v1391, v145, v146, v147, ()), ())) v_.1.1 v_.1.2.1 v_.1.2.2.1 v_.1.2.2.2.1 v_.1.2.2.2.2.1 v_.1.2.2.2.2.2.1 v_.1.2.2.2.2.2.2.1 v_.1.2.2.2.2.2.2.2.1 v_.1.2.2.2.2.2.2.2.2.1 v_.1.2.2.2.2.2.2.2.2.2.1) ((v911, v191, v20, v211, v1371, v1381, v1391, v145, v146, v147, ()), ())
theorem impl_BestAssembly_L4_succ (N fu_ : Nat) (kx3 : (List (List Int)) → Int → (List Int) → Int → Int → Option ((Int × Bool) × Unit)) (v911 : List (List Int)) (v191 : Int) (v20 : Int) (v211 : Int) (v1371 : List Int) (v1381 : Int) (v1391 : Int) (v145 : List (List Int)) (v146 : Int) (v147 : Int) : impl_BestAssembly_L4 N (fu_ + 1) kx3 v911 v191 v20 v211 v1371 v1381 v1391 v145 v146 v147 = impl_BestAssembly_B4 N kx3 (fun v911 v191 v20 v211 v1371 v1381 v1391 v145 v146 v147 => impl_BestAssembly_L4 N fu_ kx3 v911 v191 v20 v211 v1371 v1381 v1391 v145 v146 v147) v911 v191 v20 v211 v1371 v1381 v1391 v145 v146 v147 := rfl
theorem impl_BestAssembly_L4_run (N : Nat) (kx3 : (List (List Int)) → Int → (List Int) → Int → Int → Option ((Int × Bool) × Unit)) (v911 : Nat → (List (List Int))) (v191 : Nat → Int) (v20 : Nat → Int) (v211 : Nat → Int) (v1371 : Nat → (List Int)) (v1381 : Nat → Int) (v1391 : Nat → Int) (v145 : Nat → (List (List Int))) (v146 : Nat → Int) (v147 : Nat → Int) (n_ : Nat) {res_ : Option ((Int × Bool) × Unit)} (hstep_ : ∀ j_, j_ < n_ → ∀ kx_, impl_BestAssembly_B4 N kx3 kx_ (v911 j_) (v191 j_) (v20 j_) (v211 j_) (v1371 j_) (v1381 j_) (v1391 j_) (v145 j_) (v146 j_) (v147 j_) = kx_ (v911 (j_ + 1)) (v191 (j_ + 1)) (v20 (j_ + 1)) (v211 (j_ + 1)) (v1371 (j_ + 1)) (v1381 (j_ + 1)) (v1391 (j_ + 1)) (v145 (j_ + 1)) (v146 (j_ + 1)) (v147 (j_ + 1))) (hend_ : ∀ kx_, impl_BestAssembly_B4 N kx3 kx_ (v911 n_) (v191 n_) (v20 n_) (v211 n_) (v1371 n_) (v1381 n_) (v1391 n_) (v145 n_) (v146 n_) (v147 n_) = res_) (fu_ : Nat) (hm_ : n_ < fu_) : impl_BestAssembly_L4 N fu_ kx3 (v911 0) (v191 0) (v20 0) (v211 0) (v1371 0) (v1381 0) (v1391 0) (v145 0) (v146 0) (v147 0) = res_ := by
  exact loop_run (L := fun fu_ (x_ : (List (List Int)) × Int × Int × Int × (List Int) × Int × Int × (List (List Int)) × Int × Int) => impl_BestAssembly_L4 N fu_ kx3 x_.1 x_.2.1 x_.2.2.1 x_.2.2.2.1 x_.2.2.2.2.1 x_.2.2.2.2.2.1 x_.2.2.2.2.2.2.1 x_.2.2.2.2.2.2.2.1 x_.2.2.2.2.2.2.2.2.1 x_.2.2.2.2.2.2.2.2.2) (B := fun kx_ x_ => impl_BestAssembly_B4 N kx3 (fun v911 v191 v20 v211 v1371 v1381 v1391 v145 v146 v147 => kx_ (v911, v191, v20, v211, v1371, v1381, v1391, v145, v146, v147)) x_.1 x_.2.1 x_.2.2.1 x_.2.2.2.1 x_.2.2.2.2.1 x_.2.2.2.2.2.1 x_.2.2.2.2.2.2.1 x_.2.2.2.2.2.2.2.1 x_.2.2.2.2.2.2.2.2.1 x_.2.2.2.2.2.2.2.2.2) (fun _ _ => rfl) (fun j_ => (v911 j_, v191 j_, v20 j_, v211 j_, v1371 j_, v1381 j_, v1391 j_, v145 j_, v146 j_, v147 j_)) n_ (fun j_ hi_ kx_ => hstep_ j_ hi_ _) (fun kx_ => hend_ _) fu_ hm_
def impl_BestAssembly_K6 (N : Nat) (v195 : Int) : Option ((Int × Bool) × Unit) :=
  some ((v195, true), ())
def impl_BestAssembly_B5 (N : Nat) (kx3 : (List (List Int)) → Int → (List Int) → Int → Int → Option ((Int × Bool) × Unit)) (v910 : List (List Int)) (v19 : Int) (v137 : List Int) (v138 : Int) (v139 : Int) : Option ((Int × Bool) × Unit) :=
  bif ilt v139 v138 then
    chk (inB v139 v137.length) <|
    chk (cutB 1 (len v910) v910.length) <|
    impl_BestAssembly_L4 N N kx3 v910 v19 v139 (gd v137 v139.toNat 0) v137 v138 v139 (cut v910 1 (len v910)) (len (cut v910 1 (len v910))) 0
  else
    impl_BestAssembly_K6 N v19
def impl_BestAssembly_L5 (N fu_ : Nat) (v910 : List (List Int)) (v19 : Int) (v137 : List Int) (v138 : Int) (v139 : Int) : Option ((Int × Bool) × Unit) :=
  iterK fu_ (fun kx3 (v_ : ((List (List Int)) × Int × (List Int) × Int × Int × Unit) × (Unit)) => impl_BestAssembly_B5 N (fun v910 v19 v137 v138 v139 => kx3 ((v910, v19, v137, v138, v139, ()), ())) v_.1.1 v_.1.2.1 v_.1.2.2.1 v_.1.2.2.2.1 v_.1.2.2.2.2.1) ((v910, v19, v137, v138, v139, ()), ())
theorem impl_BestAssembly_L5_succ (N fu_ : Nat) (v910 : List (List Int)) (v19 : Int) (v137 : List Int) (v138 : Int) (v139 : Int) : impl_BestAssembly_L5 N (fu_ + 1) v910 v19 v137 v138 v139 = impl_BestAssembly_B5 N (fun v910 v19 v137 v138 v139 => impl_BestAssembly_L5 N fu_ v910 v19 v137 v138 v139) v910 v19 v137 v138 v139 := rfl
theorem impl_BestAssembly_L5_run (N : Nat) (v910 : Nat → (List (List Int))) (v19 : Nat → Int) (v137 : Nat → (List Int)) (v138 : Nat → Int) (v139 : Nat → Int) (n_ : Nat) {res_ : Option ((Int × Bool) × Unit)} (hstep_ : ∀ j_, j_ < n_ → ∀ kx_, impl_BestAssembly_B5 N kx_ (v910 j_) (v19 j_) (v137 j_) (v138 j_) (v139 j_) = kx_ (v910 (j_ + 1)) (v19 (j_ + 1)) (v137 (j_ + 1)) (v138 (j_ + 1)) (v139 (j_ + 1))) (hend_ : ∀ kx_, impl_BestAssembly_B5 N kx_ (v910 n_) (v19 n_) (v137 n_) (v138 n_) (v139 n_) = res_) (fu_ : Nat) (hm_ : n_ < fu_) : impl_BestAssembly_L5 N fu_ (v910 0) (v19 0) (v137 0) (v138 0) (v139 0) = res_ := by
  exact loop_run (L := fun fu_ (x_ : (List (List Int)) × Int × (List Int) × Int × Int) => impl_BestAssembly_L5 N fu_ x_.1 x_.2.1 x_.2.2.1 x_.2.2.2.1 x_.2.2.2.2) (B := fun kx_ x_ => impl_BestAssembly_B5 N (fun v910 v19 v137 v138 v139 => kx_ (v910, v19, v137, v138, v139)) x_.1 x_.2.1 x_.2.2.1 x_.2.2.2.1 x_.2.2.2.2) (fun _ _ => rfl) (fun j_ => (v910 j_, v19 j_, v137 j_, v138 j_, v139 j_)) n_ (fun j_ hi_ kx_ => hstep_ j_ hi_ _) (fun kx_ => hend_ _) fu_ hm_
def impl_BestAssembly_K7 (N : Nat) (v98 : List (List Int)) : Option ((Int × Bool) × Unit) :=
  chk (inB 0 v98.length) <|
  impl_BestAssembly_L5 N N v98 1099511627776 (gd v98 0 []) (len (gd v98 0 [])) 0
def impl_BestAssembly_B6 (N : Nat) (kx : (List Int) → (List Int) → (List Int) → Int → Int → (List (List Int)) → Option ((Int × Bool) × Unit)) (app1 : List Int) (v11 : List Int) (v21 : List Int) (v69 : Int) (v70 : Int) (v9 : List (List Int)) : Option ((Int × Bool) × Unit) :=
  bif ilt v70 v69 then
    chk (inB v70 v21.length) <|
    bif ieq v70 0 then
      chk (cutB 1 (len v21) v21.length) <|
      (impl_total N (cut v21 1 (len v21))).bind fun r5 =>
      impl_BestAssembly_K3 N kx app1 v11 v21 v70 (isub .i64 (gd v21 v70.toNat 0) r5.1) v69 v70 v9
    else
      impl_BestAssembly_K3 N kx app1 v11 v21 v70 (gd v21 v70.toNat 0) v69 v70 v9
  else
    impl_BestAssembly_K7 N v9
def impl_BestAssembly_L6 (N fu_ : Nat) (app1 : List Int) (v11 : List Int) (v21 : List Int) (v69 : Int) (v70 : Int) (v9 : List (List Int)) : Option ((Int × Bool) × Unit) :=
  iterK fu_ (fun kx (v_ : ((List Int) × (List Int) × (List Int) × Int × Int × Unit) × ((List (List Int)) × Unit)) => impl_BestAssembly_B6 N (fun app1 v11 v21 v69 v70 v9 => kx ((app1, v11, v21, v69, v70, ()), (v9, ()))) v_.1.1 v_.1.2.1 v_.1.2.2.1 v_.1.2.2.2.1 v_.1.2.2.2.2.1 v_.2.1) ((app1, v11, v21, v69, v70, ()), (v9, ()))
theorem impl_BestAssembly_L6_succ (N fu_ : Nat) (app1 : List Int) (v11 : List Int) (v21 : List Int) (v69 : Int) (v70 : Int) (v9 : List (List Int)) : impl_BestAssembly_L6 N (fu_ + 1) app1 v11 v21 v69 v70 v9 = impl_BestAssembly_B6 N (fun app1 v11 v21 v69 v70 v9 => impl_BestAssembly_L6 N fu_ app1 v11 v21 v69 v70 v9) app1 v11 v21 v69 v70 v9 := rfl
theorem impl_BestAssembly_L6_run (N : Nat) (app1 : Nat → (List Int)) (v11 : Nat → (List Int)) (v21 : Nat → (List Int)) (v69 : Nat → Int) (v70 : Nat → Int) (v9 : Nat → (List (List Int))) (n_ : Nat) {res_ : Option ((Int × Bool) × Unit)} (hstep_ : ∀ j_, j_ < n_ → ∀ kx_, impl_BestAssembly_B6 N kx_ (app1 j_) (v11 j_) (v21 j_) (v69 j_) (v70 j_) (v9 j_) = kx_ (app1 (j_ + 1)) (v11 (j_ + 1)) (v21 (j_ + 1)) (v69 (j_ + 1)) (v70 (j_ + 1)) (v9 (j_ + 1))) (hend_ : ∀ kx_, impl_BestAssembly_B6 N kx_ (app1 n_) (v11 n_) (v21 n_) (v69 n_) (v70 n_) (v9 n_) = res_) (fu_ : Nat) (hm_ : n_ < fu_) : impl_BestAssembly_L6 N fu_ (app1 0) (v11 0) (v21 0) (v69 0) (v70 0) (v9 0) = res_ := by
  exact loop_run (L := fun fu_ (x_ : (List Int) × (List Int) × (List Int) × Int × Int × (List (List Int))) => impl_BestAssembly_L6 N fu_ x_.1 x_.2.1 x_.2.2.1 x_.2.2.2.1 x_.2.2.2.2.1 x_.2.2.2.2.2) (B := fun kx_ x_ => impl_BestAssembly_B6 N (fun app1 v11 v21 v69 v70 v9 => kx_ (app1, v11, v21, v69, v70, v9)) x_.1 x_.2.1 x_.2.2.1 x_.2.2.2.1 x_.2.2.2.2.1 x_.2.2.2.2.2) (fun _ _ => rfl) (fun j_ => (app1 j_, v11 j_, v21 j_, v69 j_, v70 j_, v9 j_)) n_ (fun j_ hi_ kx_ => hstep_ j_ hi_ _) (fun kx_ => hend_ _) fu_ hm_
def impl_BestAssembly (N : Nat) (app : List Int) (v1 : List Int) (v2 : List Int) : Option ((Int × Bool) × Unit) :=
  bif ilt 6 (len app) then
    some ((0, false), ())
  else
    (impl_allWithin N app 0 20).bind fun r =>
    bif !r.1 then
      some ((0, false), ())
    else
      (impl_within N (len v1) 1 3).bind fun r1 =>
      bif !r1.1 then
        some ((0, false), ())
      else
        bif ine (len v2) (len v1) then
          some ((0, false), ())
        else
          (impl_allWithin N v1 0 99).bind fun r2 =>
          bif !r2.1 then
            some ((0, false), ())
          else
            (impl_allWithin N v2 0 9).bind fun r3 =>
            bif !r3.1 then
              some ((0, false), ())
            else
              chk (inB 0 v2.length) <|
              chk (cutB 1 (len v2) v2.length) <|
              (impl_total N (cut v2 1 (len v2))).bind fun r4 =>
              bif ilt (gd v2 0 0) r4.1 then
                some ((0, false), ())
              else
                chk (mkB (len v1) 24) <|
                impl_BestAssembly_L6 N N app v1 v2 (len v1) 0 (List.replicate (len v1).toNat ([] : List Int))
def laws_eqIntS_K1 (N : Nat) : Option (Bool × Unit) :=
  some (true, ())
def laws_eqIntS_B1 (N : Nat) (kx : (List Int) → (List Int) → Int → Option (Bool × Unit)) (a1 : List Int) (b1 : List Int) (i : Int) : Option (Bool × Unit) :=
  bif ilt i (len a1) then
    chk (inB i a1.length) <|
    chk (inB i b1.length) <|
    bif ine (gd a1 i.toNat 0) (gd b1 i.toNat 0) then
      some (false, ())
    else
      kx a1 b1 (iadd .i64 i 1)
  else
    laws_eqIntS_K1 N
def laws_eqIntS_L1 (N fu_ : Nat) (a1 : List Int) (b1 : List Int) (i : Int) : Option (Bool × Unit) :=
  iterK fu_ (fun kx (v_ : ((List Int) × (List Int) × Int × Unit) × (Unit)) => laws_eqIntS_B1 N (fun a1 b1 i => kx ((a1, b1, i, ()), ())) v_.1.1 v_.1.2.1 v_.1.2.2.1) ((a1, b1, i, ()), ())
theorem laws_eqIntS_L1_succ (N fu_ : Nat) (a1 : List Int) (b1 : List Int) (i : Int) : laws_eqIntS_L1 N (fu_ + 1) a1 b1 i = laws_eqIntS_B1 N (fun a1 b1 i => laws_eqIntS_L1 N fu_ a1 b1 i) a1 b1 i := rfl
theorem laws_eqIntS_L1_run (N : Nat) (a1 : Nat → (List Int)) (b1 : Nat → (List Int)) (i : Nat → Int) (n_ : Nat) {res_ : Option (Bool × Unit)} (hstep_ : ∀ j_, j_ < n_ → ∀ kx_, laws_eqIntS_B1 N kx_ (a1 j_) (b1 j_) (i j_) = kx_ (a1 (j_ + 1)) (b1 (j_ + 1)) (i (j_ + 1))) (hend_ : ∀ kx_, laws_eqIntS_B1 N kx_ (a1 n_) (b1 n_) (i n_) = res_) (fu_ : Nat) (hm_ : n_ < fu_) : laws_eqIntS_L1 N fu_ (a1 0) (b1 0) (i 0) = res_ := by
  exact loop_run (L := fun fu_ (x_ : (List Int) × (List Int) × Int) => laws_eqIntS_L1 N fu_ x_.1 x_.2.1 x_.2.2) (B := fun kx_ x_ => laws_eqIntS_B1 N (fun a1 b1 i => kx_ (a1, b1, i)) x_.1 x_.2.1 x_.2.2) (fun _ _ => rfl) (fun j_ => (a1 j_, b1 j_, i j_)) n_ (fun j_ hi_ kx_ => hstep_ j_ hi_ _) (fun kx_ => hend_ _) fu_ hm_
def laws_eqIntS (N : Nat) (a : List Int) (b : List Int) : Option (Bool × Unit) :=
  bif ine (len a) (len b) then
    some (false, ())
  else
    laws_eqIntS_L1 N N a b 0
def laws_FnExactBestAssembly (N : Nat) (app : List Int) (v1 : List Int) (v2 : List Int) : Option (Bool × Unit) :=
  bif ilt 1048576 (len app) then
    some (true, ())
  else
    bif ilt 1048576 (len v1) then
      some (true, ())
    else
      bif ilt 1048576 (len v2) then
        some (true, ())
      else
        (laws_toIntS N app).bind fun r =>
        (laws_toIntS N v1).bind fun r1 =>
        (laws_toIntS N v2).bind fun r2 =>
        (spec_BestAssembly N r.1 r1.1 r2.1).bind fun r3 =>
        (laws_toIntS N app).bind fun r4 =>
        (laws_toIntS N v1).bind fun r5 =>
        (laws_toIntS N v2).bind fun r6 =>
        (impl_BestAssembly N r4.1 r5.1 r6.1).bind fun r7 =>
        bif ine r7.1.1 r3.1.1 then
          some (false, ())
        else
          bif !(Go.Rx.beq r7.1.2 r3.1.2) then
            some (false, ())
          else
            (laws_toIntS N app).bind fun r8 =>
            (laws_eqIntS N r4.1 r8.1).bind fun r9 =>
            bif !r9.1 then
              some (false, ())
            else
              (laws_toIntS N v1).bind fun r10 =>
              (laws_eqIntS N r5.1 r10.1).bind fun r11 =>
              bif !r11.1 then
                some (false, ())
              else
                (laws_toIntS N v2).bind fun r12 =>
                (laws_eqIntS N r6.1 r12.1).bind fun r13 =>
                bif !r13.1 then
                  some (false, ())
                else
                  some (true, ())
end Px
end Go.Rx
