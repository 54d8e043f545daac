/- This text defines the plain functions that the Go functions behind FnTraces compute; no condition. -/
import Derived.Test.YtnpggafmpknkaaaDoorRxd
set_option linter.unusedVariables false
set_option linter.unusedSimpArgs false
namespace Go.Rx
namespace Px
def laws_rBig (N : Nat) (code : List Int) : Option (Bool × Unit) :=
  some (ilt 65536 (len code), ())
def pspec_l1Cur_next_K1 (N : Nat) (b : Int) (c1 : (List Int) × Int × Int) : Option (Int × ((List Int) × Int × Int)) :=
  bif ile (iadd .i64 c1.2.1 1) (len c1.1) then
    some (b, (c1.1, (iadd .i64 c1.2.1 1, iadd .u64 (iadd .u64 (imul .u64 c1.2.2 6364136223846793005) (icv .u64 b)) 462197)))
  else
    chk (ile 0 40) <|
    some (icv .i64 (iand .u64 (ishr .u64 (iadd .u64 (iadd .u64 (imul .u64 c1.2.2 6364136223846793005) (icv .u64 b)) 462197) 40) 255), (c1.1, (iadd .i64 c1.2.1 1, iadd .u64 (iadd .u64 (imul .u64 c1.2.2 6364136223846793005) (icv .u64 b)) 462197)))
def pspec_l1Cur_next (N : Nat) (c : (List Int) × Int × Int) : Option (Int × ((List Int) × Int × Int)) :=
  bif ilt c.2.1 (len c.1) then
    chk (inB c.2.1 c.1.length) <|
    pspec_l1Cur_next_K1 N (icv .i64 (gd c.1 c.2.1.toNat 0)) c
  else
    pspec_l1Cur_next_K1 N 0 c
def pspec_l1Cur_pick (N : Nat) (c : (List Int) × Int × Int) (n : Int) : Option (Int × ((List Int) × Int × Int)) :=
  bif ile n 1 then
    some (0, c)
  else
    (pspec_l1Cur_next N c).bind fun r =>
    bif ilt 200 n then
      (pspec_l1Cur_next N r.2).bind fun r1 =>
      chk (ine n 0) <|
      some (irem (iadd .i64 (imul .i64 r.1 256) r1.1) n, r1.2)
    else
      chk (ine n 0) <|
      some (irem r.1 n, r.2)
def pspec_l1Cur_one (N : Nat) (c : (List Int) × Int × Int) (n : Int) : Option (Bool × ((List Int) × Int × Int)) :=
  (pspec_l1Cur_pick N c n).bind fun r =>
  some (ieq r.1 0, r.2)
def pspec_l1Cur_among (N : Nat) (c : (List Int) × Int × Int) (list : List Int) : Option (Int × ((List Int) × Int × Int)) :=
  (pspec_l1Cur_pick N c (len list)).bind fun r =>
  chk (inB r.1 list.length) <|
  some (gd list r.1.toNat 0, r.2)
def spec_l2Sum_K1 (N : Nat) (sum1 : Int) : Option (Int × Unit) :=
  some (sum1, ())
def spec_l2Sum_B1 (N : Nat) (kx : (List Int) → Int → Int → Option (Int × Unit)) (list1 : List Int) (sum : Int) (i : Int) : Option (Int × Unit) :=
  bif ilt i (len list1) then
    chk (inB i list1.length) <|
    kx list1 (iadd .i64 sum (gd list1 i.toNat 0)) (iadd .i64 i 1)
  else
    spec_l2Sum_K1 N sum
def spec_l2Sum_L1 (N fu_ : Nat) (list1 : List Int) (sum : Int) (i : Int) : Option (Int × Unit) :=
  iterK fu_ (fun kx (v_ : ((List Int) × Int × Int × Unit) × (Unit)) => spec_l2Sum_B1 N (fun list1 sum i => kx ((list1, sum, i, ()), ())) v_.1.1 v_.1.2.1 v_.1.2.2.1) ((list1, sum, i, ()), ())
theorem spec_l2Sum_L1_succ (N fu_ : Nat) (list1 : List Int) (sum : Int) (i : Int) : spec_l2Sum_L1 N (fu_ + 1) list1 sum i = spec_l2Sum_B1 N (fun list1 sum i => spec_l2Sum_L1 N fu_ list1 sum i) list1 sum i := rfl
theorem spec_l2Sum_L1_run (N : Nat) (list1 : Nat → (List Int)) (sum : Nat → Int) (i : Nat → Int) (n_ : Nat) {res_ : Option (Int × Unit)} (hstep_ : ∀ j_, j_ < n_ → ∀ kx_, spec_l2Sum_B1 N kx_ (list1 j_) (sum j_) (i j_) = kx_ (list1 (j_ + 1)) (sum (j_ + 1)) (i (j_ + 1))) (hend_ : ∀ kx_, spec_l2Sum_B1 N kx_ (list1 n_) (sum n_) (i n_) = res_) (fu_ : Nat) (hm_ : n_ < fu_) : spec_l2Sum_L1 N fu_ (list1 0) (sum 0) (i 0) = res_ := by
  exact loop_run (L := fun fu_ (x_ : (List Int) × Int × Int) => spec_l2Sum_L1 N fu_ x_.1 x_.2.1 x_.2.2) (B := fun kx_ x_ => spec_l2Sum_B1 N (fun list1 sum i => kx_ (list1, sum, i)) x_.1 x_.2.1 x_.2.2) (fun _ _ => rfl) (fun j_ => (list1 j_, sum j_, i j_)) n_ (fun j_ hi_ kx_ => hstep_ j_ hi_ _) (fun kx_ => hend_ _) fu_ hm_
def spec_l2Sum (N : Nat) (list : List Int) : Option (Int × Unit) :=
  spec_l2Sum_L1 N N list 0 0
def pspec_l1Cur_process_K1 (N : Nat) (c4 : (List Int) × Int × Int) (v23 : Int × (List Int) × Int × Int × Int × Int) (p3 : Int × (List Int) × Int × Int × Int × Int) : Option ((Int × (List Int) × Int × Int × Int × Int) × ((List Int) × Int × Int)) :=
  (pspec_l1Cur_pick N c4 40).bind fun r9 =>
  bif ieq r9.1 0 then
    (pspec_l1Cur_among N r9.2 [(-1), 6]).bind fun r10 =>
    some ((r10.1, p3.2), r10.2)
  else
    bif ieq r9.1 1 then
      (pspec_l1Cur_among N r9.2 [(-1), 4, 5]).bind fun r11 =>
      chk (inB 0 p3.2.1.length) <|
      some ((p3.1, (List.set p3.2.1 0 r11.1, p3.2.2)), r11.2)
    else
      bif ieq r9.1 2 then
        (pspec_l1Cur_among N r9.2 [(-1), 100]).bind fun r12 =>
        some ((p3.1, (p3.2.1, (r12.1, p3.2.2.2))), r12.2)
      else
        bif ieq r9.1 3 then
          (pspec_l1Cur_among N r9.2 [(-1), 9, 10]).bind fun r13 =>
          some ((p3.1, (p3.2.1, (p3.2.2.1, (p3.2.2.2.1, (p3.2.2.2.2.1, r13.1))))), r13.2)
        else
          bif ieq r9.1 4 then
            some ((p3.1, ([], p3.2.2)), r9.2)
          else
            some (p3, r9.2)
def pspec_l1Cur_process_K2 (N : Nat) (v43 : Bool) (c3 : (List Int) × Int × Int) (v22 : Int × (List Int) × Int × Int × Int × Int) (p2 : Int × (List Int) × Int × Int × Int × Int) : Option ((Int × (List Int) × Int × Int × Int × Int) × ((List Int) × Int × Int)) :=
  bif v43 then
    chk (inB 0 p2.2.1.length) <|
    pspec_l1Cur_process_K1 N c3 v22 (p2.1, (List.set p2.2.1 0 1, p2.2.2))
  else
    pspec_l1Cur_process_K1 N c3 v22 p2
def pspec_l1Cur_process_K3 (N : Nat) (c2 : (List Int) × Int × Int) (v21 : Int × (List Int) × Int × Int × Int × Int) (p1 : Int × (List Int) × Int × Int × Int × Int) : Option ((Int × (List Int) × Int × Int × Int × Int) × ((List Int) × Int × Int)) :=
  (spec_l2Sum N p1.2.1).bind fun r7 =>
  bif ieq r7.1 0 then
    (pspec_l1Cur_one N c2 4).bind fun r8 =>
    pspec_l1Cur_process_K2 N (!r8.1) r8.2 v21 p1
  else
    pspec_l1Cur_process_K2 N false c2 v21 p1
def pspec_l1Cur_process_B1 (N : Nat) (kx : Int → ((List Int) × Int × Int) → (Int × (List Int) × Int × Int × Int × Int) → (Int × (List Int) × Int × Int × Int × Int) → Option ((Int × (List Int) × Int × Int × Int × Int) × ((List Int) × Int × Int))) (n : Int) (c1 : (List Int) × Int × Int) (v2 : Int × (List Int) × Int × Int × Int × Int) (p : Int × (List Int) × Int × Int × Int × Int) : Option ((Int × (List Int) × Int × Int × Int × Int) × ((List Int) × Int × Int)) :=
  bif ilt 0 n then
    (pspec_l1Cur_among N c1 [1, 2, 1, 0, 3]).bind fun r6 =>
    chk (fitB (p.2.1.length + 1) 8) <|
    kx (isub .i64 n 1) r6.2 v2 (p.1, (p.2.1 ++ [r6.1], p.2.2))
  else
    pspec_l1Cur_process_K3 N c1 v2 p
def pspec_l1Cur_process_L1 (N fu_ : Nat) (n : Int) (c1 : (List Int) × Int × Int) (v2 : Int × (List Int) × Int × Int × Int × Int) (p : Int × (List Int) × Int × Int × Int × Int) : Option ((Int × (List Int) × Int × Int × Int × Int) × ((List Int) × Int × Int)) :=
  iterK fu_ (fun kx (v_ : (Int × Unit) × (((List Int) × Int × Int) × (Int × (List Int) × Int × Int × Int × Int) × (Int × (List Int) × Int × Int × Int × Int) × Unit)) => pspec_l1Cur_process_B1 N (fun n c1 v2 p => kx ((n, ()), (c1, v2, p, ()))) v_.1.1 v_.2.1 v_.2.2.1 v_.2.2.2.1) ((n, ()), (c1, v2, p, ()))
theorem pspec_l1Cur_process_L1_succ (N fu_ : Nat) (n : Int) (c1 : (List Int) × Int × Int) (v2 : Int × (List Int) × Int × Int × Int × Int) (p : Int × (List Int) × Int × Int × Int × Int) : pspec_l1Cur_process_L1 N (fu_ + 1) n c1 v2 p = pspec_l1Cur_process_B1 N (fun n c1 v2 p => pspec_l1Cur_process_L1 N fu_ n c1 v2 p) n c1 v2 p := rfl
theorem pspec_l1Cur_process_L1_run (N : Nat) (n : Nat → Int) (c1 : Nat → ((List Int) × Int × Int)) (v2 : Nat → (Int × (List Int) × Int × Int × Int × Int)) (p : Nat → (Int × (List Int) × Int × Int × Int × Int)) (n_ : Nat) {res_ : Option ((Int × (List Int) × Int × Int × Int × Int) × ((List Int) × Int × Int))} (hstep_ : ∀ j_, j_ < n_ → ∀ kx_, pspec_l1Cur_process_B1 N kx_ (n j_) (c1 j_) (v2 j_) (p j_) = kx_ (n (j_ + 1)) (c1 (j_ + 1)) (v2 (j_ + 1)) (p (j_ + 1))) (hend_ : ∀ kx_, pspec_l1Cur_process_B1 N kx_ (n n_) (c1 n_) (v2 n_) (p n_) = res_) (fu_ : Nat) (hm_ : n_ < fu_) : pspec_l1Cur_process_L1 N fu_ (n 0) (c1 0) (v2 0) (p 0) = res_ := by
  exact loop_run (L := fun fu_ (x_ : Int × ((List Int) × Int × Int) × (Int × (List Int) × Int × Int × Int × Int) × (Int × (List Int) × Int × Int × Int × Int)) => pspec_l1Cur_process_L1 N fu_ x_.1 x_.2.1 x_.2.2.1 x_.2.2.2) (B := fun kx_ x_ => pspec_l1Cur_process_B1 N (fun n c1 v2 p => kx_ (n, c1, v2, p)) x_.1 x_.2.1 x_.2.2.1 x_.2.2.2) (fun _ _ => rfl) (fun j_ => (n j_, c1 j_, v2 j_, p j_)) n_ (fun j_ hi_ kx_ => hstep_ j_ hi_ _) (fun kx_ => hend_ _) fu_ hm_
def pspec_l1Cur_process (N : Nat) (c : (List Int) × Int × Int) : Option ((Int × (List Int) × Int × Int × Int × Int) × ((List Int) × Int × Int)) :=
  (pspec_l1Cur_among N c [2, 3, 1, 2, 0, 4, 5]).bind fun r =>
  (pspec_l1Cur_among N r.2 [0, 3, 6, 10, 99]).bind fun r1 =>
  (pspec_l1Cur_pick N r1.2 3).bind fun r2 =>
  (pspec_l1Cur_pick N r2.2 3).bind fun r3 =>
  (pspec_l1Cur_among N r3.2 [2, 4, 6, 9, 0]).bind fun r4 =>
  (pspec_l1Cur_pick N r4.2 5).bind fun r5 =>
  pspec_l1Cur_process_L1 N N (iadd .i64 1 r5.1) r5.2 (0, ([], (0, (0, (0, 0))))) (r.1, ([], (r1.1, (r2.1, (iadd .i64 1 r3.1, r4.1)))))
def spec_l1In (N : Nat) (x : Int) (a : Int) (b : Int) : Option (Bool × Unit) :=
  bif ile a x then
    some (ile x b, ())
  else
    some (false, ())
def spec_l2Row_K1 (N : Nat) (row2 : List Int) (n2 : Int) : Option (Bool × Unit) :=
  some (ieq (len row2) n2, ())
def spec_l2Row_B1 (N : Nat) (kx : (List Int) → Int → Int → Int → Option (Bool × Unit)) (row1 : List Int) (n1 : Int) (most1 : Int) (i : Int) : Option (Bool × Unit) :=
  bif ilt i (len row1) then
    chk (inB i row1.length) <|
    (spec_l1In N (gd row1 i.toNat 0) 0 most1).bind fun r =>
    bif !r.1 then
      some (false, ())
    else
      kx row1 n1 most1 (iadd .i64 i 1)
  else
    spec_l2Row_K1 N row1 n1
def spec_l2Row_L1 (N fu_ : Nat) (row1 : List Int) (n1 : Int) (most1 : Int) (i : Int) : Option (Bool × Unit) :=
  iterK fu_ (fun kx (v_ : ((List Int) × Int × Int × Int × Unit) × (Unit)) => spec_l2Row_B1 N (fun row1 n1 most1 i => kx ((row1, n1, most1, i, ()), ())) v_.1.1 v_.1.2.1 v_.1.2.2.1 v_.1.2.2.2.1) ((row1, n1, most1, i, ()), ())
theorem spec_l2Row_L1_succ (N fu_ : Nat) (row1 : List Int) (n1 : Int) (most1 : Int) (i : Int) : spec_l2Row_L1 N (fu_ + 1) row1 n1 most1 i = spec_l2Row_B1 N (fun row1 n1 most1 i => spec_l2Row_L1 N fu_ row1 n1 most1 i) row1 n1 most1 i := rfl
theorem spec_l2Row_L1_run (N : Nat) (row1 : Nat → (List Int)) (n1 : Nat → Int) (most1 : Nat → Int) (i : Nat → Int) (n_ : Nat) {res_ : Option (Bool × Unit)} (hstep_ : ∀ j_, j_ < n_ → ∀ kx_, spec_l2Row_B1 N kx_ (row1 j_) (n1 j_) (most1 j_) (i j_) = kx_ (row1 (j_ + 1)) (n1 (j_ + 1)) (most1 (j_ + 1)) (i (j_ + 1))) (hend_ : ∀ kx_, spec_l2Row_B1 N kx_ (row1 n_) (n1 n_) (most1 n_) (i n_) = res_) (fu_ : Nat) (hm_ : n_ < fu_) : spec_l2Row_L1 N fu_ (row1 0) (n1 0) (most1 0) (i 0) = res_ := by
  exact loop_run (L := fun fu_ (x_ : (List Int) × Int × Int × Int) => spec_l2Row_L1 N fu_ x_.1 x_.2.1 x_.2.2.1 x_.2.2.2) (B := fun kx_ x_ => spec_l2Row_B1 N (fun row1 n1 most1 i => kx_ (row1, n1, most1, i)) x_.1 x_.2.1 x_.2.2.1 x_.2.2.2) (fun _ _ => rfl) (fun j_ => (row1 j_, n1 j_, most1 j_, i j_)) n_ (fun j_ hi_ kx_ => hstep_ j_ hi_ _) (fun kx_ => hend_ _) fu_ hm_
def spec_l2Row (N : Nat) (row : List Int) (n : Int) (most : Int) : Option (Bool × Unit) :=
  spec_l2Row_L1 N N row n most 0
def spec_l6Good (N : Nat) (p : Int × (List Int) × Int × Int × Int × Int) : Option (Bool × Unit) :=
  (spec_l1In N p.1 0 5).bind fun r =>
  bif r.1 then
    (spec_l1In N (len p.2.1) 1 5).bind fun r1 =>
    bif r1.1 then
      (spec_l2Row N p.2.1 (len p.2.1) 4).bind fun r2 =>
      bif r2.1 then
        (spec_l2Sum N p.2.1).bind fun r3 =>
        bif ilt 0 r3.1 then
          (spec_l1In N p.2.2.1 0 99).bind fun r4 =>
          bif r4.1 then
            (spec_l1In N p.2.2.2.1 0 9).bind fun r5 =>
            bif r5.1 then
              (spec_l1In N p.2.2.2.2.1 0 9).bind fun r6 =>
              bif r6.1 then
                (spec_l1In N p.2.2.2.2.2 0 9).bind fun r7 =>
                some (r7.1, ())
              else
                some (false, ())
            else
              some (false, ())
          else
            some (false, ())
        else
          some (false, ())
      else
        some (false, ())
    else
      some (false, ())
  else
    some (false, ())
def spec_l1Most (N : Nat) (a : Int) (b : Int) : Option (Int × Unit) :=
  bif ilt b a then
    some (a, ())
  else
    some (b, ())
def spec_l6Order (N : Nat) (p : Int × (List Int) × Int × Int × Int × Int) (x : Int) (y : Int) : Option (Int × Unit) :=
  bif ilt x y then
    some (iadd .i64 p.2.2.1 (imul .i64 p.2.2.2.1 (isub .i64 y x)), ())
  else
    some (0, ())
def spec_l6Floor (N : Nat) (p : Int × (List Int) × Int × Int × Int × Int) : Option (Int × Unit) :=
  some (isub .i64 (isub .i64 (len p.2.1) 1) 10, ())
def spec_l6Power_K1 (N : Nat) (out1 : Int) : Option (Int × Unit) :=
  some (out1, ())
def spec_l6Power_B1 (N : Nat) (kx : Int → Int → Int → Int → Option (Int × Unit)) (n1 : Int) (out : Int) (whole : Int) (i : Int) : Option (Int × Unit) :=
  bif ilt i n1 then
    kx n1 (imul .i64 out whole) whole (iadd .i64 i 1)
  else
    spec_l6Power_K1 N out
def spec_l6Power_L1 (N fu_ : Nat) (n1 : Int) (out : Int) (whole : Int) (i : Int) : Option (Int × Unit) :=
  iterK fu_ (fun kx (v_ : (Int × Int × Int × Int × Unit) × (Unit)) => spec_l6Power_B1 N (fun n1 out whole i => kx ((n1, out, whole, i, ()), ())) v_.1.1 v_.1.2.1 v_.1.2.2.1 v_.1.2.2.2.1) ((n1, out, whole, i, ()), ())
theorem spec_l6Power_L1_succ (N fu_ : Nat) (n1 : Int) (out : Int) (whole : Int) (i : Int) : spec_l6Power_L1 N (fu_ + 1) n1 out whole i = spec_l6Power_B1 N (fun n1 out whole i => spec_l6Power_L1 N fu_ n1 out whole i) n1 out whole i := rfl
theorem spec_l6Power_L1_run (N : Nat) (n1 : Nat → Int) (out : Nat → Int) (whole : Nat → Int) (i : Nat → Int) (n_ : Nat) {res_ : Option (Int × Unit)} (hstep_ : ∀ j_, j_ < n_ → ∀ kx_, spec_l6Power_B1 N kx_ (n1 j_) (out j_) (whole j_) (i j_) = kx_ (n1 (j_ + 1)) (out (j_ + 1)) (whole (j_ + 1)) (i (j_ + 1))) (hend_ : ∀ kx_, spec_l6Power_B1 N kx_ (n1 n_) (out n_) (whole n_) (i n_) = res_) (fu_ : Nat) (hm_ : n_ < fu_) : spec_l6Power_L1 N fu_ (n1 0) (out 0) (whole 0) (i 0) = res_ := by
  exact loop_run (L := fun fu_ (x_ : Int × Int × Int × Int) => spec_l6Power_L1 N fu_ x_.1 x_.2.1 x_.2.2.1 x_.2.2.2) (B := fun kx_ x_ => spec_l6Power_B1 N (fun n1 out whole i => kx_ (n1, out, whole, i)) x_.1 x_.2.1 x_.2.2.1 x_.2.2.2) (fun _ _ => rfl) (fun j_ => (n1 j_, out j_, whole j_, i j_)) n_ (fun j_ hi_ kx_ => hstep_ j_ hi_ _) (fun kx_ => hend_ _) fu_ hm_
def spec_l6Power (N : Nat) (p : Int × (List Int) × Int × Int × Int × Int) (n : Int) : Option (Int × Unit) :=
  (spec_l2Sum N p.2.1).bind fun r =>
  spec_l6Power_L1 N N n 1 r.1 0
def spec_l6Kept (N : Nat) (p : Int × (List Int) × Int × Int × Int × Int) (level : Int) : Option (Int × Unit) :=
  bif ilt 0 level then
    some (imul .i64 p.2.2.2.2.1 level, ())
  else
    some (imul .i64 (isub .i64 0 p.2.2.2.2.2) level, ())
def spec_l6After_K1 (N : Nat) (sum1 : Int) : Option (Int × Unit) :=
  some (sum1, ())
def spec_l6After_B1 (N : Nat) (kx : (List Int) → Int → Int → Int → Int → (Int × (List Int) × Int × Int × Int × Int) → Option (Int × Unit)) (next1 : List Int) (y1 : Int) (n1 : Int) (sum : Int) (d : Int) (p1 : Int × (List Int) × Int × Int × Int × Int) : Option (Int × Unit) :=
  bif ilt d (len p1.2.1) then
    chk (inB d p1.2.1.length) <|
    (spec_l6Kept N p1 (isub .i64 y1 d)).bind fun r =>
    (spec_l6Power N p1 (isub .i64 n1 1)).bind fun r1 =>
    chk (inB (iadd .i64 (isub .i64 y1 d) 10) next1.length) <|
    kx next1 y1 n1 (iadd .i64 sum (imul .i64 (gd p1.2.1 d.toNat 0) (iadd .i64 (imul .i64 r.1 r1.1) (gd next1 (iadd .i64 (isub .i64 y1 d) 10).toNat 0)))) (iadd .i64 d 1) p1
  else
    spec_l6After_K1 N sum
def spec_l6After_L1 (N fu_ : Nat) (next1 : List Int) (y1 : Int) (n1 : Int) (sum : Int) (d : Int) (p1 : Int × (List Int) × Int × Int × Int × Int) : Option (Int × Unit) :=
  iterK fu_ (fun kx (v_ : ((List Int) × Int × Int × Int × Int × Unit) × ((Int × (List Int) × Int × Int × Int × Int) × Unit)) => spec_l6After_B1 N (fun next1 y1 n1 sum d p1 => kx ((next1, y1, n1, sum, d, ()), (p1, ()))) v_.1.1 v_.1.2.1 v_.1.2.2.1 v_.1.2.2.2.1 v_.1.2.2.2.2.1 v_.2.1) ((next1, y1, n1, sum, d, ()), (p1, ()))
theorem spec_l6After_L1_succ (N fu_ : Nat) (next1 : List Int) (y1 : Int) (n1 : Int) (sum : Int) (d : Int) (p1 : Int × (List Int) × Int × Int × Int × Int) : spec_l6After_L1 N (fu_ + 1) next1 y1 n1 sum d p1 = spec_l6After_B1 N (fun next1 y1 n1 sum d p1 => spec_l6After_L1 N fu_ next1 y1 n1 sum d p1) next1 y1 n1 sum d p1 := rfl
theorem spec_l6After_L1_run (N : Nat) (next1 : Nat → (List Int)) (y1 : Nat → Int) (n1 : Nat → Int) (sum : Nat → Int) (d : Nat → Int) (p1 : Nat → (Int × (List Int) × Int × Int × Int × Int)) (n_ : Nat) {res_ : Option (Int × Unit)} (hstep_ : ∀ j_, j_ < n_ → ∀ kx_, spec_l6After_B1 N kx_ (next1 j_) (y1 j_) (n1 j_) (sum j_) (d j_) (p1 j_) = kx_ (next1 (j_ + 1)) (y1 (j_ + 1)) (n1 (j_ + 1)) (sum (j_ + 1)) (d (j_ + 1)) (p1 (j_ + 1))) (hend_ : ∀ kx_, spec_l6After_B1 N kx_ (next1 n_) (y1 n_) (n1 n_) (sum n_) (d n_) (p1 n_) = res_) (fu_ : Nat) (hm_ : n_ < fu_) : spec_l6After_L1 N fu_ (next1 0) (y1 0) (n1 0) (sum 0) (d 0) (p1 0) = res_ := by
  exact loop_run (L := fun fu_ (x_ : (List Int) × Int × Int × Int × Int × (Int × (List Int) × Int × Int × Int × Int)) => spec_l6After_L1 N fu_ x_.1 x_.2.1 x_.2.2.1 x_.2.2.2.1 x_.2.2.2.2.1 x_.2.2.2.2.2) (B := fun kx_ x_ => spec_l6After_B1 N (fun next1 y1 n1 sum d p1 => kx_ (next1, y1, n1, sum, d, p1)) x_.1 x_.2.1 x_.2.2.1 x_.2.2.2.1 x_.2.2.2.2.1 x_.2.2.2.2.2) (fun _ _ => rfl) (fun j_ => (next1 j_, y1 j_, n1 j_, sum j_, d j_, p1 j_)) n_ (fun j_ hi_ kx_ => hstep_ j_ hi_ _) (fun kx_ => hend_ _) fu_ hm_
def spec_l6After (N : Nat) (p : Int × (List Int) × Int × Int × Int × Int) (next : List Int) (y : Int) (n : Int) : Option (Int × Unit) :=
  spec_l6After_L1 N N next y n 0 0 p
def spec_l6Best_K1 (N : Nat) (best1 : Int) (least1 : Int) : Option ((Int × Int) × Unit) :=
  some ((best1, least1), ())
def spec_l6Best_B1 (N : Nat) (kx : (List Int) → Int → Int → Int → Int → Int → (Int × (List Int) × Int × Int × Int × Int) → Option ((Int × Int) × Unit)) (next1 : List Int) (x1 : Int) (n1 : Int) (best : Int) (least : Int) (y : Int) (p1 : Int × (List Int) × Int × Int × Int × Int) : Option ((Int × Int) × Unit) :=
  (spec_l6Floor N p1).bind fun r =>
  (spec_l1Most N x1 r.1).bind fun r1 =>
  bif ile r1.1 y then
    (spec_l6Order N p1 x1 y).bind fun r2 =>
    (spec_l6Power N p1 n1).bind fun r3 =>
    (spec_l6After N p1 next1 y n1).bind fun r4 =>
    bif ieq y 10 then
      kx next1 x1 n1 y (iadd .i64 (imul .i64 r2.1 r3.1) r4.1) (isub .i64 y 1) p1
    else
      bif ile (iadd .i64 (imul .i64 r2.1 r3.1) r4.1) least then
        kx next1 x1 n1 y (iadd .i64 (imul .i64 r2.1 r3.1) r4.1) (isub .i64 y 1) p1
      else
        kx next1 x1 n1 best least (isub .i64 y 1) p1
  else
    spec_l6Best_K1 N best least
def spec_l6Best_L1 (N fu_ : Nat) (next1 : List Int) (x1 : Int) (n1 : Int) (best : Int) (least : Int) (y : Int) (p1 : Int × (List Int) × Int × Int × Int × Int) : Option ((Int × Int) × Unit) :=
  iterK fu_ (fun kx (v_ : ((List Int) × Int × Int × Int × Int × Int × Unit) × ((Int × (List Int) × Int × Int × Int × Int) × Unit)) => spec_l6Best_B1 N (fun next1 x1 n1 best least y p1 => kx ((next1, x1, n1, best, least, y, ()), (p1, ()))) v_.1.1 v_.1.2.1 v_.1.2.2.1 v_.1.2.2.2.1 v_.1.2.2.2.2.1 v_.1.2.2.2.2.2.1 v_.2.1) ((next1, x1, n1, best, least, y, ()), (p1, ()))
theorem spec_l6Best_L1_succ (N fu_ : Nat) (next1 : List Int) (x1 : Int) (n1 : Int) (best : Int) (least : Int) (y : Int) (p1 : Int × (List Int) × Int × Int × Int × Int) : spec_l6Best_L1 N (fu_ + 1) next1 x1 n1 best least y p1 = spec_l6Best_B1 N (fun next1 x1 n1 best least y p1 => spec_l6Best_L1 N fu_ next1 x1 n1 best least y p1) next1 x1 n1 best least y p1 := rfl
theorem spec_l6Best_L1_run (N : Nat) (next1 : Nat → (List Int)) (x1 : Nat → Int) (n1 : Nat → Int) (best : Nat → Int) (least : Nat → Int) (y : Nat → Int) (p1 : Nat → (Int × (List Int) × Int × Int × Int × Int)) (n_ : Nat) {res_ : Option ((Int × Int) × Unit)} (hstep_ : ∀ j_, j_ < n_ → ∀ kx_, spec_l6Best_B1 N kx_ (next1 j_) (x1 j_) (n1 j_) (best j_) (least j_) (y j_) (p1 j_) = kx_ (next1 (j_ + 1)) (x1 (j_ + 1)) (n1 (j_ + 1)) (best (j_ + 1)) (least (j_ + 1)) (y (j_ + 1)) (p1 (j_ + 1))) (hend_ : ∀ kx_, spec_l6Best_B1 N kx_ (next1 n_) (x1 n_) (n1 n_) (best n_) (least n_) (y n_) (p1 n_) = res_) (fu_ : Nat) (hm_ : n_ < fu_) : spec_l6Best_L1 N fu_ (next1 0) (x1 0) (n1 0) (best 0) (least 0) (y 0) (p1 0) = res_ := by
  exact loop_run (L := fun fu_ (x_ : (List Int) × Int × Int × Int × Int × Int × (Int × (List Int) × Int × Int × Int × Int)) => spec_l6Best_L1 N fu_ x_.1 x_.2.1 x_.2.2.1 x_.2.2.2.1 x_.2.2.2.2.1 x_.2.2.2.2.2.1 x_.2.2.2.2.2.2) (B := fun kx_ x_ => spec_l6Best_B1 N (fun next1 x1 n1 best least y p1 => kx_ (next1, x1, n1, best, least, y, p1)) x_.1 x_.2.1 x_.2.2.1 x_.2.2.2.1 x_.2.2.2.2.1 x_.2.2.2.2.2.1 x_.2.2.2.2.2.2) (fun _ _ => rfl) (fun j_ => (next1 j_, x1 j_, n1 j_, best j_, least j_, y j_, p1 j_)) n_ (fun j_ hi_ kx_ => hstep_ j_ hi_ _) (fun kx_ => hend_ _) fu_ hm_
def spec_l6Best (N : Nat) (p : Int × (List Int) × Int × Int × Int × Int) (next : List Int) (x : Int) (n : Int) : Option ((Int × Int) × Unit) :=
  spec_l6Best_L1 N N next x n 0 0 10 p
def spec_l6Worths_K1 (N : Nat) (kx : Int → (Int × (List Int) × Int × Int × Int × Int) → (List (List Int)) → Option ((List (List Int)) × Unit)) (t2 : Int) (p3 : Int × (List Int) × Int × Int × Int × Int) (out2 : List (List Int)) (row1 : List Int) : Option ((List (List Int)) × Unit) :=
  chk (fitB (1 + out2.length) 24) <|
  kx (isub .i64 t2 1) p3 ([row1] ++ out2)
def spec_l6Worths_B1 (N : Nat) (kx : Int → (Int × (List Int) × Int × Int × Int × Int) → (List (List Int)) → Option ((List (List Int)) × Unit)) (kx1 : Int → Int → (Int × (List Int) × Int × Int × Int × Int) → (List (List Int)) → (List Int) → Option ((List (List Int)) × Unit)) (t1 : Int) (x : Int) (p2 : Int × (List Int) × Int × Int × Int × Int) (out1 : List (List Int)) (row : List Int) : Option ((List (List Int)) × Unit) :=
  bif ile x 10 then
    chk (inB 0 out1.length) <|
    (spec_l6Best N p2 (gd out1 0 []) x (isub .i64 p2.1 t1)).bind fun r =>
    chk (fitB (row.length + 1) 8) <|
    kx1 t1 (iadd .i64 x 1) p2 out1 (row ++ [r.1.2])
  else
    spec_l6Worths_K1 N kx t1 p2 out1 row
def spec_l6Worths_L1 (N fu_ : Nat) (kx : Int → (Int × (List Int) × Int × Int × Int × Int) → (List (List Int)) → Option ((List (List Int)) × Unit)) (t1 : Int) (x : Int) (p2 : Int × (List Int) × Int × Int × Int × Int) (out1 : List (List Int)) (row : List Int) : Option ((List (List Int)) × Unit) :=
  iterK fu_ (fun kx1 (v_ : (Int × Int × Unit) × ((Int × (List Int) × Int × Int × Int × Int) × (List (List Int)) × (List Int) × Unit)) => spec_l6Worths_B1 N kx (fun t1 x p2 out1 row => kx1 ((t1, x, ()), (p2, out1, row, ()))) v_.1.1 v_.1.2.1 v_.2.1 v_.2.2.1 v_.2.2.2.1) ((t1, x, ()), (p2, out1, row, ()))
theorem spec_l6Worths_L1_succ (N fu_ : Nat) (kx : Int → (Int × (List Int) × Int × Int × Int × Int) → (List (List Int)) → Option ((List (List Int)) × Unit)) (t1 : Int) (x : Int) (p2 : Int × (List Int) × Int × Int × Int × Int) (out1 : List (List Int)) (row : List Int) : spec_l6Worths_L1 N (fu_ + 1) kx t1 x p2 out1 row = spec_l6Worths_B1 N kx (fun t1 x p2 out1 row => spec_l6Worths_L1 N fu_ kx t1 x p2 out1 row) t1 x p2 out1 row := rfl
theorem spec_l6Worths_L1_run (N : Nat) (kx : Int → (Int × (List Int) × Int × Int × Int × Int) → (List (List Int)) → Option ((List (List Int)) × Unit)) (t1 : Nat → Int) (x : Nat → Int) (p2 : Nat → (Int × (List Int) × Int × Int × Int × Int)) (out1 : Nat → (List (List Int))) (row : Nat → (List Int)) (n_ : Nat) {res_ : Option ((List (List Int)) × Unit)} (hstep_ : ∀ j_, j_ < n_ → ∀ kx_, spec_l6Worths_B1 N kx kx_ (t1 j_) (x j_) (p2 j_) (out1 j_) (row j_) = kx_ (t1 (j_ + 1)) (x (j_ + 1)) (p2 (j_ + 1)) (out1 (j_ + 1)) (row (j_ + 1))) (hend_ : ∀ kx_, spec_l6Worths_B1 N kx kx_ (t1 n_) (x n_) (p2 n_) (out1 n_) (row n_) = res_) (fu_ : Nat) (hm_ : n_ < fu_) : spec_l6Worths_L1 N fu_ kx (t1 0) (x 0) (p2 0) (out1 0) (row 0) = res_ := by
  exact loop_run (L := fun fu_ (x_ : Int × Int × (Int × (List Int) × Int × Int × Int × Int) × (List (List Int)) × (List Int)) => spec_l6Worths_L1 N fu_ kx x_.1 x_.2.1 x_.2.2.1 x_.2.2.2.1 x_.2.2.2.2) (B := fun kx_ x_ => spec_l6Worths_B1 N kx (fun t1 x p2 out1 row => kx_ (t1, x, p2, out1, row)) x_.1 x_.2.1 x_.2.2.1 x_.2.2.2.1 x_.2.2.2.2) (fun _ _ => rfl) (fun j_ => (t1 j_, x j_, p2 j_, out1 j_, row j_)) n_ (fun j_ hi_ kx_ => hstep_ j_ hi_ _) (fun kx_ => hend_ _) fu_ hm_
def spec_l6Worths_K2 (N : Nat) (out3 : List (List Int)) : Option ((List (List Int)) × Unit) :=
  some (out3, ())
def spec_l6Worths_B2 (N : Nat) (kx : Int → (Int × (List Int) × Int × Int × Int × Int) → (List (List Int)) → Option ((List (List Int)) × Unit)) (t : Int) (p1 : Int × (List Int) × Int × Int × Int × Int) (out : List (List Int)) : Option ((List (List Int)) × Unit) :=
  bif ile 0 t then
    spec_l6Worths_L1 N N kx t (-10) p1 out []
  else
    spec_l6Worths_K2 N out
def spec_l6Worths_L2 (N fu_ : Nat) (t : Int) (p1 : Int × (List Int) × Int × Int × Int × Int) (out : List (List Int)) : Option ((List (List Int)) × Unit) :=
  iterK fu_ (fun kx (v_ : (Int × Unit) × ((Int × (List Int) × Int × Int × Int × Int) × (List (List Int)) × Unit)) => spec_l6Worths_B2 N (fun t p1 out => kx ((t, ()), (p1, out, ()))) v_.1.1 v_.2.1 v_.2.2.1) ((t, ()), (p1, out, ()))
theorem spec_l6Worths_L2_succ (N fu_ : Nat) (t : Int) (p1 : Int × (List Int) × Int × Int × Int × Int) (out : List (List Int)) : spec_l6Worths_L2 N (fu_ + 1) t p1 out = spec_l6Worths_B2 N (fun t p1 out => spec_l6Worths_L2 N fu_ t p1 out) t p1 out := rfl
theorem spec_l6Worths_L2_run (N : Nat) (t : Nat → Int) (p1 : Nat → (Int × (List Int) × Int × Int × Int × Int)) (out : Nat → (List (List Int))) (n_ : Nat) {res_ : Option ((List (List Int)) × Unit)} (hstep_ : ∀ j_, j_ < n_ → ∀ kx_, spec_l6Worths_B2 N kx_ (t j_) (p1 j_) (out j_) = kx_ (t (j_ + 1)) (p1 (j_ + 1)) (out (j_ + 1))) (hend_ : ∀ kx_, spec_l6Worths_B2 N kx_ (t n_) (p1 n_) (out n_) = res_) (fu_ : Nat) (hm_ : n_ < fu_) : spec_l6Worths_L2 N fu_ (t 0) (p1 0) (out 0) = res_ := by
  exact loop_run (L := fun fu_ (x_ : Int × (Int × (List Int) × Int × Int × Int × Int) × (List (List Int))) => spec_l6Worths_L2 N fu_ x_.1 x_.2.1 x_.2.2) (B := fun kx_ x_ => spec_l6Worths_B2 N (fun t p1 out => kx_ (t, p1, out)) x_.1 x_.2.1 x_.2.2) (fun _ _ => rfl) (fun j_ => (t j_, p1 j_, out j_)) n_ (fun j_ hi_ kx_ => hstep_ j_ hi_ _) (fun kx_ => hend_ _) fu_ hm_
def spec_l6Worths (N : Nat) (p : Int × (List Int) × Int × Int × Int × Int) : Option ((List (List Int)) × Unit) :=
  chk (mkB 21 8) <|
  spec_l6Worths_L2 N N (isub .i64 p.1 1) p [List.replicate 21 0]
def spec_l6Bill (N : Nat) (p : Int × (List Int) × Int × Int × Int × Int) (next : List Int) (y : Int) (n : Int) : Option (Int × Unit) :=
  (spec_l6Power N p n).bind fun r =>
  (spec_l6After N p next y n).bind fun r1 =>
  some (iadd .i64 (imul .i64 (imul .i64 p.2.2.2.1 y) r.1) r1.1, ())
def spec_l6Bills_K1 (N : Nat) (out1 : List Int) : Option ((List Int) × Unit) :=
  some (out1, ())
def spec_l6Bills_B1 (N : Nat) (kx : (List (List Int)) → Int → Int → (Int × (List Int) × Int × Int × Int × Int) → (List Int) → Option ((List Int) × Unit)) (table1 : List (List Int)) (turn1 : Int) (y : Int) (p1 : Int × (List Int) × Int × Int × Int × Int) (out : List Int) : Option ((List Int) × Unit) :=
  bif ile y 10 then
    chk (inB (iadd .i64 turn1 1) table1.length) <|
    (spec_l6Bill N p1 (gd table1 (iadd .i64 turn1 1).toNat []) y (isub .i64 p1.1 turn1)).bind fun r1 =>
    chk (fitB (out.length + 1) 8) <|
    kx table1 turn1 (iadd .i64 y 1) p1 (out ++ [r1.1])
  else
    spec_l6Bills_K1 N out
def spec_l6Bills_L1 (N fu_ : Nat) (table1 : List (List Int)) (turn1 : Int) (y : Int) (p1 : Int × (List Int) × Int × Int × Int × Int) (out : List Int) : Option ((List Int) × Unit) :=
  iterK fu_ (fun kx (v_ : ((List (List Int)) × Int × Int × Unit) × ((Int × (List Int) × Int × Int × Int × Int) × (List Int) × Unit)) => spec_l6Bills_B1 N (fun table1 turn1 y p1 out => kx ((table1, turn1, y, ()), (p1, out, ()))) v_.1.1 v_.1.2.1 v_.1.2.2.1 v_.2.1 v_.2.2.1) ((table1, turn1, y, ()), (p1, out, ()))
theorem spec_l6Bills_L1_succ (N fu_ : Nat) (table1 : List (List Int)) (turn1 : Int) (y : Int) (p1 : Int × (List Int) × Int × Int × Int × Int) (out : List Int) : spec_l6Bills_L1 N (fu_ + 1) table1 turn1 y p1 out = spec_l6Bills_B1 N (fun table1 turn1 y p1 out => spec_l6Bills_L1 N fu_ table1 turn1 y p1 out) table1 turn1 y p1 out := rfl
theorem spec_l6Bills_L1_run (N : Nat) (table1 : Nat → (List (List Int))) (turn1 : Nat → Int) (y : Nat → Int) (p1 : Nat → (Int × (List Int) × Int × Int × Int × Int)) (out : Nat → (List Int)) (n_ : Nat) {res_ : Option ((List Int) × Unit)} (hstep_ : ∀ j_, j_ < n_ → ∀ kx_, spec_l6Bills_B1 N kx_ (table1 j_) (turn1 j_) (y j_) (p1 j_) (out j_) = kx_ (table1 (j_ + 1)) (turn1 (j_ + 1)) (y (j_ + 1)) (p1 (j_ + 1)) (out (j_ + 1))) (hend_ : ∀ kx_, spec_l6Bills_B1 N kx_ (table1 n_) (turn1 n_) (y n_) (p1 n_) (out n_) = res_) (fu_ : Nat) (hm_ : n_ < fu_) : spec_l6Bills_L1 N fu_ (table1 0) (turn1 0) (y 0) (p1 0) (out 0) = res_ := by
  exact loop_run (L := fun fu_ (x_ : (List (List Int)) × Int × Int × (Int × (List Int) × Int × Int × Int × Int) × (List Int)) => spec_l6Bills_L1 N fu_ x_.1 x_.2.1 x_.2.2.1 x_.2.2.2.1 x_.2.2.2.2) (B := fun kx_ x_ => spec_l6Bills_B1 N (fun table1 turn1 y p1 out => kx_ (table1, turn1, y, p1, out)) x_.1 x_.2.1 x_.2.2.1 x_.2.2.2.1 x_.2.2.2.2) (fun _ _ => rfl) (fun j_ => (table1 j_, turn1 j_, y j_, p1 j_, out j_)) n_ (fun j_ hi_ kx_ => hstep_ j_ hi_ _) (fun kx_ => hend_ _) fu_ hm_
def spec_l6Bills (N : Nat) (p : Int × (List Int) × Int × Int × Int × Int) (table : List (List Int)) (turn : Int) : Option ((List Int) × Unit) :=
  (spec_l6Floor N p).bind fun r =>
  spec_l6Bills_L1 N N table turn r.1 p []
def spec_l6Levels_K1 (N : Nat) (upper3 : Int) (lower3 : Int) (p4 : Int × (List Int) × Int × Int × Int × Int) (v63 : List Int) : Option ((List Int) × Unit) :=
  (spec_l6Floor N p4).bind fun r2 =>
  (spec_l6Floor N p4).bind fun r3 =>
  some (List.set (List.set (List.replicate 2 0) 0 (iadd .i64 lower3 r2.1)) 1 (iadd .i64 upper3 r3.1), ())
def spec_l6Levels_B1 (N : Nat) (kx1 : Int → Int → Int → (Int × (List Int) × Int × Int × Int × Int) → (List Int) → (List Int) → Option ((List Int) × Unit)) (turn3 : Int) (upper2 : Int) (lower2 : Int) (p3 : Int × (List Int) × Int × Int × Int × Int) (v62 : List Int) (bills2 : List Int) : Option ((List Int) × Unit) :=
  chk (inB lower2 bills2.length) <|
  chk (inB upper2 bills2.length) <|
  (spec_l6Power N p3 (isub .i64 p3.1 turn3)).bind fun r1 =>
  bif ilt (iadd .i64 (gd bills2 upper2.toNat 0) (imul .i64 p3.2.2.1 r1.1)) (gd bills2 lower2.toNat 0) then
    kx1 turn3 upper2 (iadd .i64 lower2 1) p3 v62 bills2
  else
    spec_l6Levels_K1 N upper2 lower2 p3 v62
def spec_l6Levels_L1 (N fu_ : Nat) (turn3 : Int) (upper2 : Int) (lower2 : Int) (p3 : Int × (List Int) × Int × Int × Int × Int) (v62 : List Int) (bills2 : List Int) : Option ((List Int) × Unit) :=
  iterK fu_ (fun kx1 (v_ : (Int × Int × Int × Unit) × ((Int × (List Int) × Int × Int × Int × Int) × (List Int) × (List Int) × Unit)) => spec_l6Levels_B1 N (fun turn3 upper2 lower2 p3 v62 bills2 => kx1 ((turn3, upper2, lower2, ()), (p3, v62, bills2, ()))) v_.1.1 v_.1.2.1 v_.1.2.2.1 v_.2.1 v_.2.2.1 v_.2.2.2.1) ((turn3, upper2, lower2, ()), (p3, v62, bills2, ()))
theorem spec_l6Levels_L1_succ (N fu_ : Nat) (turn3 : Int) (upper2 : Int) (lower2 : Int) (p3 : Int × (List Int) × Int × Int × Int × Int) (v62 : List Int) (bills2 : List Int) : spec_l6Levels_L1 N (fu_ + 1) turn3 upper2 lower2 p3 v62 bills2 = spec_l6Levels_B1 N (fun turn3 upper2 lower2 p3 v62 bills2 => spec_l6Levels_L1 N fu_ turn3 upper2 lower2 p3 v62 bills2) turn3 upper2 lower2 p3 v62 bills2 := rfl
theorem spec_l6Levels_L1_run (N : Nat) (turn3 : Nat → Int) (upper2 : Nat → Int) (lower2 : Nat → Int) (p3 : Nat → (Int × (List Int) × Int × Int × Int × Int)) (v62 : Nat → (List Int)) (bills2 : Nat → (List Int)) (n_ : Nat) {res_ : Option ((List Int) × Unit)} (hstep_ : ∀ j_, j_ < n_ → ∀ kx_, spec_l6Levels_B1 N kx_ (turn3 j_) (upper2 j_) (lower2 j_) (p3 j_) (v62 j_) (bills2 j_) = kx_ (turn3 (j_ + 1)) (upper2 (j_ + 1)) (lower2 (j_ + 1)) (p3 (j_ + 1)) (v62 (j_ + 1)) (bills2 (j_ + 1))) (hend_ : ∀ kx_, spec_l6Levels_B1 N kx_ (turn3 n_) (upper2 n_) (lower2 n_) (p3 n_) (v62 n_) (bills2 n_) = res_) (fu_ : Nat) (hm_ : n_ < fu_) : spec_l6Levels_L1 N fu_ (turn3 0) (upper2 0) (lower2 0) (p3 0) (v62 0) (bills2 0) = res_ := by
  exact loop_run (L := fun fu_ (x_ : Int × Int × Int × (Int × (List Int) × Int × Int × Int × Int) × (List Int) × (List Int)) => spec_l6Levels_L1 N fu_ x_.1 x_.2.1 x_.2.2.1 x_.2.2.2.1 x_.2.2.2.2.1 x_.2.2.2.2.2) (B := fun kx_ x_ => spec_l6Levels_B1 N (fun turn3 upper2 lower2 p3 v62 bills2 => kx_ (turn3, upper2, lower2, p3, v62, bills2)) x_.1 x_.2.1 x_.2.2.1 x_.2.2.2.1 x_.2.2.2.2.1 x_.2.2.2.2.2) (fun _ _ => rfl) (fun j_ => (turn3 j_, upper2 j_, lower2 j_, p3 j_, v62 j_, bills2 j_)) n_ (fun j_ hi_ kx_ => hstep_ j_ hi_ _) (fun kx_ => hend_ _) fu_ hm_
def spec_l6Levels_K2 (N : Nat) (turn2 : Int) (upper1 : Int) (lower1 : Int) (p2 : Int × (List Int) × Int × Int × Int × Int) (v61 : List Int) (bills1 : List Int) : Option ((List Int) × Unit) :=
  spec_l6Levels_L1 N N turn2 upper1 lower1 p2 v61 bills1
def spec_l6Levels_B2 (N : Nat) (kx : Int → Int → Int → Int → (Int × (List Int) × Int × Int × Int × Int) → (List Int) → (List Int) → Option ((List Int) × Unit)) (turn1 : Int) (upper : Int) (lower : Int) (i : Int) (p1 : Int × (List Int) × Int × Int × Int × Int) (v6 : List Int) (bills : List Int) : Option ((List Int) × Unit) :=
  bif ilt i (len bills) then
    chk (inB i bills.length) <|
    chk (inB upper bills.length) <|
    bif ilt (gd bills i.toNat 0) (gd bills upper.toNat 0) then
      kx turn1 i lower (iadd .i64 i 1) p1 v6 bills
    else
      kx turn1 upper lower (iadd .i64 i 1) p1 v6 bills
  else
    spec_l6Levels_K2 N turn1 upper lower p1 v6 bills
def spec_l6Levels_L2 (N fu_ : Nat) (turn1 : Int) (upper : Int) (lower : Int) (i : Int) (p1 : Int × (List Int) × Int × Int × Int × Int) (v6 : List Int) (bills : List Int) : Option ((List Int) × Unit) :=
  iterK fu_ (fun kx (v_ : (Int × Int × Int × Int × Unit) × ((Int × (List Int) × Int × Int × Int × Int) × (List Int) × (List Int) × Unit)) => spec_l6Levels_B2 N (fun turn1 upper lower i p1 v6 bills => kx ((turn1, upper, lower, i, ()), (p1, v6, bills, ()))) v_.1.1 v_.1.2.1 v_.1.2.2.1 v_.1.2.2.2.1 v_.2.1 v_.2.2.1 v_.2.2.2.1) ((turn1, upper, lower, i, ()), (p1, v6, bills, ()))
theorem spec_l6Levels_L2_succ (N fu_ : Nat) (turn1 : Int) (upper : Int) (lower : Int) (i : Int) (p1 : Int × (List Int) × Int × Int × Int × Int) (v6 : List Int) (bills : List Int) : spec_l6Levels_L2 N (fu_ + 1) turn1 upper lower i p1 v6 bills = spec_l6Levels_B2 N (fun turn1 upper lower i p1 v6 bills => spec_l6Levels_L2 N fu_ turn1 upper lower i p1 v6 bills) turn1 upper lower i p1 v6 bills := rfl
theorem spec_l6Levels_L2_run (N : Nat) (turn1 : Nat → Int) (upper : Nat → Int) (lower : Nat → Int) (i : Nat → Int) (p1 : Nat → (Int × (List Int) × Int × Int × Int × Int)) (v6 : Nat → (List Int)) (bills : Nat → (List Int)) (n_ : Nat) {res_ : Option ((List Int) × Unit)} (hstep_ : ∀ j_, j_ < n_ → ∀ kx_, spec_l6Levels_B2 N kx_ (turn1 j_) (upper j_) (lower j_) (i j_) (p1 j_) (v6 j_) (bills j_) = kx_ (turn1 (j_ + 1)) (upper (j_ + 1)) (lower (j_ + 1)) (i (j_ + 1)) (p1 (j_ + 1)) (v6 (j_ + 1)) (bills (j_ + 1))) (hend_ : ∀ kx_, spec_l6Levels_B2 N kx_ (turn1 n_) (upper n_) (lower n_) (i n_) (p1 n_) (v6 n_) (bills n_) = res_) (fu_ : Nat) (hm_ : n_ < fu_) : spec_l6Levels_L2 N fu_ (turn1 0) (upper 0) (lower 0) (i 0) (p1 0) (v6 0) (bills 0) = res_ := by
  exact loop_run (L := fun fu_ (x_ : Int × Int × Int × Int × (Int × (List Int) × Int × Int × Int × Int) × (List Int) × (List Int)) => spec_l6Levels_L2 N fu_ x_.1 x_.2.1 x_.2.2.1 x_.2.2.2.1 x_.2.2.2.2.1 x_.2.2.2.2.2.1 x_.2.2.2.2.2.2) (B := fun kx_ x_ => spec_l6Levels_B2 N (fun turn1 upper lower i p1 v6 bills => kx_ (turn1, upper, lower, i, p1, v6, bills)) x_.1 x_.2.1 x_.2.2.1 x_.2.2.2.1 x_.2.2.2.2.1 x_.2.2.2.2.2.1 x_.2.2.2.2.2.2) (fun _ _ => rfl) (fun j_ => (turn1 j_, upper j_, lower j_, i j_, p1 j_, v6 j_, bills j_)) n_ (fun j_ hi_ kx_ => hstep_ j_ hi_ _) (fun kx_ => hend_ _) fu_ hm_
def spec_l6Levels (N : Nat) (p : Int × (List Int) × Int × Int × Int × Int) (table : List (List Int)) (turn : Int) : Option ((List Int) × Unit) :=
  (spec_l6Bills N p table turn).bind fun r =>
  spec_l6Levels_L2 N N turn 0 0 1 p (List.replicate 2 0) r.1
def spec_BestLevels_K1 (N : Nat) (out1 : List (List Int)) : Option (((List (List Int)) × Bool) × Unit) :=
  some ((out1, true), ())
def spec_BestLevels_B1 (N : Nat) (kx : Int → (Int × (List Int) × Int × Int × Int × Int) → (List (List Int)) → (List (List Int)) → Option (((List (List Int)) × Bool) × Unit)) (t : Int) (p1 : Int × (List Int) × Int × Int × Int × Int) (out : List (List Int)) (table : List (List Int)) : Option (((List (List Int)) × Bool) × Unit) :=
  bif ilt t p1.1 then
    (spec_l6Levels N p1 table t).bind fun r2 =>
    chk (fitB (out.length + 1) 16) <|
    kx (iadd .i64 t 1) p1 (out ++ [r2.1]) table
  else
    spec_BestLevels_K1 N out
def spec_BestLevels_L1 (N fu_ : Nat) (t : Int) (p1 : Int × (List Int) × Int × Int × Int × Int) (out : List (List Int)) (table : List (List Int)) : Option (((List (List Int)) × Bool) × Unit) :=
  iterK fu_ (fun kx (v_ : (Int × Unit) × ((Int × (List Int) × Int × Int × Int × Int) × (List (List Int)) × (List (List Int)) × Unit)) => spec_BestLevels_B1 N (fun t p1 out table => kx ((t, ()), (p1, out, table, ()))) v_.1.1 v_.2.1 v_.2.2.1 v_.2.2.2.1) ((t, ()), (p1, out, table, ()))
theorem spec_BestLevels_L1_succ (N fu_ : Nat) (t : Int) (p1 : Int × (List Int) × Int × Int × Int × Int) (out : List (List Int)) (table : List (List Int)) : spec_BestLevels_L1 N (fu_ + 1) t p1 out table = spec_BestLevels_B1 N (fun t p1 out table => spec_BestLevels_L1 N fu_ t p1 out table) t p1 out table := rfl
theorem spec_BestLevels_L1_run (N : Nat) (t : Nat → Int) (p1 : Nat → (Int × (List Int) × Int × Int × Int × Int)) (out : Nat → (List (List Int))) (table : Nat → (List (List Int))) (n_ : Nat) {res_ : Option (((List (List Int)) × Bool) × Unit)} (hstep_ : ∀ j_, j_ < n_ → ∀ kx_, spec_BestLevels_B1 N kx_ (t j_) (p1 j_) (out j_) (table j_) = kx_ (t (j_ + 1)) (p1 (j_ + 1)) (out (j_ + 1)) (table (j_ + 1))) (hend_ : ∀ kx_, spec_BestLevels_B1 N kx_ (t n_) (p1 n_) (out n_) (table n_) = res_) (fu_ : Nat) (hm_ : n_ < fu_) : spec_BestLevels_L1 N fu_ (t 0) (p1 0) (out 0) (table 0) = res_ := by
  exact loop_run (L := fun fu_ (x_ : Int × (Int × (List Int) × Int × Int × Int × Int) × (List (List Int)) × (List (List Int))) => spec_BestLevels_L1 N fu_ x_.1 x_.2.1 x_.2.2.1 x_.2.2.2) (B := fun kx_ x_ => spec_BestLevels_B1 N (fun t p1 out table => kx_ (t, p1, out, table)) x_.1 x_.2.1 x_.2.2.1 x_.2.2.2) (fun _ _ => rfl) (fun j_ => (t j_, p1 j_, out j_, table j_)) n_ (fun j_ hi_ kx_ => hstep_ j_ hi_ _) (fun kx_ => hend_ _) fu_ hm_
def spec_BestLevels (N : Nat) (p : Int × (List Int) × Int × Int × Int × Int) : Option (((List (List Int)) × Bool) × Unit) :=
  (spec_l6Good N p).bind fun r =>
  bif !r.1 then
    some (([], false), ())
  else
    (spec_l6Worths N p).bind fun r1 =>
    spec_BestLevels_L1 N N 0 p [] r1.1
def pspec_l1Cur_policy_K1 (N : Nat) (c4 : (List Int) × Int × Int) (out3 : List (List Int)) : Option ((List (List Int)) × ((List Int) × Int × Int)) :=
  (pspec_l1Cur_pick N c4 20).bind fun r4 =>
  bif ieq r4.1 0 then
    chk (fitB (out3.length + 1) 16) <|
    some (out3 ++ [List.set (List.set (List.replicate 2 0) 0 0) 1 1], r4.2)
  else
    bif ieq r4.1 1 then
      bif ilt 0 (len out3) then
        (pspec_l1Cur_among N r4.2 [(-11), 3, 0]).bind fun r5 =>
        (pspec_l1Cur_among N r5.2 [11, 0, (-10)]).bind fun r6 =>
        chk (inB 0 out3.length) <|
        some (List.set out3 0 (List.set (List.set (List.replicate 2 0) 0 r5.1) 1 r6.1), r6.2)
      else
        some (out3, r4.2)
    else
      some (out3, r4.2)
def pspec_l1Cur_policy_K2 (N : Nat) (c3 : (List Int) × Int × Int) (out2 : List (List Int)) : Option ((List (List Int)) × ((List Int) × Int × Int)) :=
  pspec_l1Cur_policy_K1 N c3 out2
def pspec_l1Cur_policy_B1 (N : Nat) (kx : Int → ((List Int) × Int × Int) → (Int × (List Int) × Int × Int × Int × Int) → (List (List Int)) → Option ((List (List Int)) × ((List Int) × Int × Int))) (t : Int) (c2 : (List Int) × Int × Int) (p2 : Int × (List Int) × Int × Int × Int × Int) (out1 : List (List Int)) : Option ((List (List Int)) × ((List Int) × Int × Int)) :=
  bif ilt t p2.1 then
    bif ilt t 6 then
      (pspec_l1Cur_pick N c2 14).bind fun r2 =>
      (pspec_l1Cur_pick N r2.2 4).bind fun r3 =>
      chk (fitB (out1.length + 1) 16) <|
      kx (iadd .i64 t 1) r3.2 p2 (out1 ++ [List.set (List.set (List.replicate 2 0) 0 (isub .i64 (isub .i64 r2.1 6) r3.1)) 1 (isub .i64 r2.1 6)])
    else
      pspec_l1Cur_policy_K2 N c2 out1
  else
    pspec_l1Cur_policy_K2 N c2 out1
def pspec_l1Cur_policy_L1 (N fu_ : Nat) (t : Int) (c2 : (List Int) × Int × Int) (p2 : Int × (List Int) × Int × Int × Int × Int) (out1 : List (List Int)) : Option ((List (List Int)) × ((List Int) × Int × Int)) :=
  iterK fu_ (fun kx (v_ : (Int × Unit) × (((List Int) × Int × Int) × (Int × (List Int) × Int × Int × Int × Int) × (List (List Int)) × Unit)) => pspec_l1Cur_policy_B1 N (fun t c2 p2 out1 => kx ((t, ()), (c2, p2, out1, ()))) v_.1.1 v_.2.1 v_.2.2.1 v_.2.2.2.1) ((t, ()), (c2, p2, out1, ()))
theorem pspec_l1Cur_policy_L1_succ (N fu_ : Nat) (t : Int) (c2 : (List Int) × Int × Int) (p2 : Int × (List Int) × Int × Int × Int × Int) (out1 : List (List Int)) : pspec_l1Cur_policy_L1 N (fu_ + 1) t c2 p2 out1 = pspec_l1Cur_policy_B1 N (fun t c2 p2 out1 => pspec_l1Cur_policy_L1 N fu_ t c2 p2 out1) t c2 p2 out1 := rfl
theorem pspec_l1Cur_policy_L1_run (N : Nat) (t : Nat → Int) (c2 : Nat → ((List Int) × Int × Int)) (p2 : Nat → (Int × (List Int) × Int × Int × Int × Int)) (out1 : Nat → (List (List Int))) (n_ : Nat) {res_ : Option ((List (List Int)) × ((List Int) × Int × Int))} (hstep_ : ∀ j_, j_ < n_ → ∀ kx_, pspec_l1Cur_policy_B1 N kx_ (t j_) (c2 j_) (p2 j_) (out1 j_) = kx_ (t (j_ + 1)) (c2 (j_ + 1)) (p2 (j_ + 1)) (out1 (j_ + 1))) (hend_ : ∀ kx_, pspec_l1Cur_policy_B1 N kx_ (t n_) (c2 n_) (p2 n_) (out1 n_) = res_) (fu_ : Nat) (hm_ : n_ < fu_) : pspec_l1Cur_policy_L1 N fu_ (t 0) (c2 0) (p2 0) (out1 0) = res_ := by
  exact loop_run (L := fun fu_ (x_ : Int × ((List Int) × Int × Int) × (Int × (List Int) × Int × Int × Int × Int) × (List (List Int))) => pspec_l1Cur_policy_L1 N fu_ x_.1 x_.2.1 x_.2.2.1 x_.2.2.2) (B := fun kx_ x_ => pspec_l1Cur_policy_B1 N (fun t c2 p2 out1 => kx_ (t, c2, p2, out1)) x_.1 x_.2.1 x_.2.2.1 x_.2.2.2) (fun _ _ => rfl) (fun j_ => (t j_, c2 j_, p2 j_, out1 j_)) n_ (fun j_ hi_ kx_ => hstep_ j_ hi_ _) (fun kx_ => hend_ _) fu_ hm_
def pspec_l1Cur_policy_K3 (N : Nat) (v20 : Bool) (c1 : (List Int) × Int × Int) (p1 : Int × (List Int) × Int × Int × Int × Int) (out : List (List Int)) (levels : List (List Int)) : Option ((List (List Int)) × ((List Int) × Int × Int)) :=
  bif v20 then
    pspec_l1Cur_policy_K1 N c1 levels
  else
    pspec_l1Cur_policy_L1 N N 0 c1 p1 out
def pspec_l1Cur_policy (N : Nat) (c : (List Int) × Int × Int) (p : Int × (List Int) × Int × Int × Int × Int) : Option ((List (List Int)) × ((List Int) × Int × Int)) :=
  (spec_BestLevels N p).bind fun r =>
  bif r.1.2 then
    (pspec_l1Cur_one N c 3).bind fun r1 =>
    pspec_l1Cur_policy_K3 N r1.1 r1.2 p [] r.1.1
  else
    pspec_l1Cur_policy_K3 N false c p [] r.1.1
def pspec_l1Cur_level (N : Nat) (c : (List Int) × Int × Int) : Option (Int × ((List Int) × Int × Int)) :=
  (pspec_l1Cur_among N c [0, 1, (-1), 3, (-3), 5, (-8), 10, (-10), 7, 11, (-11)]).bind fun r =>
  some (r.1, r.2)
def spec_l6Asked (N : Nat) (p : Int × (List Int) × Int × Int × Int × Int) (asked : Int) : Option (Bool × Unit) :=
  (spec_l1In N asked 0 (isub .i64 (len p.2.1) 1)).bind fun r =>
  bif r.1 then
    chk (inB asked p.2.1.length) <|
    some (ilt 0 (gd p.2.1 asked.toNat 0), ())
  else
    some (false, ())
def spec_DrawTraceLevels_K1 (N : Nat) (kx : Int → Int → (Int × (List Int) × Int × Int × Int × Int) → ((List Int) × Int × Int) → (Int × (List Int) × Int × Int × Int × Int) → (List (List Int)) → (List Int) → Option (((Int × (List Int) × Int × Int × Int × Int) × (List (List Int)) × Int × (List Int)) × Unit)) (level2 : Int) (t2 : Int) (d1 : Int) (v301 : Int) (v311 : Bool) (v351 : Bool) (v361 : Bool) (v22 : Int × (List Int) × Int × Int × Int × Int) (v341 : (List Int) × Int × Int) (p2 : Int × (List Int) × Int × Int × Int × Int) (levels2 : List (List Int)) (asked2 : List Int) : Option (((Int × (List Int) × Int × Int × Int × Int) × (List (List Int)) × Int × (List Int)) × Unit) :=
  chk (fitB (asked2.length + 1) 8) <|
  kx level2 (iadd .i64 t2 1) v22 v341 p2 levels2 (asked2 ++ [d1])
def spec_DrawTraceLevels_B1 (N : Nat) (kx : Int → Int → (Int × (List Int) × Int × Int × Int × Int) → ((List Int) × Int × Int) → (Int × (List Int) × Int × Int × Int × Int) → (List (List Int)) → (List Int) → Option (((Int × (List Int) × Int × Int × Int × Int) × (List (List Int)) × Int × (List Int)) × Unit)) (kx1 : Int → Int → Int → Int → Int → Bool → Bool → Bool → (Int × (List Int) × Int × Int × Int × Int) → ((List Int) × Int × Int) → (Int × (List Int) × Int × Int × Int × Int) → (List (List Int)) → (List Int) → Option (((Int × (List Int) × Int × Int × Int × Int) × (List (List Int)) × Int × (List Int)) × Unit)) (level1 : Int) (t1 : Int) (d : Int) (n : Int) (v30 : Int) (v31 : Bool) (v35 : Bool) (v36 : Bool) (v21 : Int × (List Int) × Int × Int × Int × Int) (v34 : (List Int) × Int × Int) (p1 : Int × (List Int) × Int × Int × Int × Int) (levels1 : List (List Int)) (asked1 : List Int) : Option (((Int × (List Int) × Int × Int × Int × Int) × (List (List Int)) × Int × (List Int)) × Unit) :=
  bif ilt n 5 then
    (spec_l6Asked N p1 d).bind fun r6 =>
    bif !r6.1 then
      (pspec_l1Cur_one N v34 12).bind fun r7 =>
      bif !r7.1 then
        (spec_l1Most N (len p1.2.1) 1).bind fun r8 =>
        (pspec_l1Cur_pick N r7.2 r8.1).bind fun r9 =>
        kx1 level1 t1 r9.1 (iadd .i64 n 1) v30 v31 v35 v36 v21 r9.2 p1 levels1 asked1
      else
        spec_DrawTraceLevels_K1 N kx level1 t1 d v30 v31 v35 v36 v21 r7.2 p1 levels1 asked1
    else
      spec_DrawTraceLevels_K1 N kx level1 t1 d v30 v31 v35 v36 v21 v34 p1 levels1 asked1
  else
    spec_DrawTraceLevels_K1 N kx level1 t1 d v30 v31 v35 v36 v21 v34 p1 levels1 asked1
def spec_DrawTraceLevels_L1 (N fu_ : Nat) (kx : Int → Int → (Int × (List Int) × Int × Int × Int × Int) → ((List Int) × Int × Int) → (Int × (List Int) × Int × Int × Int × Int) → (List (List Int)) → (List Int) → Option (((Int × (List Int) × Int × Int × Int × Int) × (List (List Int)) × Int × (List Int)) × Unit)) (level1 : Int) (t1 : Int) (d : Int) (n : Int) (v30 : Int) (v31 : Bool) (v35 : Bool) (v36 : Bool) (v21 : Int × (List Int) × Int × Int × Int × Int) (v34 : (List Int) × Int × Int) (p1 : Int × (List Int) × Int × Int × Int × Int) (levels1 : List (List Int)) (asked1 : List Int) : Option (((Int × (List Int) × Int × Int × Int × Int) × (List (List Int)) × Int × (List Int)) × Unit) :=
  iterK fu_ (fun kx1 (v_ : (Int × Int × Int × Int × Int × Bool × Bool × Bool × Unit) × ((Int × (List Int) × Int × Int × Int × Int) × ((List Int) × Int × Int) × (Int × (List Int) × Int × Int × Int × Int) × (List (List Int)) × (List Int) × Unit)) => spec_DrawTraceLevels_B1 N kx (fun level1 t1 d n v30 v31 v35 v36 v21 v34 p1 levels1 asked1 => kx1 ((level1, t1, d, n, v30, v31, v35, v36, ()), (v21, v34, p1, levels1, asked1, ()))) v_.1.1 v_.1.2.1 v_.1.2.2.1 v_.1.2.2.2.1 v_.1.2.2.2.2.1 v_.1.2.2.2.2.2.1 v_.1.2.2.2.2.2.2.1 v_.1.2.2.2.2.2.2.2.1 v_.2.1 v_.2.2.1 v_.2.2.2.1 v_.2.2.2.2.1 v_.2.2.2.2.2.1) ((level1, t1, d, n, v30, v31, v35, v36, ()), (v21, v34, p1, levels1, asked1, ()))
theorem spec_DrawTraceLevels_L1_succ (N fu_ : Nat) (kx : Int → Int → (Int × (List Int) × Int × Int × Int × Int) → ((List Int) × Int × Int) → (Int × (List Int) × Int × Int × Int × Int) → (List (List Int)) → (List Int) → Option (((Int × (List Int) × Int × Int × Int × Int) × (List (List Int)) × Int × (List Int)) × Unit)) (level1 : Int) (t1 : Int) (d : Int) (n : Int) (v30 : Int) (v31 : Bool) (v35 : Bool) (v36 : Bool) (v21 : Int × (List Int) × Int × Int × Int × Int) (v34 : (List Int) × Int × Int) (p1 : Int × (List Int) × Int × Int × Int × Int) (levels1 : List (List Int)) (asked1 : List Int) : spec_DrawTraceLevels_L1 N (fu_ + 1) kx level1 t1 d n v30 v31 v35 v36 v21 v34 p1 levels1 asked1 = spec_DrawTraceLevels_B1 N kx (fun level1 t1 d n v30 v31 v35 v36 v21 v34 p1 levels1 asked1 => spec_DrawTraceLevels_L1 N fu_ kx level1 t1 d n v30 v31 v35 v36 v21 v34 p1 levels1 asked1) level1 t1 d n v30 v31 v35 v36 v21 v34 p1 levels1 asked1 := rfl
theorem spec_DrawTraceLevels_L1_run (N : Nat) (kx : Int → Int → (Int × (List Int) × Int × Int × Int × Int) → ((List Int) × Int × Int) → (Int × (List Int) × Int × Int × Int × Int) → (List (List Int)) → (List Int) → Option (((Int × (List Int) × Int × Int × Int × Int) × (List (List Int)) × Int × (List Int)) × Unit)) (level1 : Nat → Int) (t1 : Nat → Int) (d : Nat → Int) (n : Nat → Int) (v30 : Nat → Int) (v31 : Nat → Bool) (v35 : Nat → Bool) (v36 : Nat → Bool) (v21 : Nat → (Int × (List Int) × Int × Int × Int × Int)) (v34 : Nat → ((List Int) × Int × Int)) (p1 : Nat → (Int × (List Int) × Int × Int × Int × Int)) (levels1 : Nat → (List (List Int))) (asked1 : Nat → (List Int)) (n_ : Nat) {res_ : Option (((Int × (List Int) × Int × Int × Int × Int) × (List (List Int)) × Int × (List Int)) × Unit)} (hstep_ : ∀ j_, j_ < n_ → ∀ kx_, spec_DrawTraceLevels_B1 N kx kx_ (level1 j_) (t1 j_) (d j_) (n j_) (v30 j_) (v31 j_) (v35 j_) (v36 j_) (v21 j_) (v34 j_) (p1 j_) (levels1 j_) (asked1 j_) = kx_ (level1 (j_ + 1)) (t1 (j_ + 1)) (d (j_ + 1)) (n (j_ + 1)) (v30 (j_ + 1)) (v31 (j_ + 1)) (v35 (j_ + 1)) (v36 (j_ + 1)) (v21 (j_ + 1)) (v34 (j_ + 1)) (p1 (j_ + 1)) (levels1 (j_ + 1)) (asked1 (j_ + 1))) (hend_ : ∀ kx_, spec_DrawTraceLevels_B1 N kx kx_ (level1 n_) (t1 n_) (d n_) (n n_) (v30 n_) (v31 n_) (v35 n_) (v36 n_) (v21 n_) (v34 n_) (p1 n_) (levels1 n_) (asked1 n_) = res_) (fu_ : Nat) (hm_ : n_ < fu_) : spec_DrawTraceLevels_L1 N fu_ kx (level1 0) (t1 0) (d 0) (n 0) (v30 0) (v31 0) (v35 0) (v36 0) (v21 0) (v34 0) (p1 0) (levels1 0) (asked1 0) = res_ := by
  exact loop_run (L := fun fu_ (x_ : Int × Int × Int × Int × Int × Bool × Bool × Bool × (Int × (List Int) × Int × Int × Int × Int) × ((List Int) × Int × Int) × (Int × (List Int) × Int × Int × Int × Int) × (List (List Int)) × (List Int)) => spec_DrawTraceLevels_L1 N fu_ kx x_.1 x_.2.1 x_.2.2.1 x_.2.2.2.1 x_.2.2.2.2.1 x_.2.2.2.2.2.1 x_.2.2.2.2.2.2.1 x_.2.2.2.2.2.2.2.1 x_.2.2.2.2.2.2.2.2.1 x_.2.2.2.2.2.2.2.2.2.1 x_.2.2.2.2.2.2.2.2.2.2.1 x_.2.2.2.2.2.2.2.2.2.2.2.1 x_.2.2.2.2.2.2.2.2.2.2.2.2) (B := fun kx_ x_ => spec_DrawTraceLevels_B1 N kx (fun level1 t1 d n v30 v31 v35 v36 v21 v34 p1 levels1 asked1 => kx_ (level1, t1, d, n, v30, v31, v35, v36, v21, v34, p1, levels1, asked1)) x_.1 x_.2.1 x_.2.2.1 x_.2.2.2.1 x_.2.2.2.2.1 x_.2.2.2.2.2.1 x_.2.2.2.2.2.2.1 x_.2.2.2.2.2.2.2.1 x_.2.2.2.2.2.2.2.2.1 x_.2.2.2.2.2.2.2.2.2.1 x_.2.2.2.2.2.2.2.2.2.2.1 x_.2.2.2.2.2.2.2.2.2.2.2.1 x_.2.2.2.2.2.2.2.2.2.2.2.2) (fun _ _ => rfl) (fun j_ => (level1 j_, t1 j_, d j_, n j_, v30 j_, v31 j_, v35 j_, v36 j_, v21 j_, v34 j_, p1 j_, levels1 j_, asked1 j_)) n_ (fun j_ hi_ kx_ => hstep_ j_ hi_ _) (fun kx_ => hend_ _) fu_ hm_
def spec_DrawTraceLevels_K2 (N : Nat) (level3 : Int) (v23 : Int × (List Int) × Int × Int × Int × Int) (c1 : (List Int) × Int × Int) (p3 : Int × (List Int) × Int × Int × Int × Int) (levels3 : List (List Int)) (asked3 : List Int) : Option (((Int × (List Int) × Int × Int × Int × Int) × (List (List Int)) × Int × (List Int)) × Unit) :=
  (pspec_l1Cur_one N c1 20).bind fun r10 =>
  bif r10.1 then
    chk (fitB (asked3.length + 1) 8) <|
    some ((p3, (levels3, (level3, asked3 ++ [0]))), ())
  else
    some ((p3, (levels3, (level3, asked3))), ())
def spec_DrawTraceLevels_B2 (N : Nat) (kx : Int → Int → (Int × (List Int) × Int × Int × Int × Int) → ((List Int) × Int × Int) → (Int × (List Int) × Int × Int × Int × Int) → (List (List Int)) → (List Int) → Option (((Int × (List Int) × Int × Int × Int × Int) × (List (List Int)) × Int × (List Int)) × Unit)) (level : Int) (t : Int) (v2 : Int × (List Int) × Int × Int × Int × Int) (c : (List Int) × Int × Int) (p : Int × (List Int) × Int × Int × Int × Int) (levels : List (List Int)) (asked : List Int) : Option (((Int × (List Int) × Int × Int × Int × Int) × (List (List Int)) × Int × (List Int)) × Unit) :=
  bif ilt t p.1 then
    bif ilt t 6 then
      (pspec_l1Cur_one N c 8).bind fun r3 =>
      bif !r3.1 then
        (spec_l1Most N (len p.2.1) 1).bind fun r4 =>
        (pspec_l1Cur_pick N r3.2 r4.1).bind fun r5 =>
        spec_DrawTraceLevels_L1 N N kx level t r5.1 0 t (ilt t 6) r3.1 (!r3.1) v2 r5.2 p levels asked
      else
        spec_DrawTraceLevels_K2 N level v2 r3.2 p levels asked
    else
      spec_DrawTraceLevels_K2 N level v2 c p levels asked
  else
    spec_DrawTraceLevels_K2 N level v2 c p levels asked
def spec_DrawTraceLevels_L2 (N fu_ : Nat) (level : Int) (t : Int) (v2 : Int × (List Int) × Int × Int × Int × Int) (c : (List Int) × Int × Int) (p : Int × (List Int) × Int × Int × Int × Int) (levels : List (List Int)) (asked : List Int) : Option (((Int × (List Int) × Int × Int × Int × Int) × (List (List Int)) × Int × (List Int)) × Unit) :=
  iterK fu_ (fun kx (v_ : (Int × Int × Unit) × ((Int × (List Int) × Int × Int × Int × Int) × ((List Int) × Int × Int) × (Int × (List Int) × Int × Int × Int × Int) × (List (List Int)) × (List Int) × Unit)) => spec_DrawTraceLevels_B2 N (fun level t v2 c p levels asked => kx ((level, t, ()), (v2, c, p, levels, asked, ()))) v_.1.1 v_.1.2.1 v_.2.1 v_.2.2.1 v_.2.2.2.1 v_.2.2.2.2.1 v_.2.2.2.2.2.1) ((level, t, ()), (v2, c, p, levels, asked, ()))
theorem spec_DrawTraceLevels_L2_succ (N fu_ : Nat) (level : Int) (t : Int) (v2 : Int × (List Int) × Int × Int × Int × Int) (c : (List Int) × Int × Int) (p : Int × (List Int) × Int × Int × Int × Int) (levels : List (List Int)) (asked : List Int) : spec_DrawTraceLevels_L2 N (fu_ + 1) level t v2 c p levels asked = spec_DrawTraceLevels_B2 N (fun level t v2 c p levels asked => spec_DrawTraceLevels_L2 N fu_ level t v2 c p levels asked) level t v2 c p levels asked := rfl
theorem spec_DrawTraceLevels_L2_run (N : Nat) (level : Nat → Int) (t : Nat → Int) (v2 : Nat → (Int × (List Int) × Int × Int × Int × Int)) (c : Nat → ((List Int) × Int × Int)) (p : Nat → (Int × (List Int) × Int × Int × Int × Int)) (levels : Nat → (List (List Int))) (asked : Nat → (List Int)) (n_ : Nat) {res_ : Option (((Int × (List Int) × Int × Int × Int × Int) × (List (List Int)) × Int × (List Int)) × Unit)} (hstep_ : ∀ j_, j_ < n_ → ∀ kx_, spec_DrawTraceLevels_B2 N kx_ (level j_) (t j_) (v2 j_) (c j_) (p j_) (levels j_) (asked j_) = kx_ (level (j_ + 1)) (t (j_ + 1)) (v2 (j_ + 1)) (c (j_ + 1)) (p (j_ + 1)) (levels (j_ + 1)) (asked (j_ + 1))) (hend_ : ∀ kx_, spec_DrawTraceLevels_B2 N kx_ (level n_) (t n_) (v2 n_) (c n_) (p n_) (levels n_) (asked n_) = res_) (fu_ : Nat) (hm_ : n_ < fu_) : spec_DrawTraceLevels_L2 N fu_ (level 0) (t 0) (v2 0) (c 0) (p 0) (levels 0) (asked 0) = res_ := by
  exact loop_run (L := fun fu_ (x_ : Int × Int × (Int × (List Int) × Int × Int × Int × Int) × ((List Int) × Int × Int) × (Int × (List Int) × Int × Int × Int × Int) × (List (List Int)) × (List Int)) => spec_DrawTraceLevels_L2 N fu_ x_.1 x_.2.1 x_.2.2.1 x_.2.2.2.1 x_.2.2.2.2.1 x_.2.2.2.2.2.1 x_.2.2.2.2.2.2) (B := fun kx_ x_ => spec_DrawTraceLevels_B2 N (fun level t v2 c p levels asked => kx_ (level, t, v2, c, p, levels, asked)) x_.1 x_.2.1 x_.2.2.1 x_.2.2.2.1 x_.2.2.2.2.1 x_.2.2.2.2.2.1 x_.2.2.2.2.2.2) (fun _ _ => rfl) (fun j_ => (level j_, t j_, v2 j_, c j_, p j_, levels j_, asked j_)) n_ (fun j_ hi_ kx_ => hstep_ j_ hi_ _) (fun kx_ => hend_ _) fu_ hm_
def spec_DrawTraceLevels (N : Nat) (code : List Int) : Option (((Int × (List Int) × Int × Int × Int × Int) × (List (List Int)) × Int × (List Int)) × Unit) :=
  (pspec_l1Cur_process N (code, (0, 0))).bind fun r =>
  (pspec_l1Cur_policy N r.2 r.1).bind fun r1 =>
  (pspec_l1Cur_level N r1.2).bind fun r2 =>
  spec_DrawTraceLevels_L2 N N r2.1 0 (0, ([], (0, (0, (0, 0))))) r2.2 r.1 r1.1 []
def impl_within (N : Nat) (n : Int) (low : Int) (high : Int) : Option (Bool × Unit) :=
  bif ile low n then
    some (ile n high, ())
  else
    some (false, ())
def impl_allWithin_K1 (N : Nat) : Option (Bool × Unit) :=
  some (true, ())
def impl_allWithin_B1 (N : Nat) (kx : Int → Int → (List Int) → Int → Int → Option (Bool × Unit)) (low1 : Int) (high1 : Int) (v9 : List Int) (v10 : Int) (v11 : Int) : Option (Bool × Unit) :=
  bif ilt v11 v10 then
    chk (inB v11 v9.length) <|
    (impl_within N (gd v9 v11.toNat 0) low1 high1).bind fun r =>
    bif !r.1 then
      some (false, ())
    else
      kx low1 high1 v9 v10 (iadd .i64 v11 1)
  else
    impl_allWithin_K1 N
def impl_allWithin_L1 (N fu_ : Nat) (low1 : Int) (high1 : Int) (v9 : List Int) (v10 : Int) (v11 : Int) : Option (Bool × Unit) :=
  iterK fu_ (fun kx (v_ : (Int × Int × (List Int) × Int × Int × Unit) × (Unit)) => impl_allWithin_B1 N (fun low1 high1 v9 v10 v11 => kx ((low1, high1, v9, v10, v11, ()), ())) v_.1.1 v_.1.2.1 v_.1.2.2.1 v_.1.2.2.2.1 v_.1.2.2.2.2.1) ((low1, high1, v9, v10, v11, ()), ())
theorem impl_allWithin_L1_succ (N fu_ : Nat) (low1 : Int) (high1 : Int) (v9 : List Int) (v10 : Int) (v11 : Int) : impl_allWithin_L1 N (fu_ + 1) low1 high1 v9 v10 v11 = impl_allWithin_B1 N (fun low1 high1 v9 v10 v11 => impl_allWithin_L1 N fu_ low1 high1 v9 v10 v11) low1 high1 v9 v10 v11 := rfl
theorem impl_allWithin_L1_run (N : Nat) (low1 : Nat → Int) (high1 : Nat → Int) (v9 : Nat → (List Int)) (v10 : Nat → Int) (v11 : Nat → Int) (n_ : Nat) {res_ : Option (Bool × Unit)} (hstep_ : ∀ j_, j_ < n_ → ∀ kx_, impl_allWithin_B1 N kx_ (low1 j_) (high1 j_) (v9 j_) (v10 j_) (v11 j_) = kx_ (low1 (j_ + 1)) (high1 (j_ + 1)) (v9 (j_ + 1)) (v10 (j_ + 1)) (v11 (j_ + 1))) (hend_ : ∀ kx_, impl_allWithin_B1 N kx_ (low1 n_) (high1 n_) (v9 n_) (v10 n_) (v11 n_) = res_) (fu_ : Nat) (hm_ : n_ < fu_) : impl_allWithin_L1 N fu_ (low1 0) (high1 0) (v9 0) (v10 0) (v11 0) = res_ := by
  exact loop_run (L := fun fu_ (x_ : Int × Int × (List Int) × Int × Int) => impl_allWithin_L1 N fu_ x_.1 x_.2.1 x_.2.2.1 x_.2.2.2.1 x_.2.2.2.2) (B := fun kx_ x_ => impl_allWithin_B1 N (fun low1 high1 v9 v10 v11 => kx_ (low1, high1, v9, v10, v11)) x_.1 x_.2.1 x_.2.2.1 x_.2.2.2.1 x_.2.2.2.2) (fun _ _ => rfl) (fun j_ => (low1 j_, high1 j_, v9 j_, v10 j_, v11 j_)) n_ (fun j_ hi_ kx_ => hstep_ j_ hi_ _) (fun kx_ => hend_ _) fu_ hm_
def impl_allWithin (N : Nat) (list : List Int) (low : Int) (high : Int) : Option (Bool × Unit) :=
  impl_allWithin_L1 N N low high list (len list) 0
def impl_total_K1 (N : Nat) (sum1 : Int) : Option (Int × Unit) :=
  some (sum1, ())
def impl_total_B1 (N : Nat) (kx : Int → (List Int) → Int → Int → Option (Int × Unit)) (sum : Int) (v6 : List Int) (v7 : Int) (v8 : Int) : Option (Int × Unit) :=
  bif ilt v8 v7 then
    chk (inB v8 v6.length) <|
    kx (iadd .i64 sum (gd v6 v8.toNat 0)) v6 v7 (iadd .i64 v8 1)
  else
    impl_total_K1 N sum
def impl_total_L1 (N fu_ : Nat) (sum : Int) (v6 : List Int) (v7 : Int) (v8 : Int) : Option (Int × Unit) :=
  iterK fu_ (fun kx (v_ : (Int × (List Int) × Int × Int × Unit) × (Unit)) => impl_total_B1 N (fun sum v6 v7 v8 => kx ((sum, v6, v7, v8, ()), ())) v_.1.1 v_.1.2.1 v_.1.2.2.1 v_.1.2.2.2.1) ((sum, v6, v7, v8, ()), ())
theorem impl_total_L1_succ (N fu_ : Nat) (sum : Int) (v6 : List Int) (v7 : Int) (v8 : Int) : impl_total_L1 N (fu_ + 1) sum v6 v7 v8 = impl_total_B1 N (fun sum v6 v7 v8 => impl_total_L1 N fu_ sum v6 v7 v8) sum v6 v7 v8 := rfl
theorem impl_total_L1_run (N : Nat) (sum : Nat → Int) (v6 : Nat → (List Int)) (v7 : Nat → Int) (v8 : Nat → Int) (n_ : Nat) {res_ : Option (Int × Unit)} (hstep_ : ∀ j_, j_ < n_ → ∀ kx_, impl_total_B1 N kx_ (sum j_) (v6 j_) (v7 j_) (v8 j_) = kx_ (sum (j_ + 1)) (v6 (j_ + 1)) (v7 (j_ + 1)) (v8 (j_ + 1))) (hend_ : ∀ kx_, impl_total_B1 N kx_ (sum n_) (v6 n_) (v7 n_) (v8 n_) = res_) (fu_ : Nat) (hm_ : n_ < fu_) : impl_total_L1 N fu_ (sum 0) (v6 0) (v7 0) (v8 0) = res_ := by
  exact loop_run (L := fun fu_ (x_ : Int × (List Int) × Int × Int) => impl_total_L1 N fu_ x_.1 x_.2.1 x_.2.2.1 x_.2.2.2) (B := fun kx_ x_ => impl_total_B1 N (fun sum v6 v7 v8 => kx_ (sum, v6, v7, v8)) x_.1 x_.2.1 x_.2.2.1 x_.2.2.2) (fun _ _ => rfl) (fun j_ => (sum j_, v6 j_, v7 j_, v8 j_)) n_ (fun j_ hi_ kx_ => hstep_ j_ hi_ _) (fun kx_ => hend_ _) fu_ hm_
def impl_total (N : Nat) (list : List Int) : Option (Int × Unit) :=
  impl_total_L1 N N 0 list (len list) 0
def impl_IsProcess (N : Nat) (p : Int × (List Int) × Int × Int × Int × Int) : Option (Bool × Unit) :=
  (impl_within N p.1 0 5).bind fun r =>
  bif r.1 then
    (impl_within N (len p.2.1) 1 5).bind fun r1 =>
    bif r1.1 then
      (impl_allWithin N p.2.1 0 4).bind fun r2 =>
      bif r2.1 then
        (impl_total N p.2.1).bind fun r3 =>
        bif ilt 0 r3.1 then
          (impl_within N p.2.2.1 0 99).bind fun r4 =>
          bif r4.1 then
            (impl_allWithin N [p.2.2.2.1, p.2.2.2.2.1, p.2.2.2.2.2] 0 9).bind fun r5 =>
            some (r5.1, ())
          else
            some (false, ())
        else
          some (false, ())
      else
        some (false, ())
    else
      some (false, ())
  else
    some (false, ())
def impl_isLevel (N : Nat) (x : Int) : Option (Bool × Unit) :=
  (impl_within N x (-10) 10).bind fun r =>
  some (r.1, ())
def impl_Process_floor (N : Nat) (p : Int × (List Int) × Int × Int × Int × Int) : Option (Int × Unit) :=
  some (isub .i64 (isub .i64 (len p.2.1) 1) 10, ())
def impl_Process_isPolicy_K1 (N : Nat) (policy2 : List (List Int)) (p2 : Int × (List Int) × Int × Int × Int × Int) : Option (Bool × Unit) :=
  some (ieq (len policy2) p2.1, ())
def impl_Process_isPolicy_B1 (N : Nat) (kx : (List (List Int)) → (List (List Int)) → Int → Int → (Int × (List Int) × Int × Int × Int × Int) → Option (Bool × Unit)) (policy1 : List (List Int)) (v7 : List (List Int)) (v8 : Int) (v9 : Int) (p1 : Int × (List Int) × Int × Int × Int × Int) : Option (Bool × Unit) :=
  bif ilt v9 v8 then
    chk (inB v9 v7.length) <|
    chk (inB 0 2) <|
    (impl_isLevel N (gd (gd v7 v9.toNat (List.replicate 2 0)) 0 0)).bind fun r =>
    bif !r.1 then
      some (false, ())
    else
      chk (inB 1 2) <|
      (impl_isLevel N (gd (gd v7 v9.toNat (List.replicate 2 0)) 1 0)).bind fun r1 =>
      bif !r1.1 then
        some (false, ())
      else
        chk (inB 0 2) <|
        chk (inB 1 2) <|
        bif ilt (gd (gd v7 v9.toNat (List.replicate 2 0)) 1 0) (gd (gd v7 v9.toNat (List.replicate 2 0)) 0 0) then
          some (false, ())
        else
          chk (inB 1 2) <|
          (impl_Process_floor N p1).bind fun r2 =>
          bif ilt (gd (gd v7 v9.toNat (List.replicate 2 0)) 1 0) r2.1 then
            some (false, ())
          else
            kx policy1 v7 v8 (iadd .i64 v9 1) p1
  else
    impl_Process_isPolicy_K1 N policy1 p1
def impl_Process_isPolicy_L1 (N fu_ : Nat) (policy1 : List (List Int)) (v7 : List (List Int)) (v8 : Int) (v9 : Int) (p1 : Int × (List Int) × Int × Int × Int × Int) : Option (Bool × Unit) :=
  iterK fu_ (fun kx (v_ : ((List (List Int)) × (List (List Int)) × Int × Int × Unit) × ((Int × (List Int) × Int × Int × Int × Int) × Unit)) => impl_Process_isPolicy_B1 N (fun policy1 v7 v8 v9 p1 => kx ((policy1, v7, v8, v9, ()), (p1, ()))) v_.1.1 v_.1.2.1 v_.1.2.2.1 v_.1.2.2.2.1 v_.2.1) ((policy1, v7, v8, v9, ()), (p1, ()))
theorem impl_Process_isPolicy_L1_succ (N fu_ : Nat) (policy1 : List (List Int)) (v7 : List (List Int)) (v8 : Int) (v9 : Int) (p1 : Int × (List Int) × Int × Int × Int × Int) : impl_Process_isPolicy_L1 N (fu_ + 1) policy1 v7 v8 v9 p1 = impl_Process_isPolicy_B1 N (fun policy1 v7 v8 v9 p1 => impl_Process_isPolicy_L1 N fu_ policy1 v7 v8 v9 p1) policy1 v7 v8 v9 p1 := rfl
theorem impl_Process_isPolicy_L1_run (N : Nat) (policy1 : Nat → (List (List Int))) (v7 : Nat → (List (List Int))) (v8 : Nat → Int) (v9 : Nat → Int) (p1 : Nat → (Int × (List Int) × Int × Int × Int × Int)) (n_ : Nat) {res_ : Option (Bool × Unit)} (hstep_ : ∀ j_, j_ < n_ → ∀ kx_, impl_Process_isPolicy_B1 N kx_ (policy1 j_) (v7 j_) (v8 j_) (v9 j_) (p1 j_) = kx_ (policy1 (j_ + 1)) (v7 (j_ + 1)) (v8 (j_ + 1)) (v9 (j_ + 1)) (p1 (j_ + 1))) (hend_ : ∀ kx_, impl_Process_isPolicy_B1 N kx_ (policy1 n_) (v7 n_) (v8 n_) (v9 n_) (p1 n_) = res_) (fu_ : Nat) (hm_ : n_ < fu_) : impl_Process_isPolicy_L1 N fu_ (policy1 0) (v7 0) (v8 0) (v9 0) (p1 0) = res_ := by
  exact loop_run (L := fun fu_ (x_ : (List (List Int)) × (List (List Int)) × Int × Int × (Int × (List Int) × Int × Int × Int × Int)) => impl_Process_isPolicy_L1 N fu_ x_.1 x_.2.1 x_.2.2.1 x_.2.2.2.1 x_.2.2.2.2) (B := fun kx_ x_ => impl_Process_isPolicy_B1 N (fun policy1 v7 v8 v9 p1 => kx_ (policy1, v7, v8, v9, p1)) x_.1 x_.2.1 x_.2.2.1 x_.2.2.2.1 x_.2.2.2.2) (fun _ _ => rfl) (fun j_ => (policy1 j_, v7 j_, v8 j_, v9 j_, p1 j_)) n_ (fun j_ hi_ kx_ => hstep_ j_ hi_ _) (fun kx_ => hend_ _) fu_ hm_
def impl_Process_isPolicy (N : Nat) (p : Int × (List Int) × Int × Int × Int × Int) (policy : List (List Int)) : Option (Bool × Unit) :=
  impl_Process_isPolicy_L1 N N policy policy (len policy) 0 p
def impl_Process_isAsked (N : Nat) (p : Int × (List Int) × Int × Int × Int × Int) (d : Int) : Option (Bool × Unit) :=
  (impl_within N d 0 (isub .i64 (len p.2.1) 1)).bind fun r =>
  bif r.1 then
    chk (inB d p.2.1.length) <|
    some (ilt 0 (gd p.2.1 d.toNat 0), ())
  else
    some (false, ())
def impl_Process_orders (N : Nat) (p : Int × (List Int) × Int × Int × Int × Int) (pair : List Int) (x : Int) : Option (Int × Unit) :=
  chk (inB 0 2) <|
  bif ilt x (gd pair 0 0) then
    chk (inB 1 2) <|
    some (gd pair 1 0, ())
  else
    (impl_Process_floor N p).bind fun r =>
    bif ilt x r.1 then
      chk (inB 1 2) <|
      some (gd pair 1 0, ())
    else
      some (x, ())
def impl_Process_order (N : Nat) (p : Int × (List Int) × Int × Int × Int × Int) (x : Int) (y : Int) : Option (Int × Unit) :=
  bif ieq y x then
    some (0, ())
  else
    some (iadd .i64 p.2.2.1 (imul .i64 p.2.2.2.1 (isub .i64 y x)), ())
def impl_Process_keep (N : Nat) (p : Int × (List Int) × Int × Int × Int × Int) (x : Int) : Option (Int × Unit) :=
  some (iadd .i64 (imul .i64 p.2.2.2.2.1 (imax 0 x)) (imul .i64 p.2.2.2.2.2 (imax 0 (isub .i64 0 x))), ())
def impl_Process_stepped (N : Nat) (p : Int × (List Int) × Int × Int × Int × Int) (pair : List Int) (x : Int) (d : Int) : Option ((Int × Int × Int) × Unit) :=
  (impl_Process_orders N p pair x).bind fun r =>
  (impl_Process_order N p x r.1).bind fun r1 =>
  (impl_Process_keep N p (isub .i64 r.1 d)).bind fun r2 =>
  some ((r.1, (isub .i64 r.1 d, iadd .i64 r1.1 r2.1)), ())
def impl_TraceLevels_K1 (N : Nat) (sum1 : Int) (out1 : List Int) : Option (((List Int) × Int × Bool) × Unit) :=
  some ((out1, (sum1, true)), ())
def impl_TraceLevels_B1 (N : Nat) (kx : (List (List Int)) → Int → Int → (List Int) → Int → Int → (Int × (List Int) × Int × Int × Int × Int) → (List Int) → Option (((List Int) × Int × Bool) × Unit)) (levels1 : List (List Int)) (level1 : Int) (sum : Int) (v40 : List Int) (v41 : Int) (v42 : Int) (p1 : Int × (List Int) × Int × Int × Int × Int) (out : List Int) : Option (((List Int) × Int × Bool) × Unit) :=
  bif ilt v42 v41 then
    chk (inB v42 v40.length) <|
    (impl_Process_isAsked N p1 (gd v40 v42.toNat 0)).bind fun r3 =>
    bif !r3.1 then
      some (([], (0, false)), ())
    else
      chk (inB v42 levels1.length) <|
      (impl_Process_stepped N p1 (gd levels1 v42.toNat (List.replicate 2 0)) level1 (gd v40 v42.toNat 0)).bind fun r4 =>
      chk (fitB (out.length + 1) 8) <|
      kx levels1 r4.1.2.1 (iadd .i64 sum r4.1.2.2) v40 v41 (iadd .i64 v42 1) p1 (out ++ [r4.1.2.1])
  else
    impl_TraceLevels_K1 N sum out
def impl_TraceLevels_L1 (N fu_ : Nat) (levels1 : List (List Int)) (level1 : Int) (sum : Int) (v40 : List Int) (v41 : Int) (v42 : Int) (p1 : Int × (List Int) × Int × Int × Int × Int) (out : List Int) : Option (((List Int) × Int × Bool) × Unit) :=
  iterK fu_ (fun kx (v_ : ((List (List Int)) × Int × Int × (List Int) × Int × Int × Unit) × ((Int × (List Int) × Int × Int × Int × Int) × (List Int) × Unit)) => impl_TraceLevels_B1 N (fun levels1 level1 sum v40 v41 v42 p1 out => kx ((levels1, level1, sum, v40, v41, v42, ()), (p1, out, ()))) v_.1.1 v_.1.2.1 v_.1.2.2.1 v_.1.2.2.2.1 v_.1.2.2.2.2.1 v_.1.2.2.2.2.2.1 v_.2.1 v_.2.2.1) ((levels1, level1, sum, v40, v41, v42, ()), (p1, out, ()))
theorem impl_TraceLevels_L1_succ (N fu_ : Nat) (levels1 : List (List Int)) (level1 : Int) (sum : Int) (v40 : List Int) (v41 : Int) (v42 : Int) (p1 : Int × (List Int) × Int × Int × Int × Int) (out : List Int) : impl_TraceLevels_L1 N (fu_ + 1) levels1 level1 sum v40 v41 v42 p1 out = impl_TraceLevels_B1 N (fun levels1 level1 sum v40 v41 v42 p1 out => impl_TraceLevels_L1 N fu_ levels1 level1 sum v40 v41 v42 p1 out) levels1 level1 sum v40 v41 v42 p1 out := rfl
theorem impl_TraceLevels_L1_run (N : Nat) (levels1 : Nat → (List (List Int))) (level1 : Nat → Int) (sum : Nat → Int) (v40 : Nat → (List Int)) (v41 : Nat → Int) (v42 : Nat → Int) (p1 : Nat → (Int × (List Int) × Int × Int × Int × Int)) (out : Nat → (List Int)) (n_ : Nat) {res_ : Option (((List Int) × Int × Bool) × Unit)} (hstep_ : ∀ j_, j_ < n_ → ∀ kx_, impl_TraceLevels_B1 N kx_ (levels1 j_) (level1 j_) (sum j_) (v40 j_) (v41 j_) (v42 j_) (p1 j_) (out j_) = kx_ (levels1 (j_ + 1)) (level1 (j_ + 1)) (sum (j_ + 1)) (v40 (j_ + 1)) (v41 (j_ + 1)) (v42 (j_ + 1)) (p1 (j_ + 1)) (out (j_ + 1))) (hend_ : ∀ kx_, impl_TraceLevels_B1 N kx_ (levels1 n_) (level1 n_) (sum n_) (v40 n_) (v41 n_) (v42 n_) (p1 n_) (out n_) = res_) (fu_ : Nat) (hm_ : n_ < fu_) : impl_TraceLevels_L1 N fu_ (levels1 0) (level1 0) (sum 0) (v40 0) (v41 0) (v42 0) (p1 0) (out 0) = res_ := by
  exact loop_run (L := fun fu_ (x_ : (List (List Int)) × Int × Int × (List Int) × Int × Int × (Int × (List Int) × Int × Int × Int × Int) × (List Int)) => impl_TraceLevels_L1 N fu_ x_.1 x_.2.1 x_.2.2.1 x_.2.2.2.1 x_.2.2.2.2.1 x_.2.2.2.2.2.1 x_.2.2.2.2.2.2.1 x_.2.2.2.2.2.2.2) (B := fun kx_ x_ => impl_TraceLevels_B1 N (fun levels1 level1 sum v40 v41 v42 p1 out => kx_ (levels1, level1, sum, v40, v41, v42, p1, out)) x_.1 x_.2.1 x_.2.2.1 x_.2.2.2.1 x_.2.2.2.2.1 x_.2.2.2.2.2.1 x_.2.2.2.2.2.2.1 x_.2.2.2.2.2.2.2) (fun _ _ => rfl) (fun j_ => (levels1 j_, level1 j_, sum j_, v40 j_, v41 j_, v42 j_, p1 j_, out j_)) n_ (fun j_ hi_ kx_ => hstep_ j_ hi_ _) (fun kx_ => hend_ _) fu_ hm_
def impl_TraceLevels (N : Nat) (p : Int × (List Int) × Int × Int × Int × Int) (levels : List (List Int)) (level : Int) (asked : List Int) : Option (((List Int) × Int × Bool) × Unit) :=
  (impl_IsProcess N p).bind fun r =>
  bif !r.1 then
    some (([], (0, false)), ())
  else
    (impl_Process_isPolicy N p levels).bind fun r1 =>
    bif !r1.1 then
      some (([], (0, false)), ())
    else
      (impl_isLevel N level).bind fun r2 =>
      bif !r2.1 then
        some (([], (0, false)), ())
      else
        bif ilt p.1 (len asked) then
          some (([], (0, false)), ())
        else
          impl_TraceLevels_L1 N N levels level 0 asked (len asked) 0 p []
def spec_l6Level (N : Nat) (x : Int) : Option (Bool × Unit) :=
  (spec_l1In N x (-10) 10).bind fun r =>
  some (r.1, ())
def spec_l6Policy_K1 (N : Nat) (levels2 : List (List Int)) (p2 : Int × (List Int) × Int × Int × Int × Int) : Option (Bool × Unit) :=
  some (ieq (len levels2) p2.1, ())
def spec_l6Policy_B1 (N : Nat) (kx : (List (List Int)) → Int → (Int × (List Int) × Int × Int × Int × Int) → Option (Bool × Unit)) (levels1 : List (List Int)) (t : Int) (p1 : Int × (List Int) × Int × Int × Int × Int) : Option (Bool × Unit) :=
  bif ilt t (len levels1) then
    chk (inB t levels1.length) <|
    chk (inB 0 2) <|
    (spec_l6Level N (gd (gd levels1 t.toNat (List.replicate 2 0)) 0 0)).bind fun r =>
    bif !r.1 then
      some (false, ())
    else
      chk (inB 1 2) <|
      (spec_l6Level N (gd (gd levels1 t.toNat (List.replicate 2 0)) 1 0)).bind fun r1 =>
      bif !r1.1 then
        some (false, ())
      else
        chk (inB 0 2) <|
        chk (inB 1 2) <|
        bif ilt (gd (gd levels1 t.toNat (List.replicate 2 0)) 1 0) (gd (gd levels1 t.toNat (List.replicate 2 0)) 0 0) then
          some (false, ())
        else
          chk (inB 1 2) <|
          (spec_l6Floor N p1).bind fun r2 =>
          bif ilt (gd (gd levels1 t.toNat (List.replicate 2 0)) 1 0) r2.1 then
            some (false, ())
          else
            kx levels1 (iadd .i64 t 1) p1
  else
    spec_l6Policy_K1 N levels1 p1
def spec_l6Policy_L1 (N fu_ : Nat) (levels1 : List (List Int)) (t : Int) (p1 : Int × (List Int) × Int × Int × Int × Int) : Option (Bool × Unit) :=
  iterK fu_ (fun kx (v_ : ((List (List Int)) × Int × Unit) × ((Int × (List Int) × Int × Int × Int × Int) × Unit)) => spec_l6Policy_B1 N (fun levels1 t p1 => kx ((levels1, t, ()), (p1, ()))) v_.1.1 v_.1.2.1 v_.2.1) ((levels1, t, ()), (p1, ()))
theorem spec_l6Policy_L1_succ (N fu_ : Nat) (levels1 : List (List Int)) (t : Int) (p1 : Int × (List Int) × Int × Int × Int × Int) : spec_l6Policy_L1 N (fu_ + 1) levels1 t p1 = spec_l6Policy_B1 N (fun levels1 t p1 => spec_l6Policy_L1 N fu_ levels1 t p1) levels1 t p1 := rfl
theorem spec_l6Policy_L1_run (N : Nat) (levels1 : Nat → (List (List Int))) (t : Nat → Int) (p1 : Nat → (Int × (List Int) × Int × Int × Int × Int)) (n_ : Nat) {res_ : Option (Bool × Unit)} (hstep_ : ∀ j_, j_ < n_ → ∀ kx_, spec_l6Policy_B1 N kx_ (levels1 j_) (t j_) (p1 j_) = kx_ (levels1 (j_ + 1)) (t (j_ + 1)) (p1 (j_ + 1))) (hend_ : ∀ kx_, spec_l6Policy_B1 N kx_ (levels1 n_) (t n_) (p1 n_) = res_) (fu_ : Nat) (hm_ : n_ < fu_) : spec_l6Policy_L1 N fu_ (levels1 0) (t 0) (p1 0) = res_ := by
  exact loop_run (L := fun fu_ (x_ : (List (List Int)) × Int × (Int × (List Int) × Int × Int × Int × Int)) => spec_l6Policy_L1 N fu_ x_.1 x_.2.1 x_.2.2) (B := fun kx_ x_ => spec_l6Policy_B1 N (fun levels1 t p1 => kx_ (levels1, t, p1)) x_.1 x_.2.1 x_.2.2) (fun _ _ => rfl) (fun j_ => (levels1 j_, t j_, p1 j_)) n_ (fun j_ hi_ kx_ => hstep_ j_ hi_ _) (fun kx_ => hend_ _) fu_ hm_
def spec_l6Policy (N : Nat) (p : Int × (List Int) × Int × Int × Int × Int) (levels : List (List Int)) : Option (Bool × Unit) :=
  spec_l6Policy_L1 N N levels 0 p
def spec_l6Turn (N : Nat) (p : Int × (List Int) × Int × Int × Int × Int) (turn : Int) : Option (Bool × Unit) :=
  (spec_l6Good N p).bind fun r =>
  bif r.1 then
    (spec_l1In N turn 0 (isub .i64 p.1 1)).bind fun r1 =>
    some (r1.1, ())
  else
    some (false, ())
def spec_l6Up (N : Nat) (p : Int × (List Int) × Int × Int × Int × Int) (pair : List Int) (x : Int) : Option (Int × Unit) :=
  chk (inB 0 2) <|
  bif ilt x (gd pair 0 0) then
    chk (inB 1 2) <|
    some (gd pair 1 0, ())
  else
    (spec_l6Floor N p).bind fun r =>
    bif ilt x r.1 then
      chk (inB 1 2) <|
      some (gd pair 1 0, ())
    else
      some (x, ())
def spec_StepLevel (N : Nat) (p : Int × (List Int) × Int × Int × Int × Int) (levels : List (List Int)) (turn : Int) (level : Int) (asked : Int) : Option ((Int × Int × Int × Bool) × Unit) :=
  (spec_l6Turn N p turn).bind fun r =>
  bif !r.1 then
    some ((0, (0, (0, false))), ())
  else
    (spec_l6Policy N p levels).bind fun r1 =>
    bif !r1.1 then
      some ((0, (0, (0, false))), ())
    else
      (spec_l6Level N level).bind fun r2 =>
      bif !r2.1 then
        some ((0, (0, (0, false))), ())
      else
        (spec_l6Asked N p asked).bind fun r3 =>
        bif !r3.1 then
          some ((0, (0, (0, false))), ())
        else
          chk (inB turn levels.length) <|
          (spec_l6Up N p (gd levels turn.toNat (List.replicate 2 0)) level).bind fun r4 =>
          (spec_l6Order N p level r4.1).bind fun r5 =>
          (spec_l6Kept N p (isub .i64 r4.1 asked)).bind fun r6 =>
          some ((r4.1, (isub .i64 r4.1 asked, (iadd .i64 r5.1 r6.1, true))), ())
def spec_TraceLevels_K1 (N : Nat) (sum1 : Int) (out1 : List Int) : Option (((List Int) × Int × Bool) × Unit) :=
  some ((out1, (sum1, true)), ())
def spec_TraceLevels_B1 (N : Nat) (kx : (List (List Int)) → Int → (List Int) → Int → Int → (Int × (List Int) × Int × Int × Int × Int) → (List Int) → Option (((List Int) × Int × Bool) × Unit)) (levels1 : List (List Int)) (level1 : Int) (asked1 : List Int) (sum : Int) (t : Int) (p1 : Int × (List Int) × Int × Int × Int × Int) (out : List Int) : Option (((List Int) × Int × Bool) × Unit) :=
  bif ilt t (len asked1) then
    chk (inB t asked1.length) <|
    (spec_StepLevel N p1 levels1 t level1 (gd asked1 t.toNat 0)).bind fun r3 =>
    bif !r3.1.2.2.2 then
      some (([], (0, false)), ())
    else
      chk (fitB (out.length + 1) 8) <|
      kx levels1 r3.1.2.1 asked1 (iadd .i64 sum r3.1.2.2.1) (iadd .i64 t 1) p1 (out ++ [r3.1.2.1])
  else
    spec_TraceLevels_K1 N sum out
def spec_TraceLevels_L1 (N fu_ : Nat) (levels1 : List (List Int)) (level1 : Int) (asked1 : List Int) (sum : Int) (t : Int) (p1 : Int × (List Int) × Int × Int × Int × Int) (out : List Int) : Option (((List Int) × Int × Bool) × Unit) :=
  iterK fu_ (fun kx (v_ : ((List (List Int)) × Int × (List Int) × Int × Int × Unit) × ((Int × (List Int) × Int × Int × Int × Int) × (List Int) × Unit)) => spec_TraceLevels_B1 N (fun levels1 level1 asked1 sum t p1 out => kx ((levels1, level1, asked1, sum, t, ()), (p1, out, ()))) v_.1.1 v_.1.2.1 v_.1.2.2.1 v_.1.2.2.2.1 v_.1.2.2.2.2.1 v_.2.1 v_.2.2.1) ((levels1, level1, asked1, sum, t, ()), (p1, out, ()))
theorem spec_TraceLevels_L1_succ (N fu_ : Nat) (levels1 : List (List Int)) (level1 : Int) (asked1 : List Int) (sum : Int) (t : Int) (p1 : Int × (List Int) × Int × Int × Int × Int) (out : List Int) : spec_TraceLevels_L1 N (fu_ + 1) levels1 level1 asked1 sum t p1 out = spec_TraceLevels_B1 N (fun levels1 level1 asked1 sum t p1 out => spec_TraceLevels_L1 N fu_ levels1 level1 asked1 sum t p1 out) levels1 level1 asked1 sum t p1 out := rfl
theorem spec_TraceLevels_L1_run (N : Nat) (levels1 : Nat → (List (List Int))) (level1 : Nat → Int) (asked1 : Nat → (List Int)) (sum : Nat → Int) (t : Nat → Int) (p1 : Nat → (Int × (List Int) × Int × Int × Int × Int)) (out : Nat → (List Int)) (n_ : Nat) {res_ : Option (((List Int) × Int × Bool) × Unit)} (hstep_ : ∀ j_, j_ < n_ → ∀ kx_, spec_TraceLevels_B1 N kx_ (levels1 j_) (level1 j_) (asked1 j_) (sum j_) (t j_) (p1 j_) (out j_) = kx_ (levels1 (j_ + 1)) (level1 (j_ + 1)) (asked1 (j_ + 1)) (sum (j_ + 1)) (t (j_ + 1)) (p1 (j_ + 1)) (out (j_ + 1))) (hend_ : ∀ kx_, spec_TraceLevels_B1 N kx_ (levels1 n_) (level1 n_) (asked1 n_) (sum n_) (t n_) (p1 n_) (out n_) = res_) (fu_ : Nat) (hm_ : n_ < fu_) : spec_TraceLevels_L1 N fu_ (levels1 0) (level1 0) (asked1 0) (sum 0) (t 0) (p1 0) (out 0) = res_ := by
  exact loop_run (L := fun fu_ (x_ : (List (List Int)) × Int × (List Int) × Int × Int × (Int × (List Int) × Int × Int × Int × Int) × (List Int)) => spec_TraceLevels_L1 N fu_ x_.1 x_.2.1 x_.2.2.1 x_.2.2.2.1 x_.2.2.2.2.1 x_.2.2.2.2.2.1 x_.2.2.2.2.2.2) (B := fun kx_ x_ => spec_TraceLevels_B1 N (fun levels1 level1 asked1 sum t p1 out => kx_ (levels1, level1, asked1, sum, t, p1, out)) x_.1 x_.2.1 x_.2.2.1 x_.2.2.2.1 x_.2.2.2.2.1 x_.2.2.2.2.2.1 x_.2.2.2.2.2.2) (fun _ _ => rfl) (fun j_ => (levels1 j_, level1 j_, asked1 j_, sum j_, t j_, p1 j_, out j_)) n_ (fun j_ hi_ kx_ => hstep_ j_ hi_ _) (fun kx_ => hend_ _) fu_ hm_
def spec_TraceLevels (N : Nat) (p : Int × (List Int) × Int × Int × Int × Int) (levels : List (List Int)) (level : Int) (asked : List Int) : Option (((List Int) × Int × Bool) × Unit) :=
  (spec_l6Good N p).bind fun r =>
  bif !r.1 then
    some (([], (0, false)), ())
  else
    (spec_l6Policy N p levels).bind fun r1 =>
    bif !r1.1 then
      some (([], (0, false)), ())
    else
      (spec_l6Level N level).bind fun r2 =>
      bif !r2.1 then
        some (([], (0, false)), ())
      else
        bif ilt p.1 (len asked) then
          some (([], (0, false)), ())
        else
          spec_TraceLevels_L1 N N levels level asked 0 0 p []
def laws_rInts_K1 (N : Nat) : Option (Bool × Unit) :=
  some (true, ())
def laws_rInts_B1 (N : Nat) (kx : (List Int) → (List Int) → Int → Option (Bool × Unit)) (a1 : List Int) (b1 : List Int) (i : Int) : Option (Bool × Unit) :=
  bif ilt i (len a1) then
    chk (inB i a1.length) <|
    chk (inB i b1.length) <|
    bif ine (gd a1 i.toNat 0) (gd b1 i.toNat 0) then
      some (false, ())
    else
      kx a1 b1 (iadd .i64 i 1)
  else
    laws_rInts_K1 N
def laws_rInts_L1 (N fu_ : Nat) (a1 : List Int) (b1 : List Int) (i : Int) : Option (Bool × Unit) :=
  iterK fu_ (fun kx (v_ : ((List Int) × (List Int) × Int × Unit) × (Unit)) => laws_rInts_B1 N (fun a1 b1 i => kx ((a1, b1, i, ()), ())) v_.1.1 v_.1.2.1 v_.1.2.2.1) ((a1, b1, i, ()), ())
theorem laws_rInts_L1_succ (N fu_ : Nat) (a1 : List Int) (b1 : List Int) (i : Int) : laws_rInts_L1 N (fu_ + 1) a1 b1 i = laws_rInts_B1 N (fun a1 b1 i => laws_rInts_L1 N fu_ a1 b1 i) a1 b1 i := rfl
theorem laws_rInts_L1_run (N : Nat) (a1 : Nat → (List Int)) (b1 : Nat → (List Int)) (i : Nat → Int) (n_ : Nat) {res_ : Option (Bool × Unit)} (hstep_ : ∀ j_, j_ < n_ → ∀ kx_, laws_rInts_B1 N kx_ (a1 j_) (b1 j_) (i j_) = kx_ (a1 (j_ + 1)) (b1 (j_ + 1)) (i (j_ + 1))) (hend_ : ∀ kx_, laws_rInts_B1 N kx_ (a1 n_) (b1 n_) (i n_) = res_) (fu_ : Nat) (hm_ : n_ < fu_) : laws_rInts_L1 N fu_ (a1 0) (b1 0) (i 0) = res_ := by
  exact loop_run (L := fun fu_ (x_ : (List Int) × (List Int) × Int) => laws_rInts_L1 N fu_ x_.1 x_.2.1 x_.2.2) (B := fun kx_ x_ => laws_rInts_B1 N (fun a1 b1 i => kx_ (a1, b1, i)) x_.1 x_.2.1 x_.2.2) (fun _ _ => rfl) (fun j_ => (a1 j_, b1 j_, i j_)) n_ (fun j_ hi_ kx_ => hstep_ j_ hi_ _) (fun kx_ => hend_ _) fu_ hm_
def laws_rInts (N : Nat) (a : List Int) (b : List Int) : Option (Bool × Unit) :=
  bif ine (len a) (len b) then
    some (false, ())
  else
    laws_rInts_L1 N N a b 0
def impl_isTurn (N : Nat) (p : Int × (List Int) × Int × Int × Int × Int) (turn : Int) : Option (Bool × Unit) :=
  (impl_IsProcess N p).bind fun r =>
  bif r.1 then
    (impl_within N turn 0 (isub .i64 p.1 1)).bind fun r1 =>
    some (r1.1, ())
  else
    some (false, ())
def impl_StepLevel (N : Nat) (p : Int × (List Int) × Int × Int × Int × Int) (levels : List (List Int)) (turn : Int) (level : Int) (asked : Int) : Option ((Int × Int × Int × Bool) × Unit) :=
  (impl_isTurn N p turn).bind fun r =>
  bif !r.1 then
    some ((0, (0, (0, false))), ())
  else
    (impl_Process_isPolicy N p levels).bind fun r1 =>
    bif !r1.1 then
      some ((0, (0, (0, false))), ())
    else
      (impl_isLevel N level).bind fun r2 =>
      bif !r2.1 then
        some ((0, (0, (0, false))), ())
      else
        (impl_Process_isAsked N p asked).bind fun r3 =>
        bif !r3.1 then
          some ((0, (0, (0, false))), ())
        else
          chk (inB turn levels.length) <|
          (impl_Process_stepped N p (gd levels turn.toNat (List.replicate 2 0)) level asked).bind fun r4 =>
          some ((r4.1.1, (r4.1.2.1, (r4.1.2.2, true))), ())
def spec_DrawStepLevel (N : Nat) (code : List Int) : Option (((Int × (List Int) × Int × Int × Int × Int) × (List (List Int)) × Int × Int × Int) × Unit) :=
  (pspec_l1Cur_process N (code, (0, 0))).bind fun r =>
  (pspec_l1Cur_policy N r.2 r.1).bind fun r1 =>
  (pspec_l1Cur_pick N r1.2 4).bind fun r2 =>
  (pspec_l1Cur_pick N r2.2 2).bind fun r3 =>
  (pspec_l1Cur_level N r3.2).bind fun r4 =>
  (pspec_l1Cur_pick N r4.2 6).bind fun r5 =>
  (pspec_l1Cur_pick N r5.2 2).bind fun r6 =>
  some ((r.1, (r1.1, (isub .i64 r2.1 r3.1, (r4.1, isub .i64 r5.1 r6.1)))), ())


def impl_TextOfPolicy_K1 (N : Nat) (words1 : List ByteArray) : Option ((ByteArray × Bool) × Unit) :=
  bif ieq (len words1) 0 then
    some (((⟨#[110, 111, 110, 101]⟩ : ByteArray), true), ())
  else
    (strings_Join N words1 (⟨#[32]⟩ : ByteArray)).bind fun r4 =>
    some ((r4.1, true), ())
def impl_TextOfPolicy_B1 (N : Nat) (kx : (List (List Int)) → Int → Int → (List ByteArray) → Option ((ByteArray × Bool) × Unit)) (v19 : List (List Int)) (v20 : Int) (v21 : Int) (words : List ByteArray) : Option ((ByteArray × Bool) × Unit) :=
  bif ilt v21 v20 then
    chk (inB v21 v19.length) <|
    chk (inB 0 2) <|
    (strconv_Itoa N (gd (gd v19 v21.toNat (List.replicate 2 0)) 0 0)).bind fun r2 =>
    chk (sfit r2.1 (⟨#[47]⟩ : ByteArray)) <|
    chk (inB 1 2) <|
    (strconv_Itoa N (gd (gd v19 v21.toNat (List.replicate 2 0)) 1 0)).bind fun r3 =>
    chk (sfit (scat r2.1 (⟨#[47]⟩ : ByteArray)) r3.1) <|
    chk (fitB (words.length + 1) 16) <|
    kx v19 v20 (iadd .i64 v21 1) (words ++ [scat (scat r2.1 (⟨#[47]⟩ : ByteArray)) r3.1])
  else
    impl_TextOfPolicy_K1 N words
def impl_TextOfPolicy_L1 (N fu_ : Nat) (v19 : List (List Int)) (v20 : Int) (v21 : Int) (words : List ByteArray) : Option ((ByteArray × Bool) × Unit) :=
  iterK fu_ (fun kx (v_ : ((List (List Int)) × Int × Int × Unit) × ((List ByteArray) × Unit)) => impl_TextOfPolicy_B1 N (fun v19 v20 v21 words => kx ((v19, v20, v21, ()), (words, ()))) v_.1.1 v_.1.2.1 v_.1.2.2.1 v_.2.1) ((v19, v20, v21, ()), (words, ()))
theorem impl_TextOfPolicy_L1_succ (N fu_ : Nat) (v19 : List (List Int)) (v20 : Int) (v21 : Int) (words : List ByteArray) : impl_TextOfPolicy_L1 N (fu_ + 1) v19 v20 v21 words = impl_TextOfPolicy_B1 N (fun v19 v20 v21 words => impl_TextOfPolicy_L1 N fu_ v19 v20 v21 words) v19 v20 v21 words := rfl
theorem impl_TextOfPolicy_L1_run (N : Nat) (v19 : Nat → (List (List Int))) (v20 : Nat → Int) (v21 : Nat → Int) (words : Nat → (List ByteArray)) (n_ : Nat) {res_ : Option ((ByteArray × Bool) × Unit)} (hstep_ : ∀ j_, j_ < n_ → ∀ kx_, impl_TextOfPolicy_B1 N kx_ (v19 j_) (v20 j_) (v21 j_) (words j_) = kx_ (v19 (j_ + 1)) (v20 (j_ + 1)) (v21 (j_ + 1)) (words (j_ + 1))) (hend_ : ∀ kx_, impl_TextOfPolicy_B1 N kx_ (v19 n_) (v20 n_) (v21 n_) (words n_) = res_) (fu_ : Nat) (hm_ : n_ < fu_) : impl_TextOfPolicy_L1 N fu_ (v19 0) (v20 0) (v21 0) (words 0) = res_ := by
  exact loop_run (L := fun fu_ (x_ : (List (List Int)) × Int × Int × (List ByteArray)) => impl_TextOfPolicy_L1 N fu_ x_.1 x_.2.1 x_.2.2.1 x_.2.2.2) (B := fun kx_ x_ => impl_TextOfPolicy_B1 N (fun v19 v20 v21 words => kx_ (v19, v20, v21, words)) x_.1 x_.2.1 x_.2.2.1 x_.2.2.2) (fun _ _ => rfl) (fun j_ => (v19 j_, v20 j_, v21 j_, words j_)) n_ (fun j_ hi_ kx_ => hstep_ j_ hi_ _) (fun kx_ => hend_ _) fu_ hm_
def impl_TextOfPolicy (N : Nat) (p : Int × (List Int) × Int × Int × Int × Int) (levels : List (List Int)) : Option ((ByteArray × Bool) × Unit) :=
  (impl_IsProcess N p).bind fun r =>
  bif !r.1 then
    some (((⟨#[]⟩ : ByteArray), false), ())
  else
    (impl_Process_isPolicy N p levels).bind fun r1 =>
    bif !r1.1 then
      some (((⟨#[]⟩ : ByteArray), false), ())
    else
      impl_TextOfPolicy_L1 N N levels (len levels) 0 []
def spec_l1Num_F (N : Nat) (kr_ : Int → Option (ByteArray × Unit)) (n : Int) : Option (ByteArray × Unit) :=
  bif ilt n 0 then
    (kr_ (isub .i64 0 n)).bind fun r =>
    chk (sfit (⟨#[45]⟩ : ByteArray) r.1) <|
    some (scat (⟨#[45]⟩ : ByteArray) r.1, ())
  else
    bif ilt n 10 then
      chk (cutB n (iadd .i64 n 1) (⟨#[48, 49, 50, 51, 52, 53, 54, 55, 56, 57]⟩ : ByteArray).size) <|
      some (scut (⟨#[48, 49, 50, 51, 52, 53, 54, 55, 56, 57]⟩ : ByteArray) n (iadd .i64 n 1), ())
    else
      chk (ine 10 0) <|
      (kr_ (iquo .i64 n 10)).bind fun r1 =>
      chk (ine 10 0) <|
      chk (ine 10 0) <|
      chk (cutB (irem n 10) (iadd .i64 (irem n 10) 1) (⟨#[48, 49, 50, 51, 52, 53, 54, 55, 56, 57]⟩ : ByteArray).size) <|
      chk (sfit r1.1 (scut (⟨#[48, 49, 50, 51, 52, 53, 54, 55, 56, 57]⟩ : ByteArray) (irem n 10) (iadd .i64 (irem n 10) 1))) <|
      some (scat r1.1 (scut (⟨#[48, 49, 50, 51, 52, 53, 54, 55, 56, 57]⟩ : ByteArray) (irem n 10) (iadd .i64 (irem n 10) 1)), ())
def spec_l1Num_R (N : Nat) : Nat → Int → Option (ByteArray × Unit)
  | 0 => fun _ => none
  | k_ + 1 => spec_l1Num_F N (spec_l1Num_R N k_)
theorem spec_l1Num_R_succ (N k_ : Nat) (n : Int) : spec_l1Num_R N (k_ + 1) n = spec_l1Num_F N (spec_l1Num_R N k_) n := rfl
def spec_l1Num (N : Nat) (n : Int) : Option (ByteArray × Unit) := spec_l1Num_R N N n
def spec_TextOfPolicy_K1 (N : Nat) (kx : (List (List Int)) → ByteArray → Int → Option ((ByteArray × Bool) × Unit)) (levels2 : List (List Int)) (s1 : ByteArray) (t1 : Int) : Option ((ByteArray × Bool) × Unit) :=
  chk (inB t1 levels2.length) <|
  chk (inB 0 2) <|
  (spec_l1Num N (gd (gd levels2 t1.toNat (List.replicate 2 0)) 0 0)).bind fun r2 =>
  chk (sfit s1 r2.1) <|
  chk (sfit (scat s1 r2.1) (⟨#[47]⟩ : ByteArray)) <|
  chk (inB t1 levels2.length) <|
  chk (inB 1 2) <|
  (spec_l1Num N (gd (gd levels2 t1.toNat (List.replicate 2 0)) 1 0)).bind fun r3 =>
  chk (sfit (scat (scat s1 r2.1) (⟨#[47]⟩ : ByteArray)) r3.1) <|
  kx levels2 (scat (scat (scat s1 r2.1) (⟨#[47]⟩ : ByteArray)) r3.1) (iadd .i64 t1 1)
def spec_TextOfPolicy_K2 (N : Nat) (levels3 : List (List Int)) (s2 : ByteArray) : Option ((ByteArray × Bool) × Unit) :=
  bif ieq (len levels3) 0 then
    some (((⟨#[110, 111, 110, 101]⟩ : ByteArray), true), ())
  else
    some ((s2, true), ())
def spec_TextOfPolicy_B1 (N : Nat) (kx : (List (List Int)) → ByteArray → Int → Option ((ByteArray × Bool) × Unit)) (levels1 : List (List Int)) (s : ByteArray) (t : Int) : Option ((ByteArray × Bool) × Unit) :=
  bif ilt t (len levels1) then
    bif ilt 0 t then
      chk (sfit s (⟨#[32]⟩ : ByteArray)) <|
      spec_TextOfPolicy_K1 N kx levels1 (scat s (⟨#[32]⟩ : ByteArray)) t
    else
      spec_TextOfPolicy_K1 N kx levels1 s t
  else
    spec_TextOfPolicy_K2 N levels1 s
def spec_TextOfPolicy_L1 (N fu_ : Nat) (levels1 : List (List Int)) (s : ByteArray) (t : Int) : Option ((ByteArray × Bool) × Unit) :=
  iterK fu_ (fun kx (v_ : ((List (List Int)) × ByteArray × Int × Unit) × (Unit)) => spec_TextOfPolicy_B1 N (fun levels1 s t => kx ((levels1, s, t, ()), ())) v_.1.1 v_.1.2.1 v_.1.2.2.1) ((levels1, s, t, ()), ())
theorem spec_TextOfPolicy_L1_succ (N fu_ : Nat) (levels1 : List (List Int)) (s : ByteArray) (t : Int) : spec_TextOfPolicy_L1 N (fu_ + 1) levels1 s t = spec_TextOfPolicy_B1 N (fun levels1 s t => spec_TextOfPolicy_L1 N fu_ levels1 s t) levels1 s t := rfl
theorem spec_TextOfPolicy_L1_run (N : Nat) (levels1 : Nat → (List (List Int))) (s : Nat → ByteArray) (t : Nat → Int) (n_ : Nat) {res_ : Option ((ByteArray × Bool) × Unit)} (hstep_ : ∀ j_, j_ < n_ → ∀ kx_, spec_TextOfPolicy_B1 N kx_ (levels1 j_) (s j_) (t j_) = kx_ (levels1 (j_ + 1)) (s (j_ + 1)) (t (j_ + 1))) (hend_ : ∀ kx_, spec_TextOfPolicy_B1 N kx_ (levels1 n_) (s n_) (t n_) = res_) (fu_ : Nat) (hm_ : n_ < fu_) : spec_TextOfPolicy_L1 N fu_ (levels1 0) (s 0) (t 0) = res_ := by
  exact loop_run (L := fun fu_ (x_ : (List (List Int)) × ByteArray × Int) => spec_TextOfPolicy_L1 N fu_ x_.1 x_.2.1 x_.2.2) (B := fun kx_ x_ => spec_TextOfPolicy_B1 N (fun levels1 s t => kx_ (levels1, s, t)) x_.1 x_.2.1 x_.2.2) (fun _ _ => rfl) (fun j_ => (levels1 j_, s j_, t j_)) n_ (fun j_ hi_ kx_ => hstep_ j_ hi_ _) (fun kx_ => hend_ _) fu_ hm_
def spec_TextOfPolicy (N : Nat) (p : Int × (List Int) × Int × Int × Int × Int) (levels : List (List Int)) : Option ((ByteArray × Bool) × Unit) :=
  (spec_l6Good N p).bind fun r =>
  bif !r.1 then
    some (((⟨#[]⟩ : ByteArray), false), ())
  else
    (spec_l6Policy N p levels).bind fun r1 =>
    bif !r1.1 then
      some (((⟨#[]⟩ : ByteArray), false), ())
    else
      spec_TextOfPolicy_L1 N N levels (⟨#[]⟩ : ByteArray) 0
def laws_FnTraces_K1 (N : Nat) (code3 : List Int) : Option (Bool × Unit) :=
  (spec_DrawStepLevel N code3).bind fun r6 =>
  (impl_StepLevel N r6.1.1 r6.1.2.1 r6.1.2.2.1 r6.1.2.2.2.1 r6.1.2.2.2.2).bind fun r7 =>
  (spec_StepLevel N r6.1.1 r6.1.2.1 r6.1.2.2.1 r6.1.2.2.2.1 r6.1.2.2.2.2).bind fun r8 =>
  bif ine r7.1.1 r8.1.1 then
    some (false, ())
  else
    bif ine r7.1.2.1 r8.1.2.1 then
      some (false, ())
    else
      bif ine r7.1.2.2.1 r8.1.2.2.1 then
        some (false, ())
      else
        bif !(Go.Rx.beq r7.1.2.2.2 r8.1.2.2.2) then
          some (false, ())
        else
          (impl_TextOfPolicy N r6.1.1 r6.1.2.1).bind fun r9 =>
          (spec_TextOfPolicy N r6.1.1 r6.1.2.1).bind fun r10 =>
          bif Go.Rx.seq r9.1.1 r10.1.1 then
            some (Go.Rx.beq r9.1.2 r10.1.2, ())
          else
            some (false, ())
def laws_FnTraces_K2 (N : Nat) (code2 : List Int) (cost1 : Int) (sum1 : Int) : Option (Bool × Unit) :=
  bif ine sum1 cost1 then
    some (false, ())
  else
    laws_FnTraces_K1 N code2
def laws_FnTraces_B1 (N : Nat) (kx : (List Int) → Int → Int → Int → Int → (Int × (List Int) × Int × Int × Int × Int) → ((Int × (List Int) × Int × Int × Int × Int) × (List (List Int)) × Int × (List Int)) → ((List Int) × Int × Bool) → Option (Bool × Unit)) (code1 : List Int) (cost : Int) (now : Int) (sum : Int) (t : Int) (p : Int × (List Int) × Int × Int × Int × Int) (b41 : (Int × (List Int) × Int × Int × Int × Int) × (List (List Int)) × Int × (List Int)) (b51 : (List Int) × Int × Bool) : Option (Bool × Unit) :=
  bif ilt t (len b41.2.2.2) then
    chk (inB t b41.2.2.2.length) <|
    (impl_StepLevel N p b41.2.1 t now (gd b41.2.2.2 t.toNat 0)).bind fun r5 =>
    bif !r5.1.2.2.2 then
      some (false, ())
    else
      chk (inB t b51.1.length) <|
      bif ine r5.1.2.1 (gd b51.1 t.toNat 0) then
        some (false, ())
      else
        chk (inB t b41.2.2.2.length) <|
        bif ine (isub .i64 r5.1.1 (gd b41.2.2.2 t.toNat 0)) r5.1.2.1 then
          some (false, ())
        else
          bif ilt r5.1.1 now then
            some (false, ())
          else
            kx code1 cost r5.1.2.1 (iadd .i64 sum r5.1.2.2.1) (iadd .i64 t 1) p b41 b51
  else
    laws_FnTraces_K2 N code1 cost sum
def laws_FnTraces_L1 (N fu_ : Nat) (code1 : List Int) (cost : Int) (now : Int) (sum : Int) (t : Int) (p : Int × (List Int) × Int × Int × Int × Int) (b41 : (Int × (List Int) × Int × Int × Int × Int) × (List (List Int)) × Int × (List Int)) (b51 : (List Int) × Int × Bool) : Option (Bool × Unit) :=
  iterK fu_ (fun kx (v_ : ((List Int) × Int × Int × Int × Int × Unit) × ((Int × (List Int) × Int × Int × Int × Int) × ((Int × (List Int) × Int × Int × Int × Int) × (List (List Int)) × Int × (List Int)) × ((List Int) × Int × Bool) × Unit)) => laws_FnTraces_B1 N (fun code1 cost now sum t p b41 b51 => kx ((code1, cost, now, sum, t, ()), (p, b41, b51, ()))) v_.1.1 v_.1.2.1 v_.1.2.2.1 v_.1.2.2.2.1 v_.1.2.2.2.2.1 v_.2.1 v_.2.2.1 v_.2.2.2.1) ((code1, cost, now, sum, t, ()), (p, b41, b51, ()))
theorem laws_FnTraces_L1_succ (N fu_ : Nat) (code1 : List Int) (cost : Int) (now : Int) (sum : Int) (t : Int) (p : Int × (List Int) × Int × Int × Int × Int) (b41 : (Int × (List Int) × Int × Int × Int × Int) × (List (List Int)) × Int × (List Int)) (b51 : (List Int) × Int × Bool) : laws_FnTraces_L1 N (fu_ + 1) code1 cost now sum t p b41 b51 = laws_FnTraces_B1 N (fun code1 cost now sum t p b41 b51 => laws_FnTraces_L1 N fu_ code1 cost now sum t p b41 b51) code1 cost now sum t p b41 b51 := rfl
theorem laws_FnTraces_L1_run (N : Nat) (code1 : Nat → (List Int)) (cost : Nat → Int) (now : Nat → Int) (sum : Nat → Int) (t : Nat → Int) (p : Nat → (Int × (List Int) × Int × Int × Int × Int)) (b41 : Nat → ((Int × (List Int) × Int × Int × Int × Int) × (List (List Int)) × Int × (List Int))) (b51 : Nat → ((List Int) × Int × Bool)) (n_ : Nat) {res_ : Option (Bool × Unit)} (hstep_ : ∀ j_, j_ < n_ → ∀ kx_, laws_FnTraces_B1 N kx_ (code1 j_) (cost j_) (now j_) (sum j_) (t j_) (p j_) (b41 j_) (b51 j_) = kx_ (code1 (j_ + 1)) (cost (j_ + 1)) (now (j_ + 1)) (sum (j_ + 1)) (t (j_ + 1)) (p (j_ + 1)) (b41 (j_ + 1)) (b51 (j_ + 1))) (hend_ : ∀ kx_, laws_FnTraces_B1 N kx_ (code1 n_) (cost n_) (now n_) (sum n_) (t n_) (p n_) (b41 n_) (b51 n_) = res_) (fu_ : Nat) (hm_ : n_ < fu_) : laws_FnTraces_L1 N fu_ (code1 0) (cost 0) (now 0) (sum 0) (t 0) (p 0) (b41 0) (b51 0) = res_ := by
  exact loop_run (L := fun fu_ (x_ : (List Int) × Int × Int × Int × Int × (Int × (List Int) × Int × Int × Int × Int) × ((Int × (List Int) × Int × Int × Int × Int) × (List (List Int)) × Int × (List Int)) × ((List Int) × Int × Bool)) => laws_FnTraces_L1 N fu_ x_.1 x_.2.1 x_.2.2.1 x_.2.2.2.1 x_.2.2.2.2.1 x_.2.2.2.2.2.1 x_.2.2.2.2.2.2.1 x_.2.2.2.2.2.2.2) (B := fun kx_ x_ => laws_FnTraces_B1 N (fun code1 cost now sum t p b41 b51 => kx_ (code1, cost, now, sum, t, p, b41, b51)) x_.1 x_.2.1 x_.2.2.1 x_.2.2.2.1 x_.2.2.2.2.1 x_.2.2.2.2.2.1 x_.2.2.2.2.2.2.1 x_.2.2.2.2.2.2.2) (fun _ _ => rfl) (fun j_ => (code1 j_, cost j_, now j_, sum j_, t j_, p j_, b41 j_, b51 j_)) n_ (fun j_ hi_ kx_ => hstep_ j_ hi_ _) (fun kx_ => hend_ _) fu_ hm_
def laws_FnTraces (N : Nat) (code : List Int) : Option (Bool × Unit) :=
  (laws_rBig N code).bind fun r =>
  bif r.1 then
    some (true, ())
  else
    (spec_DrawTraceLevels N code).bind fun r1 =>
    (impl_TraceLevels N r1.1.1 r1.1.2.1 r1.1.2.2.1 r1.1.2.2.2).bind fun r2 =>
    (spec_TraceLevels N r1.1.1 r1.1.2.1 r1.1.2.2.1 r1.1.2.2.2).bind fun r3 =>
    bif !(Go.Rx.beq r2.1.2.2 r3.1.2.2) then
      some (false, ())
    else
      bif ine r2.1.2.1 r3.1.2.1 then
        some (false, ())
      else
        (laws_rInts N r2.1.1 r3.1.1).bind fun r4 =>
        bif !r4.1 then
          some (false, ())
        else
          bif r2.1.2.2 then
            laws_FnTraces_L1 N N code r2.1.2.1 r1.1.2.2.1 0 0 r1.1.1 (r1.1.1, r1.1.2) r2.1
          else
            laws_FnTraces_K1 N code
end Px
end Go.Rx
