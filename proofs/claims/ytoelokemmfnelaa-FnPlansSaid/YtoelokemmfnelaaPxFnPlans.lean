/- This text defines the plain functions that the Go functions behind FnPlans compute; no condition. -/
import Derived.Test.YtoelokemmfnelaaRxc
set_option linter.unusedVariables false
set_option linter.unusedSimpArgs false
namespace Go.Rx
namespace Px
def laws_rBig (N : Nat) (code : List Int) : Option (Bool × Unit) :=
  some (ilt 65536 (len code), ())
def pspec_l1Cur_next_K1 (N : Nat) (b : Int) (c1 : (List Int) × Int × Int) : Option (Int × ((List Int) × Int × Int)) :=
  bif ile (iadd .i64 c1.2.1 1) (len c1.1) then
    some (b, (c1.1, (iadd .i64 c1.2.1 1, iadd .u64 (iadd .u64 (imul .u64 c1.2.2 6364136223846793005) (icv .u64 b)) 462197)))
  else
    chk (ile 0 40) <|
    some (icv .i64 (iand .u64 (ishr .u64 (iadd .u64 (iadd .u64 (imul .u64 c1.2.2 6364136223846793005) (icv .u64 b)) 462197) 40) 255), (c1.1, (iadd .i64 c1.2.1 1, iadd .u64 (iadd .u64 (imul .u64 c1.2.2 6364136223846793005) (icv .u64 b)) 462197)))
def pspec_l1Cur_next (N : Nat) (c : (List Int) × Int × Int) : Option (Int × ((List Int) × Int × Int)) :=
  bif ilt c.2.1 (len c.1) then
    chk (inB c.2.1 c.1.length) <|
    pspec_l1Cur_next_K1 N (icv .i64 (gd c.1 c.2.1.toNat 0)) c
  else
    pspec_l1Cur_next_K1 N 0 c
def pspec_l1Cur_pick (N : Nat) (c : (List Int) × Int × Int) (n : Int) : Option (Int × ((List Int) × Int × Int)) :=
  bif ile n 1 then
    some (0, c)
  else
    (pspec_l1Cur_next N c).bind fun r =>
    bif ilt 200 n then
      (pspec_l1Cur_next N r.2).bind fun r1 =>
      chk (ine n 0) <|
      some (irem (iadd .i64 (imul .i64 r.1 256) r1.1) n, r1.2)
    else
      chk (ine n 0) <|
      some (irem r.1 n, r.2)
def pspec_l1Cur_among (N : Nat) (c : (List Int) × Int × Int) (list : List Int) : Option (Int × ((List Int) × Int × Int)) :=
  (pspec_l1Cur_pick N c (len list)).bind fun r =>
  chk (inB r.1 list.length) <|
  some (gd list r.1.toNat 0, r.2)
def spec_l1Least (N : Nat) (a : Int) (b : Int) : Option (Int × Unit) :=
  bif ilt a b then
    some (a, ())
  else
    some (b, ())
def pspec_l1Cur_one (N : Nat) (c : (List Int) × Int × Int) (n : Int) : Option (Bool × ((List Int) × Int × Int)) :=
  (pspec_l1Cur_pick N c n).bind fun r =>
  some (ieq r.1 0, r.2)
def pspec_l1Cur_someLots_K1 (N : Nat) (kx : Int → Bool → Int → Int → Int → Int → ((List Int) × Int × Int) → ((List Int) × (List Int) × (List Int) × (List Int)) → ((List Int) × (List Int) × (List Int) × (List Int)) → Option (((List Int) × (List Int) × (List Int) × (List Int)) × ((List Int) × Int × Int))) (v51 : Int) (v71 : Bool) (v81 : Int) (v91 : Int) (v101 : Int) (v111 : Int) (app2 : (List Int) × Int × Int) (v41 : (List Int) × (List Int) × (List Int) × (List Int)) (v61 : (List Int) × (List Int) × (List Int) × (List Int)) : Option (((List Int) × (List Int) × (List Int) × (List Int)) × ((List Int) × Int × Int)) :=
  (pspec_l1Cur_among N app2 [0, 1, 2, 3, 5, 8]).bind fun r9 =>
  chk (fitB (v61.1.length + 1) 8) <|
  chk (fitB (v61.2.1.length + 1) 8) <|
  chk (fitB (v61.2.2.1.length + 1) 8) <|
  chk (fitB (v61.2.2.2.length + 1) 8) <|
  kx v51 v71 v81 v91 v101 (iadd .i64 v111 1) r9.2 v41 (v61.1 ++ [r9.1], (v61.2.1 ++ [v81], (v61.2.2.1 ++ [v91], v61.2.2.2 ++ [v101])))
def pspec_l1Cur_someLots_K2 (N : Nat) (app5 : (List Int) × Int × Int) (v44 : (List Int) × (List Int) × (List Int) × (List Int)) (v64 : (List Int) × (List Int) × (List Int) × (List Int)) : Option (((List Int) × (List Int) × (List Int) × (List Int)) × ((List Int) × Int × Int)) :=
  some (v64, app5)
def pspec_l1Cur_someLots_B1 (N : Nat) (kx1 : ((List Int) × Int × Int) → ((List Int) × (List Int) × (List Int) × (List Int)) → ((List Int) × (List Int) × (List Int) × (List Int)) → Option (((List Int) × (List Int) × (List Int) × (List Int)) × ((List Int) × Int × Int))) (app4 : (List Int) × Int × Int) (v43 : (List Int) × (List Int) × (List Int) × (List Int)) (v63 : (List Int) × (List Int) × (List Int) × (List Int)) : Option (((List Int) × (List Int) × (List Int) × (List Int)) × ((List Int) × Int × Int)) :=
  bif ilt (len v63.1) 9 then
    chk (fitB (v63.1.length + 1) 8) <|
    chk (fitB (v63.2.1.length + 1) 8) <|
    chk (fitB (v63.2.2.1.length + 1) 8) <|
    chk (fitB (v63.2.2.2.length + 1) 8) <|
    kx1 app4 v43 (v63.1 ++ [1], (v63.2.1 ++ [1], (v63.2.2.1 ++ [1], v63.2.2.2 ++ [1])))
  else
    pspec_l1Cur_someLots_K2 N app4 v43 v63
def pspec_l1Cur_someLots_L1 (N fu_ : Nat) (app4 : (List Int) × Int × Int) (v43 : (List Int) × (List Int) × (List Int) × (List Int)) (v63 : (List Int) × (List Int) × (List Int) × (List Int)) : Option (((List Int) × (List Int) × (List Int) × (List Int)) × ((List Int) × Int × Int)) :=
  iterK fu_ (fun kx1 (v_ : (Unit) × (((List Int) × Int × Int) × ((List Int) × (List Int) × (List Int) × (List Int)) × ((List Int) × (List Int) × (List Int) × (List Int)) × Unit)) => pspec_l1Cur_someLots_B1 N (fun app4 v43 v63 => kx1 ((), (app4, v43, v63, ()))) v_.2.1 v_.2.2.1 v_.2.2.2.1) ((), (app4, v43, v63, ()))
theorem pspec_l1Cur_someLots_L1_succ (N fu_ : Nat) (app4 : (List Int) × Int × Int) (v43 : (List Int) × (List Int) × (List Int) × (List Int)) (v63 : (List Int) × (List Int) × (List Int) × (List Int)) : pspec_l1Cur_someLots_L1 N (fu_ + 1) app4 v43 v63 = pspec_l1Cur_someLots_B1 N (fun app4 v43 v63 => pspec_l1Cur_someLots_L1 N fu_ app4 v43 v63) app4 v43 v63 := rfl
theorem pspec_l1Cur_someLots_L1_run (N : Nat) (app4 : Nat → ((List Int) × Int × Int)) (v43 : Nat → ((List Int) × (List Int) × (List Int) × (List Int))) (v63 : Nat → ((List Int) × (List Int) × (List Int) × (List Int))) (n_ : Nat) {res_ : Option (((List Int) × (List Int) × (List Int) × (List Int)) × ((List Int) × Int × Int))} (hstep_ : ∀ j_, j_ < n_ → ∀ kx_, pspec_l1Cur_someLots_B1 N kx_ (app4 j_) (v43 j_) (v63 j_) = kx_ (app4 (j_ + 1)) (v43 (j_ + 1)) (v63 (j_ + 1))) (hend_ : ∀ kx_, pspec_l1Cur_someLots_B1 N kx_ (app4 n_) (v43 n_) (v63 n_) = res_) (fu_ : Nat) (hm_ : n_ < fu_) : pspec_l1Cur_someLots_L1 N fu_ (app4 0) (v43 0) (v63 0) = res_ := by
  exact loop_run (L := fun fu_ (x_ : ((List Int) × Int × Int) × ((List Int) × (List Int) × (List Int) × (List Int)) × ((List Int) × (List Int) × (List Int) × (List Int))) => pspec_l1Cur_someLots_L1 N fu_ x_.1 x_.2.1 x_.2.2) (B := fun kx_ x_ => pspec_l1Cur_someLots_B1 N (fun app4 v43 v63 => kx_ (app4, v43, v63)) x_.1 x_.2.1 x_.2.2) (fun _ _ => rfl) (fun j_ => (app4 j_, v43 j_, v63 j_)) n_ (fun j_ hi_ kx_ => hstep_ j_ hi_ _) (fun kx_ => hend_ _) fu_ hm_
def pspec_l1Cur_someLots_K3 (N : Nat) (v52 : Int) (app3 : (List Int) × Int × Int) (v42 : (List Int) × (List Int) × (List Int) × (List Int)) (v62 : (List Int) × (List Int) × (List Int) × (List Int)) : Option (((List Int) × (List Int) × (List Int) × (List Int)) × ((List Int) × Int × Int)) :=
  bif ilt 0 v52 then
    (pspec_l1Cur_pick N app3 v52).bind fun r10 =>
    (pspec_l1Cur_pick N r10.2 60).bind fun r11 =>
    bif ieq r11.1 0 then
      (pspec_l1Cur_among N r11.2 [(-1), 20, 21, 4611686018427387904]).bind fun r12 =>
      chk (inB r10.1 v62.1.length) <|
      some ((List.set v62.1 r10.1.toNat r12.1, v62.2), r12.2)
    else
      bif ieq r11.1 1 then
        (pspec_l1Cur_among N r11.2 [(-1), 99, 100]).bind fun r13 =>
        chk (inB r10.1 v62.2.1.length) <|
        some ((v62.1, (List.set v62.2.1 r10.1.toNat r13.1, v62.2.2)), r13.2)
      else
        bif ieq r11.1 2 then
          (pspec_l1Cur_among N r11.2 [(-1), 9, 10]).bind fun r14 =>
          chk (inB r10.1 v62.2.2.1.length) <|
          some ((v62.1, (v62.2.1, (List.set v62.2.2.1 r10.1.toNat r14.1, v62.2.2.2))), r14.2)
        else
          bif ieq r11.1 3 then
            (pspec_l1Cur_among N r11.2 [(-1), 9, 10]).bind fun r15 =>
            chk (inB r10.1 v62.2.2.2.length) <|
            some ((v62.1, (v62.2.1, (v62.2.2.1, List.set v62.2.2.2 r10.1.toNat r15.1))), r15.2)
          else
            bif ieq r11.1 4 then
              chk (fitB (v62.2.2.1.length + 1) 8) <|
              some ((v62.1, (v62.2.1, (v62.2.2.1 ++ [1], v62.2.2.2))), r11.2)
            else
              bif ieq r11.1 5 then
                pspec_l1Cur_someLots_L1 N N r11.2 v42 v62
              else
                some (v62, r11.2)
  else
    some (v62, app3)
def pspec_l1Cur_someLots_B2 (N : Nat) (kx : Int → Bool → Int → Int → Int → Int → ((List Int) × Int × Int) → ((List Int) × (List Int) × (List Int) × (List Int)) → ((List Int) × (List Int) × (List Int) × (List Int)) → Option (((List Int) × (List Int) × (List Int) × (List Int)) × ((List Int) × Int × Int))) (v5 : Int) (v7 : Bool) (v8 : Int) (v9 : Int) (v10 : Int) (v11 : Int) (app1 : (List Int) × Int × Int) (v4 : (List Int) × (List Int) × (List Int) × (List Int)) (v6 : (List Int) × (List Int) × (List Int) × (List Int)) : Option (((List Int) × (List Int) × (List Int) × (List Int)) × ((List Int) × Int × Int)) :=
  bif ilt v11 v5 then
    bif !v7 then
      (pspec_l1Cur_among N app1 [0, 2, 5, 9, 14, 30]).bind fun r6 =>
      (pspec_l1Cur_pick N r6.2 5).bind fun r7 =>
      (pspec_l1Cur_pick N r7.2 4).bind fun r8 =>
      pspec_l1Cur_someLots_K1 N kx v5 v7 r6.1 r7.1 r8.1 v11 r8.2 v4 v6
    else
      pspec_l1Cur_someLots_K1 N kx v5 v7 v8 v9 v10 v11 app1 v4 v6
  else
    pspec_l1Cur_someLots_K3 N v5 app1 v4 v6
def pspec_l1Cur_someLots_L2 (N fu_ : Nat) (v5 : Int) (v7 : Bool) (v8 : Int) (v9 : Int) (v10 : Int) (v11 : Int) (app1 : (List Int) × Int × Int) (v4 : (List Int) × (List Int) × (List Int) × (List Int)) (v6 : (List Int) × (List Int) × (List Int) × (List Int)) : Option (((List Int) × (List Int) × (List Int) × (List Int)) × ((List Int) × Int × Int)) :=
  iterK fu_ (fun kx (v_ : (Int × Bool × Int × Int × Int × Int × Unit) × (((List Int) × Int × Int) × ((List Int) × (List Int) × (List Int) × (List Int)) × ((List Int) × (List Int) × (List Int) × (List Int)) × Unit)) => pspec_l1Cur_someLots_B2 N (fun v5 v7 v8 v9 v10 v11 app1 v4 v6 => kx ((v5, v7, v8, v9, v10, v11, ()), (app1, v4, v6, ()))) v_.1.1 v_.1.2.1 v_.1.2.2.1 v_.1.2.2.2.1 v_.1.2.2.2.2.1 v_.1.2.2.2.2.2.1 v_.2.1 v_.2.2.1 v_.2.2.2.1) ((v5, v7, v8, v9, v10, v11, ()), (app1, v4, v6, ()))
theorem pspec_l1Cur_someLots_L2_succ (N fu_ : Nat) (v5 : Int) (v7 : Bool) (v8 : Int) (v9 : Int) (v10 : Int) (v11 : Int) (app1 : (List Int) × Int × Int) (v4 : (List Int) × (List Int) × (List Int) × (List Int)) (v6 : (List Int) × (List Int) × (List Int) × (List Int)) : pspec_l1Cur_someLots_L2 N (fu_ + 1) v5 v7 v8 v9 v10 v11 app1 v4 v6 = pspec_l1Cur_someLots_B2 N (fun v5 v7 v8 v9 v10 v11 app1 v4 v6 => pspec_l1Cur_someLots_L2 N fu_ v5 v7 v8 v9 v10 v11 app1 v4 v6) v5 v7 v8 v9 v10 v11 app1 v4 v6 := rfl
theorem pspec_l1Cur_someLots_L2_run (N : Nat) (v5 : Nat → Int) (v7 : Nat → Bool) (v8 : Nat → Int) (v9 : Nat → Int) (v10 : Nat → Int) (v11 : Nat → Int) (app1 : Nat → ((List Int) × Int × Int)) (v4 : Nat → ((List Int) × (List Int) × (List Int) × (List Int))) (v6 : Nat → ((List Int) × (List Int) × (List Int) × (List Int))) (n_ : Nat) {res_ : Option (((List Int) × (List Int) × (List Int) × (List Int)) × ((List Int) × Int × Int))} (hstep_ : ∀ j_, j_ < n_ → ∀ kx_, pspec_l1Cur_someLots_B2 N kx_ (v5 j_) (v7 j_) (v8 j_) (v9 j_) (v10 j_) (v11 j_) (app1 j_) (v4 j_) (v6 j_) = kx_ (v5 (j_ + 1)) (v7 (j_ + 1)) (v8 (j_ + 1)) (v9 (j_ + 1)) (v10 (j_ + 1)) (v11 (j_ + 1)) (app1 (j_ + 1)) (v4 (j_ + 1)) (v6 (j_ + 1))) (hend_ : ∀ kx_, pspec_l1Cur_someLots_B2 N kx_ (v5 n_) (v7 n_) (v8 n_) (v9 n_) (v10 n_) (v11 n_) (app1 n_) (v4 n_) (v6 n_) = res_) (fu_ : Nat) (hm_ : n_ < fu_) : pspec_l1Cur_someLots_L2 N fu_ (v5 0) (v7 0) (v8 0) (v9 0) (v10 0) (v11 0) (app1 0) (v4 0) (v6 0) = res_ := by
  exact loop_run (L := fun fu_ (x_ : Int × Bool × Int × Int × Int × Int × ((List Int) × Int × Int) × ((List Int) × (List Int) × (List Int) × (List Int)) × ((List Int) × (List Int) × (List Int) × (List Int))) => pspec_l1Cur_someLots_L2 N fu_ x_.1 x_.2.1 x_.2.2.1 x_.2.2.2.1 x_.2.2.2.2.1 x_.2.2.2.2.2.1 x_.2.2.2.2.2.2.1 x_.2.2.2.2.2.2.2.1 x_.2.2.2.2.2.2.2.2) (B := fun kx_ x_ => pspec_l1Cur_someLots_B2 N (fun v5 v7 v8 v9 v10 v11 app1 v4 v6 => kx_ (v5, v7, v8, v9, v10, v11, app1, v4, v6)) x_.1 x_.2.1 x_.2.2.1 x_.2.2.2.1 x_.2.2.2.2.1 x_.2.2.2.2.2.1 x_.2.2.2.2.2.2.1 x_.2.2.2.2.2.2.2.1 x_.2.2.2.2.2.2.2.2) (fun _ _ => rfl) (fun j_ => (v5 j_, v7 j_, v8 j_, v9 j_, v10 j_, v11 j_, app1 j_, v4 j_, v6 j_)) n_ (fun j_ hi_ kx_ => hstep_ j_ hi_ _) (fun kx_ => hend_ _) fu_ hm_
def pspec_l1Cur_someLots (N : Nat) (app : (List Int) × Int × Int) (v1 : Int) : Option (((List Int) × (List Int) × (List Int) × (List Int)) × ((List Int) × Int × Int)) :=
  (pspec_l1Cur_among N app [4, 5, 3, 6, 8, 2, 1, 0]).bind fun r =>
  (spec_l1Least N r.1 v1).bind fun r1 =>
  (pspec_l1Cur_one N r.2 2).bind fun r2 =>
  (pspec_l1Cur_among N r2.2 [0, 3, 5, 8, 12, 20]).bind fun r3 =>
  (pspec_l1Cur_pick N r3.2 3).bind fun r4 =>
  (pspec_l1Cur_pick N r4.2 2).bind fun r5 =>
  pspec_l1Cur_someLots_L2 N N r1.1 r2.1 r3.1 r4.1 (iadd .i64 1 r5.1) 0 r5.2 ([], ([], ([], []))) ([], ([], ([], [])))
def pspec_l1Cur_lots (N : Nat) (c : (List Int) × Int × Int) : Option (((List Int) × (List Int) × (List Int) × (List Int)) × ((List Int) × Int × Int)) :=
  (pspec_l1Cur_someLots N c 8).bind fun r =>
  some (r.1, r.2)
def spec_l1In (N : Nat) (x : Int) (a : Int) (b : Int) : Option (Bool × Unit) :=
  bif ile a x then
    some (ile x b, ())
  else
    some (false, ())
def spec_l2Row_K1 (N : Nat) (row2 : List Int) (n2 : Int) : Option (Bool × Unit) :=
  some (ieq (len row2) n2, ())
def spec_l2Row_B1 (N : Nat) (kx : (List Int) → Int → Int → Int → Option (Bool × Unit)) (row1 : List Int) (n1 : Int) (most1 : Int) (i : Int) : Option (Bool × Unit) :=
  bif ilt i (len row1) then
    chk (inB i row1.length) <|
    (spec_l1In N (gd row1 i.toNat 0) 0 most1).bind fun r =>
    bif !r.1 then
      some (false, ())
    else
      kx row1 n1 most1 (iadd .i64 i 1)
  else
    spec_l2Row_K1 N row1 n1
def spec_l2Row_L1 (N fu_ : Nat) (row1 : List Int) (n1 : Int) (most1 : Int) (i : Int) : Option (Bool × Unit) :=
  iterK fu_ (fun kx (v_ : ((List Int) × Int × Int × Int × Unit) × (Unit)) => spec_l2Row_B1 N (fun row1 n1 most1 i => kx ((row1, n1, most1, i, ()), ())) v_.1.1 v_.1.2.1 v_.1.2.2.1 v_.1.2.2.2.1) ((row1, n1, most1, i, ()), ())
theorem spec_l2Row_L1_succ (N fu_ : Nat) (row1 : List Int) (n1 : Int) (most1 : Int) (i : Int) : spec_l2Row_L1 N (fu_ + 1) row1 n1 most1 i = spec_l2Row_B1 N (fun row1 n1 most1 i => spec_l2Row_L1 N fu_ row1 n1 most1 i) row1 n1 most1 i := rfl
theorem spec_l2Row_L1_run (N : Nat) (row1 : Nat → (List Int)) (n1 : Nat → Int) (most1 : Nat → Int) (i : Nat → Int) (n_ : Nat) {res_ : Option (Bool × Unit)} (hstep_ : ∀ j_, j_ < n_ → ∀ kx_, spec_l2Row_B1 N kx_ (row1 j_) (n1 j_) (most1 j_) (i j_) = kx_ (row1 (j_ + 1)) (n1 (j_ + 1)) (most1 (j_ + 1)) (i (j_ + 1))) (hend_ : ∀ kx_, spec_l2Row_B1 N kx_ (row1 n_) (n1 n_) (most1 n_) (i n_) = res_) (fu_ : Nat) (hm_ : n_ < fu_) : spec_l2Row_L1 N fu_ (row1 0) (n1 0) (most1 0) (i 0) = res_ := by
  exact loop_run (L := fun fu_ (x_ : (List Int) × Int × Int × Int) => spec_l2Row_L1 N fu_ x_.1 x_.2.1 x_.2.2.1 x_.2.2.2) (B := fun kx_ x_ => spec_l2Row_B1 N (fun row1 n1 most1 i => kx_ (row1, n1, most1, i)) x_.1 x_.2.1 x_.2.2.1 x_.2.2.2) (fun _ _ => rfl) (fun j_ => (row1 j_, n1 j_, most1 j_, i j_)) n_ (fun j_ hi_ kx_ => hstep_ j_ hi_ _) (fun kx_ => hend_ _) fu_ hm_
def spec_l2Row (N : Nat) (row : List Int) (n : Int) (most : Int) : Option (Bool × Unit) :=
  spec_l2Row_L1 N N row n most 0
def spec_l2Good (N : Nat) (c : (List Int) × (List Int) × (List Int) × (List Int)) : Option (Bool × Unit) :=
  bif ile (len c.1) 8 then
    (spec_l2Row N c.1 (len c.1) 20).bind fun r =>
    bif r.1 then
      (spec_l2Row N c.2.1 (len c.1) 99).bind fun r1 =>
      bif r1.1 then
        (spec_l2Row N c.2.2.1 (len c.1) 9).bind fun r2 =>
        bif r2.1 then
          (spec_l2Row N c.2.2.2 (len c.1) 9).bind fun r3 =>
          some (r3.1, ())
        else
          some (false, ())
      else
        some (false, ())
    else
      some (false, ())
  else
    some (false, ())
def pspec_l1Cur_amounts_K1 (N : Nat) (kx1 : Int → Int → ((List Int) × Int × Int) → ((List Int) × (List Int) × (List Int) × (List Int)) → (List Int) → Option ((List Int) × ((List Int) × Int × Int))) (v62 : Int) (v71 : Int) (v8 : Int) (app3 : (List Int) × Int × Int) (v32 : (List Int) × (List Int) × (List Int) × (List Int)) (v52 : List Int) : Option ((List Int) × ((List Int) × Int × Int)) :=
  (pspec_l1Cur_one N app3 2).bind fun r3 =>
  bif r3.1 then
    (pspec_l1Cur_pick N r3.2 v71).bind fun r4 =>
    chk (inB v8 v52.length) <|
    chk (inB v8 v52.length) <|
    kx1 v62 (isub .i64 v71 (iadd .i64 1 r4.1)) r4.2 v32 (List.set v52 v8.toNat (iadd .i64 (gd v52 v8.toNat 0) (iadd .i64 1 r4.1)))
  else
    chk (inB v8 v52.length) <|
    chk (inB v8 v52.length) <|
    kx1 v62 (isub .i64 v71 v71) r3.2 v32 (List.set v52 v8.toNat (iadd .i64 (gd v52 v8.toNat 0) v71))
def pspec_l1Cur_amounts_K2 (N : Nat) (kx : Int → ((List Int) × Int × Int) → ((List Int) × (List Int) × (List Int) × (List Int)) → (List Int) → Option ((List Int) × ((List Int) × Int × Int))) (v63 : Int) (app4 : (List Int) × Int × Int) (v33 : (List Int) × (List Int) × (List Int) × (List Int)) (v53 : List Int) : Option ((List Int) × ((List Int) × Int × Int)) :=
  kx (iadd .i64 v63 1) app4 v33 v53
def pspec_l1Cur_amounts_B1 (N : Nat) (kx : Int → ((List Int) × Int × Int) → ((List Int) × (List Int) × (List Int) × (List Int)) → (List Int) → Option ((List Int) × ((List Int) × Int × Int))) (kx1 : Int → Int → ((List Int) × Int × Int) → ((List Int) × (List Int) × (List Int) × (List Int)) → (List Int) → Option ((List Int) × ((List Int) × Int × Int))) (v61 : Int) (v7 : Int) (app2 : (List Int) × Int × Int) (v31 : (List Int) × (List Int) × (List Int) × (List Int)) (v51 : List Int) : Option ((List Int) × ((List Int) × Int × Int)) :=
  bif ilt 0 v7 then
    (pspec_l1Cur_one N app2 2).bind fun r1 =>
    bif r1.1 then
      (pspec_l1Cur_pick N r1.2 (iadd .i64 v61 1)).bind fun r2 =>
      pspec_l1Cur_amounts_K1 N kx1 v61 v7 r2.1 r2.2 v31 v51
    else
      pspec_l1Cur_amounts_K1 N kx1 v61 v7 v61 r1.2 v31 v51
  else
    pspec_l1Cur_amounts_K2 N kx v61 app2 v31 v51
def pspec_l1Cur_amounts_L1 (N fu_ : Nat) (kx : Int → ((List Int) × Int × Int) → ((List Int) × (List Int) × (List Int) × (List Int)) → (List Int) → Option ((List Int) × ((List Int) × Int × Int))) (v61 : Int) (v7 : Int) (app2 : (List Int) × Int × Int) (v31 : (List Int) × (List Int) × (List Int) × (List Int)) (v51 : List Int) : Option ((List Int) × ((List Int) × Int × Int)) :=
  iterK fu_ (fun kx1 (v_ : (Int × Int × Unit) × (((List Int) × Int × Int) × ((List Int) × (List Int) × (List Int) × (List Int)) × (List Int) × Unit)) => pspec_l1Cur_amounts_B1 N kx (fun v61 v7 app2 v31 v51 => kx1 ((v61, v7, ()), (app2, v31, v51, ()))) v_.1.1 v_.1.2.1 v_.2.1 v_.2.2.1 v_.2.2.2.1) ((v61, v7, ()), (app2, v31, v51, ()))
theorem pspec_l1Cur_amounts_L1_succ (N fu_ : Nat) (kx : Int → ((List Int) × Int × Int) → ((List Int) × (List Int) × (List Int) × (List Int)) → (List Int) → Option ((List Int) × ((List Int) × Int × Int))) (v61 : Int) (v7 : Int) (app2 : (List Int) × Int × Int) (v31 : (List Int) × (List Int) × (List Int) × (List Int)) (v51 : List Int) : pspec_l1Cur_amounts_L1 N (fu_ + 1) kx v61 v7 app2 v31 v51 = pspec_l1Cur_amounts_B1 N kx (fun v61 v7 app2 v31 v51 => pspec_l1Cur_amounts_L1 N fu_ kx v61 v7 app2 v31 v51) v61 v7 app2 v31 v51 := rfl
theorem pspec_l1Cur_amounts_L1_run (N : Nat) (kx : Int → ((List Int) × Int × Int) → ((List Int) × (List Int) × (List Int) × (List Int)) → (List Int) → Option ((List Int) × ((List Int) × Int × Int))) (v61 : Nat → Int) (v7 : Nat → Int) (app2 : Nat → ((List Int) × Int × Int)) (v31 : Nat → ((List Int) × (List Int) × (List Int) × (List Int))) (v51 : Nat → (List Int)) (n_ : Nat) {res_ : Option ((List Int) × ((List Int) × Int × Int))} (hstep_ : ∀ j_, j_ < n_ → ∀ kx_, pspec_l1Cur_amounts_B1 N kx kx_ (v61 j_) (v7 j_) (app2 j_) (v31 j_) (v51 j_) = kx_ (v61 (j_ + 1)) (v7 (j_ + 1)) (app2 (j_ + 1)) (v31 (j_ + 1)) (v51 (j_ + 1))) (hend_ : ∀ kx_, pspec_l1Cur_amounts_B1 N kx kx_ (v61 n_) (v7 n_) (app2 n_) (v31 n_) (v51 n_) = res_) (fu_ : Nat) (hm_ : n_ < fu_) : pspec_l1Cur_amounts_L1 N fu_ kx (v61 0) (v7 0) (app2 0) (v31 0) (v51 0) = res_ := by
  exact loop_run (L := fun fu_ (x_ : Int × Int × ((List Int) × Int × Int) × ((List Int) × (List Int) × (List Int) × (List Int)) × (List Int)) => pspec_l1Cur_amounts_L1 N fu_ kx x_.1 x_.2.1 x_.2.2.1 x_.2.2.2.1 x_.2.2.2.2) (B := fun kx_ x_ => pspec_l1Cur_amounts_B1 N kx (fun v61 v7 app2 v31 v51 => kx_ (v61, v7, app2, v31, v51)) x_.1 x_.2.1 x_.2.2.1 x_.2.2.2.1 x_.2.2.2.2) (fun _ _ => rfl) (fun j_ => (v61 j_, v7 j_, app2 j_, v31 j_, v51 j_)) n_ (fun j_ hi_ kx_ => hstep_ j_ hi_ _) (fun kx_ => hend_ _) fu_ hm_
def pspec_l1Cur_amounts_K3 (N : Nat) (app5 : (List Int) × Int × Int) (v54 : List Int) : Option ((List Int) × ((List Int) × Int × Int)) :=
  (pspec_l1Cur_pick N app5 30).bind fun r5 =>
  bif ieq r5.1 0 then
    (pspec_l1Cur_among N r5.2 [0, 1]).bind fun r6 =>
    chk (fitB (v54.length + 1) 8) <|
    some (v54 ++ [r6.1], r6.2)
  else
    bif ieq r5.1 1 then
      bif ilt 0 (len v54) then
        (pspec_l1Cur_pick N r5.2 (len v54)).bind fun r7 =>
        chk (inB r7.1 v54.length) <|
        (pspec_l1Cur_among N r7.2 [1, (-1), 4611686018427387904, (-9223372036854775808)]).bind fun r8 =>
        chk (inB r7.1 v54.length) <|
        some (List.set v54 r7.1.toNat (iadd .i64 (gd v54 r7.1.toNat 0) r8.1), r8.2)
      else
        some (v54, r5.2)
    else
      some (v54, r5.2)
def pspec_l1Cur_amounts_B2 (N : Nat) (kx : Int → ((List Int) × Int × Int) → ((List Int) × (List Int) × (List Int) × (List Int)) → (List Int) → Option ((List Int) × ((List Int) × Int × Int))) (v6 : Int) (app1 : (List Int) × Int × Int) (v3 : (List Int) × (List Int) × (List Int) × (List Int)) (v5 : List Int) : Option ((List Int) × ((List Int) × Int × Int)) :=
  bif ilt v6 (len v3.1) then
    chk (inB v6 v3.1.length) <|
    pspec_l1Cur_amounts_L1 N N kx v6 (gd v3.1 v6.toNat 0) app1 v3 v5
  else
    pspec_l1Cur_amounts_K3 N app1 v5
def pspec_l1Cur_amounts_L2 (N fu_ : Nat) (v6 : Int) (app1 : (List Int) × Int × Int) (v3 : (List Int) × (List Int) × (List Int) × (List Int)) (v5 : List Int) : Option ((List Int) × ((List Int) × Int × Int)) :=
  iterK fu_ (fun kx (v_ : (Int × Unit) × (((List Int) × Int × Int) × ((List Int) × (List Int) × (List Int) × (List Int)) × (List Int) × Unit)) => pspec_l1Cur_amounts_B2 N (fun v6 app1 v3 v5 => kx ((v6, ()), (app1, v3, v5, ()))) v_.1.1 v_.2.1 v_.2.2.1 v_.2.2.2.1) ((v6, ()), (app1, v3, v5, ()))
theorem pspec_l1Cur_amounts_L2_succ (N fu_ : Nat) (v6 : Int) (app1 : (List Int) × Int × Int) (v3 : (List Int) × (List Int) × (List Int) × (List Int)) (v5 : List Int) : pspec_l1Cur_amounts_L2 N (fu_ + 1) v6 app1 v3 v5 = pspec_l1Cur_amounts_B2 N (fun v6 app1 v3 v5 => pspec_l1Cur_amounts_L2 N fu_ v6 app1 v3 v5) v6 app1 v3 v5 := rfl
theorem pspec_l1Cur_amounts_L2_run (N : Nat) (v6 : Nat → Int) (app1 : Nat → ((List Int) × Int × Int)) (v3 : Nat → ((List Int) × (List Int) × (List Int) × (List Int))) (v5 : Nat → (List Int)) (n_ : Nat) {res_ : Option ((List Int) × ((List Int) × Int × Int))} (hstep_ : ∀ j_, j_ < n_ → ∀ kx_, pspec_l1Cur_amounts_B2 N kx_ (v6 j_) (app1 j_) (v3 j_) (v5 j_) = kx_ (v6 (j_ + 1)) (app1 (j_ + 1)) (v3 (j_ + 1)) (v5 (j_ + 1))) (hend_ : ∀ kx_, pspec_l1Cur_amounts_B2 N kx_ (v6 n_) (app1 n_) (v3 n_) (v5 n_) = res_) (fu_ : Nat) (hm_ : n_ < fu_) : pspec_l1Cur_amounts_L2 N fu_ (v6 0) (app1 0) (v3 0) (v5 0) = res_ := by
  exact loop_run (L := fun fu_ (x_ : Int × ((List Int) × Int × Int) × ((List Int) × (List Int) × (List Int) × (List Int)) × (List Int)) => pspec_l1Cur_amounts_L2 N fu_ x_.1 x_.2.1 x_.2.2.1 x_.2.2.2) (B := fun kx_ x_ => pspec_l1Cur_amounts_B2 N (fun v6 app1 v3 v5 => kx_ (v6, app1, v3, v5)) x_.1 x_.2.1 x_.2.2.1 x_.2.2.2) (fun _ _ => rfl) (fun j_ => (v6 j_, app1 j_, v3 j_, v5 j_)) n_ (fun j_ hi_ kx_ => hstep_ j_ hi_ _) (fun kx_ => hend_ _) fu_ hm_
def pspec_l1Cur_amounts (N : Nat) (app : (List Int) × Int × Int) (v1 : (List Int) × (List Int) × (List Int) × (List Int)) : Option ((List Int) × ((List Int) × Int × Int)) :=
  chk (mkB (len v1.1) 8) <|
  (spec_l2Good N v1).bind fun r =>
  bif !r.1 then
    some (List.replicate (len v1.1).toNat 0, app)
  else
    pspec_l1Cur_amounts_L2 N N 0 app v1 (List.replicate (len v1.1).toNat 0)
def spec_DrawStocksOf (N : Nat) (code : List Int) : Option ((((List Int) × (List Int) × (List Int) × (List Int)) × (List Int)) × Unit) :=
  (pspec_l1Cur_lots N (code, (0, 0))).bind fun r =>
  (pspec_l1Cur_amounts N r.2 r.1).bind fun r1 =>
  some ((r.1, r1.1), ())
def spec_DrawPlanCost (N : Nat) (code : List Int) : Option ((((List Int) × (List Int) × (List Int) × (List Int)) × (List Int)) × Unit) :=
  (spec_DrawStocksOf N code).bind fun r =>
  some ((r.1.1, r.1.2), ())
def impl_within (N : Nat) (n : Int) (low : Int) (high : Int) : Option (Bool × Unit) :=
  bif ile low n then
    some (ile n high, ())
  else
    some (false, ())
def impl_allWithin_K1 (N : Nat) : Option (Bool × Unit) :=
  some (true, ())
def impl_allWithin_B1 (N : Nat) (kx : Int → Int → (List Int) → Int → Int → Option (Bool × Unit)) (low1 : Int) (high1 : Int) (v9 : List Int) (v10 : Int) (v11 : Int) : Option (Bool × Unit) :=
  bif ilt v11 v10 then
    chk (inB v11 v9.length) <|
    (impl_within N (gd v9 v11.toNat 0) low1 high1).bind fun r =>
    bif !r.1 then
      some (false, ())
    else
      kx low1 high1 v9 v10 (iadd .i64 v11 1)
  else
    impl_allWithin_K1 N
def impl_allWithin_L1 (N fu_ : Nat) (low1 : Int) (high1 : Int) (v9 : List Int) (v10 : Int) (v11 : Int) : Option (Bool × Unit) :=
  iterK fu_ (fun kx (v_ : (Int × Int × (List Int) × Int × Int × Unit) × (Unit)) => impl_allWithin_B1 N (fun low1 high1 v9 v10 v11 => kx ((low1, high1, v9, v10, v11, ()), ())) v_.1.1 v_.1.2.1 v_.1.2.2.1 v_.1.2.2.2.1 v_.1.2.2.2.2.1) ((low1, high1, v9, v10, v11, ()), ())
theorem impl_allWithin_L1_succ (N fu_ : Nat) (low1 : Int) (high1 : Int) (v9 : List Int) (v10 : Int) (v11 : Int) : impl_allWithin_L1 N (fu_ + 1) low1 high1 v9 v10 v11 = impl_allWithin_B1 N (fun low1 high1 v9 v10 v11 => impl_allWithin_L1 N fu_ low1 high1 v9 v10 v11) low1 high1 v9 v10 v11 := rfl
theorem impl_allWithin_L1_run (N : Nat) (low1 : Nat → Int) (high1 : Nat → Int) (v9 : Nat → (List Int)) (v10 : Nat → Int) (v11 : Nat → Int) (n_ : Nat) {res_ : Option (Bool × Unit)} (hstep_ : ∀ j_, j_ < n_ → ∀ kx_, impl_allWithin_B1 N kx_ (low1 j_) (high1 j_) (v9 j_) (v10 j_) (v11 j_) = kx_ (low1 (j_ + 1)) (high1 (j_ + 1)) (v9 (j_ + 1)) (v10 (j_ + 1)) (v11 (j_ + 1))) (hend_ : ∀ kx_, impl_allWithin_B1 N kx_ (low1 n_) (high1 n_) (v9 n_) (v10 n_) (v11 n_) = res_) (fu_ : Nat) (hm_ : n_ < fu_) : impl_allWithin_L1 N fu_ (low1 0) (high1 0) (v9 0) (v10 0) (v11 0) = res_ := by
  exact loop_run (L := fun fu_ (x_ : Int × Int × (List Int) × Int × Int) => impl_allWithin_L1 N fu_ x_.1 x_.2.1 x_.2.2.1 x_.2.2.2.1 x_.2.2.2.2) (B := fun kx_ x_ => impl_allWithin_B1 N (fun low1 high1 v9 v10 v11 => kx_ (low1, high1, v9, v10, v11)) x_.1 x_.2.1 x_.2.2.1 x_.2.2.2.1 x_.2.2.2.2) (fun _ _ => rfl) (fun j_ => (low1 j_, high1 j_, v9 j_, v10 j_, v11 j_)) n_ (fun j_ hi_ kx_ => hstep_ j_ hi_ _) (fun kx_ => hend_ _) fu_ hm_
def impl_allWithin (N : Nat) (list : List Int) (low : Int) (high : Int) : Option (Bool × Unit) :=
  impl_allWithin_L1 N N low high list (len list) 0
def impl_IsCase (N : Nat) (c : (List Int) × (List Int) × (List Int) × (List Int)) : Option (Bool × Unit) :=
  bif ile (len c.1) 8 then
    bif ieq (len c.2.1) (len c.1) then
      bif ieq (len c.2.2.1) (len c.1) then
        bif ieq (len c.2.2.2) (len c.1) then
          (impl_allWithin N c.1 0 20).bind fun r =>
          bif r.1 then
            (impl_allWithin N c.2.1 0 99).bind fun r1 =>
            bif r1.1 then
              (impl_allWithin N c.2.2.1 0 9).bind fun r2 =>
              bif r2.1 then
                (impl_allWithin N c.2.2.2 0 9).bind fun r3 =>
                some (r3.1, ())
              else
                some (false, ())
            else
              some (false, ())
          else
            some (false, ())
        else
          some (false, ())
      else
        some (false, ())
    else
      some (false, ())
  else
    some (false, ())
def impl_Case_stocks_K1 (N : Nat) (stock1 : Int) (out1 : List Int) : Option (((List Int) × Bool) × Unit) :=
  some ((out1, ieq stock1 0), ())
def impl_Case_stocks_B1 (N : Nat) (kx : Int → (List Int) → Int → Int → ((List Int) × (List Int) × (List Int) × (List Int)) → (List Int) → Option (((List Int) × Bool) × Unit)) (stock : Int) (v22 : List Int) (v23 : Int) (v24 : Int) (c1 : (List Int) × (List Int) × (List Int) × (List Int)) (out : List Int) : Option (((List Int) × Bool) × Unit) :=
  bif ilt v24 v23 then
    chk (inB v24 v22.length) <|
    chk (inB v24 c1.1.length) <|
    bif ilt (iadd .i64 stock (isub .i64 (gd v22 v24.toNat 0) (gd c1.1 v24.toNat 0))) 0 then
      some (([], false), ())
    else
      chk (fitB (out.length + 1) 8) <|
      kx (iadd .i64 stock (isub .i64 (gd v22 v24.toNat 0) (gd c1.1 v24.toNat 0))) v22 v23 (iadd .i64 v24 1) c1 (out ++ [iadd .i64 stock (isub .i64 (gd v22 v24.toNat 0) (gd c1.1 v24.toNat 0))])
  else
    impl_Case_stocks_K1 N stock out
def impl_Case_stocks_L1 (N fu_ : Nat) (stock : Int) (v22 : List Int) (v23 : Int) (v24 : Int) (c1 : (List Int) × (List Int) × (List Int) × (List Int)) (out : List Int) : Option (((List Int) × Bool) × Unit) :=
  iterK fu_ (fun kx (v_ : (Int × (List Int) × Int × Int × Unit) × (((List Int) × (List Int) × (List Int) × (List Int)) × (List Int) × Unit)) => impl_Case_stocks_B1 N (fun stock v22 v23 v24 c1 out => kx ((stock, v22, v23, v24, ()), (c1, out, ()))) v_.1.1 v_.1.2.1 v_.1.2.2.1 v_.1.2.2.2.1 v_.2.1 v_.2.2.1) ((stock, v22, v23, v24, ()), (c1, out, ()))
theorem impl_Case_stocks_L1_succ (N fu_ : Nat) (stock : Int) (v22 : List Int) (v23 : Int) (v24 : Int) (c1 : (List Int) × (List Int) × (List Int) × (List Int)) (out : List Int) : impl_Case_stocks_L1 N (fu_ + 1) stock v22 v23 v24 c1 out = impl_Case_stocks_B1 N (fun stock v22 v23 v24 c1 out => impl_Case_stocks_L1 N fu_ stock v22 v23 v24 c1 out) stock v22 v23 v24 c1 out := rfl
theorem impl_Case_stocks_L1_run (N : Nat) (stock : Nat → Int) (v22 : Nat → (List Int)) (v23 : Nat → Int) (v24 : Nat → Int) (c1 : Nat → ((List Int) × (List Int) × (List Int) × (List Int))) (out : Nat → (List Int)) (n_ : Nat) {res_ : Option (((List Int) × Bool) × Unit)} (hstep_ : ∀ j_, j_ < n_ → ∀ kx_, impl_Case_stocks_B1 N kx_ (stock j_) (v22 j_) (v23 j_) (v24 j_) (c1 j_) (out j_) = kx_ (stock (j_ + 1)) (v22 (j_ + 1)) (v23 (j_ + 1)) (v24 (j_ + 1)) (c1 (j_ + 1)) (out (j_ + 1))) (hend_ : ∀ kx_, impl_Case_stocks_B1 N kx_ (stock n_) (v22 n_) (v23 n_) (v24 n_) (c1 n_) (out n_) = res_) (fu_ : Nat) (hm_ : n_ < fu_) : impl_Case_stocks_L1 N fu_ (stock 0) (v22 0) (v23 0) (v24 0) (c1 0) (out 0) = res_ := by
  exact loop_run (L := fun fu_ (x_ : Int × (List Int) × Int × Int × ((List Int) × (List Int) × (List Int) × (List Int)) × (List Int)) => impl_Case_stocks_L1 N fu_ x_.1 x_.2.1 x_.2.2.1 x_.2.2.2.1 x_.2.2.2.2.1 x_.2.2.2.2.2) (B := fun kx_ x_ => impl_Case_stocks_B1 N (fun stock v22 v23 v24 c1 out => kx_ (stock, v22, v23, v24, c1, out)) x_.1 x_.2.1 x_.2.2.1 x_.2.2.2.1 x_.2.2.2.2.1 x_.2.2.2.2.2) (fun _ _ => rfl) (fun j_ => (stock j_, v22 j_, v23 j_, v24 j_, c1 j_, out j_)) n_ (fun j_ hi_ kx_ => hstep_ j_ hi_ _) (fun kx_ => hend_ _) fu_ hm_
def impl_Case_stocks (N : Nat) (c : (List Int) × (List Int) × (List Int) × (List Int)) (plan : List Int) : Option (((List Int) × Bool) × Unit) :=
  bif ine (len plan) (len c.1) then
    some (([], false), ())
  else
    (impl_allWithin N plan 0 160).bind fun r =>
    bif !r.1 then
      some (([], false), ())
    else
      impl_Case_stocks_L1 N N 0 plan (len plan) 0 c []
def impl_planned (N : Nat) (c : (List Int) × (List Int) × (List Int) × (List Int)) (plan : List Int) : Option (((List Int) × Bool) × Unit) :=
  (impl_IsCase N c).bind fun r =>
  bif !r.1 then
    some (([], false), ())
  else
    (impl_Case_stocks N c plan).bind fun r1 =>
    bif !r1.1.2 then
      some (([], false), ())
    else
      some ((r1.1.1, true), ())
def impl_Case_parts_K1 (N : Nat) (kx : Int → Int → Int → Int → (List Int) → Int → Int → ((List Int) × (List Int) × (List Int) × (List Int)) → Option ((Int × Int × Int) × Unit)) (setups1 : Int) (units1 : Int) (holds1 : Int) (stock1 : Int) (i : Int) (amount : Int) (v131 : List Int) (v141 : Int) (v151 : Int) (c2 : (List Int) × (List Int) × (List Int) × (List Int)) : Option ((Int × Int × Int) × Unit) :=
  chk (inB i c2.2.2.1.length) <|
  chk (inB i c2.2.2.2.length) <|
  kx setups1 (iadd .i64 units1 (imul .i64 (gd c2.2.2.1 i.toNat 0) amount)) (iadd .i64 holds1 (imul .i64 (gd c2.2.2.2 i.toNat 0) stock1)) stock1 v131 v141 (iadd .i64 v151 1) c2
def impl_Case_parts_K2 (N : Nat) (setups2 : Int) (units2 : Int) (holds2 : Int) : Option ((Int × Int × Int) × Unit) :=
  some ((setups2, (units2, holds2)), ())
def impl_Case_parts_B1 (N : Nat) (kx : Int → Int → Int → Int → (List Int) → Int → Int → ((List Int) × (List Int) × (List Int) × (List Int)) → Option ((Int × Int × Int) × Unit)) (setups : Int) (units : Int) (holds : Int) (stock : Int) (v13 : List Int) (v14 : Int) (v15 : Int) (c1 : (List Int) × (List Int) × (List Int) × (List Int)) : Option ((Int × Int × Int) × Unit) :=
  bif ilt v15 v14 then
    chk (inB v15 v13.length) <|
    chk (inB v15 c1.1.length) <|
    bif ilt 0 (gd v13 v15.toNat 0) then
      chk (inB v15 c1.2.1.length) <|
      impl_Case_parts_K1 N kx (iadd .i64 setups (gd c1.2.1 v15.toNat 0)) units holds (iadd .i64 stock (isub .i64 (gd v13 v15.toNat 0) (gd c1.1 v15.toNat 0))) v15 (gd v13 v15.toNat 0) v13 v14 v15 c1
    else
      impl_Case_parts_K1 N kx setups units holds (iadd .i64 stock (isub .i64 (gd v13 v15.toNat 0) (gd c1.1 v15.toNat 0))) v15 (gd v13 v15.toNat 0) v13 v14 v15 c1
  else
    impl_Case_parts_K2 N setups units holds
def impl_Case_parts_L1 (N fu_ : Nat) (setups : Int) (units : Int) (holds : Int) (stock : Int) (v13 : List Int) (v14 : Int) (v15 : Int) (c1 : (List Int) × (List Int) × (List Int) × (List Int)) : Option ((Int × Int × Int) × Unit) :=
  iterK fu_ (fun kx (v_ : (Int × Int × Int × Int × (List Int) × Int × Int × Unit) × (((List Int) × (List Int) × (List Int) × (List Int)) × Unit)) => impl_Case_parts_B1 N (fun setups units holds stock v13 v14 v15 c1 => kx ((setups, units, holds, stock, v13, v14, v15, ()), (c1, ()))) v_.1.1 v_.1.2.1 v_.1.2.2.1 v_.1.2.2.2.1 v_.1.2.2.2.2.1 v_.1.2.2.2.2.2.1 v_.1.2.2.2.2.2.2.1 v_.2.1) ((setups, units, holds, stock, v13, v14, v15, ()), (c1, ()))
theorem impl_Case_parts_L1_succ (N fu_ : Nat) (setups : Int) (units : Int) (holds : Int) (stock : Int) (v13 : List Int) (v14 : Int) (v15 : Int) (c1 : (List Int) × (List Int) × (List Int) × (List Int)) : impl_Case_parts_L1 N (fu_ + 1) setups units holds stock v13 v14 v15 c1 = impl_Case_parts_B1 N (fun setups units holds stock v13 v14 v15 c1 => impl_Case_parts_L1 N fu_ setups units holds stock v13 v14 v15 c1) setups units holds stock v13 v14 v15 c1 := rfl
theorem impl_Case_parts_L1_run (N : Nat) (setups : Nat → Int) (units : Nat → Int) (holds : Nat → Int) (stock : Nat → Int) (v13 : Nat → (List Int)) (v14 : Nat → Int) (v15 : Nat → Int) (c1 : Nat → ((List Int) × (List Int) × (List Int) × (List Int))) (n_ : Nat) {res_ : Option ((Int × Int × Int) × Unit)} (hstep_ : ∀ j_, j_ < n_ → ∀ kx_, impl_Case_parts_B1 N kx_ (setups j_) (units j_) (holds j_) (stock j_) (v13 j_) (v14 j_) (v15 j_) (c1 j_) = kx_ (setups (j_ + 1)) (units (j_ + 1)) (holds (j_ + 1)) (stock (j_ + 1)) (v13 (j_ + 1)) (v14 (j_ + 1)) (v15 (j_ + 1)) (c1 (j_ + 1))) (hend_ : ∀ kx_, impl_Case_parts_B1 N kx_ (setups n_) (units n_) (holds n_) (stock n_) (v13 n_) (v14 n_) (v15 n_) (c1 n_) = res_) (fu_ : Nat) (hm_ : n_ < fu_) : impl_Case_parts_L1 N fu_ (setups 0) (units 0) (holds 0) (stock 0) (v13 0) (v14 0) (v15 0) (c1 0) = res_ := by
  exact loop_run (L := fun fu_ (x_ : Int × Int × Int × Int × (List Int) × Int × Int × ((List Int) × (List Int) × (List Int) × (List Int))) => impl_Case_parts_L1 N fu_ x_.1 x_.2.1 x_.2.2.1 x_.2.2.2.1 x_.2.2.2.2.1 x_.2.2.2.2.2.1 x_.2.2.2.2.2.2.1 x_.2.2.2.2.2.2.2) (B := fun kx_ x_ => impl_Case_parts_B1 N (fun setups units holds stock v13 v14 v15 c1 => kx_ (setups, units, holds, stock, v13, v14, v15, c1)) x_.1 x_.2.1 x_.2.2.1 x_.2.2.2.1 x_.2.2.2.2.1 x_.2.2.2.2.2.1 x_.2.2.2.2.2.2.1 x_.2.2.2.2.2.2.2) (fun _ _ => rfl) (fun j_ => (setups j_, units j_, holds j_, stock j_, v13 j_, v14 j_, v15 j_, c1 j_)) n_ (fun j_ hi_ kx_ => hstep_ j_ hi_ _) (fun kx_ => hend_ _) fu_ hm_
def impl_Case_parts (N : Nat) (c : (List Int) × (List Int) × (List Int) × (List Int)) (plan : List Int) : Option ((Int × Int × Int) × Unit) :=
  impl_Case_parts_L1 N N 0 0 0 0 plan (len plan) 0 c
def impl_Case_cost (N : Nat) (c : (List Int) × (List Int) × (List Int) × (List Int)) (plan : List Int) : Option (Int × Unit) :=
  (impl_Case_parts N c plan).bind fun r =>
  some (iadd .i64 (iadd .i64 r.1.1 r.1.2.1) r.1.2.2, ())
def impl_PlanCost (N : Nat) (c : (List Int) × (List Int) × (List Int) × (List Int)) (plan : List Int) : Option ((Int × Bool) × Unit) :=
  (impl_planned N c plan).bind fun r =>
  bif !r.1.2 then
    some ((0, false), ())
  else
    (impl_Case_cost N c plan).bind fun r1 =>
    some ((r1.1, true), ())
def spec_l2Stocks_K1 (N : Nat) (out1 : List Int) : Option ((List Int) × Unit) :=
  some (out1, ())
def spec_l2Stocks_B1 (N : Nat) (kx : (List Int) → Int → Int → ((List Int) × (List Int) × (List Int) × (List Int)) → (List Int) → Option ((List Int) × Unit)) (plan1 : List Int) (now : Int) (t : Int) (c1 : (List Int) × (List Int) × (List Int) × (List Int)) (out : List Int) : Option ((List Int) × Unit) :=
  bif ilt t (len plan1) then
    chk (inB t plan1.length) <|
    chk (inB t c1.1.length) <|
    chk (fitB (out.length + 1) 8) <|
    kx plan1 (isub .i64 (iadd .i64 now (gd plan1 t.toNat 0)) (gd c1.1 t.toNat 0)) (iadd .i64 t 1) c1 (out ++ [isub .i64 (iadd .i64 now (gd plan1 t.toNat 0)) (gd c1.1 t.toNat 0)])
  else
    spec_l2Stocks_K1 N out
def spec_l2Stocks_L1 (N fu_ : Nat) (plan1 : List Int) (now : Int) (t : Int) (c1 : (List Int) × (List Int) × (List Int) × (List Int)) (out : List Int) : Option ((List Int) × Unit) :=
  iterK fu_ (fun kx (v_ : ((List Int) × Int × Int × Unit) × (((List Int) × (List Int) × (List Int) × (List Int)) × (List Int) × Unit)) => spec_l2Stocks_B1 N (fun plan1 now t c1 out => kx ((plan1, now, t, ()), (c1, out, ()))) v_.1.1 v_.1.2.1 v_.1.2.2.1 v_.2.1 v_.2.2.1) ((plan1, now, t, ()), (c1, out, ()))
theorem spec_l2Stocks_L1_succ (N fu_ : Nat) (plan1 : List Int) (now : Int) (t : Int) (c1 : (List Int) × (List Int) × (List Int) × (List Int)) (out : List Int) : spec_l2Stocks_L1 N (fu_ + 1) plan1 now t c1 out = spec_l2Stocks_B1 N (fun plan1 now t c1 out => spec_l2Stocks_L1 N fu_ plan1 now t c1 out) plan1 now t c1 out := rfl
theorem spec_l2Stocks_L1_run (N : Nat) (plan1 : Nat → (List Int)) (now : Nat → Int) (t : Nat → Int) (c1 : Nat → ((List Int) × (List Int) × (List Int) × (List Int))) (out : Nat → (List Int)) (n_ : Nat) {res_ : Option ((List Int) × Unit)} (hstep_ : ∀ j_, j_ < n_ → ∀ kx_, spec_l2Stocks_B1 N kx_ (plan1 j_) (now j_) (t j_) (c1 j_) (out j_) = kx_ (plan1 (j_ + 1)) (now (j_ + 1)) (t (j_ + 1)) (c1 (j_ + 1)) (out (j_ + 1))) (hend_ : ∀ kx_, spec_l2Stocks_B1 N kx_ (plan1 n_) (now n_) (t n_) (c1 n_) (out n_) = res_) (fu_ : Nat) (hm_ : n_ < fu_) : spec_l2Stocks_L1 N fu_ (plan1 0) (now 0) (t 0) (c1 0) (out 0) = res_ := by
  exact loop_run (L := fun fu_ (x_ : (List Int) × Int × Int × ((List Int) × (List Int) × (List Int) × (List Int)) × (List Int)) => spec_l2Stocks_L1 N fu_ x_.1 x_.2.1 x_.2.2.1 x_.2.2.2.1 x_.2.2.2.2) (B := fun kx_ x_ => spec_l2Stocks_B1 N (fun plan1 now t c1 out => kx_ (plan1, now, t, c1, out)) x_.1 x_.2.1 x_.2.2.1 x_.2.2.2.1 x_.2.2.2.2) (fun _ _ => rfl) (fun j_ => (plan1 j_, now j_, t j_, c1 j_, out j_)) n_ (fun j_ hi_ kx_ => hstep_ j_ hi_ _) (fun kx_ => hend_ _) fu_ hm_
def spec_l2Stocks (N : Nat) (c : (List Int) × (List Int) × (List Int) × (List Int)) (plan : List Int) : Option ((List Int) × Unit) :=
  spec_l2Stocks_L1 N N plan 0 0 c []
def spec_l2Plan_K1 (N : Nat) (stocks1 : List Int) : Option (Bool × Unit) :=
  bif ieq (len stocks1) 0 then
    some (true, ())
  else
    chk (inB (isub .i64 (len stocks1) 1) stocks1.length) <|
    some (ieq (gd stocks1 (isub .i64 (len stocks1) 1).toNat 0) 0, ())
def spec_l2Plan_B1 (N : Nat) (kx : Int → (List Int) → Option (Bool × Unit)) (t : Int) (stocks : List Int) : Option (Bool × Unit) :=
  bif ilt t (len stocks) then
    chk (inB t stocks.length) <|
    bif ilt (gd stocks t.toNat 0) 0 then
      some (false, ())
    else
      kx (iadd .i64 t 1) stocks
  else
    spec_l2Plan_K1 N stocks
def spec_l2Plan_L1 (N fu_ : Nat) (t : Int) (stocks : List Int) : Option (Bool × Unit) :=
  iterK fu_ (fun kx (v_ : (Int × Unit) × ((List Int) × Unit)) => spec_l2Plan_B1 N (fun t stocks => kx ((t, ()), (stocks, ()))) v_.1.1 v_.2.1) ((t, ()), (stocks, ()))
theorem spec_l2Plan_L1_succ (N fu_ : Nat) (t : Int) (stocks : List Int) : spec_l2Plan_L1 N (fu_ + 1) t stocks = spec_l2Plan_B1 N (fun t stocks => spec_l2Plan_L1 N fu_ t stocks) t stocks := rfl
theorem spec_l2Plan_L1_run (N : Nat) (t : Nat → Int) (stocks : Nat → (List Int)) (n_ : Nat) {res_ : Option (Bool × Unit)} (hstep_ : ∀ j_, j_ < n_ → ∀ kx_, spec_l2Plan_B1 N kx_ (t j_) (stocks j_) = kx_ (t (j_ + 1)) (stocks (j_ + 1))) (hend_ : ∀ kx_, spec_l2Plan_B1 N kx_ (t n_) (stocks n_) = res_) (fu_ : Nat) (hm_ : n_ < fu_) : spec_l2Plan_L1 N fu_ (t 0) (stocks 0) = res_ := by
  exact loop_run (L := fun fu_ (x_ : Int × (List Int)) => spec_l2Plan_L1 N fu_ x_.1 x_.2) (B := fun kx_ x_ => spec_l2Plan_B1 N (fun t stocks => kx_ (t, stocks)) x_.1 x_.2) (fun _ _ => rfl) (fun j_ => (t j_, stocks j_)) n_ (fun j_ hi_ kx_ => hstep_ j_ hi_ _) (fun kx_ => hend_ _) fu_ hm_
def spec_l2Plan (N : Nat) (c : (List Int) × (List Int) × (List Int) × (List Int)) (plan : List Int) : Option (Bool × Unit) :=
  (spec_l2Row N plan (len c.1) 160).bind fun r =>
  bif !r.1 then
    some (false, ())
  else
    (spec_l2Stocks N c plan).bind fun r1 =>
    spec_l2Plan_L1 N N 0 r1.1
def spec_l2Two (N : Nat) (c : (List Int) × (List Int) × (List Int) × (List Int)) (plan : List Int) : Option (Bool × Unit) :=
  (spec_l2Good N c).bind fun r =>
  bif r.1 then
    (spec_l2Plan N c plan).bind fun r1 =>
    some (r1.1, ())
  else
    some (false, ())
def spec_l2Parts_K1 (N : Nat) (kx : (List Int) → Int → ((List Int) × (List Int) × (List Int) × (List Int)) → (List Int) → (List Int) → (List Int) → Option ((List Int) × Unit)) (plan2 : List Int) (t1 : Int) (c2 : (List Int) × (List Int) × (List Int) × (List Int)) (v41 : List Int) (out1 : List Int) (stocks1 : List Int) : Option ((List Int) × Unit) :=
  chk (inB 1 3) <|
  chk (inB t1 c2.2.2.1.length) <|
  chk (inB t1 plan2.length) <|
  chk (inB 1 3) <|
  chk (inB 2 3) <|
  chk (inB t1 c2.2.2.2.length) <|
  chk (inB t1 stocks1.length) <|
  chk (inB 2 3) <|
  kx plan2 (iadd .i64 t1 1) c2 v41 (List.set (List.set out1 1 (iadd .i64 (gd out1 1 0) (imul .i64 (gd c2.2.2.1 t1.toNat 0) (gd plan2 t1.toNat 0)))) 2 (iadd .i64 (gd (List.set out1 1 (iadd .i64 (gd out1 1 0) (imul .i64 (gd c2.2.2.1 t1.toNat 0) (gd plan2 t1.toNat 0)))) 2 0) (imul .i64 (gd c2.2.2.2 t1.toNat 0) (gd stocks1 t1.toNat 0)))) stocks1
def spec_l2Parts_K2 (N : Nat) (v42 : List Int) (out2 : List Int) : Option ((List Int) × Unit) :=
  some (out2, ())
def spec_l2Parts_B1 (N : Nat) (kx : (List Int) → Int → ((List Int) × (List Int) × (List Int) × (List Int)) → (List Int) → (List Int) → (List Int) → Option ((List Int) × Unit)) (plan1 : List Int) (t : Int) (c1 : (List Int) × (List Int) × (List Int) × (List Int)) (v4 : List Int) (out : List Int) (stocks : List Int) : Option ((List Int) × Unit) :=
  bif ilt t (len plan1) then
    chk (inB t plan1.length) <|
    bif ilt 0 (gd plan1 t.toNat 0) then
      chk (inB 0 3) <|
      chk (inB t c1.2.1.length) <|
      chk (inB 0 3) <|
      spec_l2Parts_K1 N kx plan1 t c1 v4 (List.set out 0 (iadd .i64 (gd out 0 0) (gd c1.2.1 t.toNat 0))) stocks
    else
      spec_l2Parts_K1 N kx plan1 t c1 v4 out stocks
  else
    spec_l2Parts_K2 N v4 out
def spec_l2Parts_L1 (N fu_ : Nat) (plan1 : List Int) (t : Int) (c1 : (List Int) × (List Int) × (List Int) × (List Int)) (v4 : List Int) (out : List Int) (stocks : List Int) : Option ((List Int) × Unit) :=
  iterK fu_ (fun kx (v_ : ((List Int) × Int × Unit) × (((List Int) × (List Int) × (List Int) × (List Int)) × (List Int) × (List Int) × (List Int) × Unit)) => spec_l2Parts_B1 N (fun plan1 t c1 v4 out stocks => kx ((plan1, t, ()), (c1, v4, out, stocks, ()))) v_.1.1 v_.1.2.1 v_.2.1 v_.2.2.1 v_.2.2.2.1 v_.2.2.2.2.1) ((plan1, t, ()), (c1, v4, out, stocks, ()))
theorem spec_l2Parts_L1_succ (N fu_ : Nat) (plan1 : List Int) (t : Int) (c1 : (List Int) × (List Int) × (List Int) × (List Int)) (v4 : List Int) (out : List Int) (stocks : List Int) : spec_l2Parts_L1 N (fu_ + 1) plan1 t c1 v4 out stocks = spec_l2Parts_B1 N (fun plan1 t c1 v4 out stocks => spec_l2Parts_L1 N fu_ plan1 t c1 v4 out stocks) plan1 t c1 v4 out stocks := rfl
theorem spec_l2Parts_L1_run (N : Nat) (plan1 : Nat → (List Int)) (t : Nat → Int) (c1 : Nat → ((List Int) × (List Int) × (List Int) × (List Int))) (v4 : Nat → (List Int)) (out : Nat → (List Int)) (stocks : Nat → (List Int)) (n_ : Nat) {res_ : Option ((List Int) × Unit)} (hstep_ : ∀ j_, j_ < n_ → ∀ kx_, spec_l2Parts_B1 N kx_ (plan1 j_) (t j_) (c1 j_) (v4 j_) (out j_) (stocks j_) = kx_ (plan1 (j_ + 1)) (t (j_ + 1)) (c1 (j_ + 1)) (v4 (j_ + 1)) (out (j_ + 1)) (stocks (j_ + 1))) (hend_ : ∀ kx_, spec_l2Parts_B1 N kx_ (plan1 n_) (t n_) (c1 n_) (v4 n_) (out n_) (stocks n_) = res_) (fu_ : Nat) (hm_ : n_ < fu_) : spec_l2Parts_L1 N fu_ (plan1 0) (t 0) (c1 0) (v4 0) (out 0) (stocks 0) = res_ := by
  exact loop_run (L := fun fu_ (x_ : (List Int) × Int × ((List Int) × (List Int) × (List Int) × (List Int)) × (List Int) × (List Int) × (List Int)) => spec_l2Parts_L1 N fu_ x_.1 x_.2.1 x_.2.2.1 x_.2.2.2.1 x_.2.2.2.2.1 x_.2.2.2.2.2) (B := fun kx_ x_ => spec_l2Parts_B1 N (fun plan1 t c1 v4 out stocks => kx_ (plan1, t, c1, v4, out, stocks)) x_.1 x_.2.1 x_.2.2.1 x_.2.2.2.1 x_.2.2.2.2.1 x_.2.2.2.2.2) (fun _ _ => rfl) (fun j_ => (plan1 j_, t j_, c1 j_, v4 j_, out j_, stocks j_)) n_ (fun j_ hi_ kx_ => hstep_ j_ hi_ _) (fun kx_ => hend_ _) fu_ hm_
def spec_l2Parts (N : Nat) (c : (List Int) × (List Int) × (List Int) × (List Int)) (plan : List Int) : Option ((List Int) × Unit) :=
  (spec_l2Stocks N c plan).bind fun r =>
  spec_l2Parts_L1 N N plan 0 c (List.replicate 3 0) (List.replicate 3 0) r.1
def spec_l2Cost (N : Nat) (c : (List Int) × (List Int) × (List Int) × (List Int)) (plan : List Int) : Option (Int × Unit) :=
  (spec_l2Parts N c plan).bind fun r =>
  chk (inB 0 3) <|
  chk (inB 1 3) <|
  chk (inB 2 3) <|
  some (iadd .i64 (iadd .i64 (gd r.1 0 0) (gd r.1 1 0)) (gd r.1 2 0), ())
def spec_PlanCost (N : Nat) (c : (List Int) × (List Int) × (List Int) × (List Int)) (plan : List Int) : Option ((Int × Bool) × Unit) :=
  (spec_l2Two N c plan).bind fun r =>
  bif !r.1 then
    some ((0, false), ())
  else
    (spec_l2Cost N c plan).bind fun r1 =>
    some ((r1.1, true), ())
def impl_IsPlan (N : Nat) (c : (List Int) × (List Int) × (List Int) × (List Int)) (plan : List Int) : Option ((Bool × Bool) × Unit) :=
  (impl_IsCase N c).bind fun r =>
  bif !r.1 then
    some ((false, false), ())
  else
    (impl_Case_stocks N c plan).bind fun r1 =>
    some ((r1.1.2, true), ())
def spec_IsPlan (N : Nat) (c : (List Int) × (List Int) × (List Int) × (List Int)) (plan : List Int) : Option ((Bool × Bool) × Unit) :=
  (spec_l2Good N c).bind fun r =>
  bif !r.1 then
    some ((false, false), ())
  else
    (spec_l2Plan N c plan).bind fun r1 =>
    some ((r1.1, true), ())
def impl_StocksOf (N : Nat) (c : (List Int) × (List Int) × (List Int) × (List Int)) (plan : List Int) : Option (((List Int) × Bool) × Unit) :=
  (impl_planned N c plan).bind fun r =>
  some ((r.1.1, r.1.2), ())
def spec_StocksOf (N : Nat) (c : (List Int) × (List Int) × (List Int) × (List Int)) (plan : List Int) : Option (((List Int) × Bool) × Unit) :=
  (spec_l2Two N c plan).bind fun r =>
  bif !r.1 then
    some (([], false), ())
  else
    (spec_l2Stocks N c plan).bind fun r1 =>
    some ((r1.1, true), ())
def laws_rInts_K1 (N : Nat) : Option (Bool × Unit) :=
  some (true, ())
def laws_rInts_B1 (N : Nat) (kx : (List Int) → (List Int) → Int → Option (Bool × Unit)) (a1 : List Int) (b1 : List Int) (i : Int) : Option (Bool × Unit) :=
  bif ilt i (len a1) then
    chk (inB i a1.length) <|
    chk (inB i b1.length) <|
    bif ine (gd a1 i.toNat 0) (gd b1 i.toNat 0) then
      some (false, ())
    else
      kx a1 b1 (iadd .i64 i 1)
  else
    laws_rInts_K1 N
def laws_rInts_L1 (N fu_ : Nat) (a1 : List Int) (b1 : List Int) (i : Int) : Option (Bool × Unit) :=
  iterK fu_ (fun kx (v_ : ((List Int) × (List Int) × Int × Unit) × (Unit)) => laws_rInts_B1 N (fun a1 b1 i => kx ((a1, b1, i, ()), ())) v_.1.1 v_.1.2.1 v_.1.2.2.1) ((a1, b1, i, ()), ())
theorem laws_rInts_L1_succ (N fu_ : Nat) (a1 : List Int) (b1 : List Int) (i : Int) : laws_rInts_L1 N (fu_ + 1) a1 b1 i = laws_rInts_B1 N (fun a1 b1 i => laws_rInts_L1 N fu_ a1 b1 i) a1 b1 i := rfl
theorem laws_rInts_L1_run (N : Nat) (a1 : Nat → (List Int)) (b1 : Nat → (List Int)) (i : Nat → Int) (n_ : Nat) {res_ : Option (Bool × Unit)} (hstep_ : ∀ j_, j_ < n_ → ∀ kx_, laws_rInts_B1 N kx_ (a1 j_) (b1 j_) (i j_) = kx_ (a1 (j_ + 1)) (b1 (j_ + 1)) (i (j_ + 1))) (hend_ : ∀ kx_, laws_rInts_B1 N kx_ (a1 n_) (b1 n_) (i n_) = res_) (fu_ : Nat) (hm_ : n_ < fu_) : laws_rInts_L1 N fu_ (a1 0) (b1 0) (i 0) = res_ := by
  exact loop_run (L := fun fu_ (x_ : (List Int) × (List Int) × Int) => laws_rInts_L1 N fu_ x_.1 x_.2.1 x_.2.2) (B := fun kx_ x_ => laws_rInts_B1 N (fun a1 b1 i => kx_ (a1, b1, i)) x_.1 x_.2.1 x_.2.2) (fun _ _ => rfl) (fun j_ => (a1 j_, b1 j_, i j_)) n_ (fun j_ hi_ kx_ => hstep_ j_ hi_ _) (fun kx_ => hend_ _) fu_ hm_
def laws_rInts (N : Nat) (a : List Int) (b : List Int) : Option (Bool × Unit) :=
  bif ine (len a) (len b) then
    some (false, ())
  else
    laws_rInts_L1 N N a b 0
def impl_CostParts (N : Nat) (c : (List Int) × (List Int) × (List Int) × (List Int)) (plan : List Int) : Option ((Int × Int × Int × Bool) × Unit) :=
  (impl_planned N c plan).bind fun r =>
  bif !r.1.2 then
    some ((0, (0, (0, false))), ())
  else
    (impl_Case_parts N c plan).bind fun r1 =>
    some ((r1.1.1, (r1.1.2.1, (r1.1.2.2, true))), ())
def spec_CostParts (N : Nat) (c : (List Int) × (List Int) × (List Int) × (List Int)) (plan : List Int) : Option ((Int × Int × Int × Bool) × Unit) :=
  (spec_l2Two N c plan).bind fun r =>
  bif !r.1 then
    some ((0, (0, (0, false))), ())
  else
    (spec_l2Parts N c plan).bind fun r1 =>
    chk (inB 0 3) <|
    chk (inB 1 3) <|
    chk (inB 2 3) <|
    some ((gd r1.1 0 0, (gd r1.1 1 0, (gd r1.1 2 0, true))), ())
def impl_EmptyPeriods_K1 (N : Nat) (out1 : List Int) : Option (((List Int) × Bool) × Unit) :=
  some ((out1, true), ())
def impl_EmptyPeriods_B1 (N : Nat) (kx : Int → Int → (List Int) → ((List Int) × Bool) → Option (((List Int) × Bool) × Unit)) (v21 : Int) (v22 : Int) (out : List Int) (b14 : (List Int) × Bool) : Option (((List Int) × Bool) × Unit) :=
  bif ilt v22 v21 then
    chk (inB v22 b14.1.length) <|
    bif ieq (gd b14.1 v22.toNat 0) 0 then
      chk (fitB (out.length + 1) 8) <|
      kx v21 (iadd .i64 v22 1) (out ++ [v22]) b14
    else
      kx v21 (iadd .i64 v22 1) out b14
  else
    impl_EmptyPeriods_K1 N out
def impl_EmptyPeriods_L1 (N fu_ : Nat) (v21 : Int) (v22 : Int) (out : List Int) (b14 : (List Int) × Bool) : Option (((List Int) × Bool) × Unit) :=
  iterK fu_ (fun kx (v_ : (Int × Int × Unit) × ((List Int) × ((List Int) × Bool) × Unit)) => impl_EmptyPeriods_B1 N (fun v21 v22 out b14 => kx ((v21, v22, ()), (out, b14, ()))) v_.1.1 v_.1.2.1 v_.2.1 v_.2.2.1) ((v21, v22, ()), (out, b14, ()))
theorem impl_EmptyPeriods_L1_succ (N fu_ : Nat) (v21 : Int) (v22 : Int) (out : List Int) (b14 : (List Int) × Bool) : impl_EmptyPeriods_L1 N (fu_ + 1) v21 v22 out b14 = impl_EmptyPeriods_B1 N (fun v21 v22 out b14 => impl_EmptyPeriods_L1 N fu_ v21 v22 out b14) v21 v22 out b14 := rfl
theorem impl_EmptyPeriods_L1_run (N : Nat) (v21 : Nat → Int) (v22 : Nat → Int) (out : Nat → (List Int)) (b14 : Nat → ((List Int) × Bool)) (n_ : Nat) {res_ : Option (((List Int) × Bool) × Unit)} (hstep_ : ∀ j_, j_ < n_ → ∀ kx_, impl_EmptyPeriods_B1 N kx_ (v21 j_) (v22 j_) (out j_) (b14 j_) = kx_ (v21 (j_ + 1)) (v22 (j_ + 1)) (out (j_ + 1)) (b14 (j_ + 1))) (hend_ : ∀ kx_, impl_EmptyPeriods_B1 N kx_ (v21 n_) (v22 n_) (out n_) (b14 n_) = res_) (fu_ : Nat) (hm_ : n_ < fu_) : impl_EmptyPeriods_L1 N fu_ (v21 0) (v22 0) (out 0) (b14 0) = res_ := by
  exact loop_run (L := fun fu_ (x_ : Int × Int × (List Int) × ((List Int) × Bool)) => impl_EmptyPeriods_L1 N fu_ x_.1 x_.2.1 x_.2.2.1 x_.2.2.2) (B := fun kx_ x_ => impl_EmptyPeriods_B1 N (fun v21 v22 out b14 => kx_ (v21, v22, out, b14)) x_.1 x_.2.1 x_.2.2.1 x_.2.2.2) (fun _ _ => rfl) (fun j_ => (v21 j_, v22 j_, out j_, b14 j_)) n_ (fun j_ hi_ kx_ => hstep_ j_ hi_ _) (fun kx_ => hend_ _) fu_ hm_
def impl_EmptyPeriods (N : Nat) (c : (List Int) × (List Int) × (List Int) × (List Int)) (plan : List Int) : Option (((List Int) × Bool) × Unit) :=
  (impl_planned N c plan).bind fun r =>
  bif !r.1.2 then
    some (([], false), ())
  else
    impl_EmptyPeriods_L1 N N (len r.1.1) 0 [] r.1
def spec_EmptyPeriods_K1 (N : Nat) (out1 : List Int) : Option (((List Int) × Bool) × Unit) :=
  some ((out1, true), ())
def spec_EmptyPeriods_B1 (N : Nat) (kx : Int → (List Int) → (List Int) → Option (((List Int) × Bool) × Unit)) (t : Int) (out : List Int) (stocks : List Int) : Option (((List Int) × Bool) × Unit) :=
  bif ilt t (len stocks) then
    chk (inB t stocks.length) <|
    bif ieq (gd stocks t.toNat 0) 0 then
      chk (fitB (out.length + 1) 8) <|
      kx (iadd .i64 t 1) (out ++ [t]) stocks
    else
      kx (iadd .i64 t 1) out stocks
  else
    spec_EmptyPeriods_K1 N out
def spec_EmptyPeriods_L1 (N fu_ : Nat) (t : Int) (out : List Int) (stocks : List Int) : Option (((List Int) × Bool) × Unit) :=
  iterK fu_ (fun kx (v_ : (Int × Unit) × ((List Int) × (List Int) × Unit)) => spec_EmptyPeriods_B1 N (fun t out stocks => kx ((t, ()), (out, stocks, ()))) v_.1.1 v_.2.1 v_.2.2.1) ((t, ()), (out, stocks, ()))
theorem spec_EmptyPeriods_L1_succ (N fu_ : Nat) (t : Int) (out : List Int) (stocks : List Int) : spec_EmptyPeriods_L1 N (fu_ + 1) t out stocks = spec_EmptyPeriods_B1 N (fun t out stocks => spec_EmptyPeriods_L1 N fu_ t out stocks) t out stocks := rfl
theorem spec_EmptyPeriods_L1_run (N : Nat) (t : Nat → Int) (out : Nat → (List Int)) (stocks : Nat → (List Int)) (n_ : Nat) {res_ : Option (((List Int) × Bool) × Unit)} (hstep_ : ∀ j_, j_ < n_ → ∀ kx_, spec_EmptyPeriods_B1 N kx_ (t j_) (out j_) (stocks j_) = kx_ (t (j_ + 1)) (out (j_ + 1)) (stocks (j_ + 1))) (hend_ : ∀ kx_, spec_EmptyPeriods_B1 N kx_ (t n_) (out n_) (stocks n_) = res_) (fu_ : Nat) (hm_ : n_ < fu_) : spec_EmptyPeriods_L1 N fu_ (t 0) (out 0) (stocks 0) = res_ := by
  exact loop_run (L := fun fu_ (x_ : Int × (List Int) × (List Int)) => spec_EmptyPeriods_L1 N fu_ x_.1 x_.2.1 x_.2.2) (B := fun kx_ x_ => spec_EmptyPeriods_B1 N (fun t out stocks => kx_ (t, out, stocks)) x_.1 x_.2.1 x_.2.2) (fun _ _ => rfl) (fun j_ => (t j_, out j_, stocks j_)) n_ (fun j_ hi_ kx_ => hstep_ j_ hi_ _) (fun kx_ => hend_ _) fu_ hm_
def spec_EmptyPeriods (N : Nat) (c : (List Int) × (List Int) × (List Int) × (List Int)) (plan : List Int) : Option (((List Int) × Bool) × Unit) :=
  (spec_l2Two N c plan).bind fun r =>
  bif !r.1 then
    some (([], false), ())
  else
    (spec_l2Stocks N c plan).bind fun r1 =>
    spec_EmptyPeriods_L1 N N 0 [] r1.1
def impl_OrderPeriods_K1 (N : Nat) (out1 : List Int) : Option (((List Int) × Bool) × Unit) :=
  some ((out1, true), ())
def impl_OrderPeriods_B1 (N : Nat) (kx : (List Int) → Int → Int → (List Int) → Option (((List Int) × Bool) × Unit)) (v20 : List Int) (v21 : Int) (v22 : Int) (out : List Int) : Option (((List Int) × Bool) × Unit) :=
  bif ilt v22 v21 then
    chk (inB v22 v20.length) <|
    bif ilt 0 (gd v20 v22.toNat 0) then
      chk (fitB (out.length + 1) 8) <|
      kx v20 v21 (iadd .i64 v22 1) (out ++ [v22])
    else
      kx v20 v21 (iadd .i64 v22 1) out
  else
    impl_OrderPeriods_K1 N out
def impl_OrderPeriods_L1 (N fu_ : Nat) (v20 : List Int) (v21 : Int) (v22 : Int) (out : List Int) : Option (((List Int) × Bool) × Unit) :=
  iterK fu_ (fun kx (v_ : ((List Int) × Int × Int × Unit) × ((List Int) × Unit)) => impl_OrderPeriods_B1 N (fun v20 v21 v22 out => kx ((v20, v21, v22, ()), (out, ()))) v_.1.1 v_.1.2.1 v_.1.2.2.1 v_.2.1) ((v20, v21, v22, ()), (out, ()))
theorem impl_OrderPeriods_L1_succ (N fu_ : Nat) (v20 : List Int) (v21 : Int) (v22 : Int) (out : List Int) : impl_OrderPeriods_L1 N (fu_ + 1) v20 v21 v22 out = impl_OrderPeriods_B1 N (fun v20 v21 v22 out => impl_OrderPeriods_L1 N fu_ v20 v21 v22 out) v20 v21 v22 out := rfl
theorem impl_OrderPeriods_L1_run (N : Nat) (v20 : Nat → (List Int)) (v21 : Nat → Int) (v22 : Nat → Int) (out : Nat → (List Int)) (n_ : Nat) {res_ : Option (((List Int) × Bool) × Unit)} (hstep_ : ∀ j_, j_ < n_ → ∀ kx_, impl_OrderPeriods_B1 N kx_ (v20 j_) (v21 j_) (v22 j_) (out j_) = kx_ (v20 (j_ + 1)) (v21 (j_ + 1)) (v22 (j_ + 1)) (out (j_ + 1))) (hend_ : ∀ kx_, impl_OrderPeriods_B1 N kx_ (v20 n_) (v21 n_) (v22 n_) (out n_) = res_) (fu_ : Nat) (hm_ : n_ < fu_) : impl_OrderPeriods_L1 N fu_ (v20 0) (v21 0) (v22 0) (out 0) = res_ := by
  exact loop_run (L := fun fu_ (x_ : (List Int) × Int × Int × (List Int)) => impl_OrderPeriods_L1 N fu_ x_.1 x_.2.1 x_.2.2.1 x_.2.2.2) (B := fun kx_ x_ => impl_OrderPeriods_B1 N (fun v20 v21 v22 out => kx_ (v20, v21, v22, out)) x_.1 x_.2.1 x_.2.2.1 x_.2.2.2) (fun _ _ => rfl) (fun j_ => (v20 j_, v21 j_, v22 j_, out j_)) n_ (fun j_ hi_ kx_ => hstep_ j_ hi_ _) (fun kx_ => hend_ _) fu_ hm_
def impl_OrderPeriods (N : Nat) (c : (List Int) × (List Int) × (List Int) × (List Int)) (plan : List Int) : Option (((List Int) × Bool) × Unit) :=
  (impl_planned N c plan).bind fun r =>
  bif !r.1.2 then
    some (([], false), ())
  else
    impl_OrderPeriods_L1 N N plan (len plan) 0 []
def spec_OrderPeriods_K1 (N : Nat) (out1 : List Int) : Option (((List Int) × Bool) × Unit) :=
  some ((out1, true), ())
def spec_OrderPeriods_B1 (N : Nat) (kx : (List Int) → Int → (List Int) → Option (((List Int) × Bool) × Unit)) (plan1 : List Int) (t : Int) (out : List Int) : Option (((List Int) × Bool) × Unit) :=
  bif ilt t (len plan1) then
    chk (inB t plan1.length) <|
    bif ilt 0 (gd plan1 t.toNat 0) then
      chk (fitB (out.length + 1) 8) <|
      kx plan1 (iadd .i64 t 1) (out ++ [t])
    else
      kx plan1 (iadd .i64 t 1) out
  else
    spec_OrderPeriods_K1 N out
def spec_OrderPeriods_L1 (N fu_ : Nat) (plan1 : List Int) (t : Int) (out : List Int) : Option (((List Int) × Bool) × Unit) :=
  iterK fu_ (fun kx (v_ : ((List Int) × Int × Unit) × ((List Int) × Unit)) => spec_OrderPeriods_B1 N (fun plan1 t out => kx ((plan1, t, ()), (out, ()))) v_.1.1 v_.1.2.1 v_.2.1) ((plan1, t, ()), (out, ()))
theorem spec_OrderPeriods_L1_succ (N fu_ : Nat) (plan1 : List Int) (t : Int) (out : List Int) : spec_OrderPeriods_L1 N (fu_ + 1) plan1 t out = spec_OrderPeriods_B1 N (fun plan1 t out => spec_OrderPeriods_L1 N fu_ plan1 t out) plan1 t out := rfl
theorem spec_OrderPeriods_L1_run (N : Nat) (plan1 : Nat → (List Int)) (t : Nat → Int) (out : Nat → (List Int)) (n_ : Nat) {res_ : Option (((List Int) × Bool) × Unit)} (hstep_ : ∀ j_, j_ < n_ → ∀ kx_, spec_OrderPeriods_B1 N kx_ (plan1 j_) (t j_) (out j_) = kx_ (plan1 (j_ + 1)) (t (j_ + 1)) (out (j_ + 1))) (hend_ : ∀ kx_, spec_OrderPeriods_B1 N kx_ (plan1 n_) (t n_) (out n_) = res_) (fu_ : Nat) (hm_ : n_ < fu_) : spec_OrderPeriods_L1 N fu_ (plan1 0) (t 0) (out 0) = res_ := by
  exact loop_run (L := fun fu_ (x_ : (List Int) × Int × (List Int)) => spec_OrderPeriods_L1 N fu_ x_.1 x_.2.1 x_.2.2) (B := fun kx_ x_ => spec_OrderPeriods_B1 N (fun plan1 t out => kx_ (plan1, t, out)) x_.1 x_.2.1 x_.2.2) (fun _ _ => rfl) (fun j_ => (plan1 j_, t j_, out j_)) n_ (fun j_ hi_ kx_ => hstep_ j_ hi_ _) (fun kx_ => hend_ _) fu_ hm_
def spec_OrderPeriods (N : Nat) (c : (List Int) × (List Int) × (List Int) × (List Int)) (plan : List Int) : Option (((List Int) × Bool) × Unit) :=
  (spec_l2Two N c plan).bind fun r =>
  bif !r.1 then
    some (([], false), ())
  else
    spec_OrderPeriods_L1 N N plan 0 []
def laws_rHas_K1 (N : Nat) : Option (Bool × Unit) :=
  some (false, ())
def laws_rHas_B1 (N : Nat) (kx : (List Int) → Int → Int → Option (Bool × Unit)) (list1 : List Int) (x1 : Int) (i : Int) : Option (Bool × Unit) :=
  bif ilt i (len list1) then
    chk (inB i list1.length) <|
    bif ieq (gd list1 i.toNat 0) x1 then
      some (true, ())
    else
      kx list1 x1 (iadd .i64 i 1)
  else
    laws_rHas_K1 N
def laws_rHas_L1 (N fu_ : Nat) (list1 : List Int) (x1 : Int) (i : Int) : Option (Bool × Unit) :=
  iterK fu_ (fun kx (v_ : ((List Int) × Int × Int × Unit) × (Unit)) => laws_rHas_B1 N (fun list1 x1 i => kx ((list1, x1, i, ()), ())) v_.1.1 v_.1.2.1 v_.1.2.2.1) ((list1, x1, i, ()), ())
theorem laws_rHas_L1_succ (N fu_ : Nat) (list1 : List Int) (x1 : Int) (i : Int) : laws_rHas_L1 N (fu_ + 1) list1 x1 i = laws_rHas_B1 N (fun list1 x1 i => laws_rHas_L1 N fu_ list1 x1 i) list1 x1 i := rfl
theorem laws_rHas_L1_run (N : Nat) (list1 : Nat → (List Int)) (x1 : Nat → Int) (i : Nat → Int) (n_ : Nat) {res_ : Option (Bool × Unit)} (hstep_ : ∀ j_, j_ < n_ → ∀ kx_, laws_rHas_B1 N kx_ (list1 j_) (x1 j_) (i j_) = kx_ (list1 (j_ + 1)) (x1 (j_ + 1)) (i (j_ + 1))) (hend_ : ∀ kx_, laws_rHas_B1 N kx_ (list1 n_) (x1 n_) (i n_) = res_) (fu_ : Nat) (hm_ : n_ < fu_) : laws_rHas_L1 N fu_ (list1 0) (x1 0) (i 0) = res_ := by
  exact loop_run (L := fun fu_ (x_ : (List Int) × Int × Int) => laws_rHas_L1 N fu_ x_.1 x_.2.1 x_.2.2) (B := fun kx_ x_ => laws_rHas_B1 N (fun list1 x1 i => kx_ (list1, x1, i)) x_.1 x_.2.1 x_.2.2) (fun _ _ => rfl) (fun j_ => (list1 j_, x1 j_, i j_)) n_ (fun j_ hi_ kx_ => hstep_ j_ hi_ _) (fun kx_ => hend_ _) fu_ hm_
def laws_rHas (N : Nat) (list : List Int) (x : Int) : Option (Bool × Unit) :=
  laws_rHas_L1 N N list x 0
def laws_FnPlans_K1 (N : Nat) (v331 : Int) : Option (Bool × Unit) :=
  some (ieq v331 0, ())
def laws_FnPlans_B1 (N : Nat) (kx : Int → Int → ((List Int) × (List Int) × (List Int) × (List Int)) → (((List Int) × (List Int) × (List Int) × (List Int)) × (List Int)) → ((List Int) × Bool) → ((List Int) × Bool) → ((List Int) × Bool) → Option (Bool × Unit)) (v33 : Int) (v34 : Int) (v31 : (List Int) × (List Int) × (List Int) × (List Int)) (b391 : ((List Int) × (List Int) × (List Int) × (List Int)) × (List Int)) (b99 : (List Int) × Bool) (b173 : (List Int) × Bool) (b199 : (List Int) × Bool) : Option (Bool × Unit) :=
  bif ilt v34 (len b391.2) then
    chk (inB v34 b391.2.length) <|
    chk (inB v34 v31.1.length) <|
    chk (inB v34 b99.1.length) <|
    bif ine (gd b99.1 v34.toNat 0) (isub .i64 (iadd .i64 v33 (gd b391.2 v34.toNat 0)) (gd v31.1 v34.toNat 0)) then
      some (false, ())
    else
      bif ilt (isub .i64 (iadd .i64 v33 (gd b391.2 v34.toNat 0)) (gd v31.1 v34.toNat 0)) 0 then
        some (false, ())
      else
        (laws_rHas N b173.1 v34).bind fun r18 =>
        bif !(Go.Rx.beq r18.1 (ieq (isub .i64 (iadd .i64 v33 (gd b391.2 v34.toNat 0)) (gd v31.1 v34.toNat 0)) 0)) then
          some (false, ())
        else
          (laws_rHas N b199.1 v34).bind fun r19 =>
          chk (inB v34 b391.2.length) <|
          bif !(Go.Rx.beq r19.1 (ilt 0 (gd b391.2 v34.toNat 0))) then
            some (false, ())
          else
            kx (isub .i64 (iadd .i64 v33 (gd b391.2 v34.toNat 0)) (gd v31.1 v34.toNat 0)) (iadd .i64 v34 1) v31 b391 b99 b173 b199
  else
    laws_FnPlans_K1 N v33
def laws_FnPlans_L1 (N fu_ : Nat) (v33 : Int) (v34 : Int) (v31 : (List Int) × (List Int) × (List Int) × (List Int)) (b391 : ((List Int) × (List Int) × (List Int) × (List Int)) × (List Int)) (b99 : (List Int) × Bool) (b173 : (List Int) × Bool) (b199 : (List Int) × Bool) : Option (Bool × Unit) :=
  iterK fu_ (fun kx (v_ : (Int × Int × Unit) × (((List Int) × (List Int) × (List Int) × (List Int)) × (((List Int) × (List Int) × (List Int) × (List Int)) × (List Int)) × ((List Int) × Bool) × ((List Int) × Bool) × ((List Int) × Bool) × Unit)) => laws_FnPlans_B1 N (fun v33 v34 v31 b391 b99 b173 b199 => kx ((v33, v34, ()), (v31, b391, b99, b173, b199, ()))) v_.1.1 v_.1.2.1 v_.2.1 v_.2.2.1 v_.2.2.2.1 v_.2.2.2.2.1 v_.2.2.2.2.2.1) ((v33, v34, ()), (v31, b391, b99, b173, b199, ()))
theorem laws_FnPlans_L1_succ (N fu_ : Nat) (v33 : Int) (v34 : Int) (v31 : (List Int) × (List Int) × (List Int) × (List Int)) (b391 : ((List Int) × (List Int) × (List Int) × (List Int)) × (List Int)) (b99 : (List Int) × Bool) (b173 : (List Int) × Bool) (b199 : (List Int) × Bool) : laws_FnPlans_L1 N (fu_ + 1) v33 v34 v31 b391 b99 b173 b199 = laws_FnPlans_B1 N (fun v33 v34 v31 b391 b99 b173 b199 => laws_FnPlans_L1 N fu_ v33 v34 v31 b391 b99 b173 b199) v33 v34 v31 b391 b99 b173 b199 := rfl
theorem laws_FnPlans_L1_run (N : Nat) (v33 : Nat → Int) (v34 : Nat → Int) (v31 : Nat → ((List Int) × (List Int) × (List Int) × (List Int))) (b391 : Nat → (((List Int) × (List Int) × (List Int) × (List Int)) × (List Int))) (b99 : Nat → ((List Int) × Bool)) (b173 : Nat → ((List Int) × Bool)) (b199 : Nat → ((List Int) × Bool)) (n_ : Nat) {res_ : Option (Bool × Unit)} (hstep_ : ∀ j_, j_ < n_ → ∀ kx_, laws_FnPlans_B1 N kx_ (v33 j_) (v34 j_) (v31 j_) (b391 j_) (b99 j_) (b173 j_) (b199 j_) = kx_ (v33 (j_ + 1)) (v34 (j_ + 1)) (v31 (j_ + 1)) (b391 (j_ + 1)) (b99 (j_ + 1)) (b173 (j_ + 1)) (b199 (j_ + 1))) (hend_ : ∀ kx_, laws_FnPlans_B1 N kx_ (v33 n_) (v34 n_) (v31 n_) (b391 n_) (b99 n_) (b173 n_) (b199 n_) = res_) (fu_ : Nat) (hm_ : n_ < fu_) : laws_FnPlans_L1 N fu_ (v33 0) (v34 0) (v31 0) (b391 0) (b99 0) (b173 0) (b199 0) = res_ := by
  exact loop_run (L := fun fu_ (x_ : Int × Int × ((List Int) × (List Int) × (List Int) × (List Int)) × (((List Int) × (List Int) × (List Int) × (List Int)) × (List Int)) × ((List Int) × Bool) × ((List Int) × Bool) × ((List Int) × Bool)) => laws_FnPlans_L1 N fu_ x_.1 x_.2.1 x_.2.2.1 x_.2.2.2.1 x_.2.2.2.2.1 x_.2.2.2.2.2.1 x_.2.2.2.2.2.2) (B := fun kx_ x_ => laws_FnPlans_B1 N (fun v33 v34 v31 b391 b99 b173 b199 => kx_ (v33, v34, v31, b391, b99, b173, b199)) x_.1 x_.2.1 x_.2.2.1 x_.2.2.2.1 x_.2.2.2.2.1 x_.2.2.2.2.2.1 x_.2.2.2.2.2.2) (fun _ _ => rfl) (fun j_ => (v33 j_, v34 j_, v31 j_, b391 j_, b99 j_, b173 j_, b199 j_)) n_ (fun j_ hi_ kx_ => hstep_ j_ hi_ _) (fun kx_ => hend_ _) fu_ hm_
def laws_FnPlans_K2 (N : Nat) (v5 : Int) (v6 : Bool) (v95 : Bool) (v3 : (List Int) × (List Int) × (List Int) × (List Int)) (b39 : ((List Int) × (List Int) × (List Int) × (List Int)) × (List Int)) : Option (Bool × Unit) :=
  bif v95 then
    some (false, ())
  else
    (impl_StocksOf N v3 b39.2).bind fun r7 =>
    (spec_StocksOf N v3 b39.2).bind fun r8 =>
    bif !(Go.Rx.beq r7.1.2 r8.1.2) then
      some (false, ())
    else
      bif !(Go.Rx.beq r7.1.2 v6) then
        some (false, ())
      else
        (laws_rInts N r7.1.1 r8.1.1).bind fun r9 =>
        bif !r9.1 then
          some (false, ())
        else
          (impl_CostParts N v3 b39.2).bind fun r10 =>
          (spec_CostParts N v3 b39.2).bind fun r11 =>
          bif !(Go.Rx.beq r10.1.2.2.2 r11.1.2.2.2) then
            some (false, ())
          else
            bif !(Go.Rx.beq r10.1.2.2.2 v6) then
              some (false, ())
            else
              bif ine r10.1.1 r11.1.1 then
                some (false, ())
              else
                bif ine r10.1.2.1 r11.1.2.1 then
                  some (false, ())
                else
                  bif ine r10.1.2.2.1 r11.1.2.2.1 then
                    some (false, ())
                  else
                    bif ine (iadd .i64 (iadd .i64 r10.1.1 r10.1.2.1) r10.1.2.2.1) v5 then
                      some (false, ())
                    else
                      (impl_EmptyPeriods N v3 b39.2).bind fun r12 =>
                      (spec_EmptyPeriods N v3 b39.2).bind fun r13 =>
                      bif !(Go.Rx.beq r12.1.2 r13.1.2) then
                        some (false, ())
                      else
                        bif !(Go.Rx.beq r12.1.2 v6) then
                          some (false, ())
                        else
                          (laws_rInts N r12.1.1 r13.1.1).bind fun r14 =>
                          bif !r14.1 then
                            some (false, ())
                          else
                            (impl_OrderPeriods N v3 b39.2).bind fun r15 =>
                            (spec_OrderPeriods N v3 b39.2).bind fun r16 =>
                            bif !(Go.Rx.beq r15.1.2 r16.1.2) then
                              some (false, ())
                            else
                              bif !(Go.Rx.beq r15.1.2 v6) then
                                some (false, ())
                              else
                                (laws_rInts N r15.1.1 r16.1.1).bind fun r17 =>
                                bif !r17.1 then
                                  some (false, ())
                                else
                                  bif !v6 then
                                    some (true, ())
                                  else
                                    laws_FnPlans_L1 N N 0 0 v3 b39 r7.1 r12.1 r15.1
def laws_FnPlans (N : Nat) (app : List Int) : Option (Bool × Unit) :=
  (laws_rBig N app).bind fun r =>
  bif r.1 then
    some (true, ())
  else
    (spec_DrawPlanCost N app).bind fun r1 =>
    (impl_PlanCost N r1.1.1 r1.1.2).bind fun r2 =>
    (spec_PlanCost N r1.1.1 r1.1.2).bind fun r3 =>
    bif ine r2.1.1 r3.1.1 then
      some (false, ())
    else
      bif !(Go.Rx.beq r2.1.2 r3.1.2) then
        some (false, ())
      else
        (impl_IsPlan N r1.1.1 r1.1.2).bind fun r4 =>
        (spec_IsPlan N r1.1.1 r1.1.2).bind fun r5 =>
        bif !(Go.Rx.beq r4.1.1 r5.1.1) then
          laws_FnPlans_K2 N r2.1.1 r2.1.2 true r1.1.1 r1.1
        else
          bif !(Go.Rx.beq r4.1.2 r5.1.2) then
            laws_FnPlans_K2 N r2.1.1 r2.1.2 true r1.1.1 r1.1
          else
            (impl_IsCase N r1.1.1).bind fun r6 =>
            bif !(Go.Rx.beq r4.1.2 r6.1) then
              laws_FnPlans_K2 N r2.1.1 r2.1.2 true r1.1.1 r1.1
            else
              bif r4.1.2 then
                laws_FnPlans_K2 N r2.1.1 r2.1.2 (!(Go.Rx.beq r2.1.2 r4.1.1)) r1.1.1 r1.1
              else
                laws_FnPlans_K2 N r2.1.1 r2.1.2 (!(Go.Rx.beq r2.1.2 false)) r1.1.1 r1.1
end Px
end Go.Rx
