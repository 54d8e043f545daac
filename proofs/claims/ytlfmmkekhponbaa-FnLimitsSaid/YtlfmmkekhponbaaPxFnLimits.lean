/- This text defines the plain functions that the Go functions behind FnLimits compute; no condition. -/
import Derived.Test.YtlfmmkekhponbaaRxe
set_option linter.unusedVariables false
set_option linter.unusedSimpArgs false
set_option linter.defProp false
namespace Go.Rx
namespace Px
def laws_rBig (N : Nat) (code : List Int) : Option (Bool × Unit) :=
  some (ilt 65536 (len code), ())
def spec_l1Least (N : Nat) (a : Int) (b : Int) : Option (Int × Unit) :=
  bif ilt a b then
    some (a, ())
  else
    some (b, ())
def pspec_l1Cur_next_K1 (N : Nat) (b : Int) (c1 : (List Int) × Int × Int) : Option (Int × ((List Int) × Int × Int)) :=
  bif ile (iadd .i64 c1.2.1 1) (len c1.1) then
    some (b, (c1.1, (iadd .i64 c1.2.1 1, iadd .u64 (iadd .u64 (imul .u64 c1.2.2 6364136223846793005) (icv .u64 b)) 462197)))
  else
    chk (ile 0 40) <|
    some (icv .i64 (iand .u64 (ishr .u64 (iadd .u64 (iadd .u64 (imul .u64 c1.2.2 6364136223846793005) (icv .u64 b)) 462197) 40) 255), (c1.1, (iadd .i64 c1.2.1 1, iadd .u64 (iadd .u64 (imul .u64 c1.2.2 6364136223846793005) (icv .u64 b)) 462197)))
def pspec_l1Cur_next (N : Nat) (c : (List Int) × Int × Int) : Option (Int × ((List Int) × Int × Int)) :=
  bif ilt c.2.1 (len c.1) then
    chk (inB c.2.1 c.1.length) <|
    pspec_l1Cur_next_K1 N (icv .i64 (gd c.1 c.2.1.toNat 0)) c
  else
    pspec_l1Cur_next_K1 N 0 c
def pspec_l1Cur_pick (N : Nat) (c : (List Int) × Int × Int) (n : Int) : Option (Int × ((List Int) × Int × Int)) :=
  bif ile n 1 then
    some (0, c)
  else
    (pspec_l1Cur_next N c).bind fun r =>
    bif ilt 200 n then
      (pspec_l1Cur_next N r.2).bind fun r1 =>
      chk (ine n 0) <|
      some (irem (iadd .i64 (imul .i64 r.1 256) r1.1) n, r1.2)
    else
      chk (ine n 0) <|
      some (irem r.1 n, r.2)
def pspec_l1Cur_one (N : Nat) (c : (List Int) × Int × Int) (n : Int) : Option (Bool × ((List Int) × Int × Int)) :=
  (pspec_l1Cur_pick N c n).bind fun r =>
  some (ieq r.1 0, r.2)
def pspec_l1Cur_among (N : Nat) (c : (List Int) × Int × Int) (list : List Int) : Option (Int × ((List Int) × Int × Int)) :=
  (pspec_l1Cur_pick N c (len list)).bind fun r =>
  chk (inB r.1 list.length) <|
  some (gd list r.1.toNat 0, r.2)
def pspec_l1Cur_someLots_K1 (N : Nat) (kx1 : Int → Bool → Int → Int → Int → Int → ((List Int) × Int × Int) → ((List Int) × (List Int) × (List Int) × (List Int)) → ((List Int) × (List Int) × (List Int) × (List Int)) → Option (((List Int) × (List Int) × (List Int) × (List Int)) × ((List Int) × Int × Int))) (n1 : Int) (same1 : Bool) (setup1 : Int) (unit1 : Int) (hold1 : Int) (t1 : Int) (c2 : (List Int) × Int × Int) (v41 : (List Int) × (List Int) × (List Int) × (List Int)) (kx2 : (List Int) × (List Int) × (List Int) × (List Int)) : Option (((List Int) × (List Int) × (List Int) × (List Int)) × ((List Int) × Int × Int)) :=
  (pspec_l1Cur_among N c2 [0, 1, 2, 3, 5, 8]).bind fun r9 =>
  chk (fitB (kx2.1.length + 1) 8) <|
  chk (fitB (kx2.2.1.length + 1) 8) <|
  chk (fitB (kx2.2.2.1.length + 1) 8) <|
  chk (fitB (kx2.2.2.2.length + 1) 8) <|
  kx1 n1 same1 setup1 unit1 hold1 (iadd .i64 t1 1) r9.2 v41 (kx2.1 ++ [r9.1], (kx2.2.1 ++ [setup1], (kx2.2.2.1 ++ [unit1], kx2.2.2.2 ++ [hold1])))
def pspec_l1Cur_someLots_K2 (N : Nat) (c5 : (List Int) × Int × Int) (v44 : (List Int) × (List Int) × (List Int) × (List Int)) (kx6 : (List Int) × (List Int) × (List Int) × (List Int)) : Option (((List Int) × (List Int) × (List Int) × (List Int)) × ((List Int) × Int × Int)) :=
  some (kx6, c5)
def pspec_l1Cur_someLots_B1 (N : Nat) (kx5 : ((List Int) × Int × Int) → ((List Int) × (List Int) × (List Int) × (List Int)) → ((List Int) × (List Int) × (List Int) × (List Int)) → Option (((List Int) × (List Int) × (List Int) × (List Int)) × ((List Int) × Int × Int))) (c4 : (List Int) × Int × Int) (v43 : (List Int) × (List Int) × (List Int) × (List Int)) (kx4 : (List Int) × (List Int) × (List Int) × (List Int)) : Option (((List Int) × (List Int) × (List Int) × (List Int)) × ((List Int) × Int × Int)) :=
  bif ilt (len kx4.1) 9 then
    chk (fitB (kx4.1.length + 1) 8) <|
    chk (fitB (kx4.2.1.length + 1) 8) <|
    chk (fitB (kx4.2.2.1.length + 1) 8) <|
    chk (fitB (kx4.2.2.2.length + 1) 8) <|
    kx5 c4 v43 (kx4.1 ++ [1], (kx4.2.1 ++ [1], (kx4.2.2.1 ++ [1], kx4.2.2.2 ++ [1])))
  else
    pspec_l1Cur_someLots_K2 N c4 v43 kx4
def pspec_l1Cur_someLots_L1 (N fu_ : Nat) := it_0_3 (pspec_l1Cur_someLots_B1 N) fu_
theorem pspec_l1Cur_someLots_L1_succ (N fu_ : Nat) (c4 : (List Int) × Int × Int) (v43 : (List Int) × (List Int) × (List Int) × (List Int)) (kx4 : (List Int) × (List Int) × (List Int) × (List Int)) : pspec_l1Cur_someLots_L1 N (fu_ + 1) c4 v43 kx4 = pspec_l1Cur_someLots_B1 N (fun c4 v43 kx4 => pspec_l1Cur_someLots_L1 N fu_ c4 v43 kx4) c4 v43 kx4 := rfl
def pspec_l1Cur_someLots_K3 (N : Nat) (n2 : Int) (c3 : (List Int) × Int × Int) (v42 : (List Int) × (List Int) × (List Int) × (List Int)) (kx3 : (List Int) × (List Int) × (List Int) × (List Int)) : Option (((List Int) × (List Int) × (List Int) × (List Int)) × ((List Int) × Int × Int)) :=
  bif ilt 0 n2 then
    (pspec_l1Cur_pick N c3 n2).bind fun r10 =>
    (pspec_l1Cur_pick N r10.2 60).bind fun r11 =>
    bif ieq r11.1 0 then
      (pspec_l1Cur_among N r11.2 [(-1), 20, 21, 4611686018427387904]).bind fun r12 =>
      chk (inB r10.1 kx3.1.length) <|
      some ((List.set kx3.1 r10.1.toNat r12.1, kx3.2), r12.2)
    else
      bif ieq r11.1 1 then
        (pspec_l1Cur_among N r11.2 [(-1), 99, 100]).bind fun r13 =>
        chk (inB r10.1 kx3.2.1.length) <|
        some ((kx3.1, (List.set kx3.2.1 r10.1.toNat r13.1, kx3.2.2)), r13.2)
      else
        bif ieq r11.1 2 then
          (pspec_l1Cur_among N r11.2 [(-1), 9, 10]).bind fun r14 =>
          chk (inB r10.1 kx3.2.2.1.length) <|
          some ((kx3.1, (kx3.2.1, (List.set kx3.2.2.1 r10.1.toNat r14.1, kx3.2.2.2))), r14.2)
        else
          bif ieq r11.1 3 then
            (pspec_l1Cur_among N r11.2 [(-1), 9, 10]).bind fun r15 =>
            chk (inB r10.1 kx3.2.2.2.length) <|
            some ((kx3.1, (kx3.2.1, (kx3.2.2.1, List.set kx3.2.2.2 r10.1.toNat r15.1))), r15.2)
          else
            bif ieq r11.1 4 then
              chk (fitB (kx3.2.2.1.length + 1) 8) <|
              some ((kx3.1, (kx3.2.1, (kx3.2.2.1 ++ [1], kx3.2.2.2))), r11.2)
            else
              bif ieq r11.1 5 then
                pspec_l1Cur_someLots_L1 N N r11.2 v42 kx3
              else
                some (kx3, r11.2)
  else
    some (kx3, c3)
def pspec_l1Cur_someLots_B2 (N : Nat) (kx1 : Int → Bool → Int → Int → Int → Int → ((List Int) × Int × Int) → ((List Int) × (List Int) × (List Int) × (List Int)) → ((List Int) × (List Int) × (List Int) × (List Int)) → Option (((List Int) × (List Int) × (List Int) × (List Int)) × ((List Int) × Int × Int))) (n : Int) (same : Bool) (setup : Int) (unit : Int) (hold : Int) (t : Int) (c1 : (List Int) × Int × Int) (v4 : (List Int) × (List Int) × (List Int) × (List Int)) (kx : (List Int) × (List Int) × (List Int) × (List Int)) : Option (((List Int) × (List Int) × (List Int) × (List Int)) × ((List Int) × Int × Int)) :=
  bif ilt t n then
    bif !same then
      (pspec_l1Cur_among N c1 [0, 2, 5, 9, 14, 30]).bind fun r6 =>
      (pspec_l1Cur_pick N r6.2 5).bind fun r7 =>
      (pspec_l1Cur_pick N r7.2 4).bind fun r8 =>
      pspec_l1Cur_someLots_K1 N kx1 n same r6.1 r7.1 r8.1 t r8.2 v4 kx
    else
      pspec_l1Cur_someLots_K1 N kx1 n same setup unit hold t c1 v4 kx
  else
    pspec_l1Cur_someLots_K3 N n c1 v4 kx
def pspec_l1Cur_someLots_L2 (N fu_ : Nat) := it_6_3 (pspec_l1Cur_someLots_B2 N) fu_
theorem pspec_l1Cur_someLots_L2_succ (N fu_ : Nat) (n : Int) (same : Bool) (setup : Int) (unit : Int) (hold : Int) (t : Int) (c1 : (List Int) × Int × Int) (v4 : (List Int) × (List Int) × (List Int) × (List Int)) (kx : (List Int) × (List Int) × (List Int) × (List Int)) : pspec_l1Cur_someLots_L2 N (fu_ + 1) n same setup unit hold t c1 v4 kx = pspec_l1Cur_someLots_B2 N (fun n same setup unit hold t c1 v4 kx => pspec_l1Cur_someLots_L2 N fu_ n same setup unit hold t c1 v4 kx) n same setup unit hold t c1 v4 kx := rfl
def pspec_l1Cur_someLots (N : Nat) (c : (List Int) × Int × Int) (most : Int) : Option (((List Int) × (List Int) × (List Int) × (List Int)) × ((List Int) × Int × Int)) :=
  (pspec_l1Cur_among N c [4, 5, 3, 6, 8, 2, 1, 0]).bind fun r =>
  (spec_l1Least N r.1 most).bind fun r1 =>
  (pspec_l1Cur_one N r.2 2).bind fun r2 =>
  (pspec_l1Cur_among N r2.2 [0, 3, 5, 8, 12, 20]).bind fun r3 =>
  (pspec_l1Cur_pick N r3.2 3).bind fun r4 =>
  (pspec_l1Cur_pick N r4.2 2).bind fun r5 =>
  pspec_l1Cur_someLots_L2 N N r1.1 r2.1 r3.1 r4.1 (iadd .i64 1 r5.1) 0 r5.2 ([], ([], ([], []))) ([], ([], ([], [])))
def pspec_l1Cur_lots (N : Nat) (c : (List Int) × Int × Int) : Option (((List Int) × (List Int) × (List Int) × (List Int)) × ((List Int) × Int × Int)) :=
  (pspec_l1Cur_someLots N c 8).bind fun r =>
  some (r.1, r.2)
def pspec_l1Cur_limits_K1 (N : Nat) (kx2 : Int → Int → Int → ((List Int) × Int × Int) → ((List Int) × (List Int) × (List Int) × (List Int)) → (List Int) → Option ((List Int) × ((List Int) × Int × Int))) (left1 : Int) (same1 : Int) (t1 : Int) (x : Int) (c2 : (List Int) × Int × Int) (kx3 : (List Int) × (List Int) × (List Int) × (List Int)) (out1 : List Int) : Option ((List Int) × ((List Int) × Int × Int)) :=
  chk (inB t1 kx3.1.length) <|
  bif ilt (isub .i64 (iadd .i64 left1 x) (gd kx3.1 t1.toNat 0)) 0 then
    (pspec_l1Cur_one N c2 12).bind fun r2 =>
    bif !r2.1 then
      (spec_l1Least N (isub .i64 x (isub .i64 (iadd .i64 left1 x) (gd kx3.1 t1.toNat 0))) 160).bind fun r3 =>
      chk (fitB (out1.length + 1) 8) <|
      kx2 0 same1 (iadd .i64 t1 1) r2.2 kx3 (out1 ++ [r3.1])
    else
      (spec_l1Least N x 160).bind fun r4 =>
      chk (fitB (out1.length + 1) 8) <|
      kx2 (isub .i64 (iadd .i64 left1 x) (gd kx3.1 t1.toNat 0)) same1 (iadd .i64 t1 1) r2.2 kx3 (out1 ++ [r4.1])
  else
    (spec_l1Least N x 160).bind fun r5 =>
    chk (fitB (out1.length + 1) 8) <|
    kx2 (isub .i64 (iadd .i64 left1 x) (gd kx3.1 t1.toNat 0)) same1 (iadd .i64 t1 1) c2 kx3 (out1 ++ [r5.1])
def pspec_l1Cur_limits_K2 (N : Nat) (c5 : (List Int) × Int × Int) (out4 : List Int) : Option ((List Int) × ((List Int) × Int × Int)) :=
  some (out4, c5)
def pspec_l1Cur_limits_B1 (N : Nat) (kx4 : Int → ((List Int) × Int × Int) → (List Int) → Option ((List Int) × ((List Int) × Int × Int))) (t2 : Int) (c4 : (List Int) × Int × Int) (out3 : List Int) : Option ((List Int) × ((List Int) × Int × Int)) :=
  bif ilt t2 (len out3) then
    chk (inB t2 out3.length) <|
    kx4 (iadd .i64 t2 1) c4 (List.set out3 t2.toNat 160)
  else
    pspec_l1Cur_limits_K2 N c4 out3
def pspec_l1Cur_limits_L1 (N fu_ : Nat) := it_1_2 (pspec_l1Cur_limits_B1 N) fu_
theorem pspec_l1Cur_limits_L1_succ (N fu_ : Nat) (t2 : Int) (c4 : (List Int) × Int × Int) (out3 : List Int) : pspec_l1Cur_limits_L1 N (fu_ + 1) t2 c4 out3 = pspec_l1Cur_limits_B1 N (fun t2 c4 out3 => pspec_l1Cur_limits_L1 N fu_ t2 c4 out3) t2 c4 out3 := rfl
def pspec_l1Cur_limits_K3 (N : Nat) (c3 : (List Int) × Int × Int) (out2 : List Int) : Option ((List Int) × ((List Int) × Int × Int)) :=
  (pspec_l1Cur_pick N c3 40).bind fun r6 =>
  bif ieq r6.1 0 then
    chk (fitB (out2.length + 1) 8) <|
    some (out2 ++ [3], r6.2)
  else
    bif ieq r6.1 1 then
      bif ilt 0 (len out2) then
        (pspec_l1Cur_pick N r6.2 (len out2)).bind fun r7 =>
        (pspec_l1Cur_among N r7.2 [(-1), 160, 161, 4611686018427387904]).bind fun r8 =>
        chk (inB r7.1 out2.length) <|
        some (List.set out2 r7.1.toNat r8.1, r8.2)
      else
        some (out2, r6.2)
    else
      bif ieq r6.1 2 then
        pspec_l1Cur_limits_L1 N N 0 r6.2 out2
      else
        some (out2, r6.2)
def pspec_l1Cur_limits_B2 (N : Nat) (kx2 : Int → Int → Int → ((List Int) × Int × Int) → ((List Int) × (List Int) × (List Int) × (List Int)) → (List Int) → Option ((List Int) × ((List Int) × Int × Int))) (left : Int) (same : Int) (t : Int) (c1 : (List Int) × Int × Int) (kx1 : (List Int) × (List Int) × (List Int) × (List Int)) (out : List Int) : Option ((List Int) × ((List Int) × Int × Int)) :=
  bif ilt t (len kx1.1) then
    (pspec_l1Cur_among N c1 [0, 2, 4, 6, 10, 16]).bind fun r1 =>
    bif ilt 0 same then
      pspec_l1Cur_limits_K1 N kx2 left same t same r1.2 kx1 out
    else
      pspec_l1Cur_limits_K1 N kx2 left same t r1.1 r1.2 kx1 out
  else
    pspec_l1Cur_limits_K3 N c1 out
def pspec_l1Cur_limits_L2 (N fu_ : Nat) := it_3_3 (pspec_l1Cur_limits_B2 N) fu_
theorem pspec_l1Cur_limits_L2_succ (N fu_ : Nat) (left : Int) (same : Int) (t : Int) (c1 : (List Int) × Int × Int) (kx1 : (List Int) × (List Int) × (List Int) × (List Int)) (out : List Int) : pspec_l1Cur_limits_L2 N (fu_ + 1) left same t c1 kx1 out = pspec_l1Cur_limits_B2 N (fun left same t c1 kx1 out => pspec_l1Cur_limits_L2 N fu_ left same t c1 kx1 out) left same t c1 kx1 out := rfl
def pspec_l1Cur_limits (N : Nat) (c : (List Int) × Int × Int) (kx : (List Int) × (List Int) × (List Int) × (List Int)) : Option ((List Int) × ((List Int) × Int × Int)) :=
  (pspec_l1Cur_among N c [0, 0, 6, 9]).bind fun r =>
  pspec_l1Cur_limits_L2 N N 0 r.1 0 r.2 kx []
def spec_DrawCanMeet (N : Nat) (code : List Int) : Option ((((List Int) × (List Int) × (List Int) × (List Int)) × (List Int)) × Unit) :=
  (pspec_l1Cur_lots N (code, (0, 0))).bind fun r =>
  (pspec_l1Cur_limits N r.2 r.1).bind fun r1 =>
  some ((r.1, r1.1), ())
def spec_DrawLimitedPlan (N : Nat) (code : List Int) : Option ((((List Int) × (List Int) × (List Int) × (List Int)) × (List Int)) × Unit) :=
  (spec_DrawCanMeet N code).bind fun r =>
  some ((r.1.1, r.1.2), ())
def impl_within (N : Nat) (n : Int) (low : Int) (high : Int) : Option (Bool × Unit) :=
  bif ile low n then
    some (ile n high, ())
  else
    some (false, ())
def impl_allWithin_K1 (N : Nat) : Option (Bool × Unit) :=
  some (true, ())
def impl_allWithin_B1 (N : Nat) (kx : Int → Int → (List Int) → Int → Int → Option (Bool × Unit)) (low1 : Int) (high1 : Int) (v9 : List Int) (v10 : Int) (v11 : Int) : Option (Bool × Unit) :=
  bif ilt v11 v10 then
    chk (inB v11 v9.length) <|
    (impl_within N (gd v9 v11.toNat 0) low1 high1).bind fun r =>
    bif !r.1 then
      some (false, ())
    else
      kx low1 high1 v9 v10 (iadd .i64 v11 1)
  else
    impl_allWithin_K1 N
def impl_allWithin_L1 (N fu_ : Nat) := it_5_0 (impl_allWithin_B1 N) fu_
def impl_allWithin_L1_run (N : Nat) := run5 (impl_allWithin_B1 N) (impl_allWithin_L1 N) (fun _ _ _ _ _ _ => rfl)
def impl_allWithin (N : Nat) (list : List Int) (low : Int) (high : Int) : Option (Bool × Unit) :=
  impl_allWithin_L1 N N low high list (len list) 0
def impl_IsCase (N : Nat) (c : (List Int) × (List Int) × (List Int) × (List Int)) : Option (Bool × Unit) :=
  bif ile (len c.1) 8 then
    bif ieq (len c.2.1) (len c.1) then
      bif ieq (len c.2.2.1) (len c.1) then
        bif ieq (len c.2.2.2) (len c.1) then
          (impl_allWithin N c.1 0 20).bind fun r =>
          bif r.1 then
            (impl_allWithin N c.2.1 0 99).bind fun r1 =>
            bif r1.1 then
              (impl_allWithin N c.2.2.1 0 9).bind fun r2 =>
              bif r2.1 then
                (impl_allWithin N c.2.2.2 0 9).bind fun r3 =>
                some (r3.1, ())
              else
                some (false, ())
            else
              some (false, ())
          else
            some (false, ())
        else
          some (false, ())
      else
        some (false, ())
    else
      some (false, ())
  else
    some (false, ())
def impl_areLimits (N : Nat) (c : (List Int) × (List Int) × (List Int) × (List Int)) (limits : List Int) : Option (Bool × Unit) :=
  (impl_IsCase N c).bind fun r =>
  bif r.1 then
    bif ieq (len limits) (len c.1) then
      (impl_allWithin N limits 0 160).bind fun r1 =>
      some (r1.1, ())
    else
      some (false, ())
  else
    some (false, ())
def impl_total_K1 (N : Nat) (sum1 : Int) : Option (Int × Unit) :=
  some (sum1, ())
def impl_total_B1 (N : Nat) (kx : Int → (List Int) → Int → Int → Option (Int × Unit)) (sum : Int) (v6 : List Int) (v7 : Int) (v8 : Int) : Option (Int × Unit) :=
  bif ilt v8 v7 then
    chk (inB v8 v6.length) <|
    kx (iadd .i64 sum (gd v6 v8.toNat 0)) v6 v7 (iadd .i64 v8 1)
  else
    impl_total_K1 N sum
def impl_total_L1 (N fu_ : Nat) := it_4_0 (impl_total_B1 N) fu_
def impl_total_L1_run (N : Nat) := run4 (impl_total_B1 N) (impl_total_L1 N) (fun _ _ _ _ _ => rfl)
def impl_total (N : Nat) (list : List Int) : Option (Int × Unit) :=
  impl_total_L1 N N 0 list (len list) 0
def impl_Case_firstShort_K1 (N : Nat) : Option ((Int × Int) × Unit) :=
  some (((-1), 0), ())
def impl_Case_firstShort_B1 (N : Nat) (kx : (List Int) → Int → (List Int) → Int → Int → ((List Int) × (List Int) × (List Int) × (List Int)) → Option ((Int × Int) × Unit)) (limits1 : List Int) (sum : Int) (v10 : List Int) (v11 : Int) (v12 : Int) (c1 : (List Int) × (List Int) × (List Int) × (List Int)) : Option ((Int × Int) × Unit) :=
  bif ilt v12 v11 then
    chk (inB v12 v10.length) <|
    chk (inB v12 limits1.length) <|
    chk (cutB 0 (iadd .i64 v12 1) c1.1.length) <|
    (impl_total N (cut c1.1 0 (iadd .i64 v12 1))).bind fun r =>
    chk (cutB 0 (iadd .i64 v12 1) limits1.length) <|
    (impl_total N (cut limits1 0 (iadd .i64 v12 1))).bind fun r1 =>
    bif ilt r1.1 r.1 then
      some ((v12, iadd .i64 sum (isub .i64 (gd v10 v12.toNat 0) (gd limits1 v12.toNat 0))), ())
    else
      kx limits1 (iadd .i64 sum (isub .i64 (gd v10 v12.toNat 0) (gd limits1 v12.toNat 0))) v10 v11 (iadd .i64 v12 1) c1
  else
    impl_Case_firstShort_K1 N
def impl_Case_firstShort_L1 (N fu_ : Nat) := it_5_1 (impl_Case_firstShort_B1 N) fu_
def impl_Case_firstShort_L1_run (N : Nat) := run6 (impl_Case_firstShort_B1 N) (impl_Case_firstShort_L1 N) (fun _ _ _ _ _ _ _ => rfl)
def impl_Case_firstShort (N : Nat) (c : (List Int) × (List Int) × (List Int) × (List Int)) (limits : List Int) : Option ((Int × Int) × Unit) :=
  impl_Case_firstShort_L1 N N limits 0 c.1 (len c.1) 0 c
def impl_CanMeet (N : Nat) (c : (List Int) × (List Int) × (List Int) × (List Int)) (limits : List Int) : Option ((Bool × Bool) × Unit) :=
  (impl_areLimits N c limits).bind fun r =>
  bif !r.1 then
    some ((false, false), ())
  else
    (impl_Case_firstShort N c limits).bind fun r1 =>
    some ((ilt r1.1.1 0, true), ())
def impl_limitedPlan (N : Nat) (c : (List Int) × (List Int) × (List Int) × (List Int)) (limits : List Int) (regular : Bool) : Option (((List Int) × Int × Bool) × Unit) :=
  lmG (impl_CanMeet N) (impl_total N) c limits regular

def impl_LimitedPlan (N : Nat) (c : (List Int) × (List Int) × (List Int) × (List Int)) (limits : List Int) : Option (((List Int) × Bool) × Unit) :=
  (impl_limitedPlan N c limits false).bind fun r =>
  some ((r.1.1, r.1.2.2), ())
def spec_l1In (N : Nat) (x : Int) (a : Int) (b : Int) : Option (Bool × Unit) :=
  bif ile a x then
    some (ile x b, ())
  else
    some (false, ())
def spec_l2Row_K1 (N : Nat) (row2 : List Int) (n2 : Int) : Option (Bool × Unit) :=
  some (ieq (len row2) n2, ())
def spec_l2Row_B1 (N : Nat) (kx : (List Int) → Int → Int → Int → Option (Bool × Unit)) (row1 : List Int) (n1 : Int) (most1 : Int) (i : Int) : Option (Bool × Unit) :=
  bif ilt i (len row1) then
    chk (inB i row1.length) <|
    (spec_l1In N (gd row1 i.toNat 0) 0 most1).bind fun r =>
    bif !r.1 then
      some (false, ())
    else
      kx row1 n1 most1 (iadd .i64 i 1)
  else
    spec_l2Row_K1 N row1 n1
def spec_l2Row_L1 (N fu_ : Nat) := it_4_0 (spec_l2Row_B1 N) fu_
def spec_l2Row_L1_run (N : Nat) := run4 (spec_l2Row_B1 N) (spec_l2Row_L1 N) (fun _ _ _ _ _ => rfl)
def spec_l2Row (N : Nat) (row : List Int) (n : Int) (most : Int) : Option (Bool × Unit) :=
  spec_l2Row_L1 N N row n most 0
def spec_l2Good (N : Nat) (c : (List Int) × (List Int) × (List Int) × (List Int)) : Option (Bool × Unit) :=
  bif ile (len c.1) 8 then
    (spec_l2Row N c.1 (len c.1) 20).bind fun r =>
    bif r.1 then
      (spec_l2Row N c.2.1 (len c.1) 99).bind fun r1 =>
      bif r1.1 then
        (spec_l2Row N c.2.2.1 (len c.1) 9).bind fun r2 =>
        bif r2.1 then
          (spec_l2Row N c.2.2.2 (len c.1) 9).bind fun r3 =>
          some (r3.1, ())
        else
          some (false, ())
      else
        some (false, ())
    else
      some (false, ())
  else
    some (false, ())
def spec_l4Limits (N : Nat) (c : (List Int) × (List Int) × (List Int) × (List Int)) (limits : List Int) : Option (Bool × Unit) :=
  (spec_l2Good N c).bind fun r =>
  bif r.1 then
    (spec_l2Row N limits (len c.1) 160).bind fun r1 =>
    some (r1.1, ())
  else
    some (false, ())
def spec_l4Short_K1 (N : Nat) : Option ((Int × Int) × Unit) :=
  some (((-1), 0), ())
def spec_l4Short_B1 (N : Nat) (kx : (List Int) → Int → Int → ((List Int) × (List Int) × (List Int) × (List Int)) → Option ((Int × Int) × Unit)) (limits1 : List Int) (left : Int) (t : Int) (c1 : (List Int) × (List Int) × (List Int) × (List Int)) : Option ((Int × Int) × Unit) :=
  bif ilt t (len limits1) then
    chk (inB t limits1.length) <|
    chk (inB t c1.1.length) <|
    bif ilt (isub .i64 (iadd .i64 left (gd limits1 t.toNat 0)) (gd c1.1 t.toNat 0)) 0 then
      some ((t, isub .i64 0 (isub .i64 (iadd .i64 left (gd limits1 t.toNat 0)) (gd c1.1 t.toNat 0))), ())
    else
      kx limits1 (isub .i64 (iadd .i64 left (gd limits1 t.toNat 0)) (gd c1.1 t.toNat 0)) (iadd .i64 t 1) c1
  else
    spec_l4Short_K1 N
def spec_l4Short_L1 (N fu_ : Nat) := it_3_1 (spec_l4Short_B1 N) fu_
def spec_l4Short_L1_run (N : Nat) := run4 (spec_l4Short_B1 N) (spec_l4Short_L1 N) (fun _ _ _ _ _ => rfl)
def spec_l4Short (N : Nat) (c : (List Int) × (List Int) × (List Int) × (List Int)) (limits : List Int) : Option ((Int × Int) × Unit) :=
  spec_l4Short_L1 N N limits 0 0 c
def spec_CanMeet (N : Nat) (c : (List Int) × (List Int) × (List Int) × (List Int)) (limits : List Int) : Option ((Bool × Bool) × Unit) :=
  (spec_l4Limits N c limits).bind fun r =>
  bif !r.1 then
    some ((false, false), ())
  else
    (spec_l4Short N c limits).bind fun r1 =>
    some ((ilt r1.1.1 0, true), ())
def spec_l4Can (N : Nat) (c : (List Int) × (List Int) × (List Int) × (List Int)) (limits : List Int) : Option (Bool × Unit) :=
  (spec_CanMeet N c limits).bind fun r =>
  bif r.1.1 then
    some (r.1.2, ())
  else
    some (false, ())
def spec_l1Most (N : Nat) (a : Int) (b : Int) : Option (Int × Unit) :=
  bif ilt b a then
    some (a, ())
  else
    some (b, ())
def spec_l4Step (N : Nat) (c : (List Int) × (List Int) × (List Int) × (List Int)) (t : Int) (amount : Int) (stock : Int) : Option (Int × Unit) :=
  chk (inB t c.2.2.1.length) <|
  chk (inB t c.2.2.2.length) <|
  bif ilt 0 amount then
    chk (inB t c.2.1.length) <|
    some (iadd .i64 (iadd .i64 (imul .i64 (gd c.2.2.1 t.toNat 0) amount) (imul .i64 (gd c.2.2.2 t.toNat 0) stock)) (gd c.2.1 t.toNat 0), ())
  else
    some (iadd .i64 (imul .i64 (gd c.2.2.1 t.toNat 0) amount) (imul .i64 (gd c.2.2.2 t.toNat 0) stock), ())
def spec_l4Traced_K1 (N : Nat) (kx : (List (List Int)) → Int → Int → ((List Int) × (List Int) × (List Int) × (List Int)) → (List Int) → Option ((List Int) × Unit)) (table3 : List (List Int)) (s2 : Int) (t2 : Int) (x1 : Int) (v43 : (List Int) × (List Int) × (List Int) × (List Int)) (v44 : Int) (v45 : Int) (v46 : Int) (v47 : Int) (v48 : Int) (v50 : List Int) (v51 : Int) (v53 : Int) (v54 : Int) (v55 : Int) (v56 : List (List Int)) (v57 : Int) (v58 : Int) (v60 : List Int) (v61 : Int) (v62 : Int) (v63 : Int) (v65 : List Int) (v66 : Int) (v68 : Int) (v69 : Int) (v71 : Int) (v72 : Int) (v73 : List (List Int)) (v74 : Int) (v76 : List Int) (v77 : Int) (v79 : Int) (v80 : Bool) (c3 : (List Int) × (List Int) × (List Int) × (List Int)) (out2 : List Int) : Option ((List Int) × Unit) :=
  chk (fitB (out2.length + 1) 8) <|
  chk (inB t2 c3.1.length) <|
  kx table3 (isub .i64 (iadd .i64 s2 x1) (gd c3.1 t2.toNat 0)) (iadd .i64 t2 1) c3 (out2 ++ [x1])
def spec_l4Traced_B1 (N : Nat) (kx : (List (List Int)) → Int → Int → ((List Int) × (List Int) × (List Int) × (List Int)) → (List Int) → Option ((List Int) × Unit)) (kx1 : (List (List Int)) → Int → Int → Int → ((List Int) × (List Int) × (List Int) × (List Int)) → (List Int) → Option ((List Int) × Unit)) (table2 : List (List Int)) (s1 : Int) (t1 : Int) (x : Int) (c2 : (List Int) × (List Int) × (List Int) × (List Int)) (out1 : List Int) : Option ((List Int) × Unit) :=
  chk (inB (iadd .i64 t1 1) table2.length) <|
  chk (inB t1 c2.1.length) <|
  chk (inB (isub .i64 (iadd .i64 s1 x) (gd c2.1 t1.toNat 0)) (gd table2 (iadd .i64 t1 1).toNat []).length) <|
  bif ilt (gd (gd table2 (iadd .i64 t1 1).toNat []) (isub .i64 (iadd .i64 s1 x) (gd c2.1 t1.toNat 0)).toNat 0) 0 then
    kx1 table2 s1 t1 (iadd .i64 x 1) c2 out1
  else
    chk (inB t1 c2.1.length) <|
    (spec_l4Step N c2 t1 x (isub .i64 (iadd .i64 s1 x) (gd c2.1 t1.toNat 0))).bind fun r1 =>
    chk (inB (iadd .i64 t1 1) table2.length) <|
    chk (inB t1 c2.1.length) <|
    chk (inB (isub .i64 (iadd .i64 s1 x) (gd c2.1 t1.toNat 0)) (gd table2 (iadd .i64 t1 1).toNat []).length) <|
    chk (inB t1 table2.length) <|
    chk (inB s1 (gd table2 t1.toNat []).length) <|
    bif ine (iadd .i64 r1.1 (gd (gd table2 (iadd .i64 t1 1).toNat []) (isub .i64 (iadd .i64 s1 x) (gd c2.1 t1.toNat 0)).toNat 0)) (gd (gd table2 t1.toNat []) s1.toNat 0) then
      kx1 table2 s1 t1 (iadd .i64 x 1) c2 out1
    else
      spec_l4Traced_K1 N kx table2 s1 t1 x c2 t1 x s1 x (iadd .i64 s1 x) c2.1 t1 (gd c2.1 t1.toNat 0) (isub .i64 (iadd .i64 s1 x) (gd c2.1 t1.toNat 0)) r1.1 table2 t1 (iadd .i64 t1 1) (gd table2 (iadd .i64 t1 1).toNat []) s1 x (iadd .i64 s1 x) c2.1 t1 (gd c2.1 t1.toNat 0) (isub .i64 (iadd .i64 s1 x) (gd c2.1 t1.toNat 0)) (gd (gd table2 (iadd .i64 t1 1).toNat []) (isub .i64 (iadd .i64 s1 x) (gd c2.1 t1.toNat 0)).toNat 0) (iadd .i64 r1.1 (gd (gd table2 (iadd .i64 t1 1).toNat []) (isub .i64 (iadd .i64 s1 x) (gd c2.1 t1.toNat 0)).toNat 0)) table2 t1 (gd table2 t1.toNat []) s1 (gd (gd table2 t1.toNat []) s1.toNat 0) (ine (iadd .i64 r1.1 (gd (gd table2 (iadd .i64 t1 1).toNat []) (isub .i64 (iadd .i64 s1 x) (gd c2.1 t1.toNat 0)).toNat 0)) (gd (gd table2 t1.toNat []) s1.toNat 0)) c2 out1
def spec_l4Traced_L1 (N fu_ : Nat) (kx : (List (List Int)) → Int → Int → ((List Int) × (List Int) × (List Int) × (List Int)) → (List Int) → Option ((List Int) × Unit)) := it_4_2 (spec_l4Traced_B1 N kx) fu_
def spec_l4Traced_L1_run (N : Nat) (kx : (List (List Int)) → Int → Int → ((List Int) × (List Int) × (List Int) × (List Int)) → (List Int) → Option ((List Int) × Unit)) := run6 (spec_l4Traced_B1 N kx) (fun u_ => spec_l4Traced_L1 N u_ kx) (fun _ _ _ _ _ _ _ => rfl)
def spec_l4Traced_K2 (N : Nat) (out3 : List Int) : Option ((List Int) × Unit) :=
  some (out3, ())
def spec_l4Traced_B2 (N : Nat) (kx : (List (List Int)) → Int → Int → ((List Int) × (List Int) × (List Int) × (List Int)) → (List Int) → Option ((List Int) × Unit)) (table1 : List (List Int)) (s : Int) (t : Int) (c1 : (List Int) × (List Int) × (List Int) × (List Int)) (out : List Int) : Option ((List Int) × Unit) :=
  bif ilt t (len c1.1) then
    chk (inB t c1.1.length) <|
    (spec_l1Most N (isub .i64 (gd c1.1 t.toNat 0) s) 0).bind fun r =>
    spec_l4Traced_L1 N N kx table1 s t r.1 c1 out
  else
    spec_l4Traced_K2 N out
def spec_l4Traced_L2 (N fu_ : Nat) := it_3_2 (spec_l4Traced_B2 N) fu_
theorem spec_l4Traced_L2_succ (N fu_ : Nat) (table1 : List (List Int)) (s : Int) (t : Int) (c1 : (List Int) × (List Int) × (List Int) × (List Int)) (out : List Int) : spec_l4Traced_L2 N (fu_ + 1) table1 s t c1 out = spec_l4Traced_B2 N (fun table1 s t c1 out => spec_l4Traced_L2 N fu_ table1 s t c1 out) table1 s t c1 out := rfl
def spec_l4Traced (N : Nat) (c : (List Int) × (List Int) × (List Int) × (List Int)) (table : List (List Int)) : Option ((List Int) × Unit) :=
  spec_l4Traced_L2 N N table 0 0 c []
def spec_l2Sum_K1 (N : Nat) (sum1 : Int) : Option (Int × Unit) :=
  some (sum1, ())
def spec_l2Sum_B1 (N : Nat) (kx : (List Int) → Int → Int → Option (Int × Unit)) (list1 : List Int) (sum : Int) (i : Int) : Option (Int × Unit) :=
  bif ilt i (len list1) then
    chk (inB i list1.length) <|
    kx list1 (iadd .i64 sum (gd list1 i.toNat 0)) (iadd .i64 i 1)
  else
    spec_l2Sum_K1 N sum
def spec_l2Sum_L1 (N fu_ : Nat) := it_3_0 (spec_l2Sum_B1 N) fu_
def spec_l2Sum_L1_run (N : Nat) := run3 (spec_l2Sum_B1 N) (spec_l2Sum_L1 N) (fun _ _ _ _ => rfl)
def spec_l2Sum (N : Nat) (list : List Int) : Option (Int × Unit) :=
  spec_l2Sum_L1 N N list 0 0
def spec_l4Least (N : Nat) (a : Int) (b : Int) : Option (Int × Unit) :=
  bif ilt a 0 then
    some (b, ())
  else
    bif ile 0 b then
      bif ilt b a then
        some (b, ())
      else
        some (a, ())
    else
      some (a, ())
def spec_l4Future_K1 (N : Nat) (kx2 : (List Int) → Int → Int → Int → ((List Int) × (List Int) × (List Int) × (List Int)) → (List (List Int)) → (List Int) → Option ((List (List Int)) × Unit)) (limits6 : List Int) (total5 : Int) (t3 : Int) (s3 : Int) (best1 : Int) (c6 : (List Int) × (List Int) × (List Int) × (List Int)) (out3 : List (List Int)) (row2 : List Int) : Option ((List (List Int)) × Unit) :=
  chk (fitB (row2.length + 1) 8) <|
  kx2 limits6 total5 t3 (iadd .i64 s3 1) c6 out3 (row2 ++ [best1])
def spec_l4Future_B1 (N : Nat) (kx2 : (List Int) → Int → Int → Int → ((List Int) × (List Int) × (List Int) × (List Int)) → (List (List Int)) → (List Int) → Option ((List (List Int)) × Unit)) (kx3 : (List Int) → Int → Int → Int → Int → Int → ((List Int) × (List Int) × (List Int) × (List Int)) → (List (List Int)) → (List Int) → Option ((List (List Int)) × Unit)) (limits5 : List Int) (total4 : Int) (t2 : Int) (s2 : Int) (best : Int) (x : Int) (c5 : (List Int) × (List Int) × (List Int) × (List Int)) (out2 : List (List Int)) (row1 : List Int) : Option ((List (List Int)) × Unit) :=
  chk (inB t2 limits5.length) <|
  bif ile x (gd limits5 t2.toNat 0) then
    chk (inB t2 c5.1.length) <|
    (spec_l1In N (isub .i64 (iadd .i64 s2 x) (gd c5.1 t2.toNat 0)) 0 total4).bind fun r1 =>
    bif r1.1 then
      chk (inB 0 out2.length) <|
      chk (inB (isub .i64 (iadd .i64 s2 x) (gd c5.1 t2.toNat 0)) (gd out2 0 []).length) <|
      bif ile 0 (gd (gd out2 0 []) (isub .i64 (iadd .i64 s2 x) (gd c5.1 t2.toNat 0)).toNat 0) then
        (spec_l4Step N c5 t2 x (isub .i64 (iadd .i64 s2 x) (gd c5.1 t2.toNat 0))).bind fun r2 =>
        chk (inB 0 out2.length) <|
        chk (inB (isub .i64 (iadd .i64 s2 x) (gd c5.1 t2.toNat 0)) (gd out2 0 []).length) <|
        (spec_l4Least N best (iadd .i64 r2.1 (gd (gd out2 0 []) (isub .i64 (iadd .i64 s2 x) (gd c5.1 t2.toNat 0)).toNat 0))).bind fun r3 =>
        kx3 limits5 total4 t2 s2 r3.1 (iadd .i64 x 1) c5 out2 row1
      else
        kx3 limits5 total4 t2 s2 best (iadd .i64 x 1) c5 out2 row1
    else
      kx3 limits5 total4 t2 s2 best (iadd .i64 x 1) c5 out2 row1
  else
    spec_l4Future_K1 N kx2 limits5 total4 t2 s2 best c5 out2 row1
def spec_l4Future_L1 (N fu_ : Nat) (kx2 : (List Int) → Int → Int → Int → ((List Int) × (List Int) × (List Int) × (List Int)) → (List (List Int)) → (List Int) → Option ((List (List Int)) × Unit)) := it_6_3 (spec_l4Future_B1 N kx2) fu_
def spec_l4Future_L1_run (N : Nat) (kx2 : (List Int) → Int → Int → Int → ((List Int) × (List Int) × (List Int) × (List Int)) → (List (List Int)) → (List Int) → Option ((List (List Int)) × Unit)) := run9 (spec_l4Future_B1 N kx2) (fun u_ => spec_l4Future_L1 N u_ kx2) (fun _ _ _ _ _ _ _ _ _ _ => rfl)
def spec_l4Future_K2 (N : Nat) (kx1 : (List Int) → Int → Int → ((List Int) × (List Int) × (List Int) × (List Int)) → (List (List Int)) → Option ((List (List Int)) × Unit)) (limits7 : List Int) (total6 : Int) (t4 : Int) (c7 : (List Int) × (List Int) × (List Int) × (List Int)) (out4 : List (List Int)) (row3 : List Int) : Option ((List (List Int)) × Unit) :=
  chk (fitB (1 + out4.length) 24) <|
  kx1 limits7 total6 (isub .i64 t4 1) c7 ([row3] ++ out4)
def spec_l4Future_B2 (N : Nat) (kx1 : (List Int) → Int → Int → ((List Int) × (List Int) × (List Int) × (List Int)) → (List (List Int)) → Option ((List (List Int)) × Unit)) (kx2 : (List Int) → Int → Int → Int → ((List Int) × (List Int) × (List Int) × (List Int)) → (List (List Int)) → (List Int) → Option ((List (List Int)) × Unit)) (limits4 : List Int) (total3 : Int) (t1 : Int) (s1 : Int) (c4 : (List Int) × (List Int) × (List Int) × (List Int)) (out1 : List (List Int)) (row : List Int) : Option ((List (List Int)) × Unit) :=
  bif ile s1 total3 then
    spec_l4Future_L1 N N kx2 limits4 total3 t1 s1 (-1) 0 c4 out1 row
  else
    spec_l4Future_K2 N kx1 limits4 total3 t1 c4 out1 row
def spec_l4Future_L2 (N fu_ : Nat) (kx1 : (List Int) → Int → Int → ((List Int) × (List Int) × (List Int) × (List Int)) → (List (List Int)) → Option ((List (List Int)) × Unit)) := it_4_3 (spec_l4Future_B2 N kx1) fu_
def spec_l4Future_L2_run (N : Nat) (kx1 : (List Int) → Int → Int → ((List Int) × (List Int) × (List Int) × (List Int)) → (List (List Int)) → Option ((List (List Int)) × Unit)) := run7 (spec_l4Future_B2 N kx1) (fun u_ => spec_l4Future_L2 N u_ kx1) (fun _ _ _ _ _ _ _ _ => rfl)
def spec_l4Future_K3 (N : Nat) (out5 : List (List Int)) : Option ((List (List Int)) × Unit) :=
  some (out5, ())
def spec_l4Future_B3 (N : Nat) (kx1 : (List Int) → Int → Int → ((List Int) × (List Int) × (List Int) × (List Int)) → (List (List Int)) → Option ((List (List Int)) × Unit)) (limits3 : List Int) (total2 : Int) (t : Int) (c3 : (List Int) × (List Int) × (List Int) × (List Int)) (out : List (List Int)) : Option ((List (List Int)) × Unit) :=
  bif ile 0 t then
    spec_l4Future_L2 N N kx1 limits3 total2 t 0 c3 out []
  else
    spec_l4Future_K3 N out
def spec_l4Future_L3 (N fu_ : Nat) := it_3_2 (spec_l4Future_B3 N) fu_
def spec_l4Future_L3_run (N : Nat) := run5 (spec_l4Future_B3 N) (spec_l4Future_L3 N) (fun _ _ _ _ _ _ => rfl)
def spec_l4Future_K4 (N : Nat) (limits2 : List Int) (total1 : Int) (c2 : (List Int) × (List Int) × (List Int) × (List Int)) (last1 : List Int) : Option ((List (List Int)) × Unit) :=
  spec_l4Future_L3 N N limits2 total1 (isub .i64 (len c2.1) 1) c2 [last1]
def spec_l4Future_B4 (N : Nat) (kx : (List Int) → Int → Int → ((List Int) × (List Int) × (List Int) × (List Int)) → (List Int) → Option ((List (List Int)) × Unit)) (limits1 : List Int) (total : Int) (s : Int) (c1 : (List Int) × (List Int) × (List Int) × (List Int)) (last : List Int) : Option ((List (List Int)) × Unit) :=
  bif ile s total then
    chk (inB s last.length) <|
    kx limits1 total (iadd .i64 s 1) c1 (List.set last s.toNat (-1))
  else
    spec_l4Future_K4 N limits1 total c1 last
def spec_l4Future_L4 (N fu_ : Nat) := it_3_2 (spec_l4Future_B4 N) fu_
def spec_l4Future_L4_run (N : Nat) := run5 (spec_l4Future_B4 N) (spec_l4Future_L4 N) (fun _ _ _ _ _ _ => rfl)
def spec_l4Future (N : Nat) (c : (List Int) × (List Int) × (List Int) × (List Int)) (limits : List Int) : Option ((List (List Int)) × Unit) :=
  (spec_l2Sum N c.1).bind fun r =>
  chk (mkB (iadd .i64 r.1 1) 8) <|
  spec_l4Future_L4 N N limits r.1 1 c (List.replicate (iadd .i64 r.1 1).toNat (0 : Int))
def spec_LimitedPlan (N : Nat) (c : (List Int) × (List Int) × (List Int) × (List Int)) (limits : List Int) : Option (((List Int) × Bool) × Unit) :=
  (spec_l4Can N c limits).bind fun r =>
  bif !r.1 then
    some (([], false), ())
  else
    (spec_l4Future N c limits).bind fun r1 =>
    (spec_l4Traced N c r1.1).bind fun r2 =>
    some ((r2.1, true), ())
def laws_rInts_K1 (N : Nat) : Option (Bool × Unit) :=
  some (true, ())
def laws_rInts_B1 (N : Nat) (kx : (List Int) → (List Int) → Int → Option (Bool × Unit)) (a1 : List Int) (b1 : List Int) (i : Int) : Option (Bool × Unit) :=
  bif ilt i (len a1) then
    chk (inB i a1.length) <|
    chk (inB i b1.length) <|
    bif ine (gd a1 i.toNat 0) (gd b1 i.toNat 0) then
      some (false, ())
    else
      kx a1 b1 (iadd .i64 i 1)
  else
    laws_rInts_K1 N
def laws_rInts_L1 (N fu_ : Nat) := it_3_0 (laws_rInts_B1 N) fu_
def laws_rInts_L1_run (N : Nat) := run3 (laws_rInts_B1 N) (laws_rInts_L1 N) (fun _ _ _ _ => rfl)
def laws_rInts (N : Nat) (a : List Int) (b : List Int) : Option (Bool × Unit) :=
  bif ine (len a) (len b) then
    some (false, ())
  else
    laws_rInts_L1 N N a b 0
def impl_LimitedCost (N : Nat) (c : (List Int) × (List Int) × (List Int) × (List Int)) (limits : List Int) : Option ((Int × Bool) × Unit) :=
  (impl_limitedPlan N c limits false).bind fun r =>
  some ((r.1.2.1, r.1.2.2), ())
def spec_LimitedCost (N : Nat) (c : (List Int) × (List Int) × (List Int) × (List Int)) (limits : List Int) : Option ((Int × Bool) × Unit) :=
  (spec_l4Can N c limits).bind fun r =>
  bif !r.1 then
    some ((0, false), ())
  else
    (spec_l4Future N c limits).bind fun r1 =>
    chk (inB 0 r1.1.length) <|
    chk (inB 0 (gd r1.1 0 []).length) <|
    some ((gd (gd r1.1 0 []) 0 0, true), ())
def impl_LatestStart_K1 (N : Nat) (out1 : List Int) : Option (((List Int) × Bool) × Unit) :=
  some ((out1, true), ())
def impl_LatestStart_B1 (N : Nat) (kx : (List Int) → Int → Int → ((List Int) × (List Int) × (List Int) × (List Int)) → (List Int) → Option (((List Int) × Bool) × Unit)) (limits1 : List Int) (missing : Int) (i : Int) (c1 : (List Int) × (List Int) × (List Int) × (List Int)) (out : List Int) : Option (((List Int) × Bool) × Unit) :=
  bif ile 0 i then
    chk (inB i c1.1.length) <|
    chk (inB i limits1.length) <|
    chk (inB i out.length) <|
    chk (inB i (List.set out i.toNat (imin (gd limits1 i.toNat 0) (iadd .i64 missing (gd c1.1 i.toNat 0)))).length) <|
    kx limits1 (isub .i64 (iadd .i64 missing (gd c1.1 i.toNat 0)) (gd (List.set out i.toNat (imin (gd limits1 i.toNat 0) (iadd .i64 missing (gd c1.1 i.toNat 0)))) i.toNat 0)) (isub .i64 i 1) c1 (List.set out i.toNat (imin (gd limits1 i.toNat 0) (iadd .i64 missing (gd c1.1 i.toNat 0))))
  else
    impl_LatestStart_K1 N out
def impl_LatestStart_L1 (N fu_ : Nat) := it_3_2 (impl_LatestStart_B1 N) fu_
def impl_LatestStart_L1_run (N : Nat) := run5 (impl_LatestStart_B1 N) (impl_LatestStart_L1 N) (fun _ _ _ _ _ _ => rfl)
def impl_LatestStart (N : Nat) (c : (List Int) × (List Int) × (List Int) × (List Int)) (limits : List Int) : Option (((List Int) × Bool) × Unit) :=
  (impl_CanMeet N c limits).bind fun r =>
  bif !r.1.2 then
    some (([], false), ())
  else
    bif !r.1.1 then
      some (([], false), ())
    else
      chk (mkB (len c.1) 8) <|
      impl_LatestStart_L1 N N limits 0 (isub .i64 (len (List.replicate (len c.1).toNat (0 : Int))) 1) c (List.replicate (len c.1).toNat (0 : Int))
def spec_LatestStart_K1 (N : Nat) (out1 : List Int) : Option (((List Int) × Bool) × Unit) :=
  some ((out1, true), ())
def spec_LatestStart_B1 (N : Nat) (kx : (List Int) → Int → Int → ((List Int) × (List Int) × (List Int) × (List Int)) → (List Int) → Option (((List Int) × Bool) × Unit)) (limits1 : List Int) (left : Int) (t : Int) (c1 : (List Int) × (List Int) × (List Int) × (List Int)) (out : List Int) : Option (((List Int) × Bool) × Unit) :=
  bif ile 0 t then
    chk (inB t c1.1.length) <|
    chk (inB t limits1.length) <|
    (spec_l1Least N (iadd .i64 left (gd c1.1 t.toNat 0)) (gd limits1 t.toNat 0)).bind fun r1 =>
    chk (inB t out.length) <|
    chk (inB t (List.set out t.toNat r1.1).length) <|
    kx limits1 (isub .i64 (iadd .i64 left (gd c1.1 t.toNat 0)) (gd (List.set out t.toNat r1.1) t.toNat 0)) (isub .i64 t 1) c1 (List.set out t.toNat r1.1)
  else
    spec_LatestStart_K1 N out
def spec_LatestStart_L1 (N fu_ : Nat) := it_3_2 (spec_LatestStart_B1 N) fu_
def spec_LatestStart_L1_run (N : Nat) := run5 (spec_LatestStart_B1 N) (spec_LatestStart_L1 N) (fun _ _ _ _ _ _ => rfl)
def spec_LatestStart (N : Nat) (c : (List Int) × (List Int) × (List Int) × (List Int)) (limits : List Int) : Option (((List Int) × Bool) × Unit) :=
  (spec_l4Can N c limits).bind fun r =>
  bif !r.1 then
    some (([], false), ())
  else
    chk (mkB (len limits) 8) <|
    spec_LatestStart_L1 N N limits 0 (isub .i64 (len limits) 1) c (List.replicate (len limits).toNat (0 : Int))
def spec_DrawFirstShort (N : Nat) (code : List Int) : Option ((((List Int) × (List Int) × (List Int) × (List Int)) × (List Int)) × Unit) :=
  (pspec_l1Cur_lots N (code, (0, 0))).bind fun r =>
  (pspec_l1Cur_limits N r.2 r.1).bind fun r1 =>
  bif ilt 0 (len r1.1) then
    (pspec_l1Cur_one N r1.2 2).bind fun r2 =>
    bif r2.1 then
      (pspec_l1Cur_pick N r2.2 (len r1.1)).bind fun r3 =>
      chk (inB r3.1 r1.1.length) <|
      some ((r.1, List.set r1.1 r3.1.toNat 0), ())
    else
      some ((r.1, r1.1), ())
  else
    some ((r.1, r1.1), ())
def impl_FirstShort (N : Nat) (c : (List Int) × (List Int) × (List Int) × (List Int)) (limits : List Int) : Option ((Int × Int × Bool) × Unit) :=
  (impl_areLimits N c limits).bind fun r =>
  bif !r.1 then
    some ((0, (0, false)), ())
  else
    (impl_Case_firstShort N c limits).bind fun r1 =>
    bif ilt r1.1.1 0 then
      some ((0, (0, false)), ())
    else
      some ((r1.1.1, (r1.1.2, true)), ())
def spec_FirstShort (N : Nat) (c : (List Int) × (List Int) × (List Int) × (List Int)) (limits : List Int) : Option ((Int × Int × Bool) × Unit) :=
  (spec_l4Limits N c limits).bind fun r =>
  bif !r.1 then
    some ((0, (0, false)), ())
  else
    (spec_l4Short N c limits).bind fun r1 =>
    bif ilt r1.1.1 0 then
      some ((0, (0, false)), ())
    else
      some ((r1.1.1, (r1.1.2, true)), ())
def spec_DrawLimitSaves (N : Nat) (code : List Int) : Option ((((List Int) × (List Int) × (List Int) × (List Int)) × (List Int) × Int) × Unit) :=
  (pspec_l1Cur_someLots N (code, (0, 0)) 6).bind fun r =>
  (pspec_l1Cur_limits N r.2 r.1).bind fun r1 =>
  (pspec_l1Cur_pick N r1.2 (iadd .i64 (len r.1.1) 2)).bind fun r2 =>
  (pspec_l1Cur_pick N r2.2 2).bind fun r3 =>
  some ((r.1, (r1.1, isub .i64 r2.1 r3.1)), ())
def impl_copied (N : Nat) (list : List Int) : Option ((List Int) × Unit) :=
  chk (fitB (0 + list.length) 8) <|
  some (list, ())
def impl_LimitSaves (N : Nat) (c : (List Int) × (List Int) × (List Int) × (List Int)) (limits : List Int) (period : Int) : Option ((Int × Bool) × Unit) :=
  (impl_LimitedCost N c limits).bind fun r =>
  bif !r.1.2 then
    some ((0, false), ())
  else
    (impl_within N period 0 (isub .i64 (len limits) 1)).bind fun r1 =>
    bif !r1.1 then
      some ((0, false), ())
    else
      chk (inB period limits.length) <|
      bif ieq (gd limits period.toNat 0) 160 then
        some ((0, false), ())
      else
        (impl_copied N limits).bind fun r2 =>
        chk (inB period r2.1.length) <|
        chk (inB period r2.1.length) <|
        (impl_LimitedCost N c (List.set r2.1 period.toNat (iadd .i64 (gd r2.1 period.toNat 0) 1))).bind fun r3 =>
        some ((isub .i64 r.1.1 r3.1.1, true), ())
def spec_l1Own (N : Nat) (l : List Int) : Option ((List Int) × Unit) :=
  chk (fitB (0 + l.length) 8) <|
  some (l, ())
def spec_LimitSaves (N : Nat) (c : (List Int) × (List Int) × (List Int) × (List Int)) (limits : List Int) (period : Int) : Option ((Int × Bool) × Unit) :=
  (spec_l4Can N c limits).bind fun r =>
  bif !r.1 then
    some ((0, false), ())
  else
    (spec_l1In N period 0 (isub .i64 (len limits) 1)).bind fun r1 =>
    bif !r1.1 then
      some ((0, false), ())
    else
      chk (inB period limits.length) <|
      bif ieq (gd limits period.toNat 0) 160 then
        some ((0, false), ())
      else
        (spec_l1Own N limits).bind fun r2 =>
        chk (inB period r2.1.length) <|
        chk (inB period r2.1.length) <|
        (spec_l4Future N c limits).bind fun r3 =>
        chk (inB 0 r3.1.length) <|
        chk (inB 0 (gd r3.1 0 []).length) <|
        (spec_l4Future N c (List.set r2.1 period.toNat (iadd .i64 (gd r2.1 period.toNat 0) 1))).bind fun r4 =>
        chk (inB 0 r4.1.length) <|
        chk (inB 0 (gd r4.1 0 []).length) <|
        some ((isub .i64 (gd (gd r3.1 0 []) 0 0) (gd (gd r4.1 0 []) 0 0), true), ())
def impl_Case_parts_K1 (N : Nat) (kx : Int → Int → Int → Int → (List Int) → Int → Int → ((List Int) × (List Int) × (List Int) × (List Int)) → Option ((Int × Int × Int) × Unit)) (setups1 : Int) (units1 : Int) (holds1 : Int) (stock1 : Int) (i : Int) (amount : Int) (v131 : List Int) (v141 : Int) (v151 : Int) (c2 : (List Int) × (List Int) × (List Int) × (List Int)) : Option ((Int × Int × Int) × Unit) :=
  chk (inB i c2.2.2.1.length) <|
  chk (inB i c2.2.2.2.length) <|
  kx setups1 (iadd .i64 units1 (imul .i64 (gd c2.2.2.1 i.toNat 0) amount)) (iadd .i64 holds1 (imul .i64 (gd c2.2.2.2 i.toNat 0) stock1)) stock1 v131 v141 (iadd .i64 v151 1) c2
def impl_Case_parts_K2 (N : Nat) (setups2 : Int) (units2 : Int) (holds2 : Int) : Option ((Int × Int × Int) × Unit) :=
  some ((setups2, (units2, holds2)), ())
def impl_Case_parts_B1 (N : Nat) (kx : Int → Int → Int → Int → (List Int) → Int → Int → ((List Int) × (List Int) × (List Int) × (List Int)) → Option ((Int × Int × Int) × Unit)) (setups : Int) (units : Int) (holds : Int) (stock : Int) (v13 : List Int) (v14 : Int) (v15 : Int) (c1 : (List Int) × (List Int) × (List Int) × (List Int)) : Option ((Int × Int × Int) × Unit) :=
  bif ilt v15 v14 then
    chk (inB v15 v13.length) <|
    chk (inB v15 c1.1.length) <|
    bif ilt 0 (gd v13 v15.toNat 0) then
      chk (inB v15 c1.2.1.length) <|
      impl_Case_parts_K1 N kx (iadd .i64 setups (gd c1.2.1 v15.toNat 0)) units holds (iadd .i64 stock (isub .i64 (gd v13 v15.toNat 0) (gd c1.1 v15.toNat 0))) v15 (gd v13 v15.toNat 0) v13 v14 v15 c1
    else
      impl_Case_parts_K1 N kx setups units holds (iadd .i64 stock (isub .i64 (gd v13 v15.toNat 0) (gd c1.1 v15.toNat 0))) v15 (gd v13 v15.toNat 0) v13 v14 v15 c1
  else
    impl_Case_parts_K2 N setups units holds
def impl_Case_parts_L1 (N fu_ : Nat) := it_7_1 (impl_Case_parts_B1 N) fu_
def impl_Case_parts_L1_run (N : Nat) := run8 (impl_Case_parts_B1 N) (impl_Case_parts_L1 N) (fun _ _ _ _ _ _ _ _ _ => rfl)
def impl_Case_parts (N : Nat) (c : (List Int) × (List Int) × (List Int) × (List Int)) (plan : List Int) : Option ((Int × Int × Int) × Unit) :=
  impl_Case_parts_L1 N N 0 0 0 0 plan (len plan) 0 c
def impl_Case_cost (N : Nat) (c : (List Int) × (List Int) × (List Int) × (List Int)) (plan : List Int) : Option (Int × Unit) :=
  (impl_Case_parts N c plan).bind fun r =>
  some (iadd .i64 (iadd .i64 r.1.1 r.1.2.1) r.1.2.2, ())
def impl_Case_planFrom_K1 (N : Nat) (kx : (List Int) → Int → (List Int) → Int → Int → (List Int) → Option (((List Int) × Bool) × Unit)) (periods3 : List Int) (next2 : Int) (need1 : Int) (v152 : List Int) (v162 : Int) (v172 : Int) (plan2 : List Int) : Option (((List Int) × Bool) × Unit) :=
  bif ieq next2 0 then
    bif ilt 0 need1 then
      some (([], false), ())
    else
      kx periods3 next2 v152 v162 (iadd .i64 v172 1) plan2
  else
    chk (inB (isub .i64 next2 1) periods3.length) <|
    chk (inB (gd periods3 (isub .i64 next2 1).toNat 0) plan2.length) <|
    chk (inB (gd periods3 (isub .i64 next2 1).toNat 0) plan2.length) <|
    kx periods3 next2 v152 v162 (iadd .i64 v172 1) (List.set plan2 (gd periods3 (isub .i64 next2 1).toNat 0).toNat (iadd .i64 (gd plan2 (gd periods3 (isub .i64 next2 1).toNat 0).toNat 0) need1))
def impl_Case_planFrom_K2 (N : Nat) (kx : (List Int) → Int → (List Int) → Int → Int → (List Int) → Option (((List Int) × Bool) × Unit)) (periods2 : List Int) (next1 : Int) (need : Int) (v151 : List Int) (v161 : Int) (v171 : Int) (v33 : Bool) (plan1 : List Int) : Option (((List Int) × Bool) × Unit) :=
  bif v33 then
    impl_Case_planFrom_K1 N kx periods2 (iadd .i64 next1 1) need v151 v161 v171 plan1
  else
    impl_Case_planFrom_K1 N kx periods2 next1 need v151 v161 v171 plan1
def impl_Case_planFrom_K3 (N : Nat) (plan3 : List Int) : Option (((List Int) × Bool) × Unit) :=
  some ((plan3, true), ())
def impl_Case_planFrom_B1 (N : Nat) (kx : (List Int) → Int → (List Int) → Int → Int → (List Int) → Option (((List Int) × Bool) × Unit)) (periods1 : List Int) (next : Int) (v15 : List Int) (v16 : Int) (v17 : Int) (plan : List Int) : Option (((List Int) × Bool) × Unit) :=
  bif ilt v17 v16 then
    chk (inB v17 v15.length) <|
    bif ilt next (len periods1) then
      chk (inB next periods1.length) <|
      impl_Case_planFrom_K2 N kx periods1 next (gd v15 v17.toNat 0) v15 v16 v17 (ieq (gd periods1 next.toNat 0) v17) plan
    else
      impl_Case_planFrom_K2 N kx periods1 next (gd v15 v17.toNat 0) v15 v16 v17 false plan
  else
    impl_Case_planFrom_K3 N plan
def impl_Case_planFrom_L1 (N fu_ : Nat) := it_5_1 (impl_Case_planFrom_B1 N) fu_
def impl_Case_planFrom_L1_run (N : Nat) := run6 (impl_Case_planFrom_B1 N) (impl_Case_planFrom_L1 N) (fun _ _ _ _ _ _ _ => rfl)
def impl_Case_planFrom (N : Nat) (c : (List Int) × (List Int) × (List Int) × (List Int)) (periods : List Int) : Option (((List Int) × Bool) × Unit) :=
  chk (mkB (len c.1) 8) <|
  impl_Case_planFrom_L1 N N periods 0 c.1 (len c.1) 0 (List.replicate (len c.1).toNat (0 : Int))
def cmp_isNaN_int (N : Nat) (x : Int) : Option (Bool × Unit) :=
  some (ine x x, ())
def cmp_Compare_int (N : Nat) (x : Int) (y : Int) : Option (Int × Unit) :=
  (cmp_isNaN_int N x).bind fun r =>
  (cmp_isNaN_int N y).bind fun r1 =>
  bif r.1 then
    bif r1.1 then
      some (0, ())
    else
      some ((-1), ())
  else
    bif r1.1 then
      some (1, ())
    else
      bif ilt x y then
        some ((-1), ())
      else
        bif ilt y x then
          some (1, ())
        else
          some (0, ())
def slices_Compare_int_int_K1 (N : Nat) (s12 : List Int) (s22 : List Int) : Option (Int × Unit) :=
  bif ilt (len s12) (len s22) then
    some ((-1), ())
  else
    some (0, ())
def slices_Compare_int_int_B1 (N : Nat) (kx : (List Int) → (List Int) → (List Int) → Int → Int → Option (Int × Unit)) (s11 : List Int) (s21 : List Int) (v9 : List Int) (v10 : Int) (v11 : Int) : Option (Int × Unit) :=
  bif ilt v11 v10 then
    chk (inB v11 v9.length) <|
    bif ile (len s21) v11 then
      some (1, ())
    else
      chk (inB v11 s21.length) <|
      (cmp_Compare_int N (gd v9 v11.toNat 0) (gd s21 v11.toNat 0)).bind fun r =>
      bif ine r.1 0 then
        some (r.1, ())
      else
        kx s11 s21 v9 v10 (iadd .i64 v11 1)
  else
    slices_Compare_int_int_K1 N s11 s21
def slices_Compare_int_int_L1 (N fu_ : Nat) := it_5_0 (slices_Compare_int_int_B1 N) fu_
def slices_Compare_int_int_L1_run (N : Nat) := run5 (slices_Compare_int_int_B1 N) (slices_Compare_int_int_L1 N) (fun _ _ _ _ _ _ => rfl)
def slices_Compare_int_int (N : Nat) (s1 : List Int) (s2 : List Int) : Option (Int × Unit) :=
  slices_Compare_int_int_L1 N N s1 s2 s1 (len s1) 0
def impl_Case_best_K1 (N : Nat) (kx : Int → Int → Int → ((List Int) × (List Int) × (List Int) × (List Int)) → (List Int) → Option (((List Int) × Int) × Unit)) (least3 : Int) (cost : Int) (before : Bool) (v163 : Int) (v173 : Int) (c4 : (List Int) × (List Int) × (List Int) × (List Int)) (best3 : List Int) (periods2 : List Int) : Option (((List Int) × Int) × Unit) :=
  bif ilt least3 0 then
    kx cost v163 (iadd .i64 v173 1) c4 periods2
  else
    bif ilt cost least3 then
      kx cost v163 (iadd .i64 v173 1) c4 periods2
    else
      bif ieq cost least3 then
        bif before then
          kx cost v163 (iadd .i64 v173 1) c4 periods2
        else
          kx least3 v163 (iadd .i64 v173 1) c4 best3
      else
        kx least3 v163 (iadd .i64 v173 1) c4 best3
def impl_Case_best_K2 (N : Nat) (kx : Int → Int → Int → ((List Int) × (List Int) × (List Int) × (List Int)) → (List Int) → Option (((List Int) × Int) × Unit)) (least2 : Int) (v162 : Int) (v172 : Int) (c3 : (List Int) × (List Int) × (List Int) × (List Int)) (best2 : List Int) (periods1 : List Int) : Option (((List Int) × Int) × Unit) :=
  (impl_Case_planFrom N c3 periods1).bind fun r =>
  bif !r.1.2 then
    kx least2 v162 (iadd .i64 v172 1) c3 best2
  else
    (impl_Case_cost N c3 r.1.1).bind fun r1 =>
    bif ilt (len periods1) (len best2) then
      impl_Case_best_K1 N kx least2 r1.1 true v162 v172 c3 best2 periods1
    else
      bif ieq (len periods1) (len best2) then
        (slices_Compare_int_int N periods1 best2).bind fun r2 =>
        impl_Case_best_K1 N kx least2 r1.1 (ilt r2.1 0) v162 v172 c3 best2 periods1
      else
        impl_Case_best_K1 N kx least2 r1.1 false v162 v172 c3 best2 periods1
def impl_Case_best_B1 (N : Nat) (kx : Int → Int → Int → ((List Int) × (List Int) × (List Int) × (List Int)) → (List Int) → Option (((List Int) × Int) × Unit)) (kx1 : Int → Int → Int → Int → Int → Int → ((List Int) × (List Int) × (List Int) × (List Int)) → (List Int) → (List Int) → Option (((List Int) × Int) × Unit)) (least1 : Int) (setx : Int) (v161 : Int) (v171 : Int) (v23 : Int) (v24 : Int) (c2 : (List Int) × (List Int) × (List Int) × (List Int)) (best1 : List Int) (periods : List Int) : Option (((List Int) × Int) × Unit) :=
  bif ilt v24 v23 then
    chk (ile 0 v24) <|
    bif ieq (iand .i64 (ishr .i64 setx v24) 1) 1 then
      chk (fitB (periods.length + 1) 8) <|
      kx1 least1 setx v161 v171 v23 (iadd .i64 v24 1) c2 best1 (periods ++ [v24])
    else
      kx1 least1 setx v161 v171 v23 (iadd .i64 v24 1) c2 best1 periods
  else
    impl_Case_best_K2 N kx least1 v161 v171 c2 best1 periods
def impl_Case_best_L1 (N fu_ : Nat) (kx : Int → Int → Int → ((List Int) × (List Int) × (List Int) × (List Int)) → (List Int) → Option (((List Int) × Int) × Unit)) := it_6_3 (impl_Case_best_B1 N kx) fu_
def impl_Case_best_L1_run (N : Nat) (kx : Int → Int → Int → ((List Int) × (List Int) × (List Int) × (List Int)) → (List Int) → Option (((List Int) × Int) × Unit)) := run9 (impl_Case_best_B1 N kx) (fun u_ => impl_Case_best_L1 N u_ kx) (fun _ _ _ _ _ _ _ _ _ _ => rfl)
def impl_Case_best_K3 (N : Nat) (least4 : Int) (best4 : List Int) : Option (((List Int) × Int) × Unit) :=
  some ((best4, least4), ())
def impl_Case_best_B2 (N : Nat) (kx : Int → Int → Int → ((List Int) × (List Int) × (List Int) × (List Int)) → (List Int) → Option (((List Int) × Int) × Unit)) (least : Int) (v16 : Int) (v17 : Int) (c1 : (List Int) × (List Int) × (List Int) × (List Int)) (best : List Int) : Option (((List Int) × Int) × Unit) :=
  bif ilt v17 v16 then
    impl_Case_best_L1 N N kx least v17 v16 v17 (len c1.1) 0 c1 best []
  else
    impl_Case_best_K3 N least best
def impl_Case_best_L2 (N fu_ : Nat) := it_3_2 (impl_Case_best_B2 N) fu_
def impl_Case_best_L2_run (N : Nat) := run5 (impl_Case_best_B2 N) (impl_Case_best_L2 N) (fun _ _ _ _ _ _ => rfl)
def impl_Case_best (N : Nat) (c : (List Int) × (List Int) × (List Int) × (List Int)) : Option (((List Int) × Int) × Unit) :=
  chk (ile 0 (len c.1)) <|
  impl_Case_best_L2 N N (-1) (ishl .i64 1 (len c.1)) 0 c []
def impl_BestCost (N : Nat) (c : (List Int) × (List Int) × (List Int) × (List Int)) : Option ((Int × Bool) × Unit) :=
  (impl_IsCase N c).bind fun r =>
  bif !r.1 then
    some ((0, false), ())
  else
    (impl_Case_best N c).bind fun r1 =>
    some ((r1.1.2, true), ())
def impl_Case_stocks_K1 (N : Nat) (stock1 : Int) (out1 : List Int) : Option (((List Int) × Bool) × Unit) :=
  some ((out1, ieq stock1 0), ())
def impl_Case_stocks_B1 (N : Nat) (kx : Int → (List Int) → Int → Int → ((List Int) × (List Int) × (List Int) × (List Int)) → (List Int) → Option (((List Int) × Bool) × Unit)) (stock : Int) (v22 : List Int) (v23 : Int) (v24 : Int) (c1 : (List Int) × (List Int) × (List Int) × (List Int)) (out : List Int) : Option (((List Int) × Bool) × Unit) :=
  bif ilt v24 v23 then
    chk (inB v24 v22.length) <|
    chk (inB v24 c1.1.length) <|
    bif ilt (iadd .i64 stock (isub .i64 (gd v22 v24.toNat 0) (gd c1.1 v24.toNat 0))) 0 then
      some (([], false), ())
    else
      chk (fitB (out.length + 1) 8) <|
      kx (iadd .i64 stock (isub .i64 (gd v22 v24.toNat 0) (gd c1.1 v24.toNat 0))) v22 v23 (iadd .i64 v24 1) c1 (out ++ [iadd .i64 stock (isub .i64 (gd v22 v24.toNat 0) (gd c1.1 v24.toNat 0))])
  else
    impl_Case_stocks_K1 N stock out
def impl_Case_stocks_L1 (N fu_ : Nat) := it_4_2 (impl_Case_stocks_B1 N) fu_
def impl_Case_stocks_L1_run (N : Nat) := run6 (impl_Case_stocks_B1 N) (impl_Case_stocks_L1 N) (fun _ _ _ _ _ _ _ => rfl)
def impl_Case_stocks (N : Nat) (c : (List Int) × (List Int) × (List Int) × (List Int)) (plan : List Int) : Option (((List Int) × Bool) × Unit) :=
  bif ine (len plan) (len c.1) then
    some (([], false), ())
  else
    (impl_allWithin N plan 0 160).bind fun r =>
    bif !r.1 then
      some (([], false), ())
    else
      impl_Case_stocks_L1 N N 0 plan (len plan) 0 c []
def impl_planned (N : Nat) (c : (List Int) × (List Int) × (List Int) × (List Int)) (plan : List Int) : Option (((List Int) × Bool) × Unit) :=
  (impl_IsCase N c).bind fun r =>
  bif !r.1 then
    some (([], false), ())
  else
    (impl_Case_stocks N c plan).bind fun r1 =>
    bif !r1.1.2 then
      some (([], false), ())
    else
      some ((r1.1.1, true), ())
def impl_PlanCost (N : Nat) (c : (List Int) × (List Int) × (List Int) × (List Int)) (plan : List Int) : Option ((Int × Bool) × Unit) :=
  (impl_planned N c plan).bind fun r =>
  bif !r.1.2 then
    some ((0, false), ())
  else
    (impl_Case_cost N c plan).bind fun r1 =>
    some ((r1.1, true), ())
def impl_keeps_K1 (N : Nat) : Option (Bool × Unit) :=
  some (true, ())
def impl_keeps_B1 (N : Nat) (kx : (List Int) → (List Int) → Int → Int → Option (Bool × Unit)) (limits1 : List Int) (v7 : List Int) (v8 : Int) (v9 : Int) : Option (Bool × Unit) :=
  bif ilt v9 v8 then
    chk (inB v9 v7.length) <|
    chk (inB v9 limits1.length) <|
    bif ilt (gd limits1 v9.toNat 0) (gd v7 v9.toNat 0) then
      some (false, ())
    else
      kx limits1 v7 v8 (iadd .i64 v9 1)
  else
    impl_keeps_K1 N
def impl_keeps_L1 (N fu_ : Nat) := it_4_0 (impl_keeps_B1 N) fu_
def impl_keeps_L1_run (N : Nat) := run4 (impl_keeps_B1 N) (impl_keeps_L1 N) (fun _ _ _ _ _ => rfl)
def impl_keeps (N : Nat) (plan : List Int) (limits : List Int) : Option (Bool × Unit) :=
  impl_keeps_L1 N N limits plan (len plan) 0
def impl_KeepsLimits (N : Nat) (c : (List Int) × (List Int) × (List Int) × (List Int)) (limits : List Int) (plan : List Int) : Option ((Bool × Bool) × Unit) :=
  (impl_planned N c plan).bind fun r =>
  bif !r.1.2 then
    some ((false, false), ())
  else
    (impl_areLimits N c limits).bind fun r1 =>
    bif !r1.1 then
      some ((false, false), ())
    else
      (impl_keeps N plan limits).bind fun r2 =>
      some ((r2.1, true), ())
def laws_FnLimits_K1 (N : Nat) (free1 : Int) (c2 : (List Int) × (List Int) × (List Int) × (List Int)) (most1 : List Int) : Option (Bool × Unit) :=
  (impl_LimitedCost N c2 most1).bind fun r23 =>
  bif r23.1.2 then
    some (ieq r23.1.1 free1, ())
  else
    some (false, ())
def laws_FnLimits_B1 (N : Nat) (kx : Int → Int → ((List Int) × (List Int) × (List Int) × (List Int)) → (List Int) → Option (Bool × Unit)) (free : Int) (t : Int) (c1 : (List Int) × (List Int) × (List Int) × (List Int)) (most : List Int) : Option (Bool × Unit) :=
  bif ilt t (len c1.1) then
    chk (fitB (most.length + 1) 8) <|
    kx free (iadd .i64 t 1) c1 (most ++ [160])
  else
    laws_FnLimits_K1 N free c1 most
def laws_FnLimits_L1 (N fu_ : Nat) := it_2_2 (laws_FnLimits_B1 N) fu_
def laws_FnLimits_L1_run (N : Nat) := run4 (laws_FnLimits_B1 N) (laws_FnLimits_L1 N) (fun _ _ _ _ _ => rfl)
def laws_FnLimits_K2 (N : Nat) (code1 : List Int) (ok : Bool) (cost : Int) (v195 : Bool) (c : (List Int) × (List Int) × (List Int) × (List Int)) (b54 : ((List Int) × (List Int) × (List Int) × (List Int)) × (List Int)) (b60 : (List Int) × Bool) (b106 : (List Int) × Bool) : Option (Bool × Unit) :=
  bif v195 then
    some (false, ())
  else
    (spec_DrawLimitSaves N code1).bind fun r15 =>
    (impl_LimitSaves N r15.1.1 r15.1.2.1 r15.1.2.2).bind fun r16 =>
    (spec_LimitSaves N r15.1.1 r15.1.2.1 r15.1.2.2).bind fun r17 =>
    bif ine r16.1.1 r17.1.1 then
      some (false, ())
    else
      bif !(Go.Rx.beq r16.1.2 r17.1.2) then
        some (false, ())
      else
        bif ilt r16.1.1 0 then
          some (false, ())
        else
          bif !ok then
            some (true, ())
          else
            (impl_BestCost N c).bind fun r18 =>
            (impl_PlanCost N c b60.1).bind fun r19 =>
            (impl_PlanCost N c b106.1).bind fun r20 =>
            (impl_KeepsLimits N c b54.2 b60.1).bind fun r21 =>
            (impl_KeepsLimits N c b54.2 b106.1).bind fun r22 =>
            bif !r18.1.2 then
              some (false, ())
            else
              bif !r19.1.2 then
                some (false, ())
              else
                bif !r20.1.2 then
                  some (false, ())
                else
                  bif !r21.1.2 then
                    some (false, ())
                  else
                    bif !r22.1.2 then
                      some (false, ())
                    else
                      bif !r21.1.1 then
                        some (false, ())
                      else
                        bif !r22.1.1 then
                          some (false, ())
                        else
                          bif ine r19.1.1 cost then
                            some (false, ())
                          else
                            bif ilt cost r18.1.1 then
                              some (false, ())
                            else
                              bif ilt r20.1.1 cost then
                                some (false, ())
                              else
                                laws_FnLimits_L1 N N r18.1.1 0 c []
def laws_FnLimits (N : Nat) (code : List Int) : Option (Bool × Unit) :=
  (laws_rBig N code).bind fun r =>
  bif r.1 then
    some (true, ())
  else
    (spec_DrawLimitedPlan N code).bind fun r1 =>
    (impl_LimitedPlan N r1.1.1 r1.1.2).bind fun r2 =>
    (spec_LimitedPlan N r1.1.1 r1.1.2).bind fun r3 =>
    bif !(Go.Rx.beq r2.1.2 r3.1.2) then
      some (false, ())
    else
      (laws_rInts N r2.1.1 r3.1.1).bind fun r4 =>
      bif !r4.1 then
        some (false, ())
      else
        (impl_LimitedCost N r1.1.1 r1.1.2).bind fun r5 =>
        (spec_LimitedCost N r1.1.1 r1.1.2).bind fun r6 =>
        bif ine r5.1.1 r6.1.1 then
          some (false, ())
        else
          bif !(Go.Rx.beq r5.1.2 r6.1.2) then
            some (false, ())
          else
            bif !(Go.Rx.beq r5.1.2 r2.1.2) then
              some (false, ())
            else
              (impl_LatestStart N r1.1.1 r1.1.2).bind fun r7 =>
              (spec_LatestStart N r1.1.1 r1.1.2).bind fun r8 =>
              bif !(Go.Rx.beq r7.1.2 r8.1.2) then
                some (false, ())
              else
                bif !(Go.Rx.beq r7.1.2 r2.1.2) then
                  some (false, ())
                else
                  (laws_rInts N r7.1.1 r8.1.1).bind fun r9 =>
                  bif !r9.1 then
                    some (false, ())
                  else
                    (spec_DrawFirstShort N code).bind fun r10 =>
                    (impl_FirstShort N r10.1.1 r10.1.2).bind fun r11 =>
                    (spec_FirstShort N r10.1.1 r10.1.2).bind fun r12 =>
                    bif ine r11.1.1 r12.1.1 then
                      some (false, ())
                    else
                      bif ine r11.1.2.1 r12.1.2.1 then
                        some (false, ())
                      else
                        bif !(Go.Rx.beq r11.1.2.2 r12.1.2.2) then
                          some (false, ())
                        else
                          (impl_CanMeet N r10.1.1 r10.1.2).bind fun r13 =>
                          (spec_CanMeet N r10.1.1 r10.1.2).bind fun r14 =>
                          bif !(Go.Rx.beq r13.1.1 r14.1.1) then
                            laws_FnLimits_K2 N code r2.1.2 r5.1.1 true r1.1.1 (r1.1.1, r1.1.2) r2.1 r7.1
                          else
                            bif !(Go.Rx.beq r13.1.2 r14.1.2) then
                              laws_FnLimits_K2 N code r2.1.2 r5.1.1 true r1.1.1 (r1.1.1, r1.1.2) r2.1 r7.1
                            else
                              bif r13.1.2 then
                                bif Go.Rx.beq r13.1.1 r11.1.2.2 then
                                  laws_FnLimits_K2 N code r2.1.2 r5.1.1 true r1.1.1 (r1.1.1, r1.1.2) r2.1 r7.1
                                else
                                  bif r11.1.2.2 then
                                    laws_FnLimits_K2 N code r2.1.2 r5.1.1 (ilt r11.1.2.1 1) r1.1.1 (r1.1.1, r1.1.2) r2.1 r7.1
                                  else
                                    laws_FnLimits_K2 N code r2.1.2 r5.1.1 false r1.1.1 (r1.1.1, r1.1.2) r2.1 r7.1
                              else
                                bif r11.1.2.2 then
                                  laws_FnLimits_K2 N code r2.1.2 r5.1.1 (ilt r11.1.2.1 1) r1.1.1 (r1.1.1, r1.1.2) r2.1 r7.1
                                else
                                  laws_FnLimits_K2 N code r2.1.2 r5.1.1 false r1.1.1 (r1.1.1, r1.1.2) r2.1 r7.1
end Px
end Go.Rx
