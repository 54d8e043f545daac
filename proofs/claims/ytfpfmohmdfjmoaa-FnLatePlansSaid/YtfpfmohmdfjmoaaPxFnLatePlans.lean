/- This text defines the plain functions that the Go functions behind FnLatePlans compute; no condition. -/
import Derived.Test.YtfpfmohmdfjmoaaRxe
set_option linter.unusedVariables false
set_option linter.unusedSimpArgs false
set_option linter.defProp false
namespace Go.Rx
namespace Px
def laws_rBig (N : Nat) (code : List Int) : Option (Bool × Unit) :=
  some (ilt 65536 (len code), ())
def spec_l1In (N : Nat) (x : Int) (a : Int) (b : Int) : Option (Bool × Unit) :=
  bif ile a x then
    some (ile x b, ())
  else
    some (false, ())
def spec_l2Row_K1 (N : Nat) (row2 : List Int) (n2 : Int) : Option (Bool × Unit) :=
  some (ieq (len row2) n2, ())
def spec_l2Row_B1 (N : Nat) (kx : (List Int) → Int → Int → Int → Option (Bool × Unit)) (row1 : List Int) (n1 : Int) (most1 : Int) (i : Int) : Option (Bool × Unit) :=
  bif ilt i (len row1) then
    chk (inB i row1.length) <|
    (spec_l1In N (gd row1 i.toNat 0) 0 most1).bind fun r =>
    bif !r.1 then
      some (false, ())
    else
      kx row1 n1 most1 (iadd .i64 i 1)
  else
    spec_l2Row_K1 N row1 n1
def spec_l2Row_L1 (N fu_ : Nat) := it_4_0 (spec_l2Row_B1 N) fu_
theorem spec_l2Row_L1_succ (N fu_ : Nat) (row1 : List Int) (n1 : Int) (most1 : Int) (i : Int) : spec_l2Row_L1 N (fu_ + 1) row1 n1 most1 i = spec_l2Row_B1 N (fun row1 n1 most1 i => spec_l2Row_L1 N fu_ row1 n1 most1 i) row1 n1 most1 i := rfl
def spec_l2Row_L1_run (N : Nat) := run4 (spec_l2Row_B1 N) (spec_l2Row_L1 N) (fun _ _ _ _ _ => rfl)
def spec_l2Row (N : Nat) (row : List Int) (n : Int) (most : Int) : Option (Bool × Unit) :=
  spec_l2Row_L1 N N row n most 0
def spec_l2Good (N : Nat) (c : (List Int) × (List Int) × (List Int) × (List Int)) : Option (Bool × Unit) :=
  bif ile (len c.1) 8 then
    (spec_l2Row N c.1 (len c.1) 20).bind fun r =>
    bif r.1 then
      (spec_l2Row N c.2.1 (len c.1) 99).bind fun r1 =>
      bif r1.1 then
        (spec_l2Row N c.2.2.1 (len c.1) 9).bind fun r2 =>
        bif r2.1 then
          (spec_l2Row N c.2.2.2 (len c.1) 9).bind fun r3 =>
          some (r3.1, ())
        else
          some (false, ())
      else
        some (false, ())
    else
      some (false, ())
  else
    some (false, ())
def pspec_l1Cur_next_K1 (N : Nat) (b : Int) (c1 : (List Int) × Int × Int) : Option (Int × ((List Int) × Int × Int)) :=
  bif ile (iadd .i64 c1.2.1 1) (len c1.1) then
    some (b, (c1.1, (iadd .i64 c1.2.1 1, iadd .u64 (iadd .u64 (imul .u64 c1.2.2 6364136223846793005) (icv .u64 b)) 462197)))
  else
    chk (ile 0 40) <|
    some (icv .i64 (iand .u64 (ishr .u64 (iadd .u64 (iadd .u64 (imul .u64 c1.2.2 6364136223846793005) (icv .u64 b)) 462197) 40) 255), (c1.1, (iadd .i64 c1.2.1 1, iadd .u64 (iadd .u64 (imul .u64 c1.2.2 6364136223846793005) (icv .u64 b)) 462197)))
def pspec_l1Cur_next (N : Nat) (c : (List Int) × Int × Int) : Option (Int × ((List Int) × Int × Int)) :=
  bif ilt c.2.1 (len c.1) then
    chk (inB c.2.1 c.1.length) <|
    pspec_l1Cur_next_K1 N (icv .i64 (gd c.1 c.2.1.toNat 0)) c
  else
    pspec_l1Cur_next_K1 N 0 c
def pspec_l1Cur_pick (N : Nat) (c : (List Int) × Int × Int) (n : Int) : Option (Int × ((List Int) × Int × Int)) :=
  bif ile n 1 then
    some (0, c)
  else
    (pspec_l1Cur_next N c).bind fun r =>
    bif ilt 200 n then
      (pspec_l1Cur_next N r.2).bind fun r1 =>
      chk (ine n 0) <|
      some (irem (iadd .i64 (imul .i64 r.1 256) r1.1) n, r1.2)
    else
      chk (ine n 0) <|
      some (irem r.1 n, r.2)
def pspec_l1Cur_among (N : Nat) (c : (List Int) × Int × Int) (list : List Int) : Option (Int × ((List Int) × Int × Int)) :=
  (pspec_l1Cur_pick N c (len list)).bind fun r =>
  chk (inB r.1 list.length) <|
  some (gd list r.1.toNat 0, r.2)
def pspec_l1Cur_one (N : Nat) (c : (List Int) × Int × Int) (n : Int) : Option (Bool × ((List Int) × Int × Int)) :=
  (pspec_l1Cur_pick N c n).bind fun r =>
  some (ieq r.1 0, r.2)
def spec_l1Least (N : Nat) (a : Int) (b : Int) : Option (Int × Unit) :=
  bif ilt a b then
    some (a, ())
  else
    some (b, ())
def pspec_l1Cur_someLots_K1 (N : Nat) (kx1 : Int → Bool → Int → Int → Int → Int → ((List Int) × Int × Int) → ((List Int) × (List Int) × (List Int) × (List Int)) → ((List Int) × (List Int) × (List Int) × (List Int)) → Option (((List Int) × (List Int) × (List Int) × (List Int)) × ((List Int) × Int × Int))) (n1 : Int) (same1 : Bool) (setup1 : Int) (unit1 : Int) (hold1 : Int) (t1 : Int) (c2 : (List Int) × Int × Int) (v41 : (List Int) × (List Int) × (List Int) × (List Int)) (kx2 : (List Int) × (List Int) × (List Int) × (List Int)) : Option (((List Int) × (List Int) × (List Int) × (List Int)) × ((List Int) × Int × Int)) :=
  (pspec_l1Cur_among N c2 [0, 1, 2, 3, 5, 8]).bind fun r9 =>
  chk (fitB (kx2.1.length + 1) 8) <|
  chk (fitB (kx2.2.1.length + 1) 8) <|
  chk (fitB (kx2.2.2.1.length + 1) 8) <|
  chk (fitB (kx2.2.2.2.length + 1) 8) <|
  kx1 n1 same1 setup1 unit1 hold1 (iadd .i64 t1 1) r9.2 v41 (kx2.1 ++ [r9.1], (kx2.2.1 ++ [setup1], (kx2.2.2.1 ++ [unit1], kx2.2.2.2 ++ [hold1])))
def pspec_l1Cur_someLots_K2 (N : Nat) (c5 : (List Int) × Int × Int) (v44 : (List Int) × (List Int) × (List Int) × (List Int)) (kx6 : (List Int) × (List Int) × (List Int) × (List Int)) : Option (((List Int) × (List Int) × (List Int) × (List Int)) × ((List Int) × Int × Int)) :=
  some (kx6, c5)
def pspec_l1Cur_someLots_B1 (N : Nat) (kx5 : ((List Int) × Int × Int) → ((List Int) × (List Int) × (List Int) × (List Int)) → ((List Int) × (List Int) × (List Int) × (List Int)) → Option (((List Int) × (List Int) × (List Int) × (List Int)) × ((List Int) × Int × Int))) (c4 : (List Int) × Int × Int) (v43 : (List Int) × (List Int) × (List Int) × (List Int)) (kx4 : (List Int) × (List Int) × (List Int) × (List Int)) : Option (((List Int) × (List Int) × (List Int) × (List Int)) × ((List Int) × Int × Int)) :=
  bif ilt (len kx4.1) 9 then
    chk (fitB (kx4.1.length + 1) 8) <|
    chk (fitB (kx4.2.1.length + 1) 8) <|
    chk (fitB (kx4.2.2.1.length + 1) 8) <|
    chk (fitB (kx4.2.2.2.length + 1) 8) <|
    kx5 c4 v43 (kx4.1 ++ [1], (kx4.2.1 ++ [1], (kx4.2.2.1 ++ [1], kx4.2.2.2 ++ [1])))
  else
    pspec_l1Cur_someLots_K2 N c4 v43 kx4
def pspec_l1Cur_someLots_L1 (N fu_ : Nat) := it_0_3 (pspec_l1Cur_someLots_B1 N) fu_
theorem pspec_l1Cur_someLots_L1_succ (N fu_ : Nat) (c4 : (List Int) × Int × Int) (v43 : (List Int) × (List Int) × (List Int) × (List Int)) (kx4 : (List Int) × (List Int) × (List Int) × (List Int)) : pspec_l1Cur_someLots_L1 N (fu_ + 1) c4 v43 kx4 = pspec_l1Cur_someLots_B1 N (fun c4 v43 kx4 => pspec_l1Cur_someLots_L1 N fu_ c4 v43 kx4) c4 v43 kx4 := rfl
def pspec_l1Cur_someLots_L1_run (N : Nat) := run3 (pspec_l1Cur_someLots_B1 N) (pspec_l1Cur_someLots_L1 N) (fun _ _ _ _ => rfl)
def pspec_l1Cur_someLots_K3 (N : Nat) (n2 : Int) (c3 : (List Int) × Int × Int) (v42 : (List Int) × (List Int) × (List Int) × (List Int)) (kx3 : (List Int) × (List Int) × (List Int) × (List Int)) : Option (((List Int) × (List Int) × (List Int) × (List Int)) × ((List Int) × Int × Int)) :=
  bif ilt 0 n2 then
    (pspec_l1Cur_pick N c3 n2).bind fun r10 =>
    (pspec_l1Cur_pick N r10.2 60).bind fun r11 =>
    bif ieq r11.1 0 then
      (pspec_l1Cur_among N r11.2 [(-1), 20, 21, 4611686018427387904]).bind fun r12 =>
      chk (inB r10.1 kx3.1.length) <|
      some ((List.set kx3.1 r10.1.toNat r12.1, kx3.2), r12.2)
    else
      bif ieq r11.1 1 then
        (pspec_l1Cur_among N r11.2 [(-1), 99, 100]).bind fun r13 =>
        chk (inB r10.1 kx3.2.1.length) <|
        some ((kx3.1, (List.set kx3.2.1 r10.1.toNat r13.1, kx3.2.2)), r13.2)
      else
        bif ieq r11.1 2 then
          (pspec_l1Cur_among N r11.2 [(-1), 9, 10]).bind fun r14 =>
          chk (inB r10.1 kx3.2.2.1.length) <|
          some ((kx3.1, (kx3.2.1, (List.set kx3.2.2.1 r10.1.toNat r14.1, kx3.2.2.2))), r14.2)
        else
          bif ieq r11.1 3 then
            (pspec_l1Cur_among N r11.2 [(-1), 9, 10]).bind fun r15 =>
            chk (inB r10.1 kx3.2.2.2.length) <|
            some ((kx3.1, (kx3.2.1, (kx3.2.2.1, List.set kx3.2.2.2 r10.1.toNat r15.1))), r15.2)
          else
            bif ieq r11.1 4 then
              chk (fitB (kx3.2.2.1.length + 1) 8) <|
              some ((kx3.1, (kx3.2.1, (kx3.2.2.1 ++ [1], kx3.2.2.2))), r11.2)
            else
              bif ieq r11.1 5 then
                pspec_l1Cur_someLots_L1 N N r11.2 v42 kx3
              else
                some (kx3, r11.2)
  else
    some (kx3, c3)
def pspec_l1Cur_someLots_B2 (N : Nat) (kx1 : Int → Bool → Int → Int → Int → Int → ((List Int) × Int × Int) → ((List Int) × (List Int) × (List Int) × (List Int)) → ((List Int) × (List Int) × (List Int) × (List Int)) → Option (((List Int) × (List Int) × (List Int) × (List Int)) × ((List Int) × Int × Int))) (n : Int) (same : Bool) (setup : Int) (unit : Int) (hold : Int) (t : Int) (c1 : (List Int) × Int × Int) (v4 : (List Int) × (List Int) × (List Int) × (List Int)) (kx : (List Int) × (List Int) × (List Int) × (List Int)) : Option (((List Int) × (List Int) × (List Int) × (List Int)) × ((List Int) × Int × Int)) :=
  bif ilt t n then
    bif !same then
      (pspec_l1Cur_among N c1 [0, 2, 5, 9, 14, 30]).bind fun r6 =>
      (pspec_l1Cur_pick N r6.2 5).bind fun r7 =>
      (pspec_l1Cur_pick N r7.2 4).bind fun r8 =>
      pspec_l1Cur_someLots_K1 N kx1 n same r6.1 r7.1 r8.1 t r8.2 v4 kx
    else
      pspec_l1Cur_someLots_K1 N kx1 n same setup unit hold t c1 v4 kx
  else
    pspec_l1Cur_someLots_K3 N n c1 v4 kx
def pspec_l1Cur_someLots_L2 (N fu_ : Nat) := it_6_3 (pspec_l1Cur_someLots_B2 N) fu_
theorem pspec_l1Cur_someLots_L2_succ (N fu_ : Nat) (n : Int) (same : Bool) (setup : Int) (unit : Int) (hold : Int) (t : Int) (c1 : (List Int) × Int × Int) (v4 : (List Int) × (List Int) × (List Int) × (List Int)) (kx : (List Int) × (List Int) × (List Int) × (List Int)) : pspec_l1Cur_someLots_L2 N (fu_ + 1) n same setup unit hold t c1 v4 kx = pspec_l1Cur_someLots_B2 N (fun n same setup unit hold t c1 v4 kx => pspec_l1Cur_someLots_L2 N fu_ n same setup unit hold t c1 v4 kx) n same setup unit hold t c1 v4 kx := rfl
def pspec_l1Cur_someLots_L2_run (N : Nat) := run9 (pspec_l1Cur_someLots_B2 N) (pspec_l1Cur_someLots_L2 N) (fun _ _ _ _ _ _ _ _ _ _ => rfl)
def pspec_l1Cur_someLots (N : Nat) (c : (List Int) × Int × Int) (most : Int) : Option (((List Int) × (List Int) × (List Int) × (List Int)) × ((List Int) × Int × Int)) :=
  (pspec_l1Cur_among N c [4, 5, 3, 6, 8, 2, 1, 0]).bind fun r =>
  (spec_l1Least N r.1 most).bind fun r1 =>
  (pspec_l1Cur_one N r.2 2).bind fun r2 =>
  (pspec_l1Cur_among N r2.2 [0, 3, 5, 8, 12, 20]).bind fun r3 =>
  (pspec_l1Cur_pick N r3.2 3).bind fun r4 =>
  (pspec_l1Cur_pick N r4.2 2).bind fun r5 =>
  pspec_l1Cur_someLots_L2 N N r1.1 r2.1 r3.1 r4.1 (iadd .i64 1 r5.1) 0 r5.2 ([], ([], ([], []))) ([], ([], ([], [])))
def spec_l2Sum_K1 (N : Nat) (sum1 : Int) : Option (Int × Unit) :=
  some (sum1, ())
def spec_l2Sum_B1 (N : Nat) (kx : (List Int) → Int → Int → Option (Int × Unit)) (list1 : List Int) (sum : Int) (i : Int) : Option (Int × Unit) :=
  bif ilt i (len list1) then
    chk (inB i list1.length) <|
    kx list1 (iadd .i64 sum (gd list1 i.toNat 0)) (iadd .i64 i 1)
  else
    spec_l2Sum_K1 N sum
def spec_l2Sum_L1 (N fu_ : Nat) := it_3_0 (spec_l2Sum_B1 N) fu_
theorem spec_l2Sum_L1_succ (N fu_ : Nat) (list1 : List Int) (sum : Int) (i : Int) : spec_l2Sum_L1 N (fu_ + 1) list1 sum i = spec_l2Sum_B1 N (fun list1 sum i => spec_l2Sum_L1 N fu_ list1 sum i) list1 sum i := rfl
def spec_l2Sum_L1_run (N : Nat) := run3 (spec_l2Sum_B1 N) (spec_l2Sum_L1 N) (fun _ _ _ _ => rfl)
def spec_l2Sum (N : Nat) (list : List Int) : Option (Int × Unit) :=
  spec_l2Sum_L1 N N list 0 0
def pspec_l1Cur_late_K1 (N : Nat) (c2 : (List Int) × Int × Int) (v21 : (List Int) × (List Int) × (List Int) × (List Int)) (kx2 : (List Int) × (List Int) × (List Int) × (List Int)) (plan1 : List Int) : Option ((((List Int) × (List Int) × (List Int) × (List Int)) × (List Int)) × ((List Int) × Int × Int)) :=
  bif ilt 0 (len plan1) then
    (pspec_l1Cur_one N c2 16).bind fun r5 =>
    bif r5.1 then
      (pspec_l1Cur_pick N r5.2 (len plan1)).bind fun r6 =>
      chk (inB r6.1 plan1.length) <|
      (pspec_l1Cur_among N r6.2 [1, (-1), 4611686018427387904]).bind fun r7 =>
      chk (inB r6.1 plan1.length) <|
      some ((kx2, List.set plan1 r6.1.toNat (iadd .i64 (gd plan1 r6.1.toNat 0) r7.1)), r7.2)
    else
      some ((kx2, plan1), r5.2)
  else
    some ((kx2, plan1), c2)
def pspec_l1Cur_late_B1 (N : Nat) (kx1 : Int → ((List Int) × Int × Int) → ((List Int) × (List Int) × (List Int) × (List Int)) → ((List Int) × (List Int) × (List Int) × (List Int)) → (List Int) → Option ((((List Int) × (List Int) × (List Int) × (List Int)) × (List Int)) × ((List Int) × Int × Int))) (left : Int) (c1 : (List Int) × Int × Int) (v2 : (List Int) × (List Int) × (List Int) × (List Int)) (kx : (List Int) × (List Int) × (List Int) × (List Int)) (plan : List Int) : Option ((((List Int) × (List Int) × (List Int) × (List Int)) × (List Int)) × ((List Int) × Int × Int)) :=
  bif ilt 0 left then
    (pspec_l1Cur_pick N c1 left).bind fun r3 =>
    (pspec_l1Cur_pick N r3.2 (len plan)).bind fun r4 =>
    chk (inB r4.1 plan.length) <|
    chk (inB r4.1 plan.length) <|
    kx1 (isub .i64 left (iadd .i64 1 r3.1)) r4.2 v2 kx (List.set plan r4.1.toNat (iadd .i64 (gd plan r4.1.toNat 0) (iadd .i64 1 r3.1)))
  else
    pspec_l1Cur_late_K1 N c1 v2 kx plan
def pspec_l1Cur_late_L1 (N fu_ : Nat) := it_1_4 (pspec_l1Cur_late_B1 N) fu_
theorem pspec_l1Cur_late_L1_succ (N fu_ : Nat) (left : Int) (c1 : (List Int) × Int × Int) (v2 : (List Int) × (List Int) × (List Int) × (List Int)) (kx : (List Int) × (List Int) × (List Int) × (List Int)) (plan : List Int) : pspec_l1Cur_late_L1 N (fu_ + 1) left c1 v2 kx plan = pspec_l1Cur_late_B1 N (fun left c1 v2 kx plan => pspec_l1Cur_late_L1 N fu_ left c1 v2 kx plan) left c1 v2 kx plan := rfl
def pspec_l1Cur_late_L1_run (N : Nat) := run5 (pspec_l1Cur_late_B1 N) (pspec_l1Cur_late_L1 N) (fun _ _ _ _ _ _ => rfl)
def pspec_l1Cur_late (N : Nat) (c : (List Int) × Int × Int) : Option ((((List Int) × (List Int) × (List Int) × (List Int)) × (List Int)) × ((List Int) × Int × Int)) :=
  (pspec_l1Cur_someLots N c 6).bind fun r =>
  chk (mkB (len r.1.1) 8) <|
  (spec_l2Good N r.1).bind fun r1 =>
  bif !r1.1 then
    some ((r.1, List.replicate (len r.1.1).toNat 0), r.2)
  else
    (spec_l2Sum N r.1.1).bind fun r2 =>
    pspec_l1Cur_late_L1 N N r2.1 r.2 ([], ([], ([], []))) r.1 (List.replicate (len r.1.1).toNat 0)
def pspec_l1Cur_rates_K1 (N : Nat) (c3 : (List Int) × Int × Int) (out2 : List Int) : Option ((List Int) × ((List Int) × Int × Int)) :=
  bif ilt 0 (len out2) then
    (pspec_l1Cur_one N c3 24).bind fun r3 =>
    bif r3.1 then
      (pspec_l1Cur_among N r3.2 [(-1), 9, 10]).bind fun r4 =>
      chk (inB 0 out2.length) <|
      some (List.set out2 0 r4.1, r4.2)
    else
      some (out2, r3.2)
  else
    some (out2, c3)
def pspec_l1Cur_rates_K2 (N : Nat) (c2 : (List Int) × Int × Int) (out1 : List Int) : Option ((List Int) × ((List Int) × Int × Int)) :=
  (pspec_l1Cur_one N c2 24).bind fun r1 =>
  bif r1.1 then
    (pspec_l1Cur_among N r1.2 [1, 10]).bind fun r2 =>
    chk (fitB (out1.length + 1) 8) <|
    pspec_l1Cur_rates_K1 N r2.2 (out1 ++ [r2.1])
  else
    pspec_l1Cur_rates_K1 N r1.2 out1
def pspec_l1Cur_rates_B1 (N : Nat) (kx2 : Int → ((List Int) × Int × Int) → ((List Int) × (List Int) × (List Int) × (List Int)) → (List Int) → Option ((List Int) × ((List Int) × Int × Int))) (t : Int) (c1 : (List Int) × Int × Int) (kx1 : (List Int) × (List Int) × (List Int) × (List Int)) (out : List Int) : Option ((List Int) × ((List Int) × Int × Int)) :=
  bif ilt t (len kx1.1) then
    (pspec_l1Cur_among N c1 [1, 2, 3, 9, 0]).bind fun r =>
    chk (fitB (out.length + 1) 8) <|
    kx2 (iadd .i64 t 1) r.2 kx1 (out ++ [r.1])
  else
    pspec_l1Cur_rates_K2 N c1 out
def pspec_l1Cur_rates_L1 (N fu_ : Nat) := it_1_3 (pspec_l1Cur_rates_B1 N) fu_
theorem pspec_l1Cur_rates_L1_succ (N fu_ : Nat) (t : Int) (c1 : (List Int) × Int × Int) (kx1 : (List Int) × (List Int) × (List Int) × (List Int)) (out : List Int) : pspec_l1Cur_rates_L1 N (fu_ + 1) t c1 kx1 out = pspec_l1Cur_rates_B1 N (fun t c1 kx1 out => pspec_l1Cur_rates_L1 N fu_ t c1 kx1 out) t c1 kx1 out := rfl
def pspec_l1Cur_rates_L1_run (N : Nat) := run4 (pspec_l1Cur_rates_B1 N) (pspec_l1Cur_rates_L1 N) (fun _ _ _ _ _ => rfl)
def pspec_l1Cur_rates (N : Nat) (c : (List Int) × Int × Int) (kx : (List Int) × (List Int) × (List Int) × (List Int)) : Option ((List Int) × ((List Int) × Int × Int)) :=
  pspec_l1Cur_rates_L1 N N 0 c kx []
def spec_DrawLateCost (N : Nat) (code : List Int) : Option ((((List Int) × (List Int) × (List Int) × (List Int)) × (List Int) × (List Int)) × Unit) :=
  (pspec_l1Cur_late N (code, (0, 0))).bind fun r =>
  (pspec_l1Cur_rates N r.2 r.1.1).bind fun r1 =>
  some ((r.1.1, (r1.1, r.1.2)), ())
def impl_within (N : Nat) (n : Int) (low : Int) (high : Int) : Option (Bool × Unit) :=
  bif ile low n then
    some (ile n high, ())
  else
    some (false, ())
def impl_allWithin_K1 (N : Nat) : Option (Bool × Unit) :=
  some (true, ())
def impl_allWithin_B1 (N : Nat) (kx : Int → Int → (List Int) → Int → Int → Option (Bool × Unit)) (low1 : Int) (high1 : Int) (v9 : List Int) (v10 : Int) (v11 : Int) : Option (Bool × Unit) :=
  bif ilt v11 v10 then
    chk (inB v11 v9.length) <|
    (impl_within N (gd v9 v11.toNat 0) low1 high1).bind fun r =>
    bif !r.1 then
      some (false, ())
    else
      kx low1 high1 v9 v10 (iadd .i64 v11 1)
  else
    impl_allWithin_K1 N
def impl_allWithin_L1 (N fu_ : Nat) := it_5_0 (impl_allWithin_B1 N) fu_
theorem impl_allWithin_L1_succ (N fu_ : Nat) (low1 : Int) (high1 : Int) (v9 : List Int) (v10 : Int) (v11 : Int) : impl_allWithin_L1 N (fu_ + 1) low1 high1 v9 v10 v11 = impl_allWithin_B1 N (fun low1 high1 v9 v10 v11 => impl_allWithin_L1 N fu_ low1 high1 v9 v10 v11) low1 high1 v9 v10 v11 := rfl
def impl_allWithin_L1_run (N : Nat) := run5 (impl_allWithin_B1 N) (impl_allWithin_L1 N) (fun _ _ _ _ _ _ => rfl)
def impl_allWithin (N : Nat) (list : List Int) (low : Int) (high : Int) : Option (Bool × Unit) :=
  impl_allWithin_L1 N N low high list (len list) 0
def impl_IsCase (N : Nat) (c : (List Int) × (List Int) × (List Int) × (List Int)) : Option (Bool × Unit) :=
  bif ile (len c.1) 8 then
    bif ieq (len c.2.1) (len c.1) then
      bif ieq (len c.2.2.1) (len c.1) then
        bif ieq (len c.2.2.2) (len c.1) then
          (impl_allWithin N c.1 0 20).bind fun r =>
          bif r.1 then
            (impl_allWithin N c.2.1 0 99).bind fun r1 =>
            bif r1.1 then
              (impl_allWithin N c.2.2.1 0 9).bind fun r2 =>
              bif r2.1 then
                (impl_allWithin N c.2.2.2 0 9).bind fun r3 =>
                some (r3.1, ())
              else
                some (false, ())
            else
              some (false, ())
          else
            some (false, ())
        else
          some (false, ())
      else
        some (false, ())
    else
      some (false, ())
  else
    some (false, ())
def impl_areRates (N : Nat) (c : (List Int) × (List Int) × (List Int) × (List Int)) (rates : List Int) : Option (Bool × Unit) :=
  (impl_IsCase N c).bind fun r =>
  bif r.1 then
    bif ieq (len rates) (len c.1) then
      (impl_allWithin N rates 0 9).bind fun r1 =>
      some (r1.1, ())
    else
      some (false, ())
  else
    some (false, ())
def impl_total_K1 (N : Nat) (sum1 : Int) : Option (Int × Unit) :=
  some (sum1, ())
def impl_total_B1 (N : Nat) (kx : Int → (List Int) → Int → Int → Option (Int × Unit)) (sum : Int) (v6 : List Int) (v7 : Int) (v8 : Int) : Option (Int × Unit) :=
  bif ilt v8 v7 then
    chk (inB v8 v6.length) <|
    kx (iadd .i64 sum (gd v6 v8.toNat 0)) v6 v7 (iadd .i64 v8 1)
  else
    impl_total_K1 N sum
def impl_total_L1 (N fu_ : Nat) := it_4_0 (impl_total_B1 N) fu_
theorem impl_total_L1_succ (N fu_ : Nat) (sum : Int) (v6 : List Int) (v7 : Int) (v8 : Int) : impl_total_L1 N (fu_ + 1) sum v6 v7 v8 = impl_total_B1 N (fun sum v6 v7 v8 => impl_total_L1 N fu_ sum v6 v7 v8) sum v6 v7 v8 := rfl
def impl_total_L1_run (N : Nat) := run4 (impl_total_B1 N) (impl_total_L1 N) (fun _ _ _ _ _ => rfl)
def impl_total (N : Nat) (list : List Int) : Option (Int × Unit) :=
  impl_total_L1 N N 0 list (len list) 0
def impl_Case_isLate (N : Nat) (c : (List Int) × (List Int) × (List Int) × (List Int)) (plan : List Int) : Option (Bool × Unit) :=
  bif ieq (len plan) (len c.1) then
    (impl_allWithin N plan 0 160).bind fun r =>
    bif r.1 then
      (impl_total N plan).bind fun r1 =>
      (impl_total N c.1).bind fun r2 =>
      some (ieq r1.1 r2.1, ())
    else
      some (false, ())
  else
    some (false, ())
def impl_Case_late (N : Nat) (c : (List Int) × (List Int) × (List Int) × (List Int)) (rates : List Int) (i : Int) (amount : Int) (balance : Int) : Option (Int × Unit) :=
  chk (inB i c.2.2.1.length) <|
  chk (inB i c.2.2.2.length) <|
  chk (inB i rates.length) <|
  bif ilt 0 amount then
    chk (inB i c.2.1.length) <|
    some (iadd .i64 (iadd .i64 (iadd .i64 (imul .i64 (gd c.2.2.1 i.toNat 0) amount) (imul .i64 (gd c.2.2.2 i.toNat 0) (imax 0 balance))) (imul .i64 (gd rates i.toNat 0) (imax 0 (isub .i64 0 balance)))) (gd c.2.1 i.toNat 0), ())
  else
    some (iadd .i64 (iadd .i64 (imul .i64 (gd c.2.2.1 i.toNat 0) amount) (imul .i64 (gd c.2.2.2 i.toNat 0) (imax 0 balance))) (imul .i64 (gd rates i.toNat 0) (imax 0 (isub .i64 0 balance))), ())
def impl_LateCost_K1 (N : Nat) (cost1 : Int) : Option ((Int × Bool) × Unit) :=
  some ((cost1, true), ())
def impl_LateCost_B1 (N : Nat) (kx : (List Int) → Int → Int → (List Int) → Int → Int → ((List Int) × (List Int) × (List Int) × (List Int)) → Option ((Int × Bool) × Unit)) (rates1 : List Int) (cost : Int) (balance : Int) (v22 : List Int) (v23 : Int) (v24 : Int) (c1 : (List Int) × (List Int) × (List Int) × (List Int)) : Option ((Int × Bool) × Unit) :=
  bif ilt v24 v23 then
    chk (inB v24 v22.length) <|
    chk (inB v24 c1.1.length) <|
    (impl_Case_late N c1 rates1 v24 (gd v22 v24.toNat 0) (iadd .i64 balance (isub .i64 (gd v22 v24.toNat 0) (gd c1.1 v24.toNat 0)))).bind fun r2 =>
    kx rates1 (iadd .i64 cost r2.1) (iadd .i64 balance (isub .i64 (gd v22 v24.toNat 0) (gd c1.1 v24.toNat 0))) v22 v23 (iadd .i64 v24 1) c1
  else
    impl_LateCost_K1 N cost
def impl_LateCost_L1 (N fu_ : Nat) := it_6_1 (impl_LateCost_B1 N) fu_
theorem impl_LateCost_L1_succ (N fu_ : Nat) (rates1 : List Int) (cost : Int) (balance : Int) (v22 : List Int) (v23 : Int) (v24 : Int) (c1 : (List Int) × (List Int) × (List Int) × (List Int)) : impl_LateCost_L1 N (fu_ + 1) rates1 cost balance v22 v23 v24 c1 = impl_LateCost_B1 N (fun rates1 cost balance v22 v23 v24 c1 => impl_LateCost_L1 N fu_ rates1 cost balance v22 v23 v24 c1) rates1 cost balance v22 v23 v24 c1 := rfl
def impl_LateCost_L1_run (N : Nat) := run7 (impl_LateCost_B1 N) (impl_LateCost_L1 N) (fun _ _ _ _ _ _ _ _ => rfl)
def impl_LateCost (N : Nat) (c : (List Int) × (List Int) × (List Int) × (List Int)) (rates : List Int) (plan : List Int) : Option ((Int × Bool) × Unit) :=
  (impl_areRates N c rates).bind fun r =>
  bif !r.1 then
    some ((0, false), ())
  else
    (impl_Case_isLate N c plan).bind fun r1 =>
    bif !r1.1 then
      some ((0, false), ())
    else
      impl_LateCost_L1 N N rates 0 0 plan (len plan) 0 c
def spec_l4Rates (N : Nat) (c : (List Int) × (List Int) × (List Int) × (List Int)) (rates : List Int) : Option (Bool × Unit) :=
  (spec_l2Good N c).bind fun r =>
  bif r.1 then
    (spec_l2Row N rates (len c.1) 9).bind fun r1 =>
    some (r1.1, ())
  else
    some (false, ())
def spec_l4Late (N : Nat) (c : (List Int) × (List Int) × (List Int) × (List Int)) (plan : List Int) : Option (Bool × Unit) :=
  (spec_l2Row N plan (len c.1) 160).bind fun r =>
  bif r.1 then
    (spec_l2Sum N plan).bind fun r1 =>
    (spec_l2Sum N c.1).bind fun r2 =>
    some (ieq r1.1 r2.1, ())
  else
    some (false, ())
def spec_l2Stocks_K1 (N : Nat) (out1 : List Int) : Option ((List Int) × Unit) :=
  some (out1, ())
def spec_l2Stocks_B1 (N : Nat) (kx : (List Int) → Int → Int → ((List Int) × (List Int) × (List Int) × (List Int)) → (List Int) → Option ((List Int) × Unit)) (plan1 : List Int) (now : Int) (t : Int) (c1 : (List Int) × (List Int) × (List Int) × (List Int)) (out : List Int) : Option ((List Int) × Unit) :=
  bif ilt t (len plan1) then
    chk (inB t plan1.length) <|
    chk (inB t c1.1.length) <|
    chk (fitB (out.length + 1) 8) <|
    kx plan1 (isub .i64 (iadd .i64 now (gd plan1 t.toNat 0)) (gd c1.1 t.toNat 0)) (iadd .i64 t 1) c1 (out ++ [isub .i64 (iadd .i64 now (gd plan1 t.toNat 0)) (gd c1.1 t.toNat 0)])
  else
    spec_l2Stocks_K1 N out
def spec_l2Stocks_L1 (N fu_ : Nat) := it_3_2 (spec_l2Stocks_B1 N) fu_
theorem spec_l2Stocks_L1_succ (N fu_ : Nat) (plan1 : List Int) (now : Int) (t : Int) (c1 : (List Int) × (List Int) × (List Int) × (List Int)) (out : List Int) : spec_l2Stocks_L1 N (fu_ + 1) plan1 now t c1 out = spec_l2Stocks_B1 N (fun plan1 now t c1 out => spec_l2Stocks_L1 N fu_ plan1 now t c1 out) plan1 now t c1 out := rfl
def spec_l2Stocks_L1_run (N : Nat) := run5 (spec_l2Stocks_B1 N) (spec_l2Stocks_L1 N) (fun _ _ _ _ _ _ => rfl)
def spec_l2Stocks (N : Nat) (c : (List Int) × (List Int) × (List Int) × (List Int)) (plan : List Int) : Option ((List Int) × Unit) :=
  spec_l2Stocks_L1 N N plan 0 0 c []
def spec_l4Step (N : Nat) (c : (List Int) × (List Int) × (List Int) × (List Int)) (t : Int) (amount : Int) (stock : Int) : Option (Int × Unit) :=
  chk (inB t c.2.2.1.length) <|
  chk (inB t c.2.2.2.length) <|
  bif ilt 0 amount then
    chk (inB t c.2.1.length) <|
    some (iadd .i64 (iadd .i64 (imul .i64 (gd c.2.2.1 t.toNat 0) amount) (imul .i64 (gd c.2.2.2 t.toNat 0) stock)) (gd c.2.1 t.toNat 0), ())
  else
    some (iadd .i64 (imul .i64 (gd c.2.2.1 t.toNat 0) amount) (imul .i64 (gd c.2.2.2 t.toNat 0) stock), ())
def spec_l1Most (N : Nat) (a : Int) (b : Int) : Option (Int × Unit) :=
  bif ilt b a then
    some (a, ())
  else
    some (b, ())
def spec_l4Owe (N : Nat) (c : (List Int) × (List Int) × (List Int) × (List Int)) (rates : List Int) (t : Int) (amount : Int) (balance : Int) : Option (Int × Unit) :=
  (spec_l1Most N balance 0).bind fun r =>
  (spec_l4Step N c t amount r.1).bind fun r1 =>
  chk (inB t rates.length) <|
  (spec_l1Most N (isub .i64 0 balance) 0).bind fun r2 =>
  some (iadd .i64 r1.1 (imul .i64 (gd rates t.toNat 0) r2.1), ())
def spec_LateCost_K1 (N : Nat) (sum1 : Int) : Option ((Int × Bool) × Unit) :=
  some ((sum1, true), ())
def spec_LateCost_B1 (N : Nat) (kx : (List Int) → (List Int) → Int → Int → ((List Int) × (List Int) × (List Int) × (List Int)) → (List Int) → Option ((Int × Bool) × Unit)) (rates1 : List Int) (plan1 : List Int) (sum : Int) (t : Int) (c1 : (List Int) × (List Int) × (List Int) × (List Int)) (stocks : List Int) : Option ((Int × Bool) × Unit) :=
  bif ilt t (len plan1) then
    chk (inB t plan1.length) <|
    chk (inB t stocks.length) <|
    (spec_l4Owe N c1 rates1 t (gd plan1 t.toNat 0) (gd stocks t.toNat 0)).bind fun r3 =>
    kx rates1 plan1 (iadd .i64 sum r3.1) (iadd .i64 t 1) c1 stocks
  else
    spec_LateCost_K1 N sum
def spec_LateCost_L1 (N fu_ : Nat) := it_4_2 (spec_LateCost_B1 N) fu_
theorem spec_LateCost_L1_succ (N fu_ : Nat) (rates1 : List Int) (plan1 : List Int) (sum : Int) (t : Int) (c1 : (List Int) × (List Int) × (List Int) × (List Int)) (stocks : List Int) : spec_LateCost_L1 N (fu_ + 1) rates1 plan1 sum t c1 stocks = spec_LateCost_B1 N (fun rates1 plan1 sum t c1 stocks => spec_LateCost_L1 N fu_ rates1 plan1 sum t c1 stocks) rates1 plan1 sum t c1 stocks := rfl
def spec_LateCost_L1_run (N : Nat) := run6 (spec_LateCost_B1 N) (spec_LateCost_L1 N) (fun _ _ _ _ _ _ _ => rfl)
def spec_LateCost (N : Nat) (c : (List Int) × (List Int) × (List Int) × (List Int)) (rates : List Int) (plan : List Int) : Option ((Int × Bool) × Unit) :=
  (spec_l4Rates N c rates).bind fun r =>
  bif !r.1 then
    some ((0, false), ())
  else
    (spec_l4Late N c plan).bind fun r1 =>
    bif !r1.1 then
      some ((0, false), ())
    else
      (spec_l2Stocks N c plan).bind fun r2 =>
      spec_LateCost_L1 N N rates plan 0 0 c r2.1
def impl_IsLatePlan (N : Nat) (c : (List Int) × (List Int) × (List Int) × (List Int)) (plan : List Int) : Option ((Bool × Bool) × Unit) :=
  (impl_IsCase N c).bind fun r =>
  bif !r.1 then
    some ((false, false), ())
  else
    (impl_Case_isLate N c plan).bind fun r1 =>
    some ((r1.1, true), ())
def spec_IsLatePlan (N : Nat) (c : (List Int) × (List Int) × (List Int) × (List Int)) (plan : List Int) : Option ((Bool × Bool) × Unit) :=
  (spec_l2Good N c).bind fun r =>
  bif !r.1 then
    some ((false, false), ())
  else
    (spec_l4Late N c plan).bind fun r1 =>
    some ((r1.1, true), ())
def impl_OwedPeriods_K1 (N : Nat) (out1 : List Int) : Option (((List Int) × Bool) × Unit) :=
  some ((out1, true), ())
def impl_OwedPeriods_B1 (N : Nat) (kx : Int → (List Int) → Int → Int → ((List Int) × (List Int) × (List Int) × (List Int)) → (List Int) → Option (((List Int) × Bool) × Unit)) (balance : Int) (v20 : List Int) (v21 : Int) (v22 : Int) (c1 : (List Int) × (List Int) × (List Int) × (List Int)) (out : List Int) : Option (((List Int) × Bool) × Unit) :=
  bif ilt v22 v21 then
    chk (inB v22 v20.length) <|
    chk (inB v22 c1.1.length) <|
    bif ilt (iadd .i64 balance (isub .i64 (gd v20 v22.toNat 0) (gd c1.1 v22.toNat 0))) 0 then
      chk (fitB (out.length + 1) 8) <|
      kx (iadd .i64 balance (isub .i64 (gd v20 v22.toNat 0) (gd c1.1 v22.toNat 0))) v20 v21 (iadd .i64 v22 1) c1 (out ++ [v22])
    else
      kx (iadd .i64 balance (isub .i64 (gd v20 v22.toNat 0) (gd c1.1 v22.toNat 0))) v20 v21 (iadd .i64 v22 1) c1 out
  else
    impl_OwedPeriods_K1 N out
def impl_OwedPeriods_L1 (N fu_ : Nat) := it_4_2 (impl_OwedPeriods_B1 N) fu_
theorem impl_OwedPeriods_L1_succ (N fu_ : Nat) (balance : Int) (v20 : List Int) (v21 : Int) (v22 : Int) (c1 : (List Int) × (List Int) × (List Int) × (List Int)) (out : List Int) : impl_OwedPeriods_L1 N (fu_ + 1) balance v20 v21 v22 c1 out = impl_OwedPeriods_B1 N (fun balance v20 v21 v22 c1 out => impl_OwedPeriods_L1 N fu_ balance v20 v21 v22 c1 out) balance v20 v21 v22 c1 out := rfl
def impl_OwedPeriods_L1_run (N : Nat) := run6 (impl_OwedPeriods_B1 N) (impl_OwedPeriods_L1 N) (fun _ _ _ _ _ _ _ => rfl)
def impl_OwedPeriods (N : Nat) (c : (List Int) × (List Int) × (List Int) × (List Int)) (plan : List Int) : Option (((List Int) × Bool) × Unit) :=
  (impl_IsCase N c).bind fun r =>
  bif !r.1 then
    some (([], false), ())
  else
    (impl_Case_isLate N c plan).bind fun r1 =>
    bif !r1.1 then
      some (([], false), ())
    else
      impl_OwedPeriods_L1 N N 0 plan (len plan) 0 c []
def spec_OwedPeriods_K1 (N : Nat) (out1 : List Int) : Option (((List Int) × Bool) × Unit) :=
  some ((out1, true), ())
def spec_OwedPeriods_B1 (N : Nat) (kx : Int → (List Int) → (List Int) → Option (((List Int) × Bool) × Unit)) (t : Int) (out : List Int) (stocks : List Int) : Option (((List Int) × Bool) × Unit) :=
  bif ilt t (len stocks) then
    chk (inB t stocks.length) <|
    bif ilt (gd stocks t.toNat 0) 0 then
      chk (fitB (out.length + 1) 8) <|
      kx (iadd .i64 t 1) (out ++ [t]) stocks
    else
      kx (iadd .i64 t 1) out stocks
  else
    spec_OwedPeriods_K1 N out
def spec_OwedPeriods_L1 (N fu_ : Nat) := it_1_2 (spec_OwedPeriods_B1 N) fu_
theorem spec_OwedPeriods_L1_succ (N fu_ : Nat) (t : Int) (out : List Int) (stocks : List Int) : spec_OwedPeriods_L1 N (fu_ + 1) t out stocks = spec_OwedPeriods_B1 N (fun t out stocks => spec_OwedPeriods_L1 N fu_ t out stocks) t out stocks := rfl
def spec_OwedPeriods_L1_run (N : Nat) := run3 (spec_OwedPeriods_B1 N) (spec_OwedPeriods_L1 N) (fun _ _ _ _ => rfl)
def spec_OwedPeriods (N : Nat) (c : (List Int) × (List Int) × (List Int) × (List Int)) (plan : List Int) : Option (((List Int) × Bool) × Unit) :=
  (spec_l2Good N c).bind fun r =>
  bif !r.1 then
    some (([], false), ())
  else
    (spec_l4Late N c plan).bind fun r1 =>
    bif !r1.1 then
      some (([], false), ())
    else
      (spec_l2Stocks N c plan).bind fun r2 =>
      spec_OwedPeriods_L1 N N 0 [] r2.1
def laws_rInts_K1 (N : Nat) : Option (Bool × Unit) :=
  some (true, ())
def laws_rInts_B1 (N : Nat) (kx : (List Int) → (List Int) → Int → Option (Bool × Unit)) (a1 : List Int) (b1 : List Int) (i : Int) : Option (Bool × Unit) :=
  bif ilt i (len a1) then
    chk (inB i a1.length) <|
    chk (inB i b1.length) <|
    bif ine (gd a1 i.toNat 0) (gd b1 i.toNat 0) then
      some (false, ())
    else
      kx a1 b1 (iadd .i64 i 1)
  else
    laws_rInts_K1 N
def laws_rInts_L1 (N fu_ : Nat) := it_3_0 (laws_rInts_B1 N) fu_
theorem laws_rInts_L1_succ (N fu_ : Nat) (a1 : List Int) (b1 : List Int) (i : Int) : laws_rInts_L1 N (fu_ + 1) a1 b1 i = laws_rInts_B1 N (fun a1 b1 i => laws_rInts_L1 N fu_ a1 b1 i) a1 b1 i := rfl
def laws_rInts_L1_run (N : Nat) := run3 (laws_rInts_B1 N) (laws_rInts_L1 N) (fun _ _ _ _ => rfl)
def laws_rInts (N : Nat) (a : List Int) (b : List Int) : Option (Bool × Unit) :=
  bif ine (len a) (len b) then
    some (false, ())
  else
    laws_rInts_L1 N N a b 0
def impl_Case_bestLate_1 (N : Nat) (i : Int) (ordered : Int) (amount : Int) (v3 : (List Int) × (List Int) × (List Int) × (List Int)) (v4 : List Int) (v5 : List (List Int)) : Option (Int × Unit) :=
  chk (cutB 0 (iadd .i64 i 1) v3.1.length) <|
  (impl_total N (cut v3.1 0 (iadd .i64 i 1))).bind fun r =>
  (impl_Case_late N v3 v4 i amount (isub .i64 (iadd .i64 ordered amount) r.1)).bind fun r1 =>
  chk (inB (iadd .i64 i 1) v5.length) <|
  chk (inB (iadd .i64 ordered amount) (gd v5 (iadd .i64 i 1).toNat []).length) <|
  some (iadd .i64 r1.1 (gd (gd v5 (iadd .i64 i 1).toNat []) (iadd .i64 ordered amount).toNat 0), ())
def impl_Case_bestLate_K1 (N : Nat) (kx1 : Int → Int → Int → Int → Int → (List (List Int)) → ((List Int) × (List Int) × (List Int) × (List Int)) → (List Int) → Option (((List Int) × Int) × Unit)) (n3 : Int) (all3 : Int) (i3 : Int) (least1 : Int) (v342 : Int) (v352 : Int) (table3 : List (List Int)) (b23 : (List Int) × (List Int) × (List Int) × (List Int)) (b33 : List Int) : Option (((List Int) × Int) × Unit) :=
  chk (inB i3 table3.length) <|
  chk (fitB ((gd table3 i3.toNat []).length + 1) 8) <|
  chk (inB i3 table3.length) <|
  chk (natEq i3.toNat i3.toNat) <|
  kx1 n3 all3 i3 v342 (iadd .i64 v352 1) (List.set table3 i3.toNat ((gd table3 i3.toNat []) ++ [least1])) b23 b33
def impl_Case_bestLate_B1 (N : Nat) (kx1 : Int → Int → Int → Int → Int → (List (List Int)) → ((List Int) × (List Int) × (List Int) × (List Int)) → (List Int) → Option (((List Int) × Int) × Unit)) (kx2 : Int → Int → Int → Int → Int → Int → Int → Int → Int → (List (List Int)) → ((List Int) × (List Int) × (List Int) × (List Int)) → (List Int) → Option (((List Int) × Int) × Unit)) (n2 : Int) (all2 : Int) (i2 : Int) (ordered : Int) (least : Int) (v341 : Int) (v351 : Int) (v45 : Int) (v46 : Int) (table2 : List (List Int)) (b22 : (List Int) × (List Int) × (List Int) × (List Int)) (b32 : List Int) : Option (((List Int) × Int) × Unit) :=
  bif ilt v46 v45 then
    (impl_Case_bestLate_1 N i2 ordered v46 b22 b32 table2).bind fun r1 =>
    kx2 n2 all2 i2 ordered (imin least r1.1) v341 v351 v45 (iadd .i64 v46 1) table2 b22 b32
  else
    impl_Case_bestLate_K1 N kx1 n2 all2 i2 least v341 v351 table2 b22 b32
def impl_Case_bestLate_L1 (N fu_ : Nat) (kx1 : Int → Int → Int → Int → Int → (List (List Int)) → ((List Int) × (List Int) × (List Int) × (List Int)) → (List Int) → Option (((List Int) × Int) × Unit)) := it_9_3 (impl_Case_bestLate_B1 N kx1) fu_
theorem impl_Case_bestLate_L1_succ (N fu_ : Nat) (kx1 : Int → Int → Int → Int → Int → (List (List Int)) → ((List Int) × (List Int) × (List Int) × (List Int)) → (List Int) → Option (((List Int) × Int) × Unit)) (n2 : Int) (all2 : Int) (i2 : Int) (ordered : Int) (least : Int) (v341 : Int) (v351 : Int) (v45 : Int) (v46 : Int) (table2 : List (List Int)) (b22 : (List Int) × (List Int) × (List Int) × (List Int)) (b32 : List Int) : impl_Case_bestLate_L1 N (fu_ + 1) kx1 n2 all2 i2 ordered least v341 v351 v45 v46 table2 b22 b32 = impl_Case_bestLate_B1 N kx1 (fun n2 all2 i2 ordered least v341 v351 v45 v46 table2 b22 b32 => impl_Case_bestLate_L1 N fu_ kx1 n2 all2 i2 ordered least v341 v351 v45 v46 table2 b22 b32) n2 all2 i2 ordered least v341 v351 v45 v46 table2 b22 b32 := rfl
def impl_Case_bestLate_L1_run (N : Nat) (kx1 : Int → Int → Int → Int → Int → (List (List Int)) → ((List Int) × (List Int) × (List Int) × (List Int)) → (List Int) → Option (((List Int) × Int) × Unit)) := run12 (impl_Case_bestLate_B1 N kx1) (fun u_ => impl_Case_bestLate_L1 N u_ kx1) (fun _ _ _ _ _ _ _ _ _ _ _ _ _ => rfl)
def impl_Case_bestLate_K2 (N : Nat) (kx : Int → Int → Int → (List (List Int)) → ((List Int) × (List Int) × (List Int) × (List Int)) → (List Int) → Option (((List Int) × Int) × Unit)) (n4 : Int) (all4 : Int) (i4 : Int) (table4 : List (List Int)) (b24 : (List Int) × (List Int) × (List Int) × (List Int)) (b34 : List Int) : Option (((List Int) × Int) × Unit) :=
  kx n4 all4 (isub .i64 i4 1) table4 b24 b34
def impl_Case_bestLate_B2 (N : Nat) (kx : Int → Int → Int → (List (List Int)) → ((List Int) × (List Int) × (List Int) × (List Int)) → (List Int) → Option (((List Int) × Int) × Unit)) (kx1 : Int → Int → Int → Int → Int → (List (List Int)) → ((List Int) × (List Int) × (List Int) × (List Int)) → (List Int) → Option (((List Int) × Int) × Unit)) (n1 : Int) (all1 : Int) (i1 : Int) (v34 : Int) (v35 : Int) (table1 : List (List Int)) (b21 : (List Int) × (List Int) × (List Int) × (List Int)) (b31 : List Int) : Option (((List Int) × Int) × Unit) :=
  bif ilt v35 v34 then
    bif ilt i1 n1 then
      impl_Case_bestLate_L1 N N kx1 n1 all1 i1 v35 1099511627776 v34 v35 (iadd .i64 (isub .i64 all1 v35) 1) 0 table1 b21 b31
    else
      bif ieq v35 all1 then
        chk (inB i1 table1.length) <|
        chk (fitB ((gd table1 i1.toNat []).length + 1) 8) <|
        chk (inB i1 table1.length) <|
        chk (natEq i1.toNat i1.toNat) <|
        kx1 n1 all1 i1 v34 (iadd .i64 v35 1) (List.set table1 i1.toNat ((gd table1 i1.toNat []) ++ [0])) b21 b31
      else
        chk (inB i1 table1.length) <|
        chk (fitB ((gd table1 i1.toNat []).length + 1) 8) <|
        chk (inB i1 table1.length) <|
        chk (natEq i1.toNat i1.toNat) <|
        kx1 n1 all1 i1 v34 (iadd .i64 v35 1) (List.set table1 i1.toNat ((gd table1 i1.toNat []) ++ [1099511627776])) b21 b31
  else
    impl_Case_bestLate_K2 N kx n1 all1 i1 table1 b21 b31
def impl_Case_bestLate_L2 (N fu_ : Nat) (kx : Int → Int → Int → (List (List Int)) → ((List Int) × (List Int) × (List Int) × (List Int)) → (List Int) → Option (((List Int) × Int) × Unit)) := it_5_3 (impl_Case_bestLate_B2 N kx) fu_
theorem impl_Case_bestLate_L2_succ (N fu_ : Nat) (kx : Int → Int → Int → (List (List Int)) → ((List Int) × (List Int) × (List Int) × (List Int)) → (List Int) → Option (((List Int) × Int) × Unit)) (n1 : Int) (all1 : Int) (i1 : Int) (v34 : Int) (v35 : Int) (table1 : List (List Int)) (b21 : (List Int) × (List Int) × (List Int) × (List Int)) (b31 : List Int) : impl_Case_bestLate_L2 N (fu_ + 1) kx n1 all1 i1 v34 v35 table1 b21 b31 = impl_Case_bestLate_B2 N kx (fun n1 all1 i1 v34 v35 table1 b21 b31 => impl_Case_bestLate_L2 N fu_ kx n1 all1 i1 v34 v35 table1 b21 b31) n1 all1 i1 v34 v35 table1 b21 b31 := rfl
def impl_Case_bestLate_L2_run (N : Nat) (kx : Int → Int → Int → (List (List Int)) → ((List Int) × (List Int) × (List Int) × (List Int)) → (List Int) → Option (((List Int) × Int) × Unit)) := run8 (impl_Case_bestLate_B2 N kx) (fun u_ => impl_Case_bestLate_L2 N u_ kx) (fun _ _ _ _ _ _ _ _ _ => rfl)
def impl_Case_bestLate_K3 (N : Nat) (kx3 : Int → Int → Int → (List (List Int)) → ((List Int) × (List Int) × (List Int) × (List Int)) → (List Int) → (List Int) → Option (((List Int) × Int) × Unit)) (ordered3 : Int) (amount1 : Int) (v732 : Int) (v742 : Int) (table8 : List (List Int)) (b28 : (List Int) × (List Int) × (List Int) × (List Int)) (b38 : List Int) (plan2 : List Int) : Option (((List Int) × Int) × Unit) :=
  chk (fitB (plan2.length + 1) 8) <|
  kx3 (iadd .i64 ordered3 amount1) v732 (iadd .i64 v742 1) table8 b28 b38 (plan2 ++ [amount1])
def impl_Case_bestLate_B3 (N : Nat) (kx3 : Int → Int → Int → (List (List Int)) → ((List Int) × (List Int) × (List Int) × (List Int)) → (List Int) → (List Int) → Option (((List Int) × Int) × Unit)) (kx4 : Int → Int → Int → Int → Int → (List (List Int)) → ((List Int) × (List Int) × (List Int) × (List Int)) → (List Int) → (List Int) → Option (((List Int) × Int) × Unit)) (ordered2 : Int) (i5 : Int) (amount : Int) (v731 : Int) (v741 : Int) (table7 : List (List Int)) (b27 : (List Int) × (List Int) × (List Int) × (List Int)) (b37 : List Int) (plan1 : List Int) : Option (((List Int) × Int) × Unit) :=
  (impl_Case_bestLate_1 N i5 ordered2 amount b27 b37 table7).bind fun r2 =>
  chk (inB i5 table7.length) <|
  chk (inB ordered2 (gd table7 i5.toNat []).length) <|
  bif ine r2.1 (gd (gd table7 i5.toNat []) ordered2.toNat 0) then
    kx4 ordered2 i5 (iadd .i64 amount 1) v731 v741 table7 b27 b37 plan1
  else
    impl_Case_bestLate_K3 N kx3 ordered2 amount v731 v741 table7 b27 b37 plan1
def impl_Case_bestLate_L3 (N fu_ : Nat) (kx3 : Int → Int → Int → (List (List Int)) → ((List Int) × (List Int) × (List Int) × (List Int)) → (List Int) → (List Int) → Option (((List Int) × Int) × Unit)) := it_5_4 (impl_Case_bestLate_B3 N kx3) fu_
theorem impl_Case_bestLate_L3_succ (N fu_ : Nat) (kx3 : Int → Int → Int → (List (List Int)) → ((List Int) × (List Int) × (List Int) × (List Int)) → (List Int) → (List Int) → Option (((List Int) × Int) × Unit)) (ordered2 : Int) (i5 : Int) (amount : Int) (v731 : Int) (v741 : Int) (table7 : List (List Int)) (b27 : (List Int) × (List Int) × (List Int) × (List Int)) (b37 : List Int) (plan1 : List Int) : impl_Case_bestLate_L3 N (fu_ + 1) kx3 ordered2 i5 amount v731 v741 table7 b27 b37 plan1 = impl_Case_bestLate_B3 N kx3 (fun ordered2 i5 amount v731 v741 table7 b27 b37 plan1 => impl_Case_bestLate_L3 N fu_ kx3 ordered2 i5 amount v731 v741 table7 b27 b37 plan1) ordered2 i5 amount v731 v741 table7 b27 b37 plan1 := rfl
def impl_Case_bestLate_L3_run (N : Nat) (kx3 : Int → Int → Int → (List (List Int)) → ((List Int) × (List Int) × (List Int) × (List Int)) → (List Int) → (List Int) → Option (((List Int) × Int) × Unit)) := run9 (impl_Case_bestLate_B3 N kx3) (fun u_ => impl_Case_bestLate_L3 N u_ kx3) (fun _ _ _ _ _ _ _ _ _ _ => rfl)
def impl_Case_bestLate_K4 (N : Nat) (table9 : List (List Int)) (plan3 : List Int) : Option (((List Int) × Int) × Unit) :=
  chk (inB 0 table9.length) <|
  chk (inB 0 (gd table9 0 []).length) <|
  some ((plan3, gd (gd table9 0 []) 0 0), ())
def impl_Case_bestLate_B4 (N : Nat) (kx3 : Int → Int → Int → (List (List Int)) → ((List Int) × (List Int) × (List Int) × (List Int)) → (List Int) → (List Int) → Option (((List Int) × Int) × Unit)) (ordered1 : Int) (v73 : Int) (v74 : Int) (table6 : List (List Int)) (b26 : (List Int) × (List Int) × (List Int) × (List Int)) (b36 : List Int) (plan : List Int) : Option (((List Int) × Int) × Unit) :=
  bif ilt v74 v73 then
    impl_Case_bestLate_L3 N N kx3 ordered1 v74 0 v73 v74 table6 b26 b36 plan
  else
    impl_Case_bestLate_K4 N table6 plan
def impl_Case_bestLate_L4 (N fu_ : Nat) := it_3_4 (impl_Case_bestLate_B4 N) fu_
theorem impl_Case_bestLate_L4_succ (N fu_ : Nat) (ordered1 : Int) (v73 : Int) (v74 : Int) (table6 : List (List Int)) (b26 : (List Int) × (List Int) × (List Int) × (List Int)) (b36 : List Int) (plan : List Int) : impl_Case_bestLate_L4 N (fu_ + 1) ordered1 v73 v74 table6 b26 b36 plan = impl_Case_bestLate_B4 N (fun ordered1 v73 v74 table6 b26 b36 plan => impl_Case_bestLate_L4 N fu_ ordered1 v73 v74 table6 b26 b36 plan) ordered1 v73 v74 table6 b26 b36 plan := rfl
def impl_Case_bestLate_L4_run (N : Nat) := run7 (impl_Case_bestLate_B4 N) (impl_Case_bestLate_L4 N) (fun _ _ _ _ _ _ _ _ => rfl)
def impl_Case_bestLate_K5 (N : Nat) (n5 : Int) (table5 : List (List Int)) (b25 : (List Int) × (List Int) × (List Int) × (List Int)) (b35 : List Int) : Option (((List Int) × Int) × Unit) :=
  impl_Case_bestLate_L4 N N 0 n5 0 table5 b25 b35 []
def impl_Case_bestLate_B5 (N : Nat) (kx : Int → Int → Int → (List (List Int)) → ((List Int) × (List Int) × (List Int) × (List Int)) → (List Int) → Option (((List Int) × Int) × Unit)) (n : Int) (all : Int) (i : Int) (table : List (List Int)) (b2 : (List Int) × (List Int) × (List Int) × (List Int)) (b3 : List Int) : Option (((List Int) × Int) × Unit) :=
  bif ile 0 i then
    impl_Case_bestLate_L2 N N kx n all i (iadd .i64 all 1) 0 table b2 b3
  else
    impl_Case_bestLate_K5 N n table b2 b3
def impl_Case_bestLate_L5 (N fu_ : Nat) := it_3_3 (impl_Case_bestLate_B5 N) fu_
theorem impl_Case_bestLate_L5_succ (N fu_ : Nat) (n : Int) (all : Int) (i : Int) (table : List (List Int)) (b2 : (List Int) × (List Int) × (List Int) × (List Int)) (b3 : List Int) : impl_Case_bestLate_L5 N (fu_ + 1) n all i table b2 b3 = impl_Case_bestLate_B5 N (fun n all i table b2 b3 => impl_Case_bestLate_L5 N fu_ n all i table b2 b3) n all i table b2 b3 := rfl
def impl_Case_bestLate_L5_run (N : Nat) := run6 (impl_Case_bestLate_B5 N) (impl_Case_bestLate_L5 N) (fun _ _ _ _ _ _ _ => rfl)
def impl_Case_bestLate (N : Nat) (c : (List Int) × (List Int) × (List Int) × (List Int)) (rates : List Int) : Option (((List Int) × Int) × Unit) :=
  (impl_total N c.1).bind fun r =>
  chk (mkB (iadd .i64 (len c.1) 1) 24) <|
  impl_Case_bestLate_L5 N N (len c.1) r.1 (len c.1) (List.replicate (iadd .i64 (len c.1) 1).toNat ([] : List Int)) c rates
def impl_LeastLate (N : Nat) (c : (List Int) × (List Int) × (List Int) × (List Int)) (rates : List Int) : Option ((Int × Bool) × Unit) :=
  (impl_areRates N c rates).bind fun r =>
  bif !r.1 then
    some ((0, false), ())
  else
    (impl_Case_bestLate N c rates).bind fun r1 =>
    some ((r1.1.2, true), ())
def impl_Case_stocks_K1 (N : Nat) (stock1 : Int) (out1 : List Int) : Option (((List Int) × Bool) × Unit) :=
  some ((out1, ieq stock1 0), ())
def impl_Case_stocks_B1 (N : Nat) (kx : Int → (List Int) → Int → Int → ((List Int) × (List Int) × (List Int) × (List Int)) → (List Int) → Option (((List Int) × Bool) × Unit)) (stock : Int) (v22 : List Int) (v23 : Int) (v24 : Int) (c1 : (List Int) × (List Int) × (List Int) × (List Int)) (out : List Int) : Option (((List Int) × Bool) × Unit) :=
  bif ilt v24 v23 then
    chk (inB v24 v22.length) <|
    chk (inB v24 c1.1.length) <|
    bif ilt (iadd .i64 stock (isub .i64 (gd v22 v24.toNat 0) (gd c1.1 v24.toNat 0))) 0 then
      some (([], false), ())
    else
      chk (fitB (out.length + 1) 8) <|
      kx (iadd .i64 stock (isub .i64 (gd v22 v24.toNat 0) (gd c1.1 v24.toNat 0))) v22 v23 (iadd .i64 v24 1) c1 (out ++ [iadd .i64 stock (isub .i64 (gd v22 v24.toNat 0) (gd c1.1 v24.toNat 0))])
  else
    impl_Case_stocks_K1 N stock out
def impl_Case_stocks_L1 (N fu_ : Nat) := it_4_2 (impl_Case_stocks_B1 N) fu_
theorem impl_Case_stocks_L1_succ (N fu_ : Nat) (stock : Int) (v22 : List Int) (v23 : Int) (v24 : Int) (c1 : (List Int) × (List Int) × (List Int) × (List Int)) (out : List Int) : impl_Case_stocks_L1 N (fu_ + 1) stock v22 v23 v24 c1 out = impl_Case_stocks_B1 N (fun stock v22 v23 v24 c1 out => impl_Case_stocks_L1 N fu_ stock v22 v23 v24 c1 out) stock v22 v23 v24 c1 out := rfl
def impl_Case_stocks_L1_run (N : Nat) := run6 (impl_Case_stocks_B1 N) (impl_Case_stocks_L1 N) (fun _ _ _ _ _ _ _ => rfl)
def impl_Case_stocks (N : Nat) (c : (List Int) × (List Int) × (List Int) × (List Int)) (plan : List Int) : Option (((List Int) × Bool) × Unit) :=
  bif ine (len plan) (len c.1) then
    some (([], false), ())
  else
    (impl_allWithin N plan 0 160).bind fun r =>
    bif !r.1 then
      some (([], false), ())
    else
      impl_Case_stocks_L1 N N 0 plan (len plan) 0 c []
def impl_IsPlan (N : Nat) (c : (List Int) × (List Int) × (List Int) × (List Int)) (plan : List Int) : Option ((Bool × Bool) × Unit) :=
  (impl_IsCase N c).bind fun r =>
  bif !r.1 then
    some ((false, false), ())
  else
    (impl_Case_stocks N c plan).bind fun r1 =>
    some ((r1.1.2, true), ())
def spec_DrawBestLatePlan (N : Nat) (code : List Int) : Option ((((List Int) × (List Int) × (List Int) × (List Int)) × (List Int)) × Unit) :=
  (pspec_l1Cur_among N (code, (0, 0)) [6, 6, 6, 8]).bind fun r =>
  (pspec_l1Cur_someLots N r.2 r.1).bind fun r1 =>
  (pspec_l1Cur_rates N r1.2 r1.1).bind fun r2 =>
  some ((r1.1, r2.1), ())
def impl_BestLatePlan (N : Nat) (c : (List Int) × (List Int) × (List Int) × (List Int)) (rates : List Int) : Option (((List Int) × Bool) × Unit) :=
  (impl_areRates N c rates).bind fun r =>
  bif !r.1 then
    some (([], false), ())
  else
    (impl_Case_bestLate N c rates).bind fun r1 =>
    some ((r1.1.1, true), ())
def spec_l4Least (N : Nat) (a : Int) (b : Int) : Option (Int × Unit) :=
  bif ilt a 0 then
    some (b, ())
  else
    bif ile 0 b then
      bif ilt b a then
        some (b, ())
      else
        some (a, ())
    else
      some (a, ())
def spec_l4Owed_K1 (N : Nat) (kx2 : (List Int) → Int → Int → Int → ((List Int) × (List Int) × (List Int) × (List Int)) → (List (List Int)) → (List Int) → Option ((List (List Int)) × Unit)) (rates6 : List Int) (total5 : Int) (t3 : Int) (b3 : Int) (best1 : Int) (c6 : (List Int) × (List Int) × (List Int) × (List Int)) (out3 : List (List Int)) (row2 : List Int) : Option ((List (List Int)) × Unit) :=
  chk (fitB (row2.length + 1) 8) <|
  kx2 rates6 total5 t3 (iadd .i64 b3 1) c6 out3 (row2 ++ [best1])
def spec_l4Owed_B1 (N : Nat) (kx2 : (List Int) → Int → Int → Int → ((List Int) × (List Int) × (List Int) × (List Int)) → (List (List Int)) → (List Int) → Option ((List (List Int)) × Unit)) (kx3 : (List Int) → Int → Int → Int → Int → Int → ((List Int) × (List Int) × (List Int) × (List Int)) → (List (List Int)) → (List Int) → Option ((List (List Int)) × Unit)) (rates5 : List Int) (total4 : Int) (t2 : Int) (b2 : Int) (best : Int) (x : Int) (c5 : (List Int) × (List Int) × (List Int) × (List Int)) (out2 : List (List Int)) (row1 : List Int) : Option ((List (List Int)) × Unit) :=
  bif ile x total4 then
    chk (inB t2 c5.1.length) <|
    (spec_l1In N (isub .i64 (iadd .i64 b2 x) (gd c5.1 t2.toNat 0)) (isub .i64 0 total4) total4).bind fun r1 =>
    bif r1.1 then
      chk (inB 0 out2.length) <|
      chk (inB (iadd .i64 (isub .i64 (iadd .i64 b2 x) (gd c5.1 t2.toNat 0)) total4) (gd out2 0 []).length) <|
      bif ile 0 (gd (gd out2 0 []) (iadd .i64 (isub .i64 (iadd .i64 b2 x) (gd c5.1 t2.toNat 0)) total4).toNat 0) then
        (spec_l4Owe N c5 rates5 t2 x (isub .i64 (iadd .i64 b2 x) (gd c5.1 t2.toNat 0))).bind fun r2 =>
        chk (inB 0 out2.length) <|
        chk (inB (iadd .i64 (isub .i64 (iadd .i64 b2 x) (gd c5.1 t2.toNat 0)) total4) (gd out2 0 []).length) <|
        (spec_l4Least N best (iadd .i64 r2.1 (gd (gd out2 0 []) (iadd .i64 (isub .i64 (iadd .i64 b2 x) (gd c5.1 t2.toNat 0)) total4).toNat 0))).bind fun r3 =>
        kx3 rates5 total4 t2 b2 r3.1 (iadd .i64 x 1) c5 out2 row1
      else
        kx3 rates5 total4 t2 b2 best (iadd .i64 x 1) c5 out2 row1
    else
      kx3 rates5 total4 t2 b2 best (iadd .i64 x 1) c5 out2 row1
  else
    spec_l4Owed_K1 N kx2 rates5 total4 t2 b2 best c5 out2 row1
def spec_l4Owed_L1 (N fu_ : Nat) (kx2 : (List Int) → Int → Int → Int → ((List Int) × (List Int) × (List Int) × (List Int)) → (List (List Int)) → (List Int) → Option ((List (List Int)) × Unit)) := it_6_3 (spec_l4Owed_B1 N kx2) fu_
theorem spec_l4Owed_L1_succ (N fu_ : Nat) (kx2 : (List Int) → Int → Int → Int → ((List Int) × (List Int) × (List Int) × (List Int)) → (List (List Int)) → (List Int) → Option ((List (List Int)) × Unit)) (rates5 : List Int) (total4 : Int) (t2 : Int) (b2 : Int) (best : Int) (x : Int) (c5 : (List Int) × (List Int) × (List Int) × (List Int)) (out2 : List (List Int)) (row1 : List Int) : spec_l4Owed_L1 N (fu_ + 1) kx2 rates5 total4 t2 b2 best x c5 out2 row1 = spec_l4Owed_B1 N kx2 (fun rates5 total4 t2 b2 best x c5 out2 row1 => spec_l4Owed_L1 N fu_ kx2 rates5 total4 t2 b2 best x c5 out2 row1) rates5 total4 t2 b2 best x c5 out2 row1 := rfl
def spec_l4Owed_L1_run (N : Nat) (kx2 : (List Int) → Int → Int → Int → ((List Int) × (List Int) × (List Int) × (List Int)) → (List (List Int)) → (List Int) → Option ((List (List Int)) × Unit)) := run9 (spec_l4Owed_B1 N kx2) (fun u_ => spec_l4Owed_L1 N u_ kx2) (fun _ _ _ _ _ _ _ _ _ _ => rfl)
def spec_l4Owed_K2 (N : Nat) (kx1 : (List Int) → Int → Int → ((List Int) × (List Int) × (List Int) × (List Int)) → (List (List Int)) → Option ((List (List Int)) × Unit)) (rates7 : List Int) (total6 : Int) (t4 : Int) (c7 : (List Int) × (List Int) × (List Int) × (List Int)) (out4 : List (List Int)) (row3 : List Int) : Option ((List (List Int)) × Unit) :=
  chk (fitB (1 + out4.length) 24) <|
  kx1 rates7 total6 (isub .i64 t4 1) c7 ([row3] ++ out4)
def spec_l4Owed_B2 (N : Nat) (kx1 : (List Int) → Int → Int → ((List Int) × (List Int) × (List Int) × (List Int)) → (List (List Int)) → Option ((List (List Int)) × Unit)) (kx2 : (List Int) → Int → Int → Int → ((List Int) × (List Int) × (List Int) × (List Int)) → (List (List Int)) → (List Int) → Option ((List (List Int)) × Unit)) (rates4 : List Int) (total3 : Int) (t1 : Int) (b1 : Int) (c4 : (List Int) × (List Int) × (List Int) × (List Int)) (out1 : List (List Int)) (row : List Int) : Option ((List (List Int)) × Unit) :=
  bif ile b1 total3 then
    spec_l4Owed_L1 N N kx2 rates4 total3 t1 b1 (-1) 0 c4 out1 row
  else
    spec_l4Owed_K2 N kx1 rates4 total3 t1 c4 out1 row
def spec_l4Owed_L2 (N fu_ : Nat) (kx1 : (List Int) → Int → Int → ((List Int) × (List Int) × (List Int) × (List Int)) → (List (List Int)) → Option ((List (List Int)) × Unit)) := it_4_3 (spec_l4Owed_B2 N kx1) fu_
theorem spec_l4Owed_L2_succ (N fu_ : Nat) (kx1 : (List Int) → Int → Int → ((List Int) × (List Int) × (List Int) × (List Int)) → (List (List Int)) → Option ((List (List Int)) × Unit)) (rates4 : List Int) (total3 : Int) (t1 : Int) (b1 : Int) (c4 : (List Int) × (List Int) × (List Int) × (List Int)) (out1 : List (List Int)) (row : List Int) : spec_l4Owed_L2 N (fu_ + 1) kx1 rates4 total3 t1 b1 c4 out1 row = spec_l4Owed_B2 N kx1 (fun rates4 total3 t1 b1 c4 out1 row => spec_l4Owed_L2 N fu_ kx1 rates4 total3 t1 b1 c4 out1 row) rates4 total3 t1 b1 c4 out1 row := rfl
def spec_l4Owed_L2_run (N : Nat) (kx1 : (List Int) → Int → Int → ((List Int) × (List Int) × (List Int) × (List Int)) → (List (List Int)) → Option ((List (List Int)) × Unit)) := run7 (spec_l4Owed_B2 N kx1) (fun u_ => spec_l4Owed_L2 N u_ kx1) (fun _ _ _ _ _ _ _ _ => rfl)
def spec_l4Owed_K3 (N : Nat) (out5 : List (List Int)) : Option ((List (List Int)) × Unit) :=
  some (out5, ())
def spec_l4Owed_B3 (N : Nat) (kx1 : (List Int) → Int → Int → ((List Int) × (List Int) × (List Int) × (List Int)) → (List (List Int)) → Option ((List (List Int)) × Unit)) (rates3 : List Int) (total2 : Int) (t : Int) (c3 : (List Int) × (List Int) × (List Int) × (List Int)) (out : List (List Int)) : Option ((List (List Int)) × Unit) :=
  bif ile 0 t then
    spec_l4Owed_L2 N N kx1 rates3 total2 t (isub .i64 0 total2) c3 out []
  else
    spec_l4Owed_K3 N out
def spec_l4Owed_L3 (N fu_ : Nat) := it_3_2 (spec_l4Owed_B3 N) fu_
theorem spec_l4Owed_L3_succ (N fu_ : Nat) (rates3 : List Int) (total2 : Int) (t : Int) (c3 : (List Int) × (List Int) × (List Int) × (List Int)) (out : List (List Int)) : spec_l4Owed_L3 N (fu_ + 1) rates3 total2 t c3 out = spec_l4Owed_B3 N (fun rates3 total2 t c3 out => spec_l4Owed_L3 N fu_ rates3 total2 t c3 out) rates3 total2 t c3 out := rfl
def spec_l4Owed_L3_run (N : Nat) := run5 (spec_l4Owed_B3 N) (spec_l4Owed_L3 N) (fun _ _ _ _ _ _ => rfl)
def spec_l4Owed_K4 (N : Nat) (rates2 : List Int) (total1 : Int) (c2 : (List Int) × (List Int) × (List Int) × (List Int)) (last1 : List Int) : Option ((List (List Int)) × Unit) :=
  chk (inB total1 last1.length) <|
  spec_l4Owed_L3 N N rates2 total1 (isub .i64 (len c2.1) 1) c2 [List.set last1 total1.toNat 0]
def spec_l4Owed_B4 (N : Nat) (kx : (List Int) → Int → Int → ((List Int) × (List Int) × (List Int) × (List Int)) → (List Int) → Option ((List (List Int)) × Unit)) (rates1 : List Int) (total : Int) (b : Int) (c1 : (List Int) × (List Int) × (List Int) × (List Int)) (last : List Int) : Option ((List (List Int)) × Unit) :=
  bif ile b total then
    chk (fitB (last.length + 1) 8) <|
    kx rates1 total (iadd .i64 b 1) c1 (last ++ [(-1)])
  else
    spec_l4Owed_K4 N rates1 total c1 last
def spec_l4Owed_L4 (N fu_ : Nat) := it_3_2 (spec_l4Owed_B4 N) fu_
theorem spec_l4Owed_L4_succ (N fu_ : Nat) (rates1 : List Int) (total : Int) (b : Int) (c1 : (List Int) × (List Int) × (List Int) × (List Int)) (last : List Int) : spec_l4Owed_L4 N (fu_ + 1) rates1 total b c1 last = spec_l4Owed_B4 N (fun rates1 total b c1 last => spec_l4Owed_L4 N fu_ rates1 total b c1 last) rates1 total b c1 last := rfl
def spec_l4Owed_L4_run (N : Nat) := run5 (spec_l4Owed_B4 N) (spec_l4Owed_L4 N) (fun _ _ _ _ _ _ => rfl)
def spec_l4Owed (N : Nat) (c : (List Int) × (List Int) × (List Int) × (List Int)) (rates : List Int) : Option ((List (List Int)) × Unit) :=
  (spec_l2Sum N c.1).bind fun r =>
  spec_l4Owed_L4 N N rates r.1 (isub .i64 0 r.1) c []
def spec_BestLatePlan_K1 (N : Nat) (kx : (List Int) → Int → Int → Int → ((List Int) × (List Int) × (List Int) × (List Int)) → (List Int) → (List (List Int)) → Option (((List Int) × Bool) × Unit)) (rates3 : List Int) (b2 : Int) (total2 : Int) (t2 : Int) (x1 : Int) (v55 : (List Int) × (List Int) × (List Int) × (List Int)) (v56 : List Int) (v57 : Int) (v58 : Int) (v59 : Int) (v60 : Int) (v61 : Int) (v62 : Int) (v64 : Int) (v66i : Nat) (v67 : Int) (v68 : Int) (v69 : Int) (v71 : Int) (v72 : Bool) (c3 : (List Int) × (List Int) × (List Int) × (List Int)) (out2 : List Int) (v63 : List (List Int)) : Option (((List Int) × Bool) × Unit) :=
  chk (fitB (out2.length + 1) 8) <|
  chk (inB t2 c3.1.length) <|
  kx rates3 (isub .i64 (iadd .i64 b2 x1) (gd c3.1 t2.toNat 0)) total2 (iadd .i64 t2 1) c3 (out2 ++ [x1]) v63
def spec_BestLatePlan_B1 (N : Nat) (kx : (List Int) → Int → Int → Int → ((List Int) × (List Int) × (List Int) × (List Int)) → (List Int) → (List (List Int)) → Option (((List Int) × Bool) × Unit)) (kx1 : (List Int) → Int → Int → Int → Int → ((List Int) × (List Int) × (List Int) × (List Int)) → (List Int) → (List (List Int)) → Option (((List Int) × Bool) × Unit)) (rates2 : List Int) (b1 : Int) (total1 : Int) (t1 : Int) (x : Int) (c2 : (List Int) × (List Int) × (List Int) × (List Int)) (out1 : List Int) (table1 : List (List Int)) : Option (((List Int) × Bool) × Unit) :=
  chk (inB t1 c2.1.length) <|
  chk (inB (iadd .i64 t1 1) table1.length) <|
  chk (inB (iadd .i64 (isub .i64 (iadd .i64 b1 x) (gd c2.1 t1.toNat 0)) total1) (gd table1 (iadd .i64 t1 1).toNat []).length) <|
  bif ile 0 (gd (gd table1 (iadd .i64 t1 1).toNat []) (iadd .i64 (isub .i64 (iadd .i64 b1 x) (gd c2.1 t1.toNat 0)) total1).toNat 0) then
    (spec_l4Owe N c2 rates2 t1 x (isub .i64 (iadd .i64 b1 x) (gd c2.1 t1.toNat 0))).bind fun r3 =>
    chk (inB t1 table1.length) <|
    chk (inB (iadd .i64 b1 total1) (gd table1 t1.toNat []).length) <|
    bif ieq (iadd .i64 r3.1 (gd (gd table1 (iadd .i64 t1 1).toNat []) (iadd .i64 (isub .i64 (iadd .i64 b1 x) (gd c2.1 t1.toNat 0)) total1).toNat 0)) (gd (gd table1 t1.toNat []) (iadd .i64 b1 total1).toNat 0) then
      spec_BestLatePlan_K1 N kx rates2 b1 total1 t1 x c2 rates2 t1 x (isub .i64 (iadd .i64 b1 x) (gd c2.1 t1.toNat 0)) r3.1 (gd (gd table1 (iadd .i64 t1 1).toNat []) (iadd .i64 (isub .i64 (iadd .i64 b1 x) (gd c2.1 t1.toNat 0)) total1).toNat 0) (iadd .i64 r3.1 (gd (gd table1 (iadd .i64 t1 1).toNat []) (iadd .i64 (isub .i64 (iadd .i64 b1 x) (gd c2.1 t1.toNat 0)) total1).toNat 0)) t1 t1.toNat b1 total1 (iadd .i64 b1 total1) (gd (gd table1 t1.toNat []) (iadd .i64 b1 total1).toNat 0) (ieq (iadd .i64 r3.1 (gd (gd table1 (iadd .i64 t1 1).toNat []) (iadd .i64 (isub .i64 (iadd .i64 b1 x) (gd c2.1 t1.toNat 0)) total1).toNat 0)) (gd (gd table1 t1.toNat []) (iadd .i64 b1 total1).toNat 0)) c2 out1 table1
    else
      kx1 rates2 b1 total1 t1 (iadd .i64 x 1) c2 out1 table1
  else
    kx1 rates2 b1 total1 t1 (iadd .i64 x 1) c2 out1 table1
def spec_BestLatePlan_L1 (N fu_ : Nat) (kx : (List Int) → Int → Int → Int → ((List Int) × (List Int) × (List Int) × (List Int)) → (List Int) → (List (List Int)) → Option (((List Int) × Bool) × Unit)) := it_5_3 (spec_BestLatePlan_B1 N kx) fu_
theorem spec_BestLatePlan_L1_succ (N fu_ : Nat) (kx : (List Int) → Int → Int → Int → ((List Int) × (List Int) × (List Int) × (List Int)) → (List Int) → (List (List Int)) → Option (((List Int) × Bool) × Unit)) (rates2 : List Int) (b1 : Int) (total1 : Int) (t1 : Int) (x : Int) (c2 : (List Int) × (List Int) × (List Int) × (List Int)) (out1 : List Int) (table1 : List (List Int)) : spec_BestLatePlan_L1 N (fu_ + 1) kx rates2 b1 total1 t1 x c2 out1 table1 = spec_BestLatePlan_B1 N kx (fun rates2 b1 total1 t1 x c2 out1 table1 => spec_BestLatePlan_L1 N fu_ kx rates2 b1 total1 t1 x c2 out1 table1) rates2 b1 total1 t1 x c2 out1 table1 := rfl
def spec_BestLatePlan_L1_run (N : Nat) (kx : (List Int) → Int → Int → Int → ((List Int) × (List Int) × (List Int) × (List Int)) → (List Int) → (List (List Int)) → Option (((List Int) × Bool) × Unit)) := run8 (spec_BestLatePlan_B1 N kx) (fun u_ => spec_BestLatePlan_L1 N u_ kx) (fun _ _ _ _ _ _ _ _ _ => rfl)
def spec_BestLatePlan_K2 (N : Nat) (out3 : List Int) : Option (((List Int) × Bool) × Unit) :=
  some ((out3, true), ())
def spec_BestLatePlan_B2 (N : Nat) (kx : (List Int) → Int → Int → Int → ((List Int) × (List Int) × (List Int) × (List Int)) → (List Int) → (List (List Int)) → Option (((List Int) × Bool) × Unit)) (rates1 : List Int) (b : Int) (total : Int) (t : Int) (c1 : (List Int) × (List Int) × (List Int) × (List Int)) (out : List Int) (table : List (List Int)) : Option (((List Int) × Bool) × Unit) :=
  bif ilt t (len c1.1) then
    spec_BestLatePlan_L1 N N kx rates1 b total t 0 c1 out table
  else
    spec_BestLatePlan_K2 N out
def spec_BestLatePlan_L2 (N fu_ : Nat) := it_4_3 (spec_BestLatePlan_B2 N) fu_
theorem spec_BestLatePlan_L2_succ (N fu_ : Nat) (rates1 : List Int) (b : Int) (total : Int) (t : Int) (c1 : (List Int) × (List Int) × (List Int) × (List Int)) (out : List Int) (table : List (List Int)) : spec_BestLatePlan_L2 N (fu_ + 1) rates1 b total t c1 out table = spec_BestLatePlan_B2 N (fun rates1 b total t c1 out table => spec_BestLatePlan_L2 N fu_ rates1 b total t c1 out table) rates1 b total t c1 out table := rfl
def spec_BestLatePlan_L2_run (N : Nat) := run7 (spec_BestLatePlan_B2 N) (spec_BestLatePlan_L2 N) (fun _ _ _ _ _ _ _ _ => rfl)
def spec_BestLatePlan (N : Nat) (c : (List Int) × (List Int) × (List Int) × (List Int)) (rates : List Int) : Option (((List Int) × Bool) × Unit) :=
  (spec_l4Rates N c rates).bind fun r =>
  bif !r.1 then
    some (([], false), ())
  else
    (spec_l4Owed N c rates).bind fun r1 =>
    (spec_l2Sum N c.1).bind fun r2 =>
    spec_BestLatePlan_L2 N N rates 0 r2.1 0 c [] r1.1
def spec_LeastLate (N : Nat) (c : (List Int) × (List Int) × (List Int) × (List Int)) (rates : List Int) : Option ((Int × Bool) × Unit) :=
  (spec_l4Rates N c rates).bind fun r =>
  bif !r.1 then
    some ((0, false), ())
  else
    (spec_l4Owed N c rates).bind fun r1 =>
    chk (inB 0 r1.1.length) <|
    (spec_l2Sum N c.1).bind fun r2 =>
    chk (inB r2.1 (gd r1.1 0 []).length) <|
    some ((gd (gd r1.1 0 []) r2.1.toNat 0, true), ())
def impl_Case_planFrom_K1 (N : Nat) (kx : (List Int) → Int → (List Int) → Int → Int → (List Int) → Option (((List Int) × Bool) × Unit)) (periods3 : List Int) (next2 : Int) (need1 : Int) (v152 : List Int) (v162 : Int) (v172 : Int) (plan2 : List Int) : Option (((List Int) × Bool) × Unit) :=
  bif ieq next2 0 then
    bif ilt 0 need1 then
      some (([], false), ())
    else
      kx periods3 next2 v152 v162 (iadd .i64 v172 1) plan2
  else
    chk (inB (isub .i64 next2 1) periods3.length) <|
    chk (inB (gd periods3 (isub .i64 next2 1).toNat 0) plan2.length) <|
    chk (inB (gd periods3 (isub .i64 next2 1).toNat 0) plan2.length) <|
    kx periods3 next2 v152 v162 (iadd .i64 v172 1) (List.set plan2 (gd periods3 (isub .i64 next2 1).toNat 0).toNat (iadd .i64 (gd plan2 (gd periods3 (isub .i64 next2 1).toNat 0).toNat 0) need1))
def impl_Case_planFrom_K2 (N : Nat) (kx : (List Int) → Int → (List Int) → Int → Int → (List Int) → Option (((List Int) × Bool) × Unit)) (periods2 : List Int) (next1 : Int) (need : Int) (v151 : List Int) (v161 : Int) (v171 : Int) (v33 : Bool) (plan1 : List Int) : Option (((List Int) × Bool) × Unit) :=
  bif v33 then
    impl_Case_planFrom_K1 N kx periods2 (iadd .i64 next1 1) need v151 v161 v171 plan1
  else
    impl_Case_planFrom_K1 N kx periods2 next1 need v151 v161 v171 plan1
def impl_Case_planFrom_K3 (N : Nat) (plan3 : List Int) : Option (((List Int) × Bool) × Unit) :=
  some ((plan3, true), ())
def impl_Case_planFrom_B1 (N : Nat) (kx : (List Int) → Int → (List Int) → Int → Int → (List Int) → Option (((List Int) × Bool) × Unit)) (periods1 : List Int) (next : Int) (v15 : List Int) (v16 : Int) (v17 : Int) (plan : List Int) : Option (((List Int) × Bool) × Unit) :=
  bif ilt v17 v16 then
    chk (inB v17 v15.length) <|
    bif ilt next (len periods1) then
      chk (inB next periods1.length) <|
      impl_Case_planFrom_K2 N kx periods1 next (gd v15 v17.toNat 0) v15 v16 v17 (ieq (gd periods1 next.toNat 0) v17) plan
    else
      impl_Case_planFrom_K2 N kx periods1 next (gd v15 v17.toNat 0) v15 v16 v17 false plan
  else
    impl_Case_planFrom_K3 N plan
def impl_Case_planFrom_L1 (N fu_ : Nat) := it_5_1 (impl_Case_planFrom_B1 N) fu_
theorem impl_Case_planFrom_L1_succ (N fu_ : Nat) (periods1 : List Int) (next : Int) (v15 : List Int) (v16 : Int) (v17 : Int) (plan : List Int) : impl_Case_planFrom_L1 N (fu_ + 1) periods1 next v15 v16 v17 plan = impl_Case_planFrom_B1 N (fun periods1 next v15 v16 v17 plan => impl_Case_planFrom_L1 N fu_ periods1 next v15 v16 v17 plan) periods1 next v15 v16 v17 plan := rfl
def impl_Case_planFrom_L1_run (N : Nat) := run6 (impl_Case_planFrom_B1 N) (impl_Case_planFrom_L1 N) (fun _ _ _ _ _ _ _ => rfl)
def impl_Case_planFrom (N : Nat) (c : (List Int) × (List Int) × (List Int) × (List Int)) (periods : List Int) : Option (((List Int) × Bool) × Unit) :=
  chk (mkB (len c.1) 8) <|
  impl_Case_planFrom_L1 N N periods 0 c.1 (len c.1) 0 (List.replicate (len c.1).toNat 0)
def impl_Case_parts_K1 (N : Nat) (kx : Int → Int → Int → Int → (List Int) → Int → Int → ((List Int) × (List Int) × (List Int) × (List Int)) → Option ((Int × Int × Int) × Unit)) (setups1 : Int) (units1 : Int) (holds1 : Int) (stock1 : Int) (i : Int) (amount : Int) (v131 : List Int) (v141 : Int) (v151 : Int) (c2 : (List Int) × (List Int) × (List Int) × (List Int)) : Option ((Int × Int × Int) × Unit) :=
  chk (inB i c2.2.2.1.length) <|
  chk (inB i c2.2.2.2.length) <|
  kx setups1 (iadd .i64 units1 (imul .i64 (gd c2.2.2.1 i.toNat 0) amount)) (iadd .i64 holds1 (imul .i64 (gd c2.2.2.2 i.toNat 0) stock1)) stock1 v131 v141 (iadd .i64 v151 1) c2
def impl_Case_parts_K2 (N : Nat) (setups2 : Int) (units2 : Int) (holds2 : Int) : Option ((Int × Int × Int) × Unit) :=
  some ((setups2, (units2, holds2)), ())
def impl_Case_parts_B1 (N : Nat) (kx : Int → Int → Int → Int → (List Int) → Int → Int → ((List Int) × (List Int) × (List Int) × (List Int)) → Option ((Int × Int × Int) × Unit)) (setups : Int) (units : Int) (holds : Int) (stock : Int) (v13 : List Int) (v14 : Int) (v15 : Int) (c1 : (List Int) × (List Int) × (List Int) × (List Int)) : Option ((Int × Int × Int) × Unit) :=
  bif ilt v15 v14 then
    chk (inB v15 v13.length) <|
    chk (inB v15 c1.1.length) <|
    bif ilt 0 (gd v13 v15.toNat 0) then
      chk (inB v15 c1.2.1.length) <|
      impl_Case_parts_K1 N kx (iadd .i64 setups (gd c1.2.1 v15.toNat 0)) units holds (iadd .i64 stock (isub .i64 (gd v13 v15.toNat 0) (gd c1.1 v15.toNat 0))) v15 (gd v13 v15.toNat 0) v13 v14 v15 c1
    else
      impl_Case_parts_K1 N kx setups units holds (iadd .i64 stock (isub .i64 (gd v13 v15.toNat 0) (gd c1.1 v15.toNat 0))) v15 (gd v13 v15.toNat 0) v13 v14 v15 c1
  else
    impl_Case_parts_K2 N setups units holds
def impl_Case_parts_L1 (N fu_ : Nat) := it_7_1 (impl_Case_parts_B1 N) fu_
theorem impl_Case_parts_L1_succ (N fu_ : Nat) (setups : Int) (units : Int) (holds : Int) (stock : Int) (v13 : List Int) (v14 : Int) (v15 : Int) (c1 : (List Int) × (List Int) × (List Int) × (List Int)) : impl_Case_parts_L1 N (fu_ + 1) setups units holds stock v13 v14 v15 c1 = impl_Case_parts_B1 N (fun setups units holds stock v13 v14 v15 c1 => impl_Case_parts_L1 N fu_ setups units holds stock v13 v14 v15 c1) setups units holds stock v13 v14 v15 c1 := rfl
def impl_Case_parts_L1_run (N : Nat) := run8 (impl_Case_parts_B1 N) (impl_Case_parts_L1 N) (fun _ _ _ _ _ _ _ _ _ => rfl)
def impl_Case_parts (N : Nat) (c : (List Int) × (List Int) × (List Int) × (List Int)) (plan : List Int) : Option ((Int × Int × Int) × Unit) :=
  impl_Case_parts_L1 N N 0 0 0 0 plan (len plan) 0 c
def impl_Case_cost (N : Nat) (c : (List Int) × (List Int) × (List Int) × (List Int)) (plan : List Int) : Option (Int × Unit) :=
  (impl_Case_parts N c plan).bind fun r =>
  some (iadd .i64 (iadd .i64 r.1.1 r.1.2.1) r.1.2.2, ())
def cmp_isNaN_int (N : Nat) (x : Int) : Option (Bool × Unit) :=
  some (ine x x, ())
def cmp_Compare_int (N : Nat) (x : Int) (y : Int) : Option (Int × Unit) :=
  (cmp_isNaN_int N x).bind fun r =>
  (cmp_isNaN_int N y).bind fun r1 =>
  bif r.1 then
    bif r1.1 then
      some (0, ())
    else
      some ((-1), ())
  else
    bif r1.1 then
      some (1, ())
    else
      bif ilt x y then
        some ((-1), ())
      else
        bif ilt y x then
          some (1, ())
        else
          some (0, ())
def slices_Compare_int_int_K1 (N : Nat) (s12 : List Int) (s22 : List Int) : Option (Int × Unit) :=
  bif ilt (len s12) (len s22) then
    some ((-1), ())
  else
    some (0, ())
def slices_Compare_int_int_B1 (N : Nat) (kx : (List Int) → (List Int) → (List Int) → Int → Int → Option (Int × Unit)) (s11 : List Int) (s21 : List Int) (v9 : List Int) (v10 : Int) (v11 : Int) : Option (Int × Unit) :=
  bif ilt v11 v10 then
    chk (inB v11 v9.length) <|
    bif ile (len s21) v11 then
      some (1, ())
    else
      chk (inB v11 s21.length) <|
      (cmp_Compare_int N (gd v9 v11.toNat 0) (gd s21 v11.toNat 0)).bind fun r =>
      bif ine r.1 0 then
        some (r.1, ())
      else
        kx s11 s21 v9 v10 (iadd .i64 v11 1)
  else
    slices_Compare_int_int_K1 N s11 s21
def slices_Compare_int_int_L1 (N fu_ : Nat) := it_5_0 (slices_Compare_int_int_B1 N) fu_
theorem slices_Compare_int_int_L1_succ (N fu_ : Nat) (s11 : List Int) (s21 : List Int) (v9 : List Int) (v10 : Int) (v11 : Int) : slices_Compare_int_int_L1 N (fu_ + 1) s11 s21 v9 v10 v11 = slices_Compare_int_int_B1 N (fun s11 s21 v9 v10 v11 => slices_Compare_int_int_L1 N fu_ s11 s21 v9 v10 v11) s11 s21 v9 v10 v11 := rfl
def slices_Compare_int_int_L1_run (N : Nat) := run5 (slices_Compare_int_int_B1 N) (slices_Compare_int_int_L1 N) (fun _ _ _ _ _ _ => rfl)
def slices_Compare_int_int (N : Nat) (s1 : List Int) (s2 : List Int) : Option (Int × Unit) :=
  slices_Compare_int_int_L1 N N s1 s2 s1 (len s1) 0
def impl_Case_best_K1 (N : Nat) (kx : Int → Int → Int → ((List Int) × (List Int) × (List Int) × (List Int)) → (List Int) → Option (((List Int) × Int) × Unit)) (least3 : Int) (cost : Int) (before : Bool) (v163 : Int) (v173 : Int) (c4 : (List Int) × (List Int) × (List Int) × (List Int)) (best3 : List Int) (periods2 : List Int) : Option (((List Int) × Int) × Unit) :=
  bif ilt least3 0 then
    kx cost v163 (iadd .i64 v173 1) c4 periods2
  else
    bif ilt cost least3 then
      kx cost v163 (iadd .i64 v173 1) c4 periods2
    else
      bif ieq cost least3 then
        bif before then
          kx cost v163 (iadd .i64 v173 1) c4 periods2
        else
          kx least3 v163 (iadd .i64 v173 1) c4 best3
      else
        kx least3 v163 (iadd .i64 v173 1) c4 best3
def impl_Case_best_K2 (N : Nat) (kx : Int → Int → Int → ((List Int) × (List Int) × (List Int) × (List Int)) → (List Int) → Option (((List Int) × Int) × Unit)) (least2 : Int) (v162 : Int) (v172 : Int) (c3 : (List Int) × (List Int) × (List Int) × (List Int)) (best2 : List Int) (periods1 : List Int) : Option (((List Int) × Int) × Unit) :=
  (impl_Case_planFrom N c3 periods1).bind fun r =>
  bif !r.1.2 then
    kx least2 v162 (iadd .i64 v172 1) c3 best2
  else
    (impl_Case_cost N c3 r.1.1).bind fun r1 =>
    bif ilt (len periods1) (len best2) then
      impl_Case_best_K1 N kx least2 r1.1 true v162 v172 c3 best2 periods1
    else
      bif ieq (len periods1) (len best2) then
        (slices_Compare_int_int N periods1 best2).bind fun r2 =>
        impl_Case_best_K1 N kx least2 r1.1 (ilt r2.1 0) v162 v172 c3 best2 periods1
      else
        impl_Case_best_K1 N kx least2 r1.1 false v162 v172 c3 best2 periods1
def impl_Case_best_B1 (N : Nat) (kx : Int → Int → Int → ((List Int) × (List Int) × (List Int) × (List Int)) → (List Int) → Option (((List Int) × Int) × Unit)) (kx1 : Int → Int → Int → Int → Int → Int → ((List Int) × (List Int) × (List Int) × (List Int)) → (List Int) → (List Int) → Option (((List Int) × Int) × Unit)) (least1 : Int) (setx : Int) (v161 : Int) (v171 : Int) (v23 : Int) (v24 : Int) (c2 : (List Int) × (List Int) × (List Int) × (List Int)) (best1 : List Int) (periods : List Int) : Option (((List Int) × Int) × Unit) :=
  bif ilt v24 v23 then
    chk (ile 0 v24) <|
    bif ieq (iand .i64 (ishr .i64 setx v24) 1) 1 then
      chk (fitB (periods.length + 1) 8) <|
      kx1 least1 setx v161 v171 v23 (iadd .i64 v24 1) c2 best1 (periods ++ [v24])
    else
      kx1 least1 setx v161 v171 v23 (iadd .i64 v24 1) c2 best1 periods
  else
    impl_Case_best_K2 N kx least1 v161 v171 c2 best1 periods
def impl_Case_best_L1 (N fu_ : Nat) (kx : Int → Int → Int → ((List Int) × (List Int) × (List Int) × (List Int)) → (List Int) → Option (((List Int) × Int) × Unit)) := it_6_3 (impl_Case_best_B1 N kx) fu_
theorem impl_Case_best_L1_succ (N fu_ : Nat) (kx : Int → Int → Int → ((List Int) × (List Int) × (List Int) × (List Int)) → (List Int) → Option (((List Int) × Int) × Unit)) (least1 : Int) (setx : Int) (v161 : Int) (v171 : Int) (v23 : Int) (v24 : Int) (c2 : (List Int) × (List Int) × (List Int) × (List Int)) (best1 : List Int) (periods : List Int) : impl_Case_best_L1 N (fu_ + 1) kx least1 setx v161 v171 v23 v24 c2 best1 periods = impl_Case_best_B1 N kx (fun least1 setx v161 v171 v23 v24 c2 best1 periods => impl_Case_best_L1 N fu_ kx least1 setx v161 v171 v23 v24 c2 best1 periods) least1 setx v161 v171 v23 v24 c2 best1 periods := rfl
def impl_Case_best_L1_run (N : Nat) (kx : Int → Int → Int → ((List Int) × (List Int) × (List Int) × (List Int)) → (List Int) → Option (((List Int) × Int) × Unit)) := run9 (impl_Case_best_B1 N kx) (fun u_ => impl_Case_best_L1 N u_ kx) (fun _ _ _ _ _ _ _ _ _ _ => rfl)
def impl_Case_best_K3 (N : Nat) (least4 : Int) (best4 : List Int) : Option (((List Int) × Int) × Unit) :=
  some ((best4, least4), ())
def impl_Case_best_B2 (N : Nat) (kx : Int → Int → Int → ((List Int) × (List Int) × (List Int) × (List Int)) → (List Int) → Option (((List Int) × Int) × Unit)) (least : Int) (v16 : Int) (v17 : Int) (c1 : (List Int) × (List Int) × (List Int) × (List Int)) (best : List Int) : Option (((List Int) × Int) × Unit) :=
  bif ilt v17 v16 then
    impl_Case_best_L1 N N kx least v17 v16 v17 (len c1.1) 0 c1 best []
  else
    impl_Case_best_K3 N least best
def impl_Case_best_L2 (N fu_ : Nat) := it_3_2 (impl_Case_best_B2 N) fu_
theorem impl_Case_best_L2_succ (N fu_ : Nat) (least : Int) (v16 : Int) (v17 : Int) (c1 : (List Int) × (List Int) × (List Int) × (List Int)) (best : List Int) : impl_Case_best_L2 N (fu_ + 1) least v16 v17 c1 best = impl_Case_best_B2 N (fun least v16 v17 c1 best => impl_Case_best_L2 N fu_ least v16 v17 c1 best) least v16 v17 c1 best := rfl
def impl_Case_best_L2_run (N : Nat) := run5 (impl_Case_best_B2 N) (impl_Case_best_L2 N) (fun _ _ _ _ _ _ => rfl)
def impl_Case_best (N : Nat) (c : (List Int) × (List Int) × (List Int) × (List Int)) : Option (((List Int) × Int) × Unit) :=
  chk (ile 0 (len c.1)) <|
  impl_Case_best_L2 N N (-1) (ishl .i64 1 (len c.1)) 0 c []
def impl_BestCost (N : Nat) (c : (List Int) × (List Int) × (List Int) × (List Int)) : Option ((Int × Bool) × Unit) :=
  (impl_IsCase N c).bind fun r =>
  bif !r.1 then
    some ((0, false), ())
  else
    (impl_Case_best N c).bind fun r1 =>
    some ((r1.1.2, true), ())
def laws_FnLatePlans_K1 (N : Nat) (code3 : List Int) : Option (Bool × Unit) :=
  (spec_DrawBestLatePlan N code3).bind fun r12 =>
  (impl_BestLatePlan N r12.1.1 r12.1.2).bind fun r13 =>
  (spec_BestLatePlan N r12.1.1 r12.1.2).bind fun r14 =>
  bif !(Go.Rx.beq r13.1.2 r14.1.2) then
    some (false, ())
  else
    (laws_rInts N r13.1.1 r14.1.1).bind fun r15 =>
    bif !r15.1 then
      some (false, ())
    else
      (impl_LeastLate N r12.1.1 r12.1.2).bind fun r16 =>
      (spec_LeastLate N r12.1.1 r12.1.2).bind fun r17 =>
      bif ine r16.1.1 r17.1.1 then
        some (false, ())
      else
        bif !(Go.Rx.beq r16.1.2 r17.1.2) then
          some (false, ())
        else
          bif !(Go.Rx.beq r16.1.2 r13.1.2) then
            some (false, ())
          else
            bif !r13.1.2 then
              some (true, ())
            else
              (impl_LateCost N r12.1.1 r12.1.2 r13.1.1).bind fun r18 =>
              (impl_BestCost N r12.1.1).bind fun r19 =>
              bif r18.1.2 then
                bif r19.1.2 then
                  bif ieq r18.1.1 r16.1.1 then
                    some (ile r16.1.1 r19.1.1, ())
                  else
                    some (false, ())
                else
                  some (false, ())
              else
                some (false, ())
def laws_FnLatePlans_K2 (N : Nat) (code2 : List Int) (cost1 : Int) (ok1 : Bool) (v121 : Bool) (c1 : (List Int) × (List Int) × (List Int) × (List Int)) (b401 : ((List Int) × (List Int) × (List Int) × (List Int)) × (List Int) × (List Int)) (b96 : (List Int) × Bool) : Option (Bool × Unit) :=
  bif v121 then
    some (false, ())
  else
    bif ok1 then
      (impl_LeastLate N c1 b401.2.1).bind fun r10 =>
      bif !r10.1.2 then
        some (false, ())
      else
        bif ilt cost1 r10.1.1 then
          some (false, ())
        else
          (impl_IsPlan N c1 b401.2.2).bind fun r11 =>
          bif !r11.1.2 then
            some (false, ())
          else
            bif !(Go.Rx.beq r11.1.1 (ieq (len b96.1) 0)) then
              some (false, ())
            else
              laws_FnLatePlans_K1 N code2
    else
      laws_FnLatePlans_K1 N code2
def laws_FnLatePlans_K3 (N : Nat) (code1 : List Int) (cost : Int) (ok : Bool) (isx : Bool) (one : Bool) (v92 : Bool) (c : (List Int) × (List Int) × (List Int) × (List Int)) (b40 : ((List Int) × (List Int) × (List Int) × (List Int)) × (List Int) × (List Int)) : Option (Bool × Unit) :=
  bif v92 then
    some (false, ())
  else
    (impl_OwedPeriods N c b40.2.2).bind fun r6 =>
    (spec_OwedPeriods N c b40.2.2).bind fun r7 =>
    bif !(Go.Rx.beq r6.1.2 r7.1.2) then
      laws_FnLatePlans_K2 N code1 cost ok true c b40 r6.1
    else
      bif one then
        bif !(Go.Rx.beq r6.1.2 isx) then
          laws_FnLatePlans_K2 N code1 cost ok true c b40 r6.1
        else
          (laws_rInts N r6.1.1 r7.1.1).bind fun r8 =>
          laws_FnLatePlans_K2 N code1 cost ok (!r8.1) c b40 r6.1
      else
        bif !(Go.Rx.beq r6.1.2 false) then
          laws_FnLatePlans_K2 N code1 cost ok true c b40 r6.1
        else
          (laws_rInts N r6.1.1 r7.1.1).bind fun r9 =>
          laws_FnLatePlans_K2 N code1 cost ok (!r9.1) c b40 r6.1
def laws_FnLatePlans (N : Nat) (code : List Int) : Option (Bool × Unit) :=
  (laws_rBig N code).bind fun r =>
  bif r.1 then
    some (true, ())
  else
    (spec_DrawLateCost N code).bind fun r1 =>
    (impl_LateCost N r1.1.1 r1.1.2.1 r1.1.2.2).bind fun r2 =>
    (spec_LateCost N r1.1.1 r1.1.2.1 r1.1.2.2).bind fun r3 =>
    bif ine r2.1.1 r3.1.1 then
      some (false, ())
    else
      bif !(Go.Rx.beq r2.1.2 r3.1.2) then
        some (false, ())
      else
        (impl_IsLatePlan N r1.1.1 r1.1.2.2).bind fun r4 =>
        (spec_IsLatePlan N r1.1.1 r1.1.2.2).bind fun r5 =>
        bif !(Go.Rx.beq r4.1.1 r5.1.1) then
          laws_FnLatePlans_K3 N code r2.1.1 r2.1.2 r4.1.1 r4.1.2 true r1.1.1 (r1.1.1, r1.1.2)
        else
          bif !(Go.Rx.beq r4.1.2 r5.1.2) then
            laws_FnLatePlans_K3 N code r2.1.1 r2.1.2 r4.1.1 r4.1.2 true r1.1.1 (r1.1.1, r1.1.2)
          else
            bif r2.1.2 then
              laws_FnLatePlans_K3 N code r2.1.1 r2.1.2 r4.1.1 r4.1.2 (!r4.1.1) r1.1.1 (r1.1.1, r1.1.2)
            else
              laws_FnLatePlans_K3 N code r2.1.1 r2.1.2 r4.1.1 r4.1.2 false r1.1.1 (r1.1.1, r1.1.2)
end Px
end Go.Rx
