/- This text defines the plain functions that the Go functions behind FnCases compute; no condition. -/
import Derived.Test.YtjfmillogcillaaGreatDoorRxd
set_option linter.unusedVariables false
set_option linter.unusedSimpArgs false
namespace Go.Rx
namespace Px
def laws_rBig (N : Nat) (code : List Int) : Option (Bool × Unit) :=
  some (ilt 65536 (len code), ())
def pspec_l1Cur_next_K1 (N : Nat) (b : Int) (c1 : (List Int) × Int × Int) : Option (Int × ((List Int) × Int × Int)) :=
  bif ile (iadd .i64 c1.2.1 1) (len c1.1) then
    some (b, (c1.1, (iadd .i64 c1.2.1 1, iadd .u64 (iadd .u64 (imul .u64 c1.2.2 6364136223846793005) (icv .u64 b)) 462197)))
  else
    chk (ile 0 40) <|
    some (icv .i64 (iand .u64 (ishr .u64 (iadd .u64 (iadd .u64 (imul .u64 c1.2.2 6364136223846793005) (icv .u64 b)) 462197) 40) 255), (c1.1, (iadd .i64 c1.2.1 1, iadd .u64 (iadd .u64 (imul .u64 c1.2.2 6364136223846793005) (icv .u64 b)) 462197)))
def pspec_l1Cur_next (N : Nat) (c : (List Int) × Int × Int) : Option (Int × ((List Int) × Int × Int)) :=
  bif ilt c.2.1 (len c.1) then
    chk (inB c.2.1 c.1.length) <|
    pspec_l1Cur_next_K1 N (icv .i64 (gd c.1 c.2.1.toNat 0)) c
  else
    pspec_l1Cur_next_K1 N 0 c
def pspec_l1Cur_pick (N : Nat) (c : (List Int) × Int × Int) (n : Int) : Option (Int × ((List Int) × Int × Int)) :=
  bif ile n 1 then
    some (0, c)
  else
    (pspec_l1Cur_next N c).bind fun r =>
    bif ilt 200 n then
      (pspec_l1Cur_next N r.2).bind fun r1 =>
      chk (ine n 0) <|
      some (irem (iadd .i64 (imul .i64 r.1 256) r1.1) n, r1.2)
    else
      chk (ine n 0) <|
      some (irem r.1 n, r.2)
def spec_l1Least (N : Nat) (a : Int) (b : Int) : Option (Int × Unit) :=
  bif ilt a b then
    some (a, ())
  else
    some (b, ())
def pspec_l1Cur_one (N : Nat) (c : (List Int) × Int × Int) (n : Int) : Option (Bool × ((List Int) × Int × Int)) :=
  (pspec_l1Cur_pick N c n).bind fun r =>
  some (ieq r.1 0, r.2)
def pspec_l1Cur_among (N : Nat) (c : (List Int) × Int × Int) (list : List Int) : Option (Int × ((List Int) × Int × Int)) :=
  (pspec_l1Cur_pick N c (len list)).bind fun r =>
  chk (inB r.1 list.length) <|
  some (gd list r.1.toNat 0, r.2)
def pspec_l1Cur_someLots_K1 (N : Nat) (kx1 : Int → Bool → Int → Int → Int → Int → ((List Int) × Int × Int) → ((List Int) × (List Int) × (List Int) × (List Int)) → ((List Int) × (List Int) × (List Int) × (List Int)) → Option (((List Int) × (List Int) × (List Int) × (List Int)) × ((List Int) × Int × Int))) (n1 : Int) (same1 : Bool) (setup1 : Int) (unit1 : Int) (hold1 : Int) (t1 : Int) (c2 : (List Int) × Int × Int) (v41 : (List Int) × (List Int) × (List Int) × (List Int)) (kx2 : (List Int) × (List Int) × (List Int) × (List Int)) : Option (((List Int) × (List Int) × (List Int) × (List Int)) × ((List Int) × Int × Int)) :=
  (pspec_l1Cur_among N c2 [0, 1, 2, 3, 5, 8]).bind fun r9 =>
  chk (fitB (kx2.1.length + 1) 8) <|
  chk (fitB (kx2.2.1.length + 1) 8) <|
  chk (fitB (kx2.2.2.1.length + 1) 8) <|
  chk (fitB (kx2.2.2.2.length + 1) 8) <|
  kx1 n1 same1 setup1 unit1 hold1 (iadd .i64 t1 1) r9.2 v41 (kx2.1 ++ [r9.1], (kx2.2.1 ++ [setup1], (kx2.2.2.1 ++ [unit1], kx2.2.2.2 ++ [hold1])))
def pspec_l1Cur_someLots_K2 (N : Nat) (c5 : (List Int) × Int × Int) (v44 : (List Int) × (List Int) × (List Int) × (List Int)) (kx6 : (List Int) × (List Int) × (List Int) × (List Int)) : Option (((List Int) × (List Int) × (List Int) × (List Int)) × ((List Int) × Int × Int)) :=
  some (kx6, c5)
def pspec_l1Cur_someLots_B1 (N : Nat) (kx5 : ((List Int) × Int × Int) → ((List Int) × (List Int) × (List Int) × (List Int)) → ((List Int) × (List Int) × (List Int) × (List Int)) → Option (((List Int) × (List Int) × (List Int) × (List Int)) × ((List Int) × Int × Int))) (c4 : (List Int) × Int × Int) (v43 : (List Int) × (List Int) × (List Int) × (List Int)) (kx4 : (List Int) × (List Int) × (List Int) × (List Int)) : Option (((List Int) × (List Int) × (List Int) × (List Int)) × ((List Int) × Int × Int)) :=
  bif ilt (len kx4.1) 9 then
    chk (fitB (kx4.1.length + 1) 8) <|
    chk (fitB (kx4.2.1.length + 1) 8) <|
    chk (fitB (kx4.2.2.1.length + 1) 8) <|
    chk (fitB (kx4.2.2.2.length + 1) 8) <|
    kx5 c4 v43 (kx4.1 ++ [1], (kx4.2.1 ++ [1], (kx4.2.2.1 ++ [1], kx4.2.2.2 ++ [1])))
  else
    pspec_l1Cur_someLots_K2 N c4 v43 kx4
def pspec_l1Cur_someLots_L1 (N fu_ : Nat) (c4 : (List Int) × Int × Int) (v43 : (List Int) × (List Int) × (List Int) × (List Int)) (kx4 : (List Int) × (List Int) × (List Int) × (List Int)) : Option (((List Int) × (List Int) × (List Int) × (List Int)) × ((List Int) × Int × Int)) :=
  iterK fu_ (fun kx5 (v_ : (Unit) × (((List Int) × Int × Int) × ((List Int) × (List Int) × (List Int) × (List Int)) × ((List Int) × (List Int) × (List Int) × (List Int)) × Unit)) => pspec_l1Cur_someLots_B1 N (fun c4 v43 kx4 => kx5 ((), (c4, v43, kx4, ()))) v_.2.1 v_.2.2.1 v_.2.2.2.1) ((), (c4, v43, kx4, ()))
theorem pspec_l1Cur_someLots_L1_succ (N fu_ : Nat) (c4 : (List Int) × Int × Int) (v43 : (List Int) × (List Int) × (List Int) × (List Int)) (kx4 : (List Int) × (List Int) × (List Int) × (List Int)) : pspec_l1Cur_someLots_L1 N (fu_ + 1) c4 v43 kx4 = pspec_l1Cur_someLots_B1 N (fun c4 v43 kx4 => pspec_l1Cur_someLots_L1 N fu_ c4 v43 kx4) c4 v43 kx4 := rfl
def pspec_l1Cur_someLots_K3 (N : Nat) (n2 : Int) (c3 : (List Int) × Int × Int) (v42 : (List Int) × (List Int) × (List Int) × (List Int)) (kx3 : (List Int) × (List Int) × (List Int) × (List Int)) : Option (((List Int) × (List Int) × (List Int) × (List Int)) × ((List Int) × Int × Int)) :=
  bif ilt 0 n2 then
    (pspec_l1Cur_pick N c3 n2).bind fun r10 =>
    (pspec_l1Cur_pick N r10.2 60).bind fun r11 =>
    bif ieq r11.1 0 then
      (pspec_l1Cur_among N r11.2 [(-1), 20, 21, 4611686018427387904]).bind fun r12 =>
      chk (inB r10.1 kx3.1.length) <|
      some ((List.set kx3.1 r10.1.toNat r12.1, kx3.2), r12.2)
    else
      bif ieq r11.1 1 then
        (pspec_l1Cur_among N r11.2 [(-1), 99, 100]).bind fun r13 =>
        chk (inB r10.1 kx3.2.1.length) <|
        some ((kx3.1, (List.set kx3.2.1 r10.1.toNat r13.1, kx3.2.2)), r13.2)
      else
        bif ieq r11.1 2 then
          (pspec_l1Cur_among N r11.2 [(-1), 9, 10]).bind fun r14 =>
          chk (inB r10.1 kx3.2.2.1.length) <|
          some ((kx3.1, (kx3.2.1, (List.set kx3.2.2.1 r10.1.toNat r14.1, kx3.2.2.2))), r14.2)
        else
          bif ieq r11.1 3 then
            (pspec_l1Cur_among N r11.2 [(-1), 9, 10]).bind fun r15 =>
            chk (inB r10.1 kx3.2.2.2.length) <|
            some ((kx3.1, (kx3.2.1, (kx3.2.2.1, List.set kx3.2.2.2 r10.1.toNat r15.1))), r15.2)
          else
            bif ieq r11.1 4 then
              chk (fitB (kx3.2.2.1.length + 1) 8) <|
              some ((kx3.1, (kx3.2.1, (kx3.2.2.1 ++ [1], kx3.2.2.2))), r11.2)
            else
              bif ieq r11.1 5 then
                pspec_l1Cur_someLots_L1 N N r11.2 v42 kx3
              else
                some (kx3, r11.2)
  else
    some (kx3, c3)
def pspec_l1Cur_someLots_B2 (N : Nat) (kx1 : Int → Bool → Int → Int → Int → Int → ((List Int) × Int × Int) → ((List Int) × (List Int) × (List Int) × (List Int)) → ((List Int) × (List Int) × (List Int) × (List Int)) → Option (((List Int) × (List Int) × (List Int) × (List Int)) × ((List Int) × Int × Int))) (n : Int) (same : Bool) (setup : Int) (unit : Int) (hold : Int) (t : Int) (c1 : (List Int) × Int × Int) (v4 : (List Int) × (List Int) × (List Int) × (List Int)) (kx : (List Int) × (List Int) × (List Int) × (List Int)) : Option (((List Int) × (List Int) × (List Int) × (List Int)) × ((List Int) × Int × Int)) :=
  bif ilt t n then
    bif !same then
      (pspec_l1Cur_among N c1 [0, 2, 5, 9, 14, 30]).bind fun r6 =>
      (pspec_l1Cur_pick N r6.2 5).bind fun r7 =>
      (pspec_l1Cur_pick N r7.2 4).bind fun r8 =>
      pspec_l1Cur_someLots_K1 N kx1 n same r6.1 r7.1 r8.1 t r8.2 v4 kx
    else
      pspec_l1Cur_someLots_K1 N kx1 n same setup unit hold t c1 v4 kx
  else
    pspec_l1Cur_someLots_K3 N n c1 v4 kx
def pspec_l1Cur_someLots_L2 (N fu_ : Nat) (n : Int) (same : Bool) (setup : Int) (unit : Int) (hold : Int) (t : Int) (c1 : (List Int) × Int × Int) (v4 : (List Int) × (List Int) × (List Int) × (List Int)) (kx : (List Int) × (List Int) × (List Int) × (List Int)) : Option (((List Int) × (List Int) × (List Int) × (List Int)) × ((List Int) × Int × Int)) :=
  iterK fu_ (fun kx1 (v_ : (Int × Bool × Int × Int × Int × Int × Unit) × (((List Int) × Int × Int) × ((List Int) × (List Int) × (List Int) × (List Int)) × ((List Int) × (List Int) × (List Int) × (List Int)) × Unit)) => pspec_l1Cur_someLots_B2 N (fun n same setup unit hold t c1 v4 kx => kx1 ((n, same, setup, unit, hold, t, ()), (c1, v4, kx, ()))) v_.1.1 v_.1.2.1 v_.1.2.2.1 v_.1.2.2.2.1 v_.1.2.2.2.2.1 v_.1.2.2.2.2.2.1 v_.2.1 v_.2.2.1 v_.2.2.2.1) ((n, same, setup, unit, hold, t, ()), (c1, v4, kx, ()))
theorem pspec_l1Cur_someLots_L2_succ (N fu_ : Nat) (n : Int) (same : Bool) (setup : Int) (unit : Int) (hold : Int) (t : Int) (c1 : (List Int) × Int × Int) (v4 : (List Int) × (List Int) × (List Int) × (List Int)) (kx : (List Int) × (List Int) × (List Int) × (List Int)) : pspec_l1Cur_someLots_L2 N (fu_ + 1) n same setup unit hold t c1 v4 kx = pspec_l1Cur_someLots_B2 N (fun n same setup unit hold t c1 v4 kx => pspec_l1Cur_someLots_L2 N fu_ n same setup unit hold t c1 v4 kx) n same setup unit hold t c1 v4 kx := rfl
def pspec_l1Cur_someLots (N : Nat) (c : (List Int) × Int × Int) (most : Int) : Option (((List Int) × (List Int) × (List Int) × (List Int)) × ((List Int) × Int × Int)) :=
  (pspec_l1Cur_among N c [4, 5, 3, 6, 8, 2, 1, 0]).bind fun r =>
  (spec_l1Least N r.1 most).bind fun r1 =>
  (pspec_l1Cur_one N r.2 2).bind fun r2 =>
  (pspec_l1Cur_among N r2.2 [0, 3, 5, 8, 12, 20]).bind fun r3 =>
  (pspec_l1Cur_pick N r3.2 3).bind fun r4 =>
  (pspec_l1Cur_pick N r4.2 2).bind fun r5 =>
  pspec_l1Cur_someLots_L2 N N r1.1 r2.1 r3.1 r4.1 (iadd .i64 1 r5.1) 0 r5.2 ([], ([], ([], []))) ([], ([], ([], [])))
def pspec_l1Cur_lots (N : Nat) (c : (List Int) × Int × Int) : Option (((List Int) × (List Int) × (List Int) × (List Int)) × ((List Int) × Int × Int)) :=
  (pspec_l1Cur_someLots N c 8).bind fun r =>
  some (r.1, r.2)
def spec_DrawCutCase (N : Nat) (code : List Int) : Option ((((List Int) × (List Int) × (List Int) × (List Int)) × Int × Int) × Unit) :=
  (pspec_l1Cur_lots N (code, (0, 0))).bind fun r =>
  (pspec_l1Cur_pick N r.2 (iadd .i64 (len r.1.1) 2)).bind fun r1 =>
  (pspec_l1Cur_pick N r1.2 2).bind fun r2 =>
  (pspec_l1Cur_pick N r2.2 4).bind fun r3 =>
  (pspec_l1Cur_pick N r3.2 2).bind fun r4 =>
  some ((r.1, (isub .i64 r1.1 r2.1, isub .i64 (iadd .i64 (isub .i64 r1.1 r2.1) r3.1) r4.1)), ())
def impl_within (N : Nat) (n : Int) (low : Int) (high : Int) : Option (Bool × Unit) :=
  bif ile low n then
    some (ile n high, ())
  else
    some (false, ())
def impl_allWithin_K1 (N : Nat) : Option (Bool × Unit) :=
  some (true, ())
def impl_allWithin_B1 (N : Nat) (kx : Int → Int → (List Int) → Int → Int → Option (Bool × Unit)) (low1 : Int) (high1 : Int) (v9 : List Int) (v10 : Int) (v11 : Int) : Option (Bool × Unit) :=
  bif ilt v11 v10 then
    chk (inB v11 v9.length) <|
    (impl_within N (gd v9 v11.toNat 0) low1 high1).bind fun r =>
    bif !r.1 then
      some (false, ())
    else
      kx low1 high1 v9 v10 (iadd .i64 v11 1)
  else
    impl_allWithin_K1 N
def impl_allWithin_L1 (N fu_ : Nat) (low1 : Int) (high1 : Int) (v9 : List Int) (v10 : Int) (v11 : Int) : Option (Bool × Unit) :=
  iterK fu_ (fun kx (v_ : (Int × Int × (List Int) × Int × Int × Unit) × (Unit)) => impl_allWithin_B1 N (fun low1 high1 v9 v10 v11 => kx ((low1, high1, v9, v10, v11, ()), ())) v_.1.1 v_.1.2.1 v_.1.2.2.1 v_.1.2.2.2.1 v_.1.2.2.2.2.1) ((low1, high1, v9, v10, v11, ()), ())
theorem impl_allWithin_L1_run (N : Nat) (low1 : Nat → Int) (high1 : Nat → Int) (v9 : Nat → (List Int)) (v10 : Nat → Int) (v11 : Nat → Int) (n_ : Nat) {res_ : Option (Bool × Unit)} (hstep_ : ∀ j_, j_ < n_ → ∀ kx_, impl_allWithin_B1 N kx_ (low1 j_) (high1 j_) (v9 j_) (v10 j_) (v11 j_) = kx_ (low1 (j_ + 1)) (high1 (j_ + 1)) (v9 (j_ + 1)) (v10 (j_ + 1)) (v11 (j_ + 1))) (hend_ : ∀ kx_, impl_allWithin_B1 N kx_ (low1 n_) (high1 n_) (v9 n_) (v10 n_) (v11 n_) = res_) (fu_ : Nat) (hm_ : n_ < fu_) : impl_allWithin_L1 N fu_ (low1 0) (high1 0) (v9 0) (v10 0) (v11 0) = res_ := by
  exact loop_run (L := fun fu_ (x_ : Int × Int × (List Int) × Int × Int) => impl_allWithin_L1 N fu_ x_.1 x_.2.1 x_.2.2.1 x_.2.2.2.1 x_.2.2.2.2) (B := fun kx_ x_ => impl_allWithin_B1 N (fun low1 high1 v9 v10 v11 => kx_ (low1, high1, v9, v10, v11)) x_.1 x_.2.1 x_.2.2.1 x_.2.2.2.1 x_.2.2.2.2) (fun _ _ => rfl) (fun j_ => (low1 j_, high1 j_, v9 j_, v10 j_, v11 j_)) n_ (fun j_ hi_ kx_ => hstep_ j_ hi_ _) (fun kx_ => hend_ _) fu_ hm_
def impl_allWithin (N : Nat) (list : List Int) (low : Int) (high : Int) : Option (Bool × Unit) :=
  impl_allWithin_L1 N N low high list (len list) 0
def impl_IsCase (N : Nat) (c : (List Int) × (List Int) × (List Int) × (List Int)) : Option (Bool × Unit) :=
  bif ile (len c.1) 8 then
    bif ieq (len c.2.1) (len c.1) then
      bif ieq (len c.2.2.1) (len c.1) then
        bif ieq (len c.2.2.2) (len c.1) then
          (impl_allWithin N c.1 0 20).bind fun r =>
          bif r.1 then
            (impl_allWithin N c.2.1 0 99).bind fun r1 =>
            bif r1.1 then
              (impl_allWithin N c.2.2.1 0 9).bind fun r2 =>
              bif r2.1 then
                (impl_allWithin N c.2.2.2 0 9).bind fun r3 =>
                some (r3.1, ())
              else
                some (false, ())
            else
              some (false, ())
          else
            some (false, ())
        else
          some (false, ())
      else
        some (false, ())
    else
      some (false, ())
  else
    some (false, ())
def impl_copied (N : Nat) (list : List Int) : Option ((List Int) × Unit) :=
  chk (fitB (0 + list.length) 8) <|
  some (list, ())
def impl_Case_cut (N : Nat) (c : (List Int) × (List Int) × (List Int) × (List Int)) (fromx : Int) (to : Int) : Option (((List Int) × (List Int) × (List Int) × (List Int)) × Unit) :=
  chk (cutB fromx to c.1.length) <|
  (impl_copied N (cut c.1 fromx to)).bind fun r =>
  chk (cutB fromx to c.2.1.length) <|
  (impl_copied N (cut c.2.1 fromx to)).bind fun r1 =>
  chk (cutB fromx to c.2.2.1.length) <|
  (impl_copied N (cut c.2.2.1 fromx to)).bind fun r2 =>
  chk (cutB fromx to c.2.2.2.length) <|
  (impl_copied N (cut c.2.2.2 fromx to)).bind fun r3 =>
  some ((r.1, (r1.1, (r2.1, r3.1))), ())
def impl_CutCase (N : Nat) (c : (List Int) × (List Int) × (List Int) × (List Int)) (fromx : Int) (to : Int) : Option ((((List Int) × (List Int) × (List Int) × (List Int)) × Bool) × Unit) :=
  (impl_IsCase N c).bind fun r =>
  bif !r.1 then
    some ((([], ([], ([], []))), false), ())
  else
    bif ilt fromx 0 then
      some ((([], ([], ([], []))), false), ())
    else
      bif ilt to fromx then
        some ((([], ([], ([], []))), false), ())
      else
        bif ilt (len c.1) to then
          some ((([], ([], ([], []))), false), ())
        else
          (impl_Case_cut N c fromx to).bind fun r1 =>
          some ((r1.1, true), ())
def spec_l1In (N : Nat) (x : Int) (a : Int) (b : Int) : Option (Bool × Unit) :=
  bif ile a x then
    some (ile x b, ())
  else
    some (false, ())
def spec_l2Row_K1 (N : Nat) (row2 : List Int) (n2 : Int) : Option (Bool × Unit) :=
  some (ieq (len row2) n2, ())
def spec_l2Row_B1 (N : Nat) (kx : (List Int) → Int → Int → Int → Option (Bool × Unit)) (row1 : List Int) (n1 : Int) (most1 : Int) (i : Int) : Option (Bool × Unit) :=
  bif ilt i (len row1) then
    chk (inB i row1.length) <|
    (spec_l1In N (gd row1 i.toNat 0) 0 most1).bind fun r =>
    bif !r.1 then
      some (false, ())
    else
      kx row1 n1 most1 (iadd .i64 i 1)
  else
    spec_l2Row_K1 N row1 n1
def spec_l2Row_L1 (N fu_ : Nat) (row1 : List Int) (n1 : Int) (most1 : Int) (i : Int) : Option (Bool × Unit) :=
  iterK fu_ (fun kx (v_ : ((List Int) × Int × Int × Int × Unit) × (Unit)) => spec_l2Row_B1 N (fun row1 n1 most1 i => kx ((row1, n1, most1, i, ()), ())) v_.1.1 v_.1.2.1 v_.1.2.2.1 v_.1.2.2.2.1) ((row1, n1, most1, i, ()), ())
theorem spec_l2Row_L1_run (N : Nat) (row1 : Nat → (List Int)) (n1 : Nat → Int) (most1 : Nat → Int) (i : Nat → Int) (n_ : Nat) {res_ : Option (Bool × Unit)} (hstep_ : ∀ j_, j_ < n_ → ∀ kx_, spec_l2Row_B1 N kx_ (row1 j_) (n1 j_) (most1 j_) (i j_) = kx_ (row1 (j_ + 1)) (n1 (j_ + 1)) (most1 (j_ + 1)) (i (j_ + 1))) (hend_ : ∀ kx_, spec_l2Row_B1 N kx_ (row1 n_) (n1 n_) (most1 n_) (i n_) = res_) (fu_ : Nat) (hm_ : n_ < fu_) : spec_l2Row_L1 N fu_ (row1 0) (n1 0) (most1 0) (i 0) = res_ := by
  exact loop_run (L := fun fu_ (x_ : (List Int) × Int × Int × Int) => spec_l2Row_L1 N fu_ x_.1 x_.2.1 x_.2.2.1 x_.2.2.2) (B := fun kx_ x_ => spec_l2Row_B1 N (fun row1 n1 most1 i => kx_ (row1, n1, most1, i)) x_.1 x_.2.1 x_.2.2.1 x_.2.2.2) (fun _ _ => rfl) (fun j_ => (row1 j_, n1 j_, most1 j_, i j_)) n_ (fun j_ hi_ kx_ => hstep_ j_ hi_ _) (fun kx_ => hend_ _) fu_ hm_
def spec_l2Row (N : Nat) (row : List Int) (n : Int) (most : Int) : Option (Bool × Unit) :=
  spec_l2Row_L1 N N row n most 0
def spec_l2Good (N : Nat) (c : (List Int) × (List Int) × (List Int) × (List Int)) : Option (Bool × Unit) :=
  bif ile (len c.1) 8 then
    (spec_l2Row N c.1 (len c.1) 20).bind fun r =>
    bif r.1 then
      (spec_l2Row N c.2.1 (len c.1) 99).bind fun r1 =>
      bif r1.1 then
        (spec_l2Row N c.2.2.1 (len c.1) 9).bind fun r2 =>
        bif r2.1 then
          (spec_l2Row N c.2.2.2 (len c.1) 9).bind fun r3 =>
          some (r3.1, ())
        else
          some (false, ())
      else
        some (false, ())
    else
      some (false, ())
  else
    some (false, ())
def spec_l1Own (N : Nat) (l : List Int) : Option ((List Int) × Unit) :=
  chk (fitB (0 + l.length) 8) <|
  some (l, ())
def spec_CutCase (N : Nat) (c : (List Int) × (List Int) × (List Int) × (List Int)) (fromx : Int) (to : Int) : Option ((((List Int) × (List Int) × (List Int) × (List Int)) × Bool) × Unit) :=
  (spec_l2Good N c).bind fun r =>
  bif !r.1 then
    some ((([], ([], ([], []))), false), ())
  else
    (spec_l1In N fromx 0 to).bind fun r1 =>
    bif !r1.1 then
      some ((([], ([], ([], []))), false), ())
    else
      (spec_l1In N to 0 (len c.1)).bind fun r2 =>
      bif !r2.1 then
        some ((([], ([], ([], []))), false), ())
      else
        chk (cutB fromx to c.1.length) <|
        (spec_l1Own N (cut c.1 fromx to)).bind fun r3 =>
        chk (cutB fromx to c.2.1.length) <|
        (spec_l1Own N (cut c.2.1 fromx to)).bind fun r4 =>
        chk (cutB fromx to c.2.2.1.length) <|
        (spec_l1Own N (cut c.2.2.1 fromx to)).bind fun r5 =>
        chk (cutB fromx to c.2.2.2.length) <|
        (spec_l1Own N (cut c.2.2.2 fromx to)).bind fun r6 =>
        some (((r3.1, (r4.1, (r5.1, r6.1))), true), ())
def laws_rInts_K1 (N : Nat) : Option (Bool × Unit) :=
  some (true, ())
def laws_rInts_B1 (N : Nat) (kx : (List Int) → (List Int) → Int → Option (Bool × Unit)) (a1 : List Int) (b1 : List Int) (i : Int) : Option (Bool × Unit) :=
  bif ilt i (len a1) then
    chk (inB i a1.length) <|
    chk (inB i b1.length) <|
    bif ine (gd a1 i.toNat 0) (gd b1 i.toNat 0) then
      some (false, ())
    else
      kx a1 b1 (iadd .i64 i 1)
  else
    laws_rInts_K1 N
def laws_rInts_L1 (N fu_ : Nat) (a1 : List Int) (b1 : List Int) (i : Int) : Option (Bool × Unit) :=
  iterK fu_ (fun kx (v_ : ((List Int) × (List Int) × Int × Unit) × (Unit)) => laws_rInts_B1 N (fun a1 b1 i => kx ((a1, b1, i, ()), ())) v_.1.1 v_.1.2.1 v_.1.2.2.1) ((a1, b1, i, ()), ())
theorem laws_rInts_L1_run (N : Nat) (a1 : Nat → (List Int)) (b1 : Nat → (List Int)) (i : Nat → Int) (n_ : Nat) {res_ : Option (Bool × Unit)} (hstep_ : ∀ j_, j_ < n_ → ∀ kx_, laws_rInts_B1 N kx_ (a1 j_) (b1 j_) (i j_) = kx_ (a1 (j_ + 1)) (b1 (j_ + 1)) (i (j_ + 1))) (hend_ : ∀ kx_, laws_rInts_B1 N kx_ (a1 n_) (b1 n_) (i n_) = res_) (fu_ : Nat) (hm_ : n_ < fu_) : laws_rInts_L1 N fu_ (a1 0) (b1 0) (i 0) = res_ := by
  exact loop_run (L := fun fu_ (x_ : (List Int) × (List Int) × Int) => laws_rInts_L1 N fu_ x_.1 x_.2.1 x_.2.2) (B := fun kx_ x_ => laws_rInts_B1 N (fun a1 b1 i => kx_ (a1, b1, i)) x_.1 x_.2.1 x_.2.2) (fun _ _ => rfl) (fun j_ => (a1 j_, b1 j_, i j_)) n_ (fun j_ hi_ kx_ => hstep_ j_ hi_ _) (fun kx_ => hend_ _) fu_ hm_
def laws_rInts (N : Nat) (a : List Int) (b : List Int) : Option (Bool × Unit) :=
  bif ine (len a) (len b) then
    some (false, ())
  else
    laws_rInts_L1 N N a b 0
def laws_rCase (N : Nat) (a : (List Int) × (List Int) × (List Int) × (List Int)) (b : (List Int) × (List Int) × (List Int) × (List Int)) : Option (Bool × Unit) :=
  (laws_rInts N a.1 b.1).bind fun r =>
  bif r.1 then
    (laws_rInts N a.2.1 b.2.1).bind fun r1 =>
    bif r1.1 then
      (laws_rInts N a.2.2.1 b.2.2.1).bind fun r2 =>
      bif r2.1 then
        (laws_rInts N a.2.2.2 b.2.2.2).bind fun r3 =>
        some (r3.1, ())
      else
        some (false, ())
    else
      some (false, ())
  else
    some (false, ())

def impl_JoinCases (N : Nat) (a : (List Int) × (List Int) × (List Int) × (List Int)) (b : (List Int) × (List Int) × (List Int) × (List Int)) : Option ((((List Int) × (List Int) × (List Int) × (List Int)) × Bool) × Unit) :=
  (impl_IsCase N a).bind fun r =>
  bif !r.1 then
    some ((([], ([], ([], []))), false), ())
  else
    (impl_IsCase N b).bind fun r1 =>
    bif !r1.1 then
      some ((([], ([], ([], []))), false), ())
    else
      bif ilt 8 (iadd .i64 (len a.1) (len b.1)) then
        some ((([], ([], ([], []))), false), ())
      else
        (slices_Concat_int_int N [a.1, b.1]).bind fun r2 =>
        (slices_Concat_int_int N [a.2.1, b.2.1]).bind fun r3 =>
        (slices_Concat_int_int N [a.2.2.1, b.2.2.1]).bind fun r4 =>
        (slices_Concat_int_int N [a.2.2.2, b.2.2.2]).bind fun r5 =>
        some (((r2.1, (r3.1, (r4.1, r5.1))), true), ())
def spec_DrawJoinCases (N : Nat) (code : List Int) : Option ((((List Int) × (List Int) × (List Int) × (List Int)) × (List Int) × (List Int) × (List Int) × (List Int)) × Unit) :=
  (pspec_l1Cur_someLots N (code, (0, 0)) 5).bind fun r =>
  (pspec_l1Cur_someLots N r.2 4).bind fun r1 =>
  some ((r.1, r1.1), ())
def spec_JoinCases (N : Nat) (a : (List Int) × (List Int) × (List Int) × (List Int)) (b : (List Int) × (List Int) × (List Int) × (List Int)) : Option ((((List Int) × (List Int) × (List Int) × (List Int)) × Bool) × Unit) :=
  (spec_l2Good N a).bind fun r =>
  bif !r.1 then
    some ((([], ([], ([], []))), false), ())
  else
    (spec_l2Good N b).bind fun r1 =>
    bif !r1.1 then
      some ((([], ([], ([], []))), false), ())
    else
      bif ilt 8 (iadd .i64 (len a.1) (len b.1)) then
        some ((([], ([], ([], []))), false), ())
      else
        (spec_l1Own N a.1).bind fun r2 =>
        chk (fitB (r2.1.length + b.1.length) 8) <|
        (spec_l1Own N a.2.1).bind fun r3 =>
        chk (fitB (r3.1.length + b.2.1.length) 8) <|
        (spec_l1Own N a.2.2.1).bind fun r4 =>
        chk (fitB (r4.1.length + b.2.2.1.length) 8) <|
        (spec_l1Own N a.2.2.2).bind fun r5 =>
        chk (fitB (r5.1.length + b.2.2.2.length) 8) <|
        some (((r2.1 ++ b.1, (r3.1 ++ b.2.1, (r4.1 ++ b.2.2.1, r5.1 ++ b.2.2.2))), true), ())
def impl_Case_planFrom_K1 (N : Nat) (kx : (List Int) → Int → (List Int) → Int → Int → (List Int) → Option (((List Int) × Bool) × Unit)) (periods3 : List Int) (next2 : Int) (need1 : Int) (v152 : List Int) (v162 : Int) (v172 : Int) (plan2 : List Int) : Option (((List Int) × Bool) × Unit) :=
  bif ieq next2 0 then
    bif ilt 0 need1 then
      some (([], false), ())
    else
      kx periods3 next2 v152 v162 (iadd .i64 v172 1) plan2
  else
    chk (inB (isub .i64 next2 1) periods3.length) <|
    chk (inB (gd periods3 (isub .i64 next2 1).toNat 0) plan2.length) <|
    chk (inB (gd periods3 (isub .i64 next2 1).toNat 0) plan2.length) <|
    kx periods3 next2 v152 v162 (iadd .i64 v172 1) (List.set plan2 (gd periods3 (isub .i64 next2 1).toNat 0).toNat (iadd .i64 (gd plan2 (gd periods3 (isub .i64 next2 1).toNat 0).toNat 0) need1))
def impl_Case_planFrom_K2 (N : Nat) (kx : (List Int) → Int → (List Int) → Int → Int → (List Int) → Option (((List Int) × Bool) × Unit)) (periods2 : List Int) (next1 : Int) (need : Int) (v151 : List Int) (v161 : Int) (v171 : Int) (v33 : Bool) (plan1 : List Int) : Option (((List Int) × Bool) × Unit) :=
  bif v33 then
    impl_Case_planFrom_K1 N kx periods2 (iadd .i64 next1 1) need v151 v161 v171 plan1
  else
    impl_Case_planFrom_K1 N kx periods2 next1 need v151 v161 v171 plan1
def impl_Case_planFrom_K3 (N : Nat) (plan3 : List Int) : Option (((List Int) × Bool) × Unit) :=
  some ((plan3, true), ())
def impl_Case_planFrom_B1 (N : Nat) (kx : (List Int) → Int → (List Int) → Int → Int → (List Int) → Option (((List Int) × Bool) × Unit)) (periods1 : List Int) (next : Int) (v15 : List Int) (v16 : Int) (v17 : Int) (plan : List Int) : Option (((List Int) × Bool) × Unit) :=
  bif ilt v17 v16 then
    chk (inB v17 v15.length) <|
    bif ilt next (len periods1) then
      chk (inB next periods1.length) <|
      impl_Case_planFrom_K2 N kx periods1 next (gd v15 v17.toNat 0) v15 v16 v17 (ieq (gd periods1 next.toNat 0) v17) plan
    else
      impl_Case_planFrom_K2 N kx periods1 next (gd v15 v17.toNat 0) v15 v16 v17 false plan
  else
    impl_Case_planFrom_K3 N plan
def impl_Case_planFrom_L1 (N fu_ : Nat) (periods1 : List Int) (next : Int) (v15 : List Int) (v16 : Int) (v17 : Int) (plan : List Int) : Option (((List Int) × Bool) × Unit) :=
  iterK fu_ (fun kx (v_ : ((List Int) × Int × (List Int) × Int × Int × Unit) × ((List Int) × Unit)) => impl_Case_planFrom_B1 N (fun periods1 next v15 v16 v17 plan => kx ((periods1, next, v15, v16, v17, ()), (plan, ()))) v_.1.1 v_.1.2.1 v_.1.2.2.1 v_.1.2.2.2.1 v_.1.2.2.2.2.1 v_.2.1) ((periods1, next, v15, v16, v17, ()), (plan, ()))
theorem impl_Case_planFrom_L1_run (N : Nat) (periods1 : Nat → (List Int)) (next : Nat → Int) (v15 : Nat → (List Int)) (v16 : Nat → Int) (v17 : Nat → Int) (plan : Nat → (List Int)) (n_ : Nat) {res_ : Option (((List Int) × Bool) × Unit)} (hstep_ : ∀ j_, j_ < n_ → ∀ kx_, impl_Case_planFrom_B1 N kx_ (periods1 j_) (next j_) (v15 j_) (v16 j_) (v17 j_) (plan j_) = kx_ (periods1 (j_ + 1)) (next (j_ + 1)) (v15 (j_ + 1)) (v16 (j_ + 1)) (v17 (j_ + 1)) (plan (j_ + 1))) (hend_ : ∀ kx_, impl_Case_planFrom_B1 N kx_ (periods1 n_) (next n_) (v15 n_) (v16 n_) (v17 n_) (plan n_) = res_) (fu_ : Nat) (hm_ : n_ < fu_) : impl_Case_planFrom_L1 N fu_ (periods1 0) (next 0) (v15 0) (v16 0) (v17 0) (plan 0) = res_ := by
  exact loop_run (L := fun fu_ (x_ : (List Int) × Int × (List Int) × Int × Int × (List Int)) => impl_Case_planFrom_L1 N fu_ x_.1 x_.2.1 x_.2.2.1 x_.2.2.2.1 x_.2.2.2.2.1 x_.2.2.2.2.2) (B := fun kx_ x_ => impl_Case_planFrom_B1 N (fun periods1 next v15 v16 v17 plan => kx_ (periods1, next, v15, v16, v17, plan)) x_.1 x_.2.1 x_.2.2.1 x_.2.2.2.1 x_.2.2.2.2.1 x_.2.2.2.2.2) (fun _ _ => rfl) (fun j_ => (periods1 j_, next j_, v15 j_, v16 j_, v17 j_, plan j_)) n_ (fun j_ hi_ kx_ => hstep_ j_ hi_ _) (fun kx_ => hend_ _) fu_ hm_
def impl_Case_planFrom (N : Nat) (c : (List Int) × (List Int) × (List Int) × (List Int)) (periods : List Int) : Option (((List Int) × Bool) × Unit) :=
  chk (mkB (len c.1) 8) <|
  impl_Case_planFrom_L1 N N periods 0 c.1 (len c.1) 0 (List.replicate (len c.1).toNat 0)
def impl_Case_parts_K1 (N : Nat) (kx : Int → Int → Int → Int → (List Int) → Int → Int → ((List Int) × (List Int) × (List Int) × (List Int)) → Option ((Int × Int × Int) × Unit)) (setups1 : Int) (units1 : Int) (holds1 : Int) (stock1 : Int) (i : Int) (amount : Int) (v131 : List Int) (v141 : Int) (v151 : Int) (c2 : (List Int) × (List Int) × (List Int) × (List Int)) : Option ((Int × Int × Int) × Unit) :=
  chk (inB i c2.2.2.1.length) <|
  chk (inB i c2.2.2.2.length) <|
  kx setups1 (iadd .i64 units1 (imul .i64 (gd c2.2.2.1 i.toNat 0) amount)) (iadd .i64 holds1 (imul .i64 (gd c2.2.2.2 i.toNat 0) stock1)) stock1 v131 v141 (iadd .i64 v151 1) c2
def impl_Case_parts_K2 (N : Nat) (setups2 : Int) (units2 : Int) (holds2 : Int) : Option ((Int × Int × Int) × Unit) :=
  some ((setups2, (units2, holds2)), ())
def impl_Case_parts_B1 (N : Nat) (kx : Int → Int → Int → Int → (List Int) → Int → Int → ((List Int) × (List Int) × (List Int) × (List Int)) → Option ((Int × Int × Int) × Unit)) (setups : Int) (units : Int) (holds : Int) (stock : Int) (v13 : List Int) (v14 : Int) (v15 : Int) (c1 : (List Int) × (List Int) × (List Int) × (List Int)) : Option ((Int × Int × Int) × Unit) :=
  bif ilt v15 v14 then
    chk (inB v15 v13.length) <|
    chk (inB v15 c1.1.length) <|
    bif ilt 0 (gd v13 v15.toNat 0) then
      chk (inB v15 c1.2.1.length) <|
      impl_Case_parts_K1 N kx (iadd .i64 setups (gd c1.2.1 v15.toNat 0)) units holds (iadd .i64 stock (isub .i64 (gd v13 v15.toNat 0) (gd c1.1 v15.toNat 0))) v15 (gd v13 v15.toNat 0) v13 v14 v15 c1
    else
      impl_Case_parts_K1 N kx setups units holds (iadd .i64 stock (isub .i64 (gd v13 v15.toNat 0) (gd c1.1 v15.toNat 0))) v15 (gd v13 v15.toNat 0) v13 v14 v15 c1
  else
    impl_Case_parts_K2 N setups units holds
def impl_Case_parts_L1 (N fu_ : Nat) (setups : Int) (units : Int) (holds : Int) (stock : Int) (v13 : List Int) (v14 : Int) (v15 : Int) (c1 : (List Int) × (List Int) × (List Int) × (List Int)) : Option ((Int × Int × Int) × Unit) :=
  iterK fu_ (fun kx (v_ : (Int × Int × Int × Int × (List Int) × Int × Int × Unit) × (((List Int) × (List Int) × (List Int) × (List Int)) × Unit)) => impl_Case_parts_B1 N (fun setups units holds stock v13 v14 v15 c1 => kx ((setups, units, holds, stock, v13, v14, v15, ()), (c1, ()))) v_.1.1 v_.1.2.1 v_.1.2.2.1 v_.1.2.2.2.1 v_.1.2.2.2.2.1 v_.1.2.2.2.2.2.1 v_.1.2.2.2.2.2.2.1 v_.2.1) ((setups, units, holds, stock, v13, v14, v15, ()), (c1, ()))
theorem impl_Case_parts_L1_run (N : Nat) (setups : Nat → Int) (units : Nat → Int) (holds : Nat → Int) (stock : Nat → Int) (v13 : Nat → (List Int)) (v14 : Nat → Int) (v15 : Nat → Int) (c1 : Nat → ((List Int) × (List Int) × (List Int) × (List Int))) (n_ : Nat) {res_ : Option ((Int × Int × Int) × Unit)} (hstep_ : ∀ j_, j_ < n_ → ∀ kx_, impl_Case_parts_B1 N kx_ (setups j_) (units j_) (holds j_) (stock j_) (v13 j_) (v14 j_) (v15 j_) (c1 j_) = kx_ (setups (j_ + 1)) (units (j_ + 1)) (holds (j_ + 1)) (stock (j_ + 1)) (v13 (j_ + 1)) (v14 (j_ + 1)) (v15 (j_ + 1)) (c1 (j_ + 1))) (hend_ : ∀ kx_, impl_Case_parts_B1 N kx_ (setups n_) (units n_) (holds n_) (stock n_) (v13 n_) (v14 n_) (v15 n_) (c1 n_) = res_) (fu_ : Nat) (hm_ : n_ < fu_) : impl_Case_parts_L1 N fu_ (setups 0) (units 0) (holds 0) (stock 0) (v13 0) (v14 0) (v15 0) (c1 0) = res_ := by
  exact loop_run (L := fun fu_ (x_ : Int × Int × Int × Int × (List Int) × Int × Int × ((List Int) × (List Int) × (List Int) × (List Int))) => impl_Case_parts_L1 N fu_ x_.1 x_.2.1 x_.2.2.1 x_.2.2.2.1 x_.2.2.2.2.1 x_.2.2.2.2.2.1 x_.2.2.2.2.2.2.1 x_.2.2.2.2.2.2.2) (B := fun kx_ x_ => impl_Case_parts_B1 N (fun setups units holds stock v13 v14 v15 c1 => kx_ (setups, units, holds, stock, v13, v14, v15, c1)) x_.1 x_.2.1 x_.2.2.1 x_.2.2.2.1 x_.2.2.2.2.1 x_.2.2.2.2.2.1 x_.2.2.2.2.2.2.1 x_.2.2.2.2.2.2.2) (fun _ _ => rfl) (fun j_ => (setups j_, units j_, holds j_, stock j_, v13 j_, v14 j_, v15 j_, c1 j_)) n_ (fun j_ hi_ kx_ => hstep_ j_ hi_ _) (fun kx_ => hend_ _) fu_ hm_
def impl_Case_parts (N : Nat) (c : (List Int) × (List Int) × (List Int) × (List Int)) (plan : List Int) : Option ((Int × Int × Int) × Unit) :=
  impl_Case_parts_L1 N N 0 0 0 0 plan (len plan) 0 c
def impl_Case_cost (N : Nat) (c : (List Int) × (List Int) × (List Int) × (List Int)) (plan : List Int) : Option (Int × Unit) :=
  (impl_Case_parts N c plan).bind fun r =>
  some (iadd .i64 (iadd .i64 r.1.1 r.1.2.1) r.1.2.2, ())
def cmp_isNaN_int (N : Nat) (x : Int) : Option (Bool × Unit) :=
  some (ine x x, ())
def cmp_Compare_int (N : Nat) (x : Int) (y : Int) : Option (Int × Unit) :=
  (cmp_isNaN_int N x).bind fun r =>
  (cmp_isNaN_int N y).bind fun r1 =>
  bif r.1 then
    bif r1.1 then
      some (0, ())
    else
      some ((-1), ())
  else
    bif r1.1 then
      some (1, ())
    else
      bif ilt x y then
        some ((-1), ())
      else
        bif ilt y x then
          some (1, ())
        else
          some (0, ())
def slices_Compare_int_int_K1 (N : Nat) (s12 : List Int) (s22 : List Int) : Option (Int × Unit) :=
  bif ilt (len s12) (len s22) then
    some ((-1), ())
  else
    some (0, ())
def slices_Compare_int_int_B1 (N : Nat) (kx : (List Int) → (List Int) → (List Int) → Int → Int → Option (Int × Unit)) (s11 : List Int) (s21 : List Int) (v9 : List Int) (v10 : Int) (v11 : Int) : Option (Int × Unit) :=
  bif ilt v11 v10 then
    chk (inB v11 v9.length) <|
    bif ile (len s21) v11 then
      some (1, ())
    else
      chk (inB v11 s21.length) <|
      (cmp_Compare_int N (gd v9 v11.toNat 0) (gd s21 v11.toNat 0)).bind fun r =>
      bif ine r.1 0 then
        some (r.1, ())
      else
        kx s11 s21 v9 v10 (iadd .i64 v11 1)
  else
    slices_Compare_int_int_K1 N s11 s21
def slices_Compare_int_int_L1 (N fu_ : Nat) (s11 : List Int) (s21 : List Int) (v9 : List Int) (v10 : Int) (v11 : Int) : Option (Int × Unit) :=
  iterK fu_ (fun kx (v_ : ((List Int) × (List Int) × (List Int) × Int × Int × Unit) × (Unit)) => slices_Compare_int_int_B1 N (fun s11 s21 v9 v10 v11 => kx ((s11, s21, v9, v10, v11, ()), ())) v_.1.1 v_.1.2.1 v_.1.2.2.1 v_.1.2.2.2.1 v_.1.2.2.2.2.1) ((s11, s21, v9, v10, v11, ()), ())
theorem slices_Compare_int_int_L1_run (N : Nat) (s11 : Nat → (List Int)) (s21 : Nat → (List Int)) (v9 : Nat → (List Int)) (v10 : Nat → Int) (v11 : Nat → Int) (n_ : Nat) {res_ : Option (Int × Unit)} (hstep_ : ∀ j_, j_ < n_ → ∀ kx_, slices_Compare_int_int_B1 N kx_ (s11 j_) (s21 j_) (v9 j_) (v10 j_) (v11 j_) = kx_ (s11 (j_ + 1)) (s21 (j_ + 1)) (v9 (j_ + 1)) (v10 (j_ + 1)) (v11 (j_ + 1))) (hend_ : ∀ kx_, slices_Compare_int_int_B1 N kx_ (s11 n_) (s21 n_) (v9 n_) (v10 n_) (v11 n_) = res_) (fu_ : Nat) (hm_ : n_ < fu_) : slices_Compare_int_int_L1 N fu_ (s11 0) (s21 0) (v9 0) (v10 0) (v11 0) = res_ := by
  exact loop_run (L := fun fu_ (x_ : (List Int) × (List Int) × (List Int) × Int × Int) => slices_Compare_int_int_L1 N fu_ x_.1 x_.2.1 x_.2.2.1 x_.2.2.2.1 x_.2.2.2.2) (B := fun kx_ x_ => slices_Compare_int_int_B1 N (fun s11 s21 v9 v10 v11 => kx_ (s11, s21, v9, v10, v11)) x_.1 x_.2.1 x_.2.2.1 x_.2.2.2.1 x_.2.2.2.2) (fun _ _ => rfl) (fun j_ => (s11 j_, s21 j_, v9 j_, v10 j_, v11 j_)) n_ (fun j_ hi_ kx_ => hstep_ j_ hi_ _) (fun kx_ => hend_ _) fu_ hm_
def slices_Compare_int_int (N : Nat) (s1 : List Int) (s2 : List Int) : Option (Int × Unit) :=
  slices_Compare_int_int_L1 N N s1 s2 s1 (len s1) 0
def impl_Case_best_K1 (N : Nat) (kx : Int → Int → Int → ((List Int) × (List Int) × (List Int) × (List Int)) → (List Int) → Option (((List Int) × Int) × Unit)) (least3 : Int) (cost : Int) (before : Bool) (v163 : Int) (v173 : Int) (c4 : (List Int) × (List Int) × (List Int) × (List Int)) (best3 : List Int) (periods2 : List Int) : Option (((List Int) × Int) × Unit) :=
  bif ilt least3 0 then
    kx cost v163 (iadd .i64 v173 1) c4 periods2
  else
    bif ilt cost least3 then
      kx cost v163 (iadd .i64 v173 1) c4 periods2
    else
      bif ieq cost least3 then
        bif before then
          kx cost v163 (iadd .i64 v173 1) c4 periods2
        else
          kx least3 v163 (iadd .i64 v173 1) c4 best3
      else
        kx least3 v163 (iadd .i64 v173 1) c4 best3
def impl_Case_best_K2 (N : Nat) (kx : Int → Int → Int → ((List Int) × (List Int) × (List Int) × (List Int)) → (List Int) → Option (((List Int) × Int) × Unit)) (least2 : Int) (v162 : Int) (v172 : Int) (c3 : (List Int) × (List Int) × (List Int) × (List Int)) (best2 : List Int) (periods1 : List Int) : Option (((List Int) × Int) × Unit) :=
  (impl_Case_planFrom N c3 periods1).bind fun r =>
  bif !r.1.2 then
    kx least2 v162 (iadd .i64 v172 1) c3 best2
  else
    (impl_Case_cost N c3 r.1.1).bind fun r1 =>
    bif ilt (len periods1) (len best2) then
      impl_Case_best_K1 N kx least2 r1.1 true v162 v172 c3 best2 periods1
    else
      bif ieq (len periods1) (len best2) then
        (slices_Compare_int_int N periods1 best2).bind fun r2 =>
        impl_Case_best_K1 N kx least2 r1.1 (ilt r2.1 0) v162 v172 c3 best2 periods1
      else
        impl_Case_best_K1 N kx least2 r1.1 false v162 v172 c3 best2 periods1
def impl_Case_best_B1 (N : Nat) (kx : Int → Int → Int → ((List Int) × (List Int) × (List Int) × (List Int)) → (List Int) → Option (((List Int) × Int) × Unit)) (kx1 : Int → Int → Int → Int → Int → Int → ((List Int) × (List Int) × (List Int) × (List Int)) → (List Int) → (List Int) → Option (((List Int) × Int) × Unit)) (least1 : Int) (setx : Int) (v161 : Int) (v171 : Int) (v23 : Int) (v24 : Int) (c2 : (List Int) × (List Int) × (List Int) × (List Int)) (best1 : List Int) (periods : List Int) : Option (((List Int) × Int) × Unit) :=
  bif ilt v24 v23 then
    chk (ile 0 v24) <|
    bif ieq (iand .i64 (ishr .i64 setx v24) 1) 1 then
      chk (fitB (periods.length + 1) 8) <|
      kx1 least1 setx v161 v171 v23 (iadd .i64 v24 1) c2 best1 (periods ++ [v24])
    else
      kx1 least1 setx v161 v171 v23 (iadd .i64 v24 1) c2 best1 periods
  else
    impl_Case_best_K2 N kx least1 v161 v171 c2 best1 periods
def impl_Case_best_L1 (N fu_ : Nat) (kx : Int → Int → Int → ((List Int) × (List Int) × (List Int) × (List Int)) → (List Int) → Option (((List Int) × Int) × Unit)) (least1 : Int) (setx : Int) (v161 : Int) (v171 : Int) (v23 : Int) (v24 : Int) (c2 : (List Int) × (List Int) × (List Int) × (List Int)) (best1 : List Int) (periods : List Int) : Option (((List Int) × Int) × Unit) :=
  iterK fu_ (fun kx1 (v_ : (Int × Int × Int × Int × Int × Int × Unit) × (((List Int) × (List Int) × (List Int) × (List Int)) × (List Int) × (List Int) × Unit)) => impl_Case_best_B1 N kx (fun least1 setx v161 v171 v23 v24 c2 best1 periods => kx1 ((least1, setx, v161, v171, v23, v24, ()), (c2, best1, periods, ()))) v_.1.1 v_.1.2.1 v_.1.2.2.1 v_.1.2.2.2.1 v_.1.2.2.2.2.1 v_.1.2.2.2.2.2.1 v_.2.1 v_.2.2.1 v_.2.2.2.1) ((least1, setx, v161, v171, v23, v24, ()), (c2, best1, periods, ()))
theorem impl_Case_best_L1_run (N : Nat) (kx : Int → Int → Int → ((List Int) × (List Int) × (List Int) × (List Int)) → (List Int) → Option (((List Int) × Int) × Unit)) (least1 : Nat → Int) (setx : Nat → Int) (v161 : Nat → Int) (v171 : Nat → Int) (v23 : Nat → Int) (v24 : Nat → Int) (c2 : Nat → ((List Int) × (List Int) × (List Int) × (List Int))) (best1 : Nat → (List Int)) (periods : Nat → (List Int)) (n_ : Nat) {res_ : Option (((List Int) × Int) × Unit)} (hstep_ : ∀ j_, j_ < n_ → ∀ kx_, impl_Case_best_B1 N kx kx_ (least1 j_) (setx j_) (v161 j_) (v171 j_) (v23 j_) (v24 j_) (c2 j_) (best1 j_) (periods j_) = kx_ (least1 (j_ + 1)) (setx (j_ + 1)) (v161 (j_ + 1)) (v171 (j_ + 1)) (v23 (j_ + 1)) (v24 (j_ + 1)) (c2 (j_ + 1)) (best1 (j_ + 1)) (periods (j_ + 1))) (hend_ : ∀ kx_, impl_Case_best_B1 N kx kx_ (least1 n_) (setx n_) (v161 n_) (v171 n_) (v23 n_) (v24 n_) (c2 n_) (best1 n_) (periods n_) = res_) (fu_ : Nat) (hm_ : n_ < fu_) : impl_Case_best_L1 N fu_ kx (least1 0) (setx 0) (v161 0) (v171 0) (v23 0) (v24 0) (c2 0) (best1 0) (periods 0) = res_ := by
  exact loop_run (L := fun fu_ (x_ : Int × Int × Int × Int × Int × Int × ((List Int) × (List Int) × (List Int) × (List Int)) × (List Int) × (List Int)) => impl_Case_best_L1 N fu_ kx x_.1 x_.2.1 x_.2.2.1 x_.2.2.2.1 x_.2.2.2.2.1 x_.2.2.2.2.2.1 x_.2.2.2.2.2.2.1 x_.2.2.2.2.2.2.2.1 x_.2.2.2.2.2.2.2.2) (B := fun kx_ x_ => impl_Case_best_B1 N kx (fun least1 setx v161 v171 v23 v24 c2 best1 periods => kx_ (least1, setx, v161, v171, v23, v24, c2, best1, periods)) x_.1 x_.2.1 x_.2.2.1 x_.2.2.2.1 x_.2.2.2.2.1 x_.2.2.2.2.2.1 x_.2.2.2.2.2.2.1 x_.2.2.2.2.2.2.2.1 x_.2.2.2.2.2.2.2.2) (fun _ _ => rfl) (fun j_ => (least1 j_, setx j_, v161 j_, v171 j_, v23 j_, v24 j_, c2 j_, best1 j_, periods j_)) n_ (fun j_ hi_ kx_ => hstep_ j_ hi_ _) (fun kx_ => hend_ _) fu_ hm_
def impl_Case_best_K3 (N : Nat) (least4 : Int) (best4 : List Int) : Option (((List Int) × Int) × Unit) :=
  some ((best4, least4), ())
def impl_Case_best_B2 (N : Nat) (kx : Int → Int → Int → ((List Int) × (List Int) × (List Int) × (List Int)) → (List Int) → Option (((List Int) × Int) × Unit)) (least : Int) (v16 : Int) (v17 : Int) (c1 : (List Int) × (List Int) × (List Int) × (List Int)) (best : List Int) : Option (((List Int) × Int) × Unit) :=
  bif ilt v17 v16 then
    impl_Case_best_L1 N N kx least v17 v16 v17 (len c1.1) 0 c1 best []
  else
    impl_Case_best_K3 N least best
def impl_Case_best_L2 (N fu_ : Nat) (least : Int) (v16 : Int) (v17 : Int) (c1 : (List Int) × (List Int) × (List Int) × (List Int)) (best : List Int) : Option (((List Int) × Int) × Unit) :=
  iterK fu_ (fun kx (v_ : (Int × Int × Int × Unit) × (((List Int) × (List Int) × (List Int) × (List Int)) × (List Int) × Unit)) => impl_Case_best_B2 N (fun least v16 v17 c1 best => kx ((least, v16, v17, ()), (c1, best, ()))) v_.1.1 v_.1.2.1 v_.1.2.2.1 v_.2.1 v_.2.2.1) ((least, v16, v17, ()), (c1, best, ()))
theorem impl_Case_best_L2_run (N : Nat) (least : Nat → Int) (v16 : Nat → Int) (v17 : Nat → Int) (c1 : Nat → ((List Int) × (List Int) × (List Int) × (List Int))) (best : Nat → (List Int)) (n_ : Nat) {res_ : Option (((List Int) × Int) × Unit)} (hstep_ : ∀ j_, j_ < n_ → ∀ kx_, impl_Case_best_B2 N kx_ (least j_) (v16 j_) (v17 j_) (c1 j_) (best j_) = kx_ (least (j_ + 1)) (v16 (j_ + 1)) (v17 (j_ + 1)) (c1 (j_ + 1)) (best (j_ + 1))) (hend_ : ∀ kx_, impl_Case_best_B2 N kx_ (least n_) (v16 n_) (v17 n_) (c1 n_) (best n_) = res_) (fu_ : Nat) (hm_ : n_ < fu_) : impl_Case_best_L2 N fu_ (least 0) (v16 0) (v17 0) (c1 0) (best 0) = res_ := by
  exact loop_run (L := fun fu_ (x_ : Int × Int × Int × ((List Int) × (List Int) × (List Int) × (List Int)) × (List Int)) => impl_Case_best_L2 N fu_ x_.1 x_.2.1 x_.2.2.1 x_.2.2.2.1 x_.2.2.2.2) (B := fun kx_ x_ => impl_Case_best_B2 N (fun least v16 v17 c1 best => kx_ (least, v16, v17, c1, best)) x_.1 x_.2.1 x_.2.2.1 x_.2.2.2.1 x_.2.2.2.2) (fun _ _ => rfl) (fun j_ => (least j_, v16 j_, v17 j_, c1 j_, best j_)) n_ (fun j_ hi_ kx_ => hstep_ j_ hi_ _) (fun kx_ => hend_ _) fu_ hm_
def impl_Case_best (N : Nat) (c : (List Int) × (List Int) × (List Int) × (List Int)) : Option (((List Int) × Int) × Unit) :=
  chk (ile 0 (len c.1)) <|
  impl_Case_best_L2 N N (-1) (ishl .i64 1 (len c.1)) 0 c []
def impl_BestCost (N : Nat) (c : (List Int) × (List Int) × (List Int) × (List Int)) : Option ((Int × Bool) × Unit) :=
  (impl_IsCase N c).bind fun r =>
  bif !r.1 then
    some ((0, false), ())
  else
    (impl_Case_best N c).bind fun r1 =>
    some ((r1.1.2, true), ())
def impl_WaitsNever_K1 (N : Nat) : Option ((Bool × Bool) × Unit) :=
  some ((true, true), ())
def impl_WaitsNever_B1 (N : Nat) (kx : Int → ((List Int) × (List Int) × (List Int) × (List Int)) → Option ((Bool × Bool) × Unit)) (i : Int) (c1 : (List Int) × (List Int) × (List Int) × (List Int)) : Option ((Bool × Bool) × Unit) :=
  bif ilt i (len c1.1) then
    chk (inB (isub .i64 i 1) c1.2.2.1.length) <|
    chk (inB (isub .i64 i 1) c1.2.2.2.length) <|
    chk (inB i c1.2.2.1.length) <|
    bif ilt (iadd .i64 (gd c1.2.2.1 (isub .i64 i 1).toNat 0) (gd c1.2.2.2 (isub .i64 i 1).toNat 0)) (gd c1.2.2.1 i.toNat 0) then
      some ((false, true), ())
    else
      kx (iadd .i64 i 1) c1
  else
    impl_WaitsNever_K1 N
def impl_WaitsNever_L1 (N fu_ : Nat) (i : Int) (c1 : (List Int) × (List Int) × (List Int) × (List Int)) : Option ((Bool × Bool) × Unit) :=
  iterK fu_ (fun kx (v_ : (Int × Unit) × (((List Int) × (List Int) × (List Int) × (List Int)) × Unit)) => impl_WaitsNever_B1 N (fun i c1 => kx ((i, ()), (c1, ()))) v_.1.1 v_.2.1) ((i, ()), (c1, ()))
theorem impl_WaitsNever_L1_run (N : Nat) (i : Nat → Int) (c1 : Nat → ((List Int) × (List Int) × (List Int) × (List Int))) (n_ : Nat) {res_ : Option ((Bool × Bool) × Unit)} (hstep_ : ∀ j_, j_ < n_ → ∀ kx_, impl_WaitsNever_B1 N kx_ (i j_) (c1 j_) = kx_ (i (j_ + 1)) (c1 (j_ + 1))) (hend_ : ∀ kx_, impl_WaitsNever_B1 N kx_ (i n_) (c1 n_) = res_) (fu_ : Nat) (hm_ : n_ < fu_) : impl_WaitsNever_L1 N fu_ (i 0) (c1 0) = res_ := by
  exact loop_run (L := fun fu_ (x_ : Int × ((List Int) × (List Int) × (List Int) × (List Int))) => impl_WaitsNever_L1 N fu_ x_.1 x_.2) (B := fun kx_ x_ => impl_WaitsNever_B1 N (fun i c1 => kx_ (i, c1)) x_.1 x_.2) (fun _ _ => rfl) (fun j_ => (i j_, c1 j_)) n_ (fun j_ hi_ kx_ => hstep_ j_ hi_ _) (fun kx_ => hend_ _) fu_ hm_
def impl_WaitsNever (N : Nat) (c : (List Int) × (List Int) × (List Int) × (List Int)) : Option ((Bool × Bool) × Unit) :=
  (impl_IsCase N c).bind fun r =>
  bif !r.1 then
    some ((false, false), ())
  else
    impl_WaitsNever_L1 N N 1 c
def spec_WaitsNever_K1 (N : Nat) : Option ((Bool × Bool) × Unit) :=
  some ((true, true), ())
def spec_WaitsNever_B1 (N : Nat) (kx : Int → ((List Int) × (List Int) × (List Int) × (List Int)) → Option ((Bool × Bool) × Unit)) (t : Int) (c1 : (List Int) × (List Int) × (List Int) × (List Int)) : Option ((Bool × Bool) × Unit) :=
  bif ilt (iadd .i64 t 1) (len c1.1) then
    chk (inB t c1.2.2.1.length) <|
    chk (inB t c1.2.2.2.length) <|
    chk (inB (iadd .i64 t 1) c1.2.2.1.length) <|
    bif ilt (iadd .i64 (gd c1.2.2.1 t.toNat 0) (gd c1.2.2.2 t.toNat 0)) (gd c1.2.2.1 (iadd .i64 t 1).toNat 0) then
      some ((false, true), ())
    else
      kx (iadd .i64 t 1) c1
  else
    spec_WaitsNever_K1 N
def spec_WaitsNever_L1 (N fu_ : Nat) (t : Int) (c1 : (List Int) × (List Int) × (List Int) × (List Int)) : Option ((Bool × Bool) × Unit) :=
  iterK fu_ (fun kx (v_ : (Int × Unit) × (((List Int) × (List Int) × (List Int) × (List Int)) × Unit)) => spec_WaitsNever_B1 N (fun t c1 => kx ((t, ()), (c1, ()))) v_.1.1 v_.2.1) ((t, ()), (c1, ()))
theorem spec_WaitsNever_L1_run (N : Nat) (t : Nat → Int) (c1 : Nat → ((List Int) × (List Int) × (List Int) × (List Int))) (n_ : Nat) {res_ : Option ((Bool × Bool) × Unit)} (hstep_ : ∀ j_, j_ < n_ → ∀ kx_, spec_WaitsNever_B1 N kx_ (t j_) (c1 j_) = kx_ (t (j_ + 1)) (c1 (j_ + 1))) (hend_ : ∀ kx_, spec_WaitsNever_B1 N kx_ (t n_) (c1 n_) = res_) (fu_ : Nat) (hm_ : n_ < fu_) : spec_WaitsNever_L1 N fu_ (t 0) (c1 0) = res_ := by
  exact loop_run (L := fun fu_ (x_ : Int × ((List Int) × (List Int) × (List Int) × (List Int))) => spec_WaitsNever_L1 N fu_ x_.1 x_.2) (B := fun kx_ x_ => spec_WaitsNever_B1 N (fun t c1 => kx_ (t, c1)) x_.1 x_.2) (fun _ _ => rfl) (fun j_ => (t j_, c1 j_)) n_ (fun j_ hi_ kx_ => hstep_ j_ hi_ _) (fun kx_ => hend_ _) fu_ hm_
def spec_WaitsNever (N : Nat) (c : (List Int) × (List Int) × (List Int) × (List Int)) : Option ((Bool × Bool) × Unit) :=
  (spec_l2Good N c).bind fun r =>
  bif !r.1 then
    some ((false, false), ())
  else
    spec_WaitsNever_L1 N N 0 c
def spec_l2Bits_K1 (N : Nat) (out1 : List Int) : Option ((List Int) × Unit) :=
  some (out1, ())
def spec_l2Bits_B1 (N : Nat) (kx : Int → Int → Int → (List Int) → Option ((List Int) × Unit)) (n1 : Int) (code1 : Int) (x : Int) (out : List Int) : Option ((List Int) × Unit) :=
  bif ilt x n1 then
    chk (ile 0 x) <|
    bif ieq (iand .i64 (ishr .i64 code1 x) 1) 1 then
      chk (fitB (out.length + 1) 8) <|
      kx n1 code1 (iadd .i64 x 1) (out ++ [x])
    else
      kx n1 code1 (iadd .i64 x 1) out
  else
    spec_l2Bits_K1 N out
def spec_l2Bits_L1 (N fu_ : Nat) (n1 : Int) (code1 : Int) (x : Int) (out : List Int) : Option ((List Int) × Unit) :=
  iterK fu_ (fun kx (v_ : (Int × Int × Int × Unit) × ((List Int) × Unit)) => spec_l2Bits_B1 N (fun n1 code1 x out => kx ((n1, code1, x, ()), (out, ()))) v_.1.1 v_.1.2.1 v_.1.2.2.1 v_.2.1) ((n1, code1, x, ()), (out, ()))
theorem spec_l2Bits_L1_run (N : Nat) (n1 : Nat → Int) (code1 : Nat → Int) (x : Nat → Int) (out : Nat → (List Int)) (n_ : Nat) {res_ : Option ((List Int) × Unit)} (hstep_ : ∀ j_, j_ < n_ → ∀ kx_, spec_l2Bits_B1 N kx_ (n1 j_) (code1 j_) (x j_) (out j_) = kx_ (n1 (j_ + 1)) (code1 (j_ + 1)) (x (j_ + 1)) (out (j_ + 1))) (hend_ : ∀ kx_, spec_l2Bits_B1 N kx_ (n1 n_) (code1 n_) (x n_) (out n_) = res_) (fu_ : Nat) (hm_ : n_ < fu_) : spec_l2Bits_L1 N fu_ (n1 0) (code1 0) (x 0) (out 0) = res_ := by
  exact loop_run (L := fun fu_ (x_ : Int × Int × Int × (List Int)) => spec_l2Bits_L1 N fu_ x_.1 x_.2.1 x_.2.2.1 x_.2.2.2) (B := fun kx_ x_ => spec_l2Bits_B1 N (fun n1 code1 x out => kx_ (n1, code1, x, out)) x_.1 x_.2.1 x_.2.2.1 x_.2.2.2) (fun _ _ => rfl) (fun j_ => (n1 j_, code1 j_, x j_, out j_)) n_ (fun j_ hi_ kx_ => hstep_ j_ hi_ _) (fun kx_ => hend_ _) fu_ hm_
def spec_l2Bits (N : Nat) (n : Int) (code : Int) : Option ((List Int) × Unit) :=
  spec_l2Bits_L1 N N n code 0 []
def spec_DrawPlanFrom (N : Nat) (code : List Int) : Option ((((List Int) × (List Int) × (List Int) × (List Int)) × (List Int)) × Unit) :=
  (pspec_l1Cur_lots N (code, (0, 0))).bind fun r =>
  (spec_l1Least N (len r.1.1) 8).bind fun r1 =>
  (pspec_l1Cur_pick N r.2 256).bind fun r2 =>
  (pspec_l1Cur_pick N r2.2 2).bind fun r3 =>
  (spec_l2Bits N r1.1 (ior .i64 r2.1 r3.1)).bind fun r4 =>
  (pspec_l1Cur_one N r3.2 20).bind fun r5 =>
  bif r5.1 then
    (pspec_l1Cur_among N r5.2 [(-1), 0, 8]).bind fun r6 =>
    chk (fitB (r4.1.length + 1) 8) <|
    some ((r.1, r4.1 ++ [r6.1]), ())
  else
    some ((r.1, r4.1), ())
def impl_Case_arePeriods_K1 (N : Nat) : Option (Bool × Unit) :=
  some (true, ())
def impl_Case_arePeriods_B1 (N : Nat) (kx : (List Int) → (List Int) → Int → Int → ((List Int) × (List Int) × (List Int) × (List Int)) → Option (Bool × Unit)) (periods1 : List Int) (v7 : List Int) (v8 : Int) (v9 : Int) (c1 : (List Int) × (List Int) × (List Int) × (List Int)) : Option (Bool × Unit) :=
  bif ilt v9 v8 then
    chk (inB v9 v7.length) <|
    (impl_within N (gd v7 v9.toNat 0) 0 (isub .i64 (len c1.1) 1)).bind fun r =>
    bif !r.1 then
      some (false, ())
    else
      bif ilt 0 v9 then
        chk (inB (isub .i64 v9 1) periods1.length) <|
        bif ile (gd v7 v9.toNat 0) (gd periods1 (isub .i64 v9 1).toNat 0) then
          some (false, ())
        else
          kx periods1 v7 v8 (iadd .i64 v9 1) c1
      else
        kx periods1 v7 v8 (iadd .i64 v9 1) c1
  else
    impl_Case_arePeriods_K1 N
def impl_Case_arePeriods_L1 (N fu_ : Nat) (periods1 : List Int) (v7 : List Int) (v8 : Int) (v9 : Int) (c1 : (List Int) × (List Int) × (List Int) × (List Int)) : Option (Bool × Unit) :=
  iterK fu_ (fun kx (v_ : ((List Int) × (List Int) × Int × Int × Unit) × (((List Int) × (List Int) × (List Int) × (List Int)) × Unit)) => impl_Case_arePeriods_B1 N (fun periods1 v7 v8 v9 c1 => kx ((periods1, v7, v8, v9, ()), (c1, ()))) v_.1.1 v_.1.2.1 v_.1.2.2.1 v_.1.2.2.2.1 v_.2.1) ((periods1, v7, v8, v9, ()), (c1, ()))
theorem impl_Case_arePeriods_L1_run (N : Nat) (periods1 : Nat → (List Int)) (v7 : Nat → (List Int)) (v8 : Nat → Int) (v9 : Nat → Int) (c1 : Nat → ((List Int) × (List Int) × (List Int) × (List Int))) (n_ : Nat) {res_ : Option (Bool × Unit)} (hstep_ : ∀ j_, j_ < n_ → ∀ kx_, impl_Case_arePeriods_B1 N kx_ (periods1 j_) (v7 j_) (v8 j_) (v9 j_) (c1 j_) = kx_ (periods1 (j_ + 1)) (v7 (j_ + 1)) (v8 (j_ + 1)) (v9 (j_ + 1)) (c1 (j_ + 1))) (hend_ : ∀ kx_, impl_Case_arePeriods_B1 N kx_ (periods1 n_) (v7 n_) (v8 n_) (v9 n_) (c1 n_) = res_) (fu_ : Nat) (hm_ : n_ < fu_) : impl_Case_arePeriods_L1 N fu_ (periods1 0) (v7 0) (v8 0) (v9 0) (c1 0) = res_ := by
  exact loop_run (L := fun fu_ (x_ : (List Int) × (List Int) × Int × Int × ((List Int) × (List Int) × (List Int) × (List Int))) => impl_Case_arePeriods_L1 N fu_ x_.1 x_.2.1 x_.2.2.1 x_.2.2.2.1 x_.2.2.2.2) (B := fun kx_ x_ => impl_Case_arePeriods_B1 N (fun periods1 v7 v8 v9 c1 => kx_ (periods1, v7, v8, v9, c1)) x_.1 x_.2.1 x_.2.2.1 x_.2.2.2.1 x_.2.2.2.2) (fun _ _ => rfl) (fun j_ => (periods1 j_, v7 j_, v8 j_, v9 j_, c1 j_)) n_ (fun j_ hi_ kx_ => hstep_ j_ hi_ _) (fun kx_ => hend_ _) fu_ hm_
def impl_Case_arePeriods (N : Nat) (c : (List Int) × (List Int) × (List Int) × (List Int)) (periods : List Int) : Option (Bool × Unit) :=
  impl_Case_arePeriods_L1 N N periods periods (len periods) 0 c
def impl_PlanFrom (N : Nat) (c : (List Int) × (List Int) × (List Int) × (List Int)) (periods : List Int) : Option (((List Int) × Bool) × Unit) :=
  (impl_IsCase N c).bind fun r =>
  bif !r.1 then
    some (([], false), ())
  else
    (impl_Case_arePeriods N c periods).bind fun r1 =>
    bif !r1.1 then
      some (([], false), ())
    else
      (impl_Case_planFrom N c periods).bind fun r2 =>
      some ((r2.1.1, r2.1.2), ())
def spec_l1Rising_K1 (N : Nat) : Option (Bool × Unit) :=
  some (true, ())
def spec_l1Rising_B1 (N : Nat) (kx : (List Int) → Int → Int → Int → Option (Bool × Unit)) (l1 : List Int) (lo1 : Int) (hi1 : Int) (i : Int) : Option (Bool × Unit) :=
  bif ilt i (len l1) then
    chk (inB i l1.length) <|
    (spec_l1In N (gd l1 i.toNat 0) lo1 hi1).bind fun r =>
    bif !r.1 then
      some (false, ())
    else
      bif ilt 0 i then
        chk (inB (isub .i64 i 1) l1.length) <|
        chk (inB i l1.length) <|
        bif ile (gd l1 i.toNat 0) (gd l1 (isub .i64 i 1).toNat 0) then
          some (false, ())
        else
          kx l1 lo1 hi1 (iadd .i64 i 1)
      else
        kx l1 lo1 hi1 (iadd .i64 i 1)
  else
    spec_l1Rising_K1 N
def spec_l1Rising_L1 (N fu_ : Nat) (l1 : List Int) (lo1 : Int) (hi1 : Int) (i : Int) : Option (Bool × Unit) :=
  iterK fu_ (fun kx (v_ : ((List Int) × Int × Int × Int × Unit) × (Unit)) => spec_l1Rising_B1 N (fun l1 lo1 hi1 i => kx ((l1, lo1, hi1, i, ()), ())) v_.1.1 v_.1.2.1 v_.1.2.2.1 v_.1.2.2.2.1) ((l1, lo1, hi1, i, ()), ())
theorem spec_l1Rising_L1_run (N : Nat) (l1 : Nat → (List Int)) (lo1 : Nat → Int) (hi1 : Nat → Int) (i : Nat → Int) (n_ : Nat) {res_ : Option (Bool × Unit)} (hstep_ : ∀ j_, j_ < n_ → ∀ kx_, spec_l1Rising_B1 N kx_ (l1 j_) (lo1 j_) (hi1 j_) (i j_) = kx_ (l1 (j_ + 1)) (lo1 (j_ + 1)) (hi1 (j_ + 1)) (i (j_ + 1))) (hend_ : ∀ kx_, spec_l1Rising_B1 N kx_ (l1 n_) (lo1 n_) (hi1 n_) (i n_) = res_) (fu_ : Nat) (hm_ : n_ < fu_) : spec_l1Rising_L1 N fu_ (l1 0) (lo1 0) (hi1 0) (i 0) = res_ := by
  exact loop_run (L := fun fu_ (x_ : (List Int) × Int × Int × Int) => spec_l1Rising_L1 N fu_ x_.1 x_.2.1 x_.2.2.1 x_.2.2.2) (B := fun kx_ x_ => spec_l1Rising_B1 N (fun l1 lo1 hi1 i => kx_ (l1, lo1, hi1, i)) x_.1 x_.2.1 x_.2.2.1 x_.2.2.2) (fun _ _ => rfl) (fun j_ => (l1 j_, lo1 j_, hi1 j_, i j_)) n_ (fun j_ hi_ kx_ => hstep_ j_ hi_ _) (fun kx_ => hend_ _) fu_ hm_
def spec_l1Rising (N : Nat) (l : List Int) (lo : Int) (hi : Int) : Option (Bool × Unit) :=
  spec_l1Rising_L1 N N l lo hi 0
def spec_l2Periods (N : Nat) (c : (List Int) × (List Int) × (List Int) × (List Int)) (periods : List Int) : Option (Bool × Unit) :=
  (spec_l1Rising N periods 0 (isub .i64 (len c.1) 1)).bind fun r =>
  some (r.1, ())
def spec_l2Covers_K1 (N : Nat) : Option (Bool × Unit) :=
  some (true, ())
def spec_l2Covers_B1 (N : Nat) (kx : (List Int) → Int → ((List Int) × (List Int) × (List Int) × (List Int)) → Option (Bool × Unit)) (periods1 : List Int) (t : Int) (c1 : (List Int) × (List Int) × (List Int) × (List Int)) : Option (Bool × Unit) :=
  bif ilt t (len c1.1) then
    bif ilt 0 (len periods1) then
      chk (inB 0 periods1.length) <|
      bif ile (gd periods1 0 0) t then
        some (true, ())
      else
        chk (inB t c1.1.length) <|
        bif ilt 0 (gd c1.1 t.toNat 0) then
          some (false, ())
        else
          kx periods1 (iadd .i64 t 1) c1
    else
      chk (inB t c1.1.length) <|
      bif ilt 0 (gd c1.1 t.toNat 0) then
        some (false, ())
      else
        kx periods1 (iadd .i64 t 1) c1
  else
    spec_l2Covers_K1 N
def spec_l2Covers_L1 (N fu_ : Nat) (periods1 : List Int) (t : Int) (c1 : (List Int) × (List Int) × (List Int) × (List Int)) : Option (Bool × Unit) :=
  iterK fu_ (fun kx (v_ : ((List Int) × Int × Unit) × (((List Int) × (List Int) × (List Int) × (List Int)) × Unit)) => spec_l2Covers_B1 N (fun periods1 t c1 => kx ((periods1, t, ()), (c1, ()))) v_.1.1 v_.1.2.1 v_.2.1) ((periods1, t, ()), (c1, ()))
theorem spec_l2Covers_L1_run (N : Nat) (periods1 : Nat → (List Int)) (t : Nat → Int) (c1 : Nat → ((List Int) × (List Int) × (List Int) × (List Int))) (n_ : Nat) {res_ : Option (Bool × Unit)} (hstep_ : ∀ j_, j_ < n_ → ∀ kx_, spec_l2Covers_B1 N kx_ (periods1 j_) (t j_) (c1 j_) = kx_ (periods1 (j_ + 1)) (t (j_ + 1)) (c1 (j_ + 1))) (hend_ : ∀ kx_, spec_l2Covers_B1 N kx_ (periods1 n_) (t n_) (c1 n_) = res_) (fu_ : Nat) (hm_ : n_ < fu_) : spec_l2Covers_L1 N fu_ (periods1 0) (t 0) (c1 0) = res_ := by
  exact loop_run (L := fun fu_ (x_ : (List Int) × Int × ((List Int) × (List Int) × (List Int) × (List Int))) => spec_l2Covers_L1 N fu_ x_.1 x_.2.1 x_.2.2) (B := fun kx_ x_ => spec_l2Covers_B1 N (fun periods1 t c1 => kx_ (periods1, t, c1)) x_.1 x_.2.1 x_.2.2) (fun _ _ => rfl) (fun j_ => (periods1 j_, t j_, c1 j_)) n_ (fun j_ hi_ kx_ => hstep_ j_ hi_ _) (fun kx_ => hend_ _) fu_ hm_
def spec_l2Covers (N : Nat) (c : (List Int) × (List Int) × (List Int) × (List Int)) (periods : List Int) : Option (Bool × Unit) :=
  spec_l2Covers_L1 N N periods 0 c
def spec_l2Sum_K1 (N : Nat) (sum1 : Int) : Option (Int × Unit) :=
  some (sum1, ())
def spec_l2Sum_B1 (N : Nat) (kx : (List Int) → Int → Int → Option (Int × Unit)) (list1 : List Int) (sum : Int) (i : Int) : Option (Int × Unit) :=
  bif ilt i (len list1) then
    chk (inB i list1.length) <|
    kx list1 (iadd .i64 sum (gd list1 i.toNat 0)) (iadd .i64 i 1)
  else
    spec_l2Sum_K1 N sum
def spec_l2Sum_L1 (N fu_ : Nat) (list1 : List Int) (sum : Int) (i : Int) : Option (Int × Unit) :=
  iterK fu_ (fun kx (v_ : ((List Int) × Int × Int × Unit) × (Unit)) => spec_l2Sum_B1 N (fun list1 sum i => kx ((list1, sum, i, ()), ())) v_.1.1 v_.1.2.1 v_.1.2.2.1) ((list1, sum, i, ()), ())
theorem spec_l2Sum_L1_run (N : Nat) (list1 : Nat → (List Int)) (sum : Nat → Int) (i : Nat → Int) (n_ : Nat) {res_ : Option (Int × Unit)} (hstep_ : ∀ j_, j_ < n_ → ∀ kx_, spec_l2Sum_B1 N kx_ (list1 j_) (sum j_) (i j_) = kx_ (list1 (j_ + 1)) (sum (j_ + 1)) (i (j_ + 1))) (hend_ : ∀ kx_, spec_l2Sum_B1 N kx_ (list1 n_) (sum n_) (i n_) = res_) (fu_ : Nat) (hm_ : n_ < fu_) : spec_l2Sum_L1 N fu_ (list1 0) (sum 0) (i 0) = res_ := by
  exact loop_run (L := fun fu_ (x_ : (List Int) × Int × Int) => spec_l2Sum_L1 N fu_ x_.1 x_.2.1 x_.2.2) (B := fun kx_ x_ => spec_l2Sum_B1 N (fun list1 sum i => kx_ (list1, sum, i)) x_.1 x_.2.1 x_.2.2) (fun _ _ => rfl) (fun j_ => (list1 j_, sum j_, i j_)) n_ (fun j_ hi_ kx_ => hstep_ j_ hi_ _) (fun kx_ => hend_ _) fu_ hm_
def spec_l2Sum (N : Nat) (list : List Int) : Option (Int × Unit) :=
  spec_l2Sum_L1 N N list 0 0
def spec_l2From_K1 (N : Nat) (kx : (List Int) → Int → ((List Int) × (List Int) × (List Int) × (List Int)) → (List Int) → Option ((List Int) × Unit)) (periods2 : List Int) (i1 : Int) (to : Int) (c2 : (List Int) × (List Int) × (List Int) × (List Int)) (out1 : List Int) : Option ((List Int) × Unit) :=
  chk (inB i1 periods2.length) <|
  chk (inB i1 periods2.length) <|
  chk (cutB (gd periods2 i1.toNat 0) to c2.1.length) <|
  (spec_l2Sum N (cut c2.1 (gd periods2 i1.toNat 0) to)).bind fun r =>
  chk (inB (gd periods2 i1.toNat 0) out1.length) <|
  kx periods2 (iadd .i64 i1 1) c2 (List.set out1 (gd periods2 i1.toNat 0).toNat r.1)
def spec_l2From_K2 (N : Nat) (out2 : List Int) : Option ((List Int) × Unit) :=
  some (out2, ())
def spec_l2From_B1 (N : Nat) (kx : (List Int) → Int → ((List Int) × (List Int) × (List Int) × (List Int)) → (List Int) → Option ((List Int) × Unit)) (periods1 : List Int) (i : Int) (c1 : (List Int) × (List Int) × (List Int) × (List Int)) (out : List Int) : Option ((List Int) × Unit) :=
  bif ilt i (len periods1) then
    bif ilt (iadd .i64 i 1) (len periods1) then
      chk (inB (iadd .i64 i 1) periods1.length) <|
      spec_l2From_K1 N kx periods1 i (gd periods1 (iadd .i64 i 1).toNat 0) c1 out
    else
      spec_l2From_K1 N kx periods1 i (len c1.1) c1 out
  else
    spec_l2From_K2 N out
def spec_l2From_L1 (N fu_ : Nat) (periods1 : List Int) (i : Int) (c1 : (List Int) × (List Int) × (List Int) × (List Int)) (out : List Int) : Option ((List Int) × Unit) :=
  iterK fu_ (fun kx (v_ : ((List Int) × Int × Unit) × (((List Int) × (List Int) × (List Int) × (List Int)) × (List Int) × Unit)) => spec_l2From_B1 N (fun periods1 i c1 out => kx ((periods1, i, ()), (c1, out, ()))) v_.1.1 v_.1.2.1 v_.2.1 v_.2.2.1) ((periods1, i, ()), (c1, out, ()))
theorem spec_l2From_L1_run (N : Nat) (periods1 : Nat → (List Int)) (i : Nat → Int) (c1 : Nat → ((List Int) × (List Int) × (List Int) × (List Int))) (out : Nat → (List Int)) (n_ : Nat) {res_ : Option ((List Int) × Unit)} (hstep_ : ∀ j_, j_ < n_ → ∀ kx_, spec_l2From_B1 N kx_ (periods1 j_) (i j_) (c1 j_) (out j_) = kx_ (periods1 (j_ + 1)) (i (j_ + 1)) (c1 (j_ + 1)) (out (j_ + 1))) (hend_ : ∀ kx_, spec_l2From_B1 N kx_ (periods1 n_) (i n_) (c1 n_) (out n_) = res_) (fu_ : Nat) (hm_ : n_ < fu_) : spec_l2From_L1 N fu_ (periods1 0) (i 0) (c1 0) (out 0) = res_ := by
  exact loop_run (L := fun fu_ (x_ : (List Int) × Int × ((List Int) × (List Int) × (List Int) × (List Int)) × (List Int)) => spec_l2From_L1 N fu_ x_.1 x_.2.1 x_.2.2.1 x_.2.2.2) (B := fun kx_ x_ => spec_l2From_B1 N (fun periods1 i c1 out => kx_ (periods1, i, c1, out)) x_.1 x_.2.1 x_.2.2.1 x_.2.2.2) (fun _ _ => rfl) (fun j_ => (periods1 j_, i j_, c1 j_, out j_)) n_ (fun j_ hi_ kx_ => hstep_ j_ hi_ _) (fun kx_ => hend_ _) fu_ hm_
def spec_l2From (N : Nat) (c : (List Int) × (List Int) × (List Int) × (List Int)) (periods : List Int) : Option ((List Int) × Unit) :=
  chk (mkB (len c.1) 8) <|
  spec_l2From_L1 N N periods 0 c (List.replicate (len c.1).toNat 0)
def spec_PlanFrom (N : Nat) (c : (List Int) × (List Int) × (List Int) × (List Int)) (periods : List Int) : Option (((List Int) × Bool) × Unit) :=
  (spec_l2Good N c).bind fun r =>
  bif !r.1 then
    some (([], false), ())
  else
    (spec_l2Periods N c periods).bind fun r1 =>
    bif !r1.1 then
      some (([], false), ())
    else
      (spec_l2Covers N c periods).bind fun r2 =>
      bif !r2.1 then
        some (([], false), ())
      else
        (spec_l2From N c periods).bind fun r3 =>
        some ((r3.1, true), ())


def impl_decimals_K1 (N : Nat) (between2 : ByteArray) (words1 : List ByteArray) : Option (ByteArray × Unit) :=
  (strings_Join N words1 between2).bind fun r1 =>
  some (r1.1, ())
def impl_decimals_B1 (N : Nat) (kx : ByteArray → (List Int) → Int → Int → (List ByteArray) → Option (ByteArray × Unit)) (between1 : ByteArray) (v9 : List Int) (v10 : Int) (v11 : Int) (words : List ByteArray) : Option (ByteArray × Unit) :=
  bif ilt v11 v10 then
    chk (inB v11 v9.length) <|
    (strconv_Itoa N (gd v9 v11.toNat 0)).bind fun r =>
    chk (fitB (words.length + 1) 16) <|
    kx between1 v9 v10 (iadd .i64 v11 1) (words ++ [r.1])
  else
    impl_decimals_K1 N between1 words
def impl_decimals_L1 (N fu_ : Nat) (between1 : ByteArray) (v9 : List Int) (v10 : Int) (v11 : Int) (words : List ByteArray) : Option (ByteArray × Unit) :=
  iterK fu_ (fun kx (v_ : (ByteArray × (List Int) × Int × Int × Unit) × ((List ByteArray) × Unit)) => impl_decimals_B1 N (fun between1 v9 v10 v11 words => kx ((between1, v9, v10, v11, ()), (words, ()))) v_.1.1 v_.1.2.1 v_.1.2.2.1 v_.1.2.2.2.1 v_.2.1) ((between1, v9, v10, v11, ()), (words, ()))
theorem impl_decimals_L1_run (N : Nat) (between1 : Nat → ByteArray) (v9 : Nat → (List Int)) (v10 : Nat → Int) (v11 : Nat → Int) (words : Nat → (List ByteArray)) (n_ : Nat) {res_ : Option (ByteArray × Unit)} (hstep_ : ∀ j_, j_ < n_ → ∀ kx_, impl_decimals_B1 N kx_ (between1 j_) (v9 j_) (v10 j_) (v11 j_) (words j_) = kx_ (between1 (j_ + 1)) (v9 (j_ + 1)) (v10 (j_ + 1)) (v11 (j_ + 1)) (words (j_ + 1))) (hend_ : ∀ kx_, impl_decimals_B1 N kx_ (between1 n_) (v9 n_) (v10 n_) (v11 n_) (words n_) = res_) (fu_ : Nat) (hm_ : n_ < fu_) : impl_decimals_L1 N fu_ (between1 0) (v9 0) (v10 0) (v11 0) (words 0) = res_ := by
  exact loop_run (L := fun fu_ (x_ : ByteArray × (List Int) × Int × Int × (List ByteArray)) => impl_decimals_L1 N fu_ x_.1 x_.2.1 x_.2.2.1 x_.2.2.2.1 x_.2.2.2.2) (B := fun kx_ x_ => impl_decimals_B1 N (fun between1 v9 v10 v11 words => kx_ (between1, v9, v10, v11, words)) x_.1 x_.2.1 x_.2.2.1 x_.2.2.2.1 x_.2.2.2.2) (fun _ _ => rfl) (fun j_ => (between1 j_, v9 j_, v10 j_, v11 j_, words j_)) n_ (fun j_ hi_ kx_ => hstep_ j_ hi_ _) (fun kx_ => hend_ _) fu_ hm_
def impl_decimals (N : Nat) (list : List Int) (between : ByteArray) : Option (ByteArray × Unit) :=
  impl_decimals_L1 N N between list (len list) 0 []
def impl_caseText_K1 (N : Nat) (words1 : List ByteArray) : Option (ByteArray × Unit) :=
  bif ieq (len words1) 0 then
    some ((⟨#[110, 111, 110, 101]⟩ : ByteArray), ())
  else
    (strings_Join N words1 (⟨#[32]⟩ : ByteArray)).bind fun r1 =>
    some (r1.1, ())
def impl_caseText_B1 (N : Nat) (kx : (List Int) → Int → Int → ((List Int) × (List Int) × (List Int) × (List Int)) → (List ByteArray) → Option (ByteArray × Unit)) (v8 : List Int) (v9 : Int) (v10 : Int) (c1 : (List Int) × (List Int) × (List Int) × (List Int)) (words : List ByteArray) : Option (ByteArray × Unit) :=
  bif ilt v10 v9 then
    chk (inB v10 v8.length) <|
    chk (inB v10 c1.2.1.length) <|
    chk (inB v10 c1.2.2.1.length) <|
    chk (inB v10 c1.2.2.2.length) <|
    (impl_decimals N [gd v8 v10.toNat 0, gd c1.2.1 v10.toNat 0, gd c1.2.2.1 v10.toNat 0, gd c1.2.2.2 v10.toNat 0] (⟨#[47]⟩ : ByteArray)).bind fun r =>
    chk (fitB (words.length + 1) 16) <|
    kx v8 v9 (iadd .i64 v10 1) c1 (words ++ [r.1])
  else
    impl_caseText_K1 N words
def impl_caseText_L1 (N fu_ : Nat) (v8 : List Int) (v9 : Int) (v10 : Int) (c1 : (List Int) × (List Int) × (List Int) × (List Int)) (words : List ByteArray) : Option (ByteArray × Unit) :=
  iterK fu_ (fun kx (v_ : ((List Int) × Int × Int × Unit) × (((List Int) × (List Int) × (List Int) × (List Int)) × (List ByteArray) × Unit)) => impl_caseText_B1 N (fun v8 v9 v10 c1 words => kx ((v8, v9, v10, ()), (c1, words, ()))) v_.1.1 v_.1.2.1 v_.1.2.2.1 v_.2.1 v_.2.2.1) ((v8, v9, v10, ()), (c1, words, ()))
theorem impl_caseText_L1_run (N : Nat) (v8 : Nat → (List Int)) (v9 : Nat → Int) (v10 : Nat → Int) (c1 : Nat → ((List Int) × (List Int) × (List Int) × (List Int))) (words : Nat → (List ByteArray)) (n_ : Nat) {res_ : Option (ByteArray × Unit)} (hstep_ : ∀ j_, j_ < n_ → ∀ kx_, impl_caseText_B1 N kx_ (v8 j_) (v9 j_) (v10 j_) (c1 j_) (words j_) = kx_ (v8 (j_ + 1)) (v9 (j_ + 1)) (v10 (j_ + 1)) (c1 (j_ + 1)) (words (j_ + 1))) (hend_ : ∀ kx_, impl_caseText_B1 N kx_ (v8 n_) (v9 n_) (v10 n_) (c1 n_) (words n_) = res_) (fu_ : Nat) (hm_ : n_ < fu_) : impl_caseText_L1 N fu_ (v8 0) (v9 0) (v10 0) (c1 0) (words 0) = res_ := by
  exact loop_run (L := fun fu_ (x_ : (List Int) × Int × Int × ((List Int) × (List Int) × (List Int) × (List Int)) × (List ByteArray)) => impl_caseText_L1 N fu_ x_.1 x_.2.1 x_.2.2.1 x_.2.2.2.1 x_.2.2.2.2) (B := fun kx_ x_ => impl_caseText_B1 N (fun v8 v9 v10 c1 words => kx_ (v8, v9, v10, c1, words)) x_.1 x_.2.1 x_.2.2.1 x_.2.2.2.1 x_.2.2.2.2) (fun _ _ => rfl) (fun j_ => (v8 j_, v9 j_, v10 j_, c1 j_, words j_)) n_ (fun j_ hi_ kx_ => hstep_ j_ hi_ _) (fun kx_ => hend_ _) fu_ hm_
def impl_caseText (N : Nat) (c : (List Int) × (List Int) × (List Int) × (List Int)) : Option (ByteArray × Unit) :=
  impl_caseText_L1 N N c.1 (len c.1) 0 c []
def impl_CaseText (N : Nat) (c : (List Int) × (List Int) × (List Int) × (List Int)) : Option ((ByteArray × Bool) × Unit) :=
  (impl_IsCase N c).bind fun r =>
  bif !r.1 then
    some (((⟨#[]⟩ : ByteArray), false), ())
  else
    (impl_caseText N c).bind fun r1 =>
    some ((r1.1, true), ())
def spec_l1Num_F (N : Nat) (kr_ : Int → Option (ByteArray × Unit)) (n : Int) : Option (ByteArray × Unit) :=
  bif ilt n 0 then
    (kr_ (isub .i64 0 n)).bind fun r =>
    chk (sfit (⟨#[45]⟩ : ByteArray) r.1) <|
    some (scat (⟨#[45]⟩ : ByteArray) r.1, ())
  else
    bif ilt n 10 then
      chk (cutB n (iadd .i64 n 1) (⟨#[48, 49, 50, 51, 52, 53, 54, 55, 56, 57]⟩ : ByteArray).size) <|
      some (scut (⟨#[48, 49, 50, 51, 52, 53, 54, 55, 56, 57]⟩ : ByteArray) n (iadd .i64 n 1), ())
    else
      chk (ine 10 0) <|
      (kr_ (iquo .i64 n 10)).bind fun r1 =>
      chk (ine 10 0) <|
      chk (ine 10 0) <|
      chk (cutB (irem n 10) (iadd .i64 (irem n 10) 1) (⟨#[48, 49, 50, 51, 52, 53, 54, 55, 56, 57]⟩ : ByteArray).size) <|
      chk (sfit r1.1 (scut (⟨#[48, 49, 50, 51, 52, 53, 54, 55, 56, 57]⟩ : ByteArray) (irem n 10) (iadd .i64 (irem n 10) 1))) <|
      some (scat r1.1 (scut (⟨#[48, 49, 50, 51, 52, 53, 54, 55, 56, 57]⟩ : ByteArray) (irem n 10) (iadd .i64 (irem n 10) 1)), ())
def spec_l1Num_R (N : Nat) : Nat → Int → Option (ByteArray × Unit)
  | 0 => fun _ => none
  | k_ + 1 => spec_l1Num_F N (spec_l1Num_R N k_)
theorem spec_l1Num_R_succ (N k_ : Nat) (n : Int) : spec_l1Num_R N (k_ + 1) n = spec_l1Num_F N (spec_l1Num_R N k_) n := rfl
def spec_l1Num (N : Nat) (n : Int) : Option (ByteArray × Unit) := spec_l1Num_R N N n
def spec_l2Text_K1 (N : Nat) (kx : ByteArray → Int → ((List Int) × (List Int) × (List Int) × (List Int)) → Option (ByteArray × Unit)) (s1 : ByteArray) (t1 : Int) (c2 : (List Int) × (List Int) × (List Int) × (List Int)) : Option (ByteArray × Unit) :=
  chk (inB t1 c2.1.length) <|
  (spec_l1Num N (gd c2.1 t1.toNat 0)).bind fun r =>
  chk (sfit s1 r.1) <|
  chk (sfit (scat s1 r.1) (⟨#[47]⟩ : ByteArray)) <|
  chk (inB t1 c2.2.1.length) <|
  (spec_l1Num N (gd c2.2.1 t1.toNat 0)).bind fun r1 =>
  chk (sfit (scat (scat s1 r.1) (⟨#[47]⟩ : ByteArray)) r1.1) <|
  chk (sfit (scat (scat (scat s1 r.1) (⟨#[47]⟩ : ByteArray)) r1.1) (⟨#[47]⟩ : ByteArray)) <|
  chk (inB t1 c2.2.2.1.length) <|
  (spec_l1Num N (gd c2.2.2.1 t1.toNat 0)).bind fun r2 =>
  chk (sfit (scat (scat (scat (scat s1 r.1) (⟨#[47]⟩ : ByteArray)) r1.1) (⟨#[47]⟩ : ByteArray)) r2.1) <|
  chk (sfit (scat (scat (scat (scat (scat s1 r.1) (⟨#[47]⟩ : ByteArray)) r1.1) (⟨#[47]⟩ : ByteArray)) r2.1) (⟨#[47]⟩ : ByteArray)) <|
  chk (inB t1 c2.2.2.2.length) <|
  (spec_l1Num N (gd c2.2.2.2 t1.toNat 0)).bind fun r3 =>
  chk (sfit (scat (scat (scat (scat (scat (scat s1 r.1) (⟨#[47]⟩ : ByteArray)) r1.1) (⟨#[47]⟩ : ByteArray)) r2.1) (⟨#[47]⟩ : ByteArray)) r3.1) <|
  kx (scat (scat (scat (scat (scat (scat (scat s1 r.1) (⟨#[47]⟩ : ByteArray)) r1.1) (⟨#[47]⟩ : ByteArray)) r2.1) (⟨#[47]⟩ : ByteArray)) r3.1) (iadd .i64 t1 1) c2
def spec_l2Text_K2 (N : Nat) (s2 : ByteArray) (c3 : (List Int) × (List Int) × (List Int) × (List Int)) : Option (ByteArray × Unit) :=
  bif ieq (len c3.1) 0 then
    some ((⟨#[110, 111, 110, 101]⟩ : ByteArray), ())
  else
    some (s2, ())
def spec_l2Text_B1 (N : Nat) (kx : ByteArray → Int → ((List Int) × (List Int) × (List Int) × (List Int)) → Option (ByteArray × Unit)) (s : ByteArray) (t : Int) (c1 : (List Int) × (List Int) × (List Int) × (List Int)) : Option (ByteArray × Unit) :=
  bif ilt t (len c1.1) then
    bif ilt 0 t then
      chk (sfit s (⟨#[32]⟩ : ByteArray)) <|
      spec_l2Text_K1 N kx (scat s (⟨#[32]⟩ : ByteArray)) t c1
    else
      spec_l2Text_K1 N kx s t c1
  else
    spec_l2Text_K2 N s c1
def spec_l2Text_L1 (N fu_ : Nat) (s : ByteArray) (t : Int) (c1 : (List Int) × (List Int) × (List Int) × (List Int)) : Option (ByteArray × Unit) :=
  iterK fu_ (fun kx (v_ : (ByteArray × Int × Unit) × (((List Int) × (List Int) × (List Int) × (List Int)) × Unit)) => spec_l2Text_B1 N (fun s t c1 => kx ((s, t, ()), (c1, ()))) v_.1.1 v_.1.2.1 v_.2.1) ((s, t, ()), (c1, ()))
theorem spec_l2Text_L1_run (N : Nat) (s : Nat → ByteArray) (t : Nat → Int) (c1 : Nat → ((List Int) × (List Int) × (List Int) × (List Int))) (n_ : Nat) {res_ : Option (ByteArray × Unit)} (hstep_ : ∀ j_, j_ < n_ → ∀ kx_, spec_l2Text_B1 N kx_ (s j_) (t j_) (c1 j_) = kx_ (s (j_ + 1)) (t (j_ + 1)) (c1 (j_ + 1))) (hend_ : ∀ kx_, spec_l2Text_B1 N kx_ (s n_) (t n_) (c1 n_) = res_) (fu_ : Nat) (hm_ : n_ < fu_) : spec_l2Text_L1 N fu_ (s 0) (t 0) (c1 0) = res_ := by
  exact loop_run (L := fun fu_ (x_ : ByteArray × Int × ((List Int) × (List Int) × (List Int) × (List Int))) => spec_l2Text_L1 N fu_ x_.1 x_.2.1 x_.2.2) (B := fun kx_ x_ => spec_l2Text_B1 N (fun s t c1 => kx_ (s, t, c1)) x_.1 x_.2.1 x_.2.2) (fun _ _ => rfl) (fun j_ => (s j_, t j_, c1 j_)) n_ (fun j_ hi_ kx_ => hstep_ j_ hi_ _) (fun kx_ => hend_ _) fu_ hm_
def spec_l2Text (N : Nat) (c : (List Int) × (List Int) × (List Int) × (List Int)) : Option (ByteArray × Unit) :=
  spec_l2Text_L1 N N (⟨#[]⟩ : ByteArray) 0 c
def spec_CaseText (N : Nat) (c : (List Int) × (List Int) × (List Int) × (List Int)) : Option ((ByteArray × Bool) × Unit) :=
  (spec_l2Good N c).bind fun r =>
  bif !r.1 then
    some (((⟨#[]⟩ : ByteArray), false), ())
  else
    (spec_l2Text N c).bind fun r1 =>
    some ((r1.1, true), ())


def impl_ParseInt (N : Nat) (s : ByteArray) : Option ((Int × Bool) × Unit) :=
  bif ilt 7 (slen s) then
    some ((0, false), ())
  else
    (strconv_Atoi N s).bind fun r =>
    bif !r.1.2 then
      some ((0, false), ())
    else
      (impl_within N r.1.1 (-999999) 999999).bind fun r1 =>
      bif !r1.1 then
        some ((0, false), ())
      else
        (strconv_Itoa N r.1.1).bind fun r2 =>
        bif !(Go.Rx.seq r2.1 s) then
          some ((0, false), ())
        else
          some ((r.1.1, true), ())
def impl_readNumbers_K1 (N : Nat) (out1 : List Int) : Option (((List Int) × Bool) × Unit) :=
  some ((out1, true), ())
def impl_readNumbers_B1 (N : Nat) (kx : Int → Int → (List Int) → (List ByteArray) → Option (((List Int) × Bool) × Unit)) (v15 : Int) (v16 : Int) (out : List Int) (v14 : List ByteArray) : Option (((List Int) × Bool) × Unit) :=
  bif ilt v16 v15 then
    chk (inB v16 v14.length) <|
    (impl_ParseInt N (gd v14 v16.toNat (⟨#[]⟩ : ByteArray))).bind fun r1 =>
    bif !r1.1.2 then
      some (([], false), ())
    else
      chk (fitB (out.length + 1) 8) <|
      kx v15 (iadd .i64 v16 1) (out ++ [r1.1.1]) v14
  else
    impl_readNumbers_K1 N out
def impl_readNumbers_L1 (N fu_ : Nat) (v15 : Int) (v16 : Int) (out : List Int) (v14 : List ByteArray) : Option (((List Int) × Bool) × Unit) :=
  iterK fu_ (fun kx (v_ : (Int × Int × Unit) × ((List Int) × (List ByteArray) × Unit)) => impl_readNumbers_B1 N (fun v15 v16 out v14 => kx ((v15, v16, ()), (out, v14, ()))) v_.1.1 v_.1.2.1 v_.2.1 v_.2.2.1) ((v15, v16, ()), (out, v14, ()))
theorem impl_readNumbers_L1_run (N : Nat) (v15 : Nat → Int) (v16 : Nat → Int) (out : Nat → (List Int)) (v14 : Nat → (List ByteArray)) (n_ : Nat) {res_ : Option (((List Int) × Bool) × Unit)} (hstep_ : ∀ j_, j_ < n_ → ∀ kx_, impl_readNumbers_B1 N kx_ (v15 j_) (v16 j_) (out j_) (v14 j_) = kx_ (v15 (j_ + 1)) (v16 (j_ + 1)) (out (j_ + 1)) (v14 (j_ + 1))) (hend_ : ∀ kx_, impl_readNumbers_B1 N kx_ (v15 n_) (v16 n_) (out n_) (v14 n_) = res_) (fu_ : Nat) (hm_ : n_ < fu_) : impl_readNumbers_L1 N fu_ (v15 0) (v16 0) (out 0) (v14 0) = res_ := by
  exact loop_run (L := fun fu_ (x_ : Int × Int × (List Int) × (List ByteArray)) => impl_readNumbers_L1 N fu_ x_.1 x_.2.1 x_.2.2.1 x_.2.2.2) (B := fun kx_ x_ => impl_readNumbers_B1 N (fun v15 v16 out v14 => kx_ (v15, v16, out, v14)) x_.1 x_.2.1 x_.2.2.1 x_.2.2.2) (fun _ _ => rfl) (fun j_ => (v15 j_, v16 j_, out j_, v14 j_)) n_ (fun j_ hi_ kx_ => hstep_ j_ hi_ _) (fun kx_ => hend_ _) fu_ hm_
def impl_readNumbers (N : Nat) (s : ByteArray) (between : ByteArray) : Option (((List Int) × Bool) × Unit) :=
  (strings_Split N s between).bind fun r =>
  impl_readNumbers_L1 N N (len r.1) 0 [] r.1
def impl_ParseCase_K1 (N : Nat) (s2 : ByteArray) (v21 : (List Int) × (List Int) × (List Int) × (List Int)) (c1 : (List Int) × (List Int) × (List Int) × (List Int)) : Option ((((List Int) × (List Int) × (List Int) × (List Int)) × Bool) × Unit) :=
  (impl_IsCase N c1).bind fun r2 =>
  bif !r2.1 then
    some ((([], ([], ([], []))), false), ())
  else
    (impl_caseText N c1).bind fun r3 =>
    bif !(Go.Rx.seq r3.1 s2) then
      some ((([], ([], ([], []))), false), ())
    else
      some ((c1, true), ())
def impl_ParseCase_B1 (N : Nat) (kx : ByteArray → Int → Int → ((List Int) × (List Int) × (List Int) × (List Int)) → ((List Int) × (List Int) × (List Int) × (List Int)) → (List ByteArray) → Option ((((List Int) × (List Int) × (List Int) × (List Int)) × Bool) × Unit)) (s1 : ByteArray) (v15 : Int) (v16 : Int) (v2 : (List Int) × (List Int) × (List Int) × (List Int)) (c : (List Int) × (List Int) × (List Int) × (List Int)) (v14 : List ByteArray) : Option ((((List Int) × (List Int) × (List Int) × (List Int)) × Bool) × Unit) :=
  bif ilt v16 v15 then
    chk (inB v16 v14.length) <|
    (impl_readNumbers N (gd v14 v16.toNat (⟨#[]⟩ : ByteArray)) (⟨#[47]⟩ : ByteArray)).bind fun r1 =>
    bif !r1.1.2 then
      some ((([], ([], ([], []))), false), ())
    else
      bif ine (len r1.1.1) 4 then
        some ((([], ([], ([], []))), false), ())
      else
        bif ieq (len c.1) 8 then
          some ((([], ([], ([], []))), false), ())
        else
          chk (inB 0 r1.1.1.length) <|
          chk (fitB (c.1.length + 1) 8) <|
          chk (inB 1 r1.1.1.length) <|
          chk (fitB (c.2.1.length + 1) 8) <|
          chk (inB 2 r1.1.1.length) <|
          chk (fitB (c.2.2.1.length + 1) 8) <|
          chk (inB 3 r1.1.1.length) <|
          chk (fitB (c.2.2.2.length + 1) 8) <|
          kx s1 v15 (iadd .i64 v16 1) v2 (c.1 ++ [gd r1.1.1 0 0], (c.2.1 ++ [gd r1.1.1 1 0], (c.2.2.1 ++ [gd r1.1.1 2 0], c.2.2.2 ++ [gd r1.1.1 3 0]))) v14
  else
    impl_ParseCase_K1 N s1 v2 c
def impl_ParseCase_L1 (N fu_ : Nat) (s1 : ByteArray) (v15 : Int) (v16 : Int) (v2 : (List Int) × (List Int) × (List Int) × (List Int)) (c : (List Int) × (List Int) × (List Int) × (List Int)) (v14 : List ByteArray) : Option ((((List Int) × (List Int) × (List Int) × (List Int)) × Bool) × Unit) :=
  iterK fu_ (fun kx (v_ : (ByteArray × Int × Int × Unit) × (((List Int) × (List Int) × (List Int) × (List Int)) × ((List Int) × (List Int) × (List Int) × (List Int)) × (List ByteArray) × Unit)) => impl_ParseCase_B1 N (fun s1 v15 v16 v2 c v14 => kx ((s1, v15, v16, ()), (v2, c, v14, ()))) v_.1.1 v_.1.2.1 v_.1.2.2.1 v_.2.1 v_.2.2.1 v_.2.2.2.1) ((s1, v15, v16, ()), (v2, c, v14, ()))
theorem impl_ParseCase_L1_run (N : Nat) (s1 : Nat → ByteArray) (v15 : Nat → Int) (v16 : Nat → Int) (v2 : Nat → ((List Int) × (List Int) × (List Int) × (List Int))) (c : Nat → ((List Int) × (List Int) × (List Int) × (List Int))) (v14 : Nat → (List ByteArray)) (n_ : Nat) {res_ : Option ((((List Int) × (List Int) × (List Int) × (List Int)) × Bool) × Unit)} (hstep_ : ∀ j_, j_ < n_ → ∀ kx_, impl_ParseCase_B1 N kx_ (s1 j_) (v15 j_) (v16 j_) (v2 j_) (c j_) (v14 j_) = kx_ (s1 (j_ + 1)) (v15 (j_ + 1)) (v16 (j_ + 1)) (v2 (j_ + 1)) (c (j_ + 1)) (v14 (j_ + 1))) (hend_ : ∀ kx_, impl_ParseCase_B1 N kx_ (s1 n_) (v15 n_) (v16 n_) (v2 n_) (c n_) (v14 n_) = res_) (fu_ : Nat) (hm_ : n_ < fu_) : impl_ParseCase_L1 N fu_ (s1 0) (v15 0) (v16 0) (v2 0) (c 0) (v14 0) = res_ := by
  exact loop_run (L := fun fu_ (x_ : ByteArray × Int × Int × ((List Int) × (List Int) × (List Int) × (List Int)) × ((List Int) × (List Int) × (List Int) × (List Int)) × (List ByteArray)) => impl_ParseCase_L1 N fu_ x_.1 x_.2.1 x_.2.2.1 x_.2.2.2.1 x_.2.2.2.2.1 x_.2.2.2.2.2) (B := fun kx_ x_ => impl_ParseCase_B1 N (fun s1 v15 v16 v2 c v14 => kx_ (s1, v15, v16, v2, c, v14)) x_.1 x_.2.1 x_.2.2.1 x_.2.2.2.1 x_.2.2.2.2.1 x_.2.2.2.2.2) (fun _ _ => rfl) (fun j_ => (s1 j_, v15 j_, v16 j_, v2 j_, c j_, v14 j_)) n_ (fun j_ hi_ kx_ => hstep_ j_ hi_ _) (fun kx_ => hend_ _) fu_ hm_
def impl_ParseCase (N : Nat) (s : ByteArray) : Option ((((List Int) × (List Int) × (List Int) × (List Int)) × Bool) × Unit) :=
  bif Go.Rx.seq s (⟨#[110, 111, 110, 101]⟩ : ByteArray) then
    some ((([], ([], ([], []))), true), ())
  else
    (strings_Split N s (⟨#[32]⟩ : ByteArray)).bind fun r =>
    impl_ParseCase_L1 N N s (len r.1) 0 ([], ([], ([], []))) ([], ([], ([], []))) r.1
def pspec_l1Cur_spoilt (N : Nat) (c : (List Int) × Int × Int) (t : ByteArray) (withx : ByteArray) : Option (ByteArray × ((List Int) × Int × Int)) :=
  bif Go.Rx.seq t (⟨#[]⟩ : ByteArray) then
    chk (cutB 0 1 withx.size) <|
    some (scut withx 0 1, c)
  else
    (pspec_l1Cur_pick N c (slen t)).bind fun r =>
    (pspec_l1Cur_pick N r.2 (slen withx)).bind fun r1 =>
    chk (cutB r1.1 (slen withx) withx.size) <|
    chk (cutB 0 1 (scut withx r1.1 (slen withx)).size) <|
    (pspec_l1Cur_pick N r1.2 3).bind fun r2 =>
    bif ieq r2.1 0 then
      chk (cutB 0 r.1 t.size) <|
      chk (sfit (scut t 0 r.1) (scut (scut withx r1.1 (slen withx)) 0 1)) <|
      chk (cutB r.1 (slen t) t.size) <|
      chk (sfit (scat (scut t 0 r.1) (scut (scut withx r1.1 (slen withx)) 0 1)) (scut t r.1 (slen t))) <|
      some (scat (scat (scut t 0 r.1) (scut (scut withx r1.1 (slen withx)) 0 1)) (scut t r.1 (slen t)), r2.2)
    else
      bif ieq r2.1 1 then
        chk (cutB 0 r.1 t.size) <|
        chk (sfit (scut t 0 r.1) (scut (scut withx r1.1 (slen withx)) 0 1)) <|
        chk (cutB (iadd .i64 r.1 1) (slen t) t.size) <|
        chk (sfit (scat (scut t 0 r.1) (scut (scut withx r1.1 (slen withx)) 0 1)) (scut t (iadd .i64 r.1 1) (slen t))) <|
        some (scat (scat (scut t 0 r.1) (scut (scut withx r1.1 (slen withx)) 0 1)) (scut t (iadd .i64 r.1 1) (slen t)), r2.2)
      else
        chk (cutB 0 r.1 t.size) <|
        chk (cutB (iadd .i64 r.1 1) (slen t) t.size) <|
        chk (sfit (scut t 0 r.1) (scut t (iadd .i64 r.1 1) (slen t))) <|
        some (scat (scut t 0 r.1) (scut t (iadd .i64 r.1 1) (slen t)), r2.2)
def spec_DrawParseCase_K1 (N : Nat) (s : ByteArray) (c : (List Int) × Int × Int) : Option (ByteArray × Unit) :=
  (pspec_l1Cur_one N c 3).bind fun r3 =>
  bif r3.1 then
    (pspec_l1Cur_spoilt N r3.2 s (⟨#[48, 49, 50, 51, 47, 32, 45]⟩ : ByteArray)).bind fun r4 =>
    some (r4.1, ())
  else
    some (s, ())
def spec_DrawParseCase (N : Nat) (code : List Int) : Option (ByteArray × Unit) :=
  (pspec_l1Cur_lots N (code, (0, 0))).bind fun r =>
  (spec_l2Good N r.1).bind fun r1 =>
  bif r1.1 then
    (spec_l2Text N r.1).bind fun r2 =>
    spec_DrawParseCase_K1 N r2.1 r.2
  else
    spec_DrawParseCase_K1 N (⟨#[110, 111, 110, 101]⟩ : ByteArray) r.2
def spec_l1Split_K1 (N : Nat) (s2 : ByteArray) (fromx1 : Int) (out1 : List ByteArray) : Option ((List ByteArray) × Unit) :=
  chk (cutB fromx1 (slen s2) s2.size) <|
  chk (fitB (out1.length + 1) 16) <|
  some (out1 ++ [scut s2 fromx1 (slen s2)], ())
def spec_l1Split_B1 (N : Nat) (kx : ByteArray → Int → Int → Int → (List ByteArray) → Option ((List ByteArray) × Unit)) (s1 : ByteArray) (b1 : Int) (fromx : Int) (i : Int) (out : List ByteArray) : Option ((List ByteArray) × Unit) :=
  bif ilt i (slen s1) then
    chk (inB i s1.size) <|
    bif ieq (sbyte s1 i) b1 then
      chk (cutB fromx i s1.size) <|
      chk (fitB (out.length + 1) 16) <|
      kx s1 b1 (iadd .i64 i 1) (iadd .i64 i 1) (out ++ [scut s1 fromx i])
    else
      kx s1 b1 fromx (iadd .i64 i 1) out
  else
    spec_l1Split_K1 N s1 fromx out
def spec_l1Split_L1 (N fu_ : Nat) (s1 : ByteArray) (b1 : Int) (fromx : Int) (i : Int) (out : List ByteArray) : Option ((List ByteArray) × Unit) :=
  iterK fu_ (fun kx (v_ : (ByteArray × Int × Int × Int × Unit) × ((List ByteArray) × Unit)) => spec_l1Split_B1 N (fun s1 b1 fromx i out => kx ((s1, b1, fromx, i, ()), (out, ()))) v_.1.1 v_.1.2.1 v_.1.2.2.1 v_.1.2.2.2.1 v_.2.1) ((s1, b1, fromx, i, ()), (out, ()))
theorem spec_l1Split_L1_succ (N fu_ : Nat) (s1 : ByteArray) (b1 : Int) (fromx : Int) (i : Int) (out : List ByteArray) : spec_l1Split_L1 N (fu_ + 1) s1 b1 fromx i out = spec_l1Split_B1 N (fun s1 b1 fromx i out => spec_l1Split_L1 N fu_ s1 b1 fromx i out) s1 b1 fromx i out := rfl
def spec_l1Split (N : Nat) (s : ByteArray) (b : Int) : Option ((List ByteArray) × Unit) :=
  spec_l1Split_L1 N N s b 0 0 []
def spec_l1Read_K1 (N : Nat) (s4 : ByteArray) (t3 : ByteArray) (n1 : Int) : Option ((Int × Bool) × Unit) :=
  bif ilt (slen t3) (slen s4) then
    (spec_l1Num N (isub .i64 0 n1)).bind fun r1 =>
    bif !(Go.Rx.seq r1.1 s4) then
      some ((0, false), ())
    else
      some ((isub .i64 0 n1, true), ())
  else
    (spec_l1Num N n1).bind fun r2 =>
    bif !(Go.Rx.seq r2.1 s4) then
      some ((0, false), ())
    else
      some ((n1, true), ())
def spec_l1Read_B1 (N : Nat) (kx : ByteArray → ByteArray → Int → Int → Option ((Int × Bool) × Unit)) (s3 : ByteArray) (t2 : ByteArray) (n : Int) (i : Int) : Option ((Int × Bool) × Unit) :=
  bif ilt i (slen t2) then
    chk (inB i t2.size) <|
    bif ilt (sbyte t2 i) 48 then
      some ((0, false), ())
    else
      chk (inB i t2.size) <|
      bif ilt 57 (sbyte t2 i) then
        some ((0, false), ())
      else
        chk (inB i t2.size) <|
        kx s3 t2 (iadd .i64 (imul .i64 10 n) (icv .i64 (isub .u8 (sbyte t2 i) 48))) (iadd .i64 i 1)
  else
    spec_l1Read_K1 N s3 t2 n
def spec_l1Read_L1 (N fu_ : Nat) (s3 : ByteArray) (t2 : ByteArray) (n : Int) (i : Int) : Option ((Int × Bool) × Unit) :=
  iterK fu_ (fun kx (v_ : (ByteArray × ByteArray × Int × Int × Unit) × (Unit)) => spec_l1Read_B1 N (fun s3 t2 n i => kx ((s3, t2, n, i, ()), ())) v_.1.1 v_.1.2.1 v_.1.2.2.1 v_.1.2.2.2.1) ((s3, t2, n, i, ()), ())
theorem spec_l1Read_L1_run (N : Nat) (s3 : Nat → ByteArray) (t2 : Nat → ByteArray) (n : Nat → Int) (i : Nat → Int) (n_ : Nat) {res_ : Option ((Int × Bool) × Unit)} (hstep_ : ∀ j_, j_ < n_ → ∀ kx_, spec_l1Read_B1 N kx_ (s3 j_) (t2 j_) (n j_) (i j_) = kx_ (s3 (j_ + 1)) (t2 (j_ + 1)) (n (j_ + 1)) (i (j_ + 1))) (hend_ : ∀ kx_, spec_l1Read_B1 N kx_ (s3 n_) (t2 n_) (n n_) (i n_) = res_) (fu_ : Nat) (hm_ : n_ < fu_) : spec_l1Read_L1 N fu_ (s3 0) (t2 0) (n 0) (i 0) = res_ := by
  exact loop_run (L := fun fu_ (x_ : ByteArray × ByteArray × Int × Int) => spec_l1Read_L1 N fu_ x_.1 x_.2.1 x_.2.2.1 x_.2.2.2) (B := fun kx_ x_ => spec_l1Read_B1 N (fun s3 t2 n i => kx_ (s3, t2, n, i)) x_.1 x_.2.1 x_.2.2.1 x_.2.2.2) (fun _ _ => rfl) (fun j_ => (s3 j_, t2 j_, n j_, i j_)) n_ (fun j_ hi_ kx_ => hstep_ j_ hi_ _) (fun kx_ => hend_ _) fu_ hm_
def spec_l1Read_K2 (N : Nat) (s2 : ByteArray) (t1 : ByteArray) : Option ((Int × Bool) × Unit) :=
  (spec_l1In N (slen t1) 1 6).bind fun r =>
  bif !r.1 then
    some ((0, false), ())
  else
    spec_l1Read_L1 N N s2 t1 0 0
def spec_l1Read_K3 (N : Nat) (s1 : ByteArray) (t : ByteArray) (v15 : Bool) : Option ((Int × Bool) × Unit) :=
  bif v15 then
    chk (cutB 1 (slen t) t.size) <|
    spec_l1Read_K2 N s1 (scut t 1 (slen t))
  else
    spec_l1Read_K2 N s1 t
def spec_l1Read (N : Nat) (s : ByteArray) : Option ((Int × Bool) × Unit) :=
  bif ilt 1 (slen s) then
    chk (inB 0 s.size) <|
    spec_l1Read_K3 N s s (ieq (sbyte s 0) 45)
  else
    spec_l1Read_K3 N s s false
def spec_l2Read_K1 (N : Nat) (v21 : List Int) (out1 : List Int) : Option (((List Int) × Bool) × Unit) :=
  some ((out1, true), ())
def spec_l2Read_B1 (N : Nat) (kx : Int → (List Int) → (List ByteArray) → (List Int) → Option (((List Int) × Bool) × Unit)) (i : Int) (v2 : List Int) (parts : List ByteArray) (out : List Int) : Option (((List Int) × Bool) × Unit) :=
  bif ilt i 4 then
    chk (inB i parts.length) <|
    (spec_l1Read N (gd parts i.toNat (⟨#[]⟩ : ByteArray))).bind fun r1 =>
    bif !r1.1.2 then
      some ((List.replicate 4 0, false), ())
    else
      chk (inB i 4) <|
      kx (iadd .i64 i 1) v2 parts (List.set out i.toNat r1.1.1)
  else
    spec_l2Read_K1 N v2 out
def spec_l2Read_L1 (N fu_ : Nat) (i : Int) (v2 : List Int) (parts : List ByteArray) (out : List Int) : Option (((List Int) × Bool) × Unit) :=
  iterK fu_ (fun kx (v_ : (Int × Unit) × ((List Int) × (List ByteArray) × (List Int) × Unit)) => spec_l2Read_B1 N (fun i v2 parts out => kx ((i, ()), (v2, parts, out, ()))) v_.1.1 v_.2.1 v_.2.2.1 v_.2.2.2.1) ((i, ()), (v2, parts, out, ()))
theorem spec_l2Read_L1_run (N : Nat) (i : Nat → Int) (v2 : Nat → (List Int)) (parts : Nat → (List ByteArray)) (out : Nat → (List Int)) (n_ : Nat) {res_ : Option (((List Int) × Bool) × Unit)} (hstep_ : ∀ j_, j_ < n_ → ∀ kx_, spec_l2Read_B1 N kx_ (i j_) (v2 j_) (parts j_) (out j_) = kx_ (i (j_ + 1)) (v2 (j_ + 1)) (parts (j_ + 1)) (out (j_ + 1))) (hend_ : ∀ kx_, spec_l2Read_B1 N kx_ (i n_) (v2 n_) (parts n_) (out n_) = res_) (fu_ : Nat) (hm_ : n_ < fu_) : spec_l2Read_L1 N fu_ (i 0) (v2 0) (parts 0) (out 0) = res_ := by
  exact loop_run (L := fun fu_ (x_ : Int × (List Int) × (List ByteArray) × (List Int)) => spec_l2Read_L1 N fu_ x_.1 x_.2.1 x_.2.2.1 x_.2.2.2) (B := fun kx_ x_ => spec_l2Read_B1 N (fun i v2 parts out => kx_ (i, v2, parts, out)) x_.1 x_.2.1 x_.2.2.1 x_.2.2.2) (fun _ _ => rfl) (fun j_ => (i j_, v2 j_, parts j_, out j_)) n_ (fun j_ hi_ kx_ => hstep_ j_ hi_ _) (fun kx_ => hend_ _) fu_ hm_
def spec_l2Read (N : Nat) (w : ByteArray) : Option (((List Int) × Bool) × Unit) :=
  (spec_l1Split N w 47).bind fun r =>
  bif ine (len r.1) 4 then
    some ((List.replicate 4 0, false), ())
  else
    spec_l2Read_L1 N N 0 (List.replicate 4 0) r.1 (List.replicate 4 0)
def spec_ParseCase_K1 (N : Nat) (s2 : ByteArray) (v21 : (List Int) × (List Int) × (List Int) × (List Int)) (c1 : (List Int) × (List Int) × (List Int) × (List Int)) : Option ((((List Int) × (List Int) × (List Int) × (List Int)) × Bool) × Unit) :=
  (spec_l2Good N c1).bind fun r2 =>
  bif !r2.1 then
    some ((([], ([], ([], []))), false), ())
  else
    (spec_l2Text N c1).bind fun r3 =>
    bif !(Go.Rx.seq r3.1 s2) then
      some ((([], ([], ([], []))), false), ())
    else
      some ((c1, true), ())
def spec_ParseCase_B1 (N : Nat) (kx : ByteArray → Int → ((List Int) × (List Int) × (List Int) × (List Int)) → ((List Int) × (List Int) × (List Int) × (List Int)) → (List ByteArray) → Option ((((List Int) × (List Int) × (List Int) × (List Int)) × Bool) × Unit)) (s1 : ByteArray) (i : Int) (v2 : (List Int) × (List Int) × (List Int) × (List Int)) (c : (List Int) × (List Int) × (List Int) × (List Int)) (words : List ByteArray) : Option ((((List Int) × (List Int) × (List Int) × (List Int)) × Bool) × Unit) :=
  bif ilt i (len words) then
    bif ile i 8 then
      chk (inB i words.length) <|
      (spec_l2Read N (gd words i.toNat (⟨#[]⟩ : ByteArray))).bind fun r1 =>
      bif !r1.1.2 then
        some ((([], ([], ([], []))), false), ())
      else
        chk (inB 0 4) <|
        chk (fitB (c.1.length + 1) 8) <|
        chk (inB 1 4) <|
        chk (fitB (c.2.1.length + 1) 8) <|
        chk (inB 2 4) <|
        chk (fitB (c.2.2.1.length + 1) 8) <|
        chk (inB 3 4) <|
        chk (fitB (c.2.2.2.length + 1) 8) <|
        kx s1 (iadd .i64 i 1) v2 (c.1 ++ [gd r1.1.1 0 0], (c.2.1 ++ [gd r1.1.1 1 0], (c.2.2.1 ++ [gd r1.1.1 2 0], c.2.2.2 ++ [gd r1.1.1 3 0]))) words
    else
      spec_ParseCase_K1 N s1 v2 c
  else
    spec_ParseCase_K1 N s1 v2 c
def spec_ParseCase_L1 (N fu_ : Nat) (s1 : ByteArray) (i : Int) (v2 : (List Int) × (List Int) × (List Int) × (List Int)) (c : (List Int) × (List Int) × (List Int) × (List Int)) (words : List ByteArray) : Option ((((List Int) × (List Int) × (List Int) × (List Int)) × Bool) × Unit) :=
  iterK fu_ (fun kx (v_ : (ByteArray × Int × Unit) × (((List Int) × (List Int) × (List Int) × (List Int)) × ((List Int) × (List Int) × (List Int) × (List Int)) × (List ByteArray) × Unit)) => spec_ParseCase_B1 N (fun s1 i v2 c words => kx ((s1, i, ()), (v2, c, words, ()))) v_.1.1 v_.1.2.1 v_.2.1 v_.2.2.1 v_.2.2.2.1) ((s1, i, ()), (v2, c, words, ()))
theorem spec_ParseCase_L1_run (N : Nat) (s1 : Nat → ByteArray) (i : Nat → Int) (v2 : Nat → ((List Int) × (List Int) × (List Int) × (List Int))) (c : Nat → ((List Int) × (List Int) × (List Int) × (List Int))) (words : Nat → (List ByteArray)) (n_ : Nat) {res_ : Option ((((List Int) × (List Int) × (List Int) × (List Int)) × Bool) × Unit)} (hstep_ : ∀ j_, j_ < n_ → ∀ kx_, spec_ParseCase_B1 N kx_ (s1 j_) (i j_) (v2 j_) (c j_) (words j_) = kx_ (s1 (j_ + 1)) (i (j_ + 1)) (v2 (j_ + 1)) (c (j_ + 1)) (words (j_ + 1))) (hend_ : ∀ kx_, spec_ParseCase_B1 N kx_ (s1 n_) (i n_) (v2 n_) (c n_) (words n_) = res_) (fu_ : Nat) (hm_ : n_ < fu_) : spec_ParseCase_L1 N fu_ (s1 0) (i 0) (v2 0) (c 0) (words 0) = res_ := by
  exact loop_run (L := fun fu_ (x_ : ByteArray × Int × ((List Int) × (List Int) × (List Int) × (List Int)) × ((List Int) × (List Int) × (List Int) × (List Int)) × (List ByteArray)) => spec_ParseCase_L1 N fu_ x_.1 x_.2.1 x_.2.2.1 x_.2.2.2.1 x_.2.2.2.2) (B := fun kx_ x_ => spec_ParseCase_B1 N (fun s1 i v2 c words => kx_ (s1, i, v2, c, words)) x_.1 x_.2.1 x_.2.2.1 x_.2.2.2.1 x_.2.2.2.2) (fun _ _ => rfl) (fun j_ => (s1 j_, i j_, v2 j_, c j_, words j_)) n_ (fun j_ hi_ kx_ => hstep_ j_ hi_ _) (fun kx_ => hend_ _) fu_ hm_
def spec_ParseCase (N : Nat) (s : ByteArray) : Option ((((List Int) × (List Int) × (List Int) × (List Int)) × Bool) × Unit) :=
  bif Go.Rx.seq s (⟨#[110, 111, 110, 101]⟩ : ByteArray) then
    some ((([], ([], ([], []))), true), ())
  else
    (spec_l1Split N s 32).bind fun r =>
    spec_ParseCase_L1 N N s 0 ([], ([], ([], []))) ([], ([], ([], []))) r.1
def laws_FnCases_K1 (N : Nat) (code3 : List Int) : Option (Bool × Unit) :=
  (spec_DrawParseCase N code3).bind fun r27 =>
  (impl_ParseCase N r27.1).bind fun r28 =>
  (spec_ParseCase N r27.1).bind fun r29 =>
  bif Go.Rx.beq r28.1.2 r29.1.2 then
    (laws_rCase N r28.1.1 r29.1.1).bind fun r30 =>
    some (r30.1, ())
  else
    some (false, ())
def laws_FnCases_K2 (N : Nat) (code2 : List Int) (c1 : (List Int) × (List Int) × (List Int) × (List Int)) : Option (Bool × Unit) :=
  (impl_WaitsNever N c1).bind fun r17 =>
  (spec_WaitsNever N c1).bind fun r18 =>
  bif !(Go.Rx.beq r17.1.1 r18.1.1) then
    some (false, ())
  else
    bif !(Go.Rx.beq r17.1.2 r18.1.2) then
      some (false, ())
    else
      (spec_DrawPlanFrom N code2).bind fun r19 =>
      (impl_PlanFrom N r19.1.1 r19.1.2).bind fun r20 =>
      (spec_PlanFrom N r19.1.1 r19.1.2).bind fun r21 =>
      bif !(Go.Rx.beq r20.1.2 r21.1.2) then
        some (false, ())
      else
        (laws_rInts N r20.1.1 r21.1.1).bind fun r22 =>
        bif !r22.1 then
          some (false, ())
        else
          (impl_CaseText N c1).bind fun r23 =>
          (spec_CaseText N c1).bind fun r24 =>
          bif !(Go.Rx.seq r23.1.1 r24.1.1) then
            some (false, ())
          else
            bif !(Go.Rx.beq r23.1.2 r24.1.2) then
              some (false, ())
            else
              bif r23.1.2 then
                (impl_ParseCase N r23.1.1).bind fun r25 =>
                bif !r25.1.2 then
                  some (false, ())
                else
                  (laws_rCase N r25.1.1 c1).bind fun r26 =>
                  bif !r26.1 then
                    some (false, ())
                  else
                    laws_FnCases_K1 N code2
              else
                laws_FnCases_K1 N code2
def laws_FnCases_K3 (N : Nat) (code1 : List Int) (c : (List Int) × (List Int) × (List Int) × (List Int)) : Option (Bool × Unit) :=
  (spec_DrawJoinCases N code1).bind fun r10 =>
  (impl_JoinCases N r10.1.1 r10.1.2).bind fun r11 =>
  (spec_JoinCases N r10.1.1 r10.1.2).bind fun r12 =>
  bif !(Go.Rx.beq r11.1.2 r12.1.2) then
    some (false, ())
  else
    (laws_rCase N r11.1.1 r12.1.1).bind fun r13 =>
    bif !r13.1 then
      some (false, ())
    else
      bif r11.1.2 then
        (impl_BestCost N r10.1.1).bind fun r14 =>
        (impl_BestCost N r10.1.2).bind fun r15 =>
        (impl_BestCost N r11.1.1).bind fun r16 =>
        bif !r14.1.2 then
          some (false, ())
        else
          bif !r15.1.2 then
            some (false, ())
          else
            bif !r16.1.2 then
              some (false, ())
            else
              bif ilt (iadd .i64 r14.1.1 r15.1.1) r16.1.1 then
                some (false, ())
              else
                laws_FnCases_K2 N code1 c
      else
        laws_FnCases_K2 N code1 c
def laws_FnCases (N : Nat) (code : List Int) : Option (Bool × Unit) :=
  (laws_rBig N code).bind fun r =>
  bif r.1 then
    some (true, ())
  else
    (spec_DrawCutCase N code).bind fun r1 =>
    (impl_CutCase N r1.1.1 r1.1.2.1 r1.1.2.2).bind fun r2 =>
    (spec_CutCase N r1.1.1 r1.1.2.1 r1.1.2.2).bind fun r3 =>
    bif !(Go.Rx.beq r2.1.2 r3.1.2) then
      some (false, ())
    else
      (laws_rCase N r2.1.1 r3.1.1).bind fun r4 =>
      bif !r4.1 then
        some (false, ())
      else
        bif r2.1.2 then
          (impl_CutCase N r1.1.1 0 r1.1.2.1).bind fun r5 =>
          (impl_CutCase N r1.1.1 r1.1.2.2 (len r1.1.1.1)).bind fun r6 =>
          (impl_JoinCases N r5.1.1 r2.1.1).bind fun r7 =>
          (impl_JoinCases N r7.1.1 r6.1.1).bind fun r8 =>
          bif !r5.1.2 then
            some (false, ())
          else
            bif !r6.1.2 then
              some (false, ())
            else
              bif !r7.1.2 then
                some (false, ())
              else
                bif !r8.1.2 then
                  some (false, ())
                else
                  (laws_rCase N r8.1.1 r1.1.1).bind fun r9 =>
                  bif !r9.1 then
                    some (false, ())
                  else
                    laws_FnCases_K3 N code r1.1.1
        else
          laws_FnCases_K3 N code r1.1.1
end Px
end Go.Rx
