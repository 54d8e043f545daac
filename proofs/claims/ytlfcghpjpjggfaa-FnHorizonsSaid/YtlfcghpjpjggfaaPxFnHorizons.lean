/- This text defines the plain functions that the Go functions behind FnHorizons compute; no condition. -/
import Derived.Test.YtlfcghpjpjggfaaRxc
set_option linter.unusedVariables false
set_option linter.unusedSimpArgs false
namespace Go.Rx
namespace Px
def laws_vBig (N : Nat) (code : List Int) : Option (Bool × Unit) :=
  some (ilt 65536 (len code), ())
def spec_l1Least (N : Nat) (a : Int) (b : Int) : Option (Int × Unit) :=
  bif ilt a b then
    some (a, ())
  else
    some (b, ())
def pspec_l1Cur_next_K1 (N : Nat) (b : Int) (c1 : (List Int) × Int × Int) : Option (Int × ((List Int) × Int × Int)) :=
  bif ile (iadd .i64 c1.2.1 1) (len c1.1) then
    some (b, (c1.1, (iadd .i64 c1.2.1 1, iadd .u64 (iadd .u64 (imul .u64 c1.2.2 6364136223846793005) (icv .u64 b)) 462197)))
  else
    chk (ile 0 40) <|
    some (icv .i64 (iand .u64 (ishr .u64 (iadd .u64 (iadd .u64 (imul .u64 c1.2.2 6364136223846793005) (icv .u64 b)) 462197) 40) 255), (c1.1, (iadd .i64 c1.2.1 1, iadd .u64 (iadd .u64 (imul .u64 c1.2.2 6364136223846793005) (icv .u64 b)) 462197)))
def pspec_l1Cur_next (N : Nat) (c : (List Int) × Int × Int) : Option (Int × ((List Int) × Int × Int)) :=
  bif ilt c.2.1 (len c.1) then
    chk (inB c.2.1 c.1.length) <|
    pspec_l1Cur_next_K1 N (icv .i64 (gd c.1 c.2.1.toNat 0)) c
  else
    pspec_l1Cur_next_K1 N 0 c
def pspec_l1Cur_pick (N : Nat) (c : (List Int) × Int × Int) (n : Int) : Option (Int × ((List Int) × Int × Int)) :=
  bif ile n 1 then
    some (0, c)
  else
    (pspec_l1Cur_next N c).bind fun r =>
    bif ilt 200 n then
      (pspec_l1Cur_next N r.2).bind fun r1 =>
      chk (ine n 0) <|
      some (irem (iadd .i64 (imul .i64 r.1 256) r1.1) n, r1.2)
    else
      chk (ine n 0) <|
      some (irem r.1 n, r.2)
def pspec_l1Cur_among (N : Nat) (c : (List Int) × Int × Int) (list : List Int) : Option (Int × ((List Int) × Int × Int)) :=
  (pspec_l1Cur_pick N c (len list)).bind fun r =>
  chk (inB r.1 list.length) <|
  some (gd list r.1.toNat 0, r.2)
def pspec_l1Cur_one (N : Nat) (c : (List Int) × Int × Int) (n : Int) : Option (Bool × ((List Int) × Int × Int)) :=
  (pspec_l1Cur_pick N c n).bind fun r =>
  some (ieq r.1 0, r.2)
def pspec_l1Cur_someLots_K1 (N : Nat) (kx : Int → Bool → Int → Int → Int → Int → ((List Int) × Int × Int) → ((List Int) × (List Int) × (List Int) × (List Int)) → ((List Int) × (List Int) × (List Int) × (List Int)) → Option (((List Int) × (List Int) × (List Int) × (List Int)) × ((List Int) × Int × Int))) (v51 : Int) (v71 : Bool) (v81 : Int) (v91 : Int) (v101 : Int) (v111 : Int) (app2 : (List Int) × Int × Int) (v41 : (List Int) × (List Int) × (List Int) × (List Int)) (v61 : (List Int) × (List Int) × (List Int) × (List Int)) : Option (((List Int) × (List Int) × (List Int) × (List Int)) × ((List Int) × Int × Int)) :=
  (pspec_l1Cur_among N app2 [0, 1, 2, 3, 5, 8]).bind fun r9 =>
  chk (fitB (v61.1.length + 1) 8) <|
  chk (fitB (v61.2.1.length + 1) 8) <|
  chk (fitB (v61.2.2.1.length + 1) 8) <|
  chk (fitB (v61.2.2.2.length + 1) 8) <|
  kx v51 v71 v81 v91 v101 (iadd .i64 v111 1) r9.2 v41 (v61.1 ++ [r9.1], (v61.2.1 ++ [v81], (v61.2.2.1 ++ [v91], v61.2.2.2 ++ [v101])))
def pspec_l1Cur_someLots_K2 (N : Nat) (app5 : (List Int) × Int × Int) (v44 : (List Int) × (List Int) × (List Int) × (List Int)) (v64 : (List Int) × (List Int) × (List Int) × (List Int)) : Option (((List Int) × (List Int) × (List Int) × (List Int)) × ((List Int) × Int × Int)) :=
  some (v64, app5)
def pspec_l1Cur_someLots_B1 (N : Nat) (kx1 : ((List Int) × Int × Int) → ((List Int) × (List Int) × (List Int) × (List Int)) → ((List Int) × (List Int) × (List Int) × (List Int)) → Option (((List Int) × (List Int) × (List Int) × (List Int)) × ((List Int) × Int × Int))) (app4 : (List Int) × Int × Int) (v43 : (List Int) × (List Int) × (List Int) × (List Int)) (v63 : (List Int) × (List Int) × (List Int) × (List Int)) : Option (((List Int) × (List Int) × (List Int) × (List Int)) × ((List Int) × Int × Int)) :=
  bif ilt (len v63.1) 9 then
    chk (fitB (v63.1.length + 1) 8) <|
    chk (fitB (v63.2.1.length + 1) 8) <|
    chk (fitB (v63.2.2.1.length + 1) 8) <|
    chk (fitB (v63.2.2.2.length + 1) 8) <|
    kx1 app4 v43 (v63.1 ++ [1], (v63.2.1 ++ [1], (v63.2.2.1 ++ [1], v63.2.2.2 ++ [1])))
  else
    pspec_l1Cur_someLots_K2 N app4 v43 v63
def pspec_l1Cur_someLots_L1 (N fu_ : Nat) (app4 : (List Int) × Int × Int) (v43 : (List Int) × (List Int) × (List Int) × (List Int)) (v63 : (List Int) × (List Int) × (List Int) × (List Int)) : Option (((List Int) × (List Int) × (List Int) × (List Int)) × ((List Int) × Int × Int)) :=
  iterK fu_ (fun kx1 (v_ : (Unit) × (((List Int) × Int × Int) × ((List Int) × (List Int) × (List Int) × (List Int)) × ((List Int) × (List Int) × (List Int) × (List Int)) × Unit)) => pspec_l1Cur_someLots_B1 N (fun app4 v43 v63 => kx1 ((), (app4, v43, v63, ()))) v_.2.1 v_.2.2.1 v_.2.2.2.1) ((), (app4, v43, v63, ()))
theorem pspec_l1Cur_someLots_L1_succ (N fu_ : Nat) (app4 : (List Int) × Int × Int) (v43 : (List Int) × (List Int) × (List Int) × (List Int)) (v63 : (List Int) × (List Int) × (List Int) × (List Int)) : pspec_l1Cur_someLots_L1 N (fu_ + 1) app4 v43 v63 = pspec_l1Cur_someLots_B1 N (fun app4 v43 v63 => pspec_l1Cur_someLots_L1 N fu_ app4 v43 v63) app4 v43 v63 := rfl
theorem pspec_l1Cur_someLots_L1_run (N : Nat) (app4 : Nat → ((List Int) × Int × Int)) (v43 : Nat → ((List Int) × (List Int) × (List Int) × (List Int))) (v63 : Nat → ((List Int) × (List Int) × (List Int) × (List Int))) (n_ : Nat) {res_ : Option (((List Int) × (List Int) × (List Int) × (List Int)) × ((List Int) × Int × Int))} (hstep_ : ∀ j_, j_ < n_ → ∀ kx_, pspec_l1Cur_someLots_B1 N kx_ (app4 j_) (v43 j_) (v63 j_) = kx_ (app4 (j_ + 1)) (v43 (j_ + 1)) (v63 (j_ + 1))) (hend_ : ∀ kx_, pspec_l1Cur_someLots_B1 N kx_ (app4 n_) (v43 n_) (v63 n_) = res_) (fu_ : Nat) (hm_ : n_ < fu_) : pspec_l1Cur_someLots_L1 N fu_ (app4 0) (v43 0) (v63 0) = res_ := by
  exact loop_run (L := fun fu_ (x_ : ((List Int) × Int × Int) × ((List Int) × (List Int) × (List Int) × (List Int)) × ((List Int) × (List Int) × (List Int) × (List Int))) => pspec_l1Cur_someLots_L1 N fu_ x_.1 x_.2.1 x_.2.2) (B := fun kx_ x_ => pspec_l1Cur_someLots_B1 N (fun app4 v43 v63 => kx_ (app4, v43, v63)) x_.1 x_.2.1 x_.2.2) (fun _ _ => rfl) (fun j_ => (app4 j_, v43 j_, v63 j_)) n_ (fun j_ hi_ kx_ => hstep_ j_ hi_ _) (fun kx_ => hend_ _) fu_ hm_
def pspec_l1Cur_someLots_K3 (N : Nat) (v52 : Int) (app3 : (List Int) × Int × Int) (v42 : (List Int) × (List Int) × (List Int) × (List Int)) (v62 : (List Int) × (List Int) × (List Int) × (List Int)) : Option (((List Int) × (List Int) × (List Int) × (List Int)) × ((List Int) × Int × Int)) :=
  bif ilt 0 v52 then
    (pspec_l1Cur_pick N app3 v52).bind fun r10 =>
    (pspec_l1Cur_pick N r10.2 60).bind fun r11 =>
    bif ieq r11.1 0 then
      (pspec_l1Cur_among N r11.2 [(-1), 20, 21, 4611686018427387904]).bind fun r12 =>
      chk (inB r10.1 v62.1.length) <|
      some ((List.set v62.1 r10.1.toNat r12.1, v62.2), r12.2)
    else
      bif ieq r11.1 1 then
        (pspec_l1Cur_among N r11.2 [(-1), 99, 100]).bind fun r13 =>
        chk (inB r10.1 v62.2.1.length) <|
        some ((v62.1, (List.set v62.2.1 r10.1.toNat r13.1, v62.2.2)), r13.2)
      else
        bif ieq r11.1 2 then
          (pspec_l1Cur_among N r11.2 [(-1), 9, 10]).bind fun r14 =>
          chk (inB r10.1 v62.2.2.1.length) <|
          some ((v62.1, (v62.2.1, (List.set v62.2.2.1 r10.1.toNat r14.1, v62.2.2.2))), r14.2)
        else
          bif ieq r11.1 3 then
            (pspec_l1Cur_among N r11.2 [(-1), 9, 10]).bind fun r15 =>
            chk (inB r10.1 v62.2.2.2.length) <|
            some ((v62.1, (v62.2.1, (v62.2.2.1, List.set v62.2.2.2 r10.1.toNat r15.1))), r15.2)
          else
            bif ieq r11.1 4 then
              chk (fitB (v62.2.2.1.length + 1) 8) <|
              some ((v62.1, (v62.2.1, (v62.2.2.1 ++ [1], v62.2.2.2))), r11.2)
            else
              bif ieq r11.1 5 then
                pspec_l1Cur_someLots_L1 N N r11.2 v42 v62
              else
                some (v62, r11.2)
  else
    some (v62, app3)
def pspec_l1Cur_someLots_B2 (N : Nat) (kx : Int → Bool → Int → Int → Int → Int → ((List Int) × Int × Int) → ((List Int) × (List Int) × (List Int) × (List Int)) → ((List Int) × (List Int) × (List Int) × (List Int)) → Option (((List Int) × (List Int) × (List Int) × (List Int)) × ((List Int) × Int × Int))) (v5 : Int) (v7 : Bool) (v8 : Int) (v9 : Int) (v10 : Int) (v11 : Int) (app1 : (List Int) × Int × Int) (v4 : (List Int) × (List Int) × (List Int) × (List Int)) (v6 : (List Int) × (List Int) × (List Int) × (List Int)) : Option (((List Int) × (List Int) × (List Int) × (List Int)) × ((List Int) × Int × Int)) :=
  bif ilt v11 v5 then
    bif !v7 then
      (pspec_l1Cur_among N app1 [0, 2, 5, 9, 14, 30]).bind fun r6 =>
      (pspec_l1Cur_pick N r6.2 5).bind fun r7 =>
      (pspec_l1Cur_pick N r7.2 4).bind fun r8 =>
      pspec_l1Cur_someLots_K1 N kx v5 v7 r6.1 r7.1 r8.1 v11 r8.2 v4 v6
    else
      pspec_l1Cur_someLots_K1 N kx v5 v7 v8 v9 v10 v11 app1 v4 v6
  else
    pspec_l1Cur_someLots_K3 N v5 app1 v4 v6
def pspec_l1Cur_someLots_L2 (N fu_ : Nat) (v5 : Int) (v7 : Bool) (v8 : Int) (v9 : Int) (v10 : Int) (v11 : Int) (app1 : (List Int) × Int × Int) (v4 : (List Int) × (List Int) × (List Int) × (List Int)) (v6 : (List Int) × (List Int) × (List Int) × (List Int)) : Option (((List Int) × (List Int) × (List Int) × (List Int)) × ((List Int) × Int × Int)) :=
  iterK fu_ (fun kx (v_ : (Int × Bool × Int × Int × Int × Int × Unit) × (((List Int) × Int × Int) × ((List Int) × (List Int) × (List Int) × (List Int)) × ((List Int) × (List Int) × (List Int) × (List Int)) × Unit)) => pspec_l1Cur_someLots_B2 N (fun v5 v7 v8 v9 v10 v11 app1 v4 v6 => kx ((v5, v7, v8, v9, v10, v11, ()), (app1, v4, v6, ()))) v_.1.1 v_.1.2.1 v_.1.2.2.1 v_.1.2.2.2.1 v_.1.2.2.2.2.1 v_.1.2.2.2.2.2.1 v_.2.1 v_.2.2.1 v_.2.2.2.1) ((v5, v7, v8, v9, v10, v11, ()), (app1, v4, v6, ()))
theorem pspec_l1Cur_someLots_L2_succ (N fu_ : Nat) (v5 : Int) (v7 : Bool) (v8 : Int) (v9 : Int) (v10 : Int) (v11 : Int) (app1 : (List Int) × Int × Int) (v4 : (List Int) × (List Int) × (List Int) × (List Int)) (v6 : (List Int) × (List Int) × (List Int) × (List Int)) : pspec_l1Cur_someLots_L2 N (fu_ + 1) v5 v7 v8 v9 v10 v11 app1 v4 v6 = pspec_l1Cur_someLots_B2 N (fun v5 v7 v8 v9 v10 v11 app1 v4 v6 => pspec_l1Cur_someLots_L2 N fu_ v5 v7 v8 v9 v10 v11 app1 v4 v6) v5 v7 v8 v9 v10 v11 app1 v4 v6 := rfl
theorem pspec_l1Cur_someLots_L2_run (N : Nat) (v5 : Nat → Int) (v7 : Nat → Bool) (v8 : Nat → Int) (v9 : Nat → Int) (v10 : Nat → Int) (v11 : Nat → Int) (app1 : Nat → ((List Int) × Int × Int)) (v4 : Nat → ((List Int) × (List Int) × (List Int) × (List Int))) (v6 : Nat → ((List Int) × (List Int) × (List Int) × (List Int))) (n_ : Nat) {res_ : Option (((List Int) × (List Int) × (List Int) × (List Int)) × ((List Int) × Int × Int))} (hstep_ : ∀ j_, j_ < n_ → ∀ kx_, pspec_l1Cur_someLots_B2 N kx_ (v5 j_) (v7 j_) (v8 j_) (v9 j_) (v10 j_) (v11 j_) (app1 j_) (v4 j_) (v6 j_) = kx_ (v5 (j_ + 1)) (v7 (j_ + 1)) (v8 (j_ + 1)) (v9 (j_ + 1)) (v10 (j_ + 1)) (v11 (j_ + 1)) (app1 (j_ + 1)) (v4 (j_ + 1)) (v6 (j_ + 1))) (hend_ : ∀ kx_, pspec_l1Cur_someLots_B2 N kx_ (v5 n_) (v7 n_) (v8 n_) (v9 n_) (v10 n_) (v11 n_) (app1 n_) (v4 n_) (v6 n_) = res_) (fu_ : Nat) (hm_ : n_ < fu_) : pspec_l1Cur_someLots_L2 N fu_ (v5 0) (v7 0) (v8 0) (v9 0) (v10 0) (v11 0) (app1 0) (v4 0) (v6 0) = res_ := by
  exact loop_run (L := fun fu_ (x_ : Int × Bool × Int × Int × Int × Int × ((List Int) × Int × Int) × ((List Int) × (List Int) × (List Int) × (List Int)) × ((List Int) × (List Int) × (List Int) × (List Int))) => pspec_l1Cur_someLots_L2 N fu_ x_.1 x_.2.1 x_.2.2.1 x_.2.2.2.1 x_.2.2.2.2.1 x_.2.2.2.2.2.1 x_.2.2.2.2.2.2.1 x_.2.2.2.2.2.2.2.1 x_.2.2.2.2.2.2.2.2) (B := fun kx_ x_ => pspec_l1Cur_someLots_B2 N (fun v5 v7 v8 v9 v10 v11 app1 v4 v6 => kx_ (v5, v7, v8, v9, v10, v11, app1, v4, v6)) x_.1 x_.2.1 x_.2.2.1 x_.2.2.2.1 x_.2.2.2.2.1 x_.2.2.2.2.2.1 x_.2.2.2.2.2.2.1 x_.2.2.2.2.2.2.2.1 x_.2.2.2.2.2.2.2.2) (fun _ _ => rfl) (fun j_ => (v5 j_, v7 j_, v8 j_, v9 j_, v10 j_, v11 j_, app1 j_, v4 j_, v6 j_)) n_ (fun j_ hi_ kx_ => hstep_ j_ hi_ _) (fun kx_ => hend_ _) fu_ hm_
def pspec_l1Cur_someLots (N : Nat) (app : (List Int) × Int × Int) (v1 : Int) : Option (((List Int) × (List Int) × (List Int) × (List Int)) × ((List Int) × Int × Int)) :=
  (pspec_l1Cur_among N app [4, 5, 3, 6, 8, 2, 1, 0]).bind fun r =>
  (spec_l1Least N r.1 v1).bind fun r1 =>
  (pspec_l1Cur_one N r.2 2).bind fun r2 =>
  (pspec_l1Cur_among N r2.2 [0, 3, 5, 8, 12, 20]).bind fun r3 =>
  (pspec_l1Cur_pick N r3.2 3).bind fun r4 =>
  (pspec_l1Cur_pick N r4.2 2).bind fun r5 =>
  pspec_l1Cur_someLots_L2 N N r1.1 r2.1 r3.1 r4.1 (iadd .i64 1 r5.1) 0 r5.2 ([], ([], ([], []))) ([], ([], ([], [])))
def pspec_l1Cur_lots (N : Nat) (c : (List Int) × Int × Int) : Option (((List Int) × (List Int) × (List Int) × (List Int)) × ((List Int) × Int × Int)) :=
  (pspec_l1Cur_someLots N c 8).bind fun r =>
  some (r.1, r.2)
def spec_DrawForwardCosts (N : Nat) (code : List Int) : Option (((List Int) × (List Int) × (List Int) × (List Int)) × Unit) :=
  (pspec_l1Cur_lots N (code, (0, 0))).bind fun r =>
  some (r.1, ())
def spec_DrawHorizonsOf (N : Nat) (code : List Int) : Option (((List Int) × (List Int) × (List Int) × (List Int)) × Unit) :=
  (spec_DrawForwardCosts N code).bind fun r =>
  some (r.1, ())
def impl_within (N : Nat) (n : Int) (low : Int) (high : Int) : Option (Bool × Unit) :=
  bif ile low n then
    some (ile n high, ())
  else
    some (false, ())
def impl_allWithin_K1 (N : Nat) : Option (Bool × Unit) :=
  some (true, ())
def impl_allWithin_B1 (N : Nat) (kx : Int → Int → (List Int) → Int → Int → Option (Bool × Unit)) (low1 : Int) (high1 : Int) (v9 : List Int) (v10 : Int) (v11 : Int) : Option (Bool × Unit) :=
  bif ilt v11 v10 then
    chk (inB v11 v9.length) <|
    (impl_within N (gd v9 v11.toNat 0) low1 high1).bind fun r =>
    bif !r.1 then
      some (false, ())
    else
      kx low1 high1 v9 v10 (iadd .i64 v11 1)
  else
    impl_allWithin_K1 N
def impl_allWithin_L1 (N fu_ : Nat) (low1 : Int) (high1 : Int) (v9 : List Int) (v10 : Int) (v11 : Int) : Option (Bool × Unit) :=
  iterK fu_ (fun kx (v_ : (Int × Int × (List Int) × Int × Int × Unit) × (Unit)) => impl_allWithin_B1 N (fun low1 high1 v9 v10 v11 => kx ((low1, high1, v9, v10, v11, ()), ())) v_.1.1 v_.1.2.1 v_.1.2.2.1 v_.1.2.2.2.1 v_.1.2.2.2.2.1) ((low1, high1, v9, v10, v11, ()), ())
theorem impl_allWithin_L1_succ (N fu_ : Nat) (low1 : Int) (high1 : Int) (v9 : List Int) (v10 : Int) (v11 : Int) : impl_allWithin_L1 N (fu_ + 1) low1 high1 v9 v10 v11 = impl_allWithin_B1 N (fun low1 high1 v9 v10 v11 => impl_allWithin_L1 N fu_ low1 high1 v9 v10 v11) low1 high1 v9 v10 v11 := rfl
theorem impl_allWithin_L1_run (N : Nat) (low1 : Nat → Int) (high1 : Nat → Int) (v9 : Nat → (List Int)) (v10 : Nat → Int) (v11 : Nat → Int) (n_ : Nat) {res_ : Option (Bool × Unit)} (hstep_ : ∀ j_, j_ < n_ → ∀ kx_, impl_allWithin_B1 N kx_ (low1 j_) (high1 j_) (v9 j_) (v10 j_) (v11 j_) = kx_ (low1 (j_ + 1)) (high1 (j_ + 1)) (v9 (j_ + 1)) (v10 (j_ + 1)) (v11 (j_ + 1))) (hend_ : ∀ kx_, impl_allWithin_B1 N kx_ (low1 n_) (high1 n_) (v9 n_) (v10 n_) (v11 n_) = res_) (fu_ : Nat) (hm_ : n_ < fu_) : impl_allWithin_L1 N fu_ (low1 0) (high1 0) (v9 0) (v10 0) (v11 0) = res_ := by
  exact loop_run (L := fun fu_ (x_ : Int × Int × (List Int) × Int × Int) => impl_allWithin_L1 N fu_ x_.1 x_.2.1 x_.2.2.1 x_.2.2.2.1 x_.2.2.2.2) (B := fun kx_ x_ => impl_allWithin_B1 N (fun low1 high1 v9 v10 v11 => kx_ (low1, high1, v9, v10, v11)) x_.1 x_.2.1 x_.2.2.1 x_.2.2.2.1 x_.2.2.2.2) (fun _ _ => rfl) (fun j_ => (low1 j_, high1 j_, v9 j_, v10 j_, v11 j_)) n_ (fun j_ hi_ kx_ => hstep_ j_ hi_ _) (fun kx_ => hend_ _) fu_ hm_
def impl_allWithin (N : Nat) (list : List Int) (low : Int) (high : Int) : Option (Bool × Unit) :=
  impl_allWithin_L1 N N low high list (len list) 0
def impl_IsCase (N : Nat) (c : (List Int) × (List Int) × (List Int) × (List Int)) : Option (Bool × Unit) :=
  bif ile (len c.1) 8 then
    bif ieq (len c.2.1) (len c.1) then
      bif ieq (len c.2.2.1) (len c.1) then
        bif ieq (len c.2.2.2) (len c.1) then
          (impl_allWithin N c.1 0 20).bind fun r =>
          bif r.1 then
            (impl_allWithin N c.2.1 0 99).bind fun r1 =>
            bif r1.1 then
              (impl_allWithin N c.2.2.1 0 9).bind fun r2 =>
              bif r2.1 then
                (impl_allWithin N c.2.2.2 0 9).bind fun r3 =>
                some (r3.1, ())
              else
                some (false, ())
            else
              some (false, ())
          else
            some (false, ())
        else
          some (false, ())
      else
        some (false, ())
    else
      some (false, ())
  else
    some (false, ())
def impl_total_K1 (N : Nat) (sum1 : Int) : Option (Int × Unit) :=
  some (sum1, ())
def impl_total_B1 (N : Nat) (kx : Int → (List Int) → Int → Int → Option (Int × Unit)) (sum : Int) (v6 : List Int) (v7 : Int) (v8 : Int) : Option (Int × Unit) :=
  bif ilt v8 v7 then
    chk (inB v8 v6.length) <|
    kx (iadd .i64 sum (gd v6 v8.toNat 0)) v6 v7 (iadd .i64 v8 1)
  else
    impl_total_K1 N sum
def impl_total_L1 (N fu_ : Nat) (sum : Int) (v6 : List Int) (v7 : Int) (v8 : Int) : Option (Int × Unit) :=
  iterK fu_ (fun kx (v_ : (Int × (List Int) × Int × Int × Unit) × (Unit)) => impl_total_B1 N (fun sum v6 v7 v8 => kx ((sum, v6, v7, v8, ()), ())) v_.1.1 v_.1.2.1 v_.1.2.2.1 v_.1.2.2.2.1) ((sum, v6, v7, v8, ()), ())
theorem impl_total_L1_succ (N fu_ : Nat) (sum : Int) (v6 : List Int) (v7 : Int) (v8 : Int) : impl_total_L1 N (fu_ + 1) sum v6 v7 v8 = impl_total_B1 N (fun sum v6 v7 v8 => impl_total_L1 N fu_ sum v6 v7 v8) sum v6 v7 v8 := rfl
theorem impl_total_L1_run (N : Nat) (sum : Nat → Int) (v6 : Nat → (List Int)) (v7 : Nat → Int) (v8 : Nat → Int) (n_ : Nat) {res_ : Option (Int × Unit)} (hstep_ : ∀ j_, j_ < n_ → ∀ kx_, impl_total_B1 N kx_ (sum j_) (v6 j_) (v7 j_) (v8 j_) = kx_ (sum (j_ + 1)) (v6 (j_ + 1)) (v7 (j_ + 1)) (v8 (j_ + 1))) (hend_ : ∀ kx_, impl_total_B1 N kx_ (sum n_) (v6 n_) (v7 n_) (v8 n_) = res_) (fu_ : Nat) (hm_ : n_ < fu_) : impl_total_L1 N fu_ (sum 0) (v6 0) (v7 0) (v8 0) = res_ := by
  exact loop_run (L := fun fu_ (x_ : Int × (List Int) × Int × Int) => impl_total_L1 N fu_ x_.1 x_.2.1 x_.2.2.1 x_.2.2.2) (B := fun kx_ x_ => impl_total_B1 N (fun sum v6 v7 v8 => kx_ (sum, v6, v7, v8)) x_.1 x_.2.1 x_.2.2.1 x_.2.2.2) (fun _ _ => rfl) (fun j_ => (sum j_, v6 j_, v7 j_, v8 j_)) n_ (fun j_ hi_ kx_ => hstep_ j_ hi_ _) (fun kx_ => hend_ _) fu_ hm_
def impl_total (N : Nat) (list : List Int) : Option (Int × Unit) :=
  impl_total_L1 N N 0 list (len list) 0
def impl_Case_rate (N : Nat) (c : (List Int) × (List Int) × (List Int) × (List Int)) (i : Int) (t : Int) : Option (Int × Unit) :=
  chk (inB i c.2.2.1.length) <|
  chk (cutB i t c.2.2.2.length) <|
  (impl_total N (cut c.2.2.2 i t)).bind fun r =>
  some (iadd .i64 (gd c.2.2.1 i.toNat 0) r.1, ())
def impl_Case_span_K1 (N : Nat) (sum1 : Int) : Option (Int × Unit) :=
  some (sum1, ())
def impl_Case_span_B1 (N : Nat) (kx : Int → Int → Int → Int → ((List Int) × (List Int) × (List Int) × (List Int)) → Option (Int × Unit)) (i1 : Int) (j1 : Int) (sum : Int) (t : Int) (c1 : (List Int) × (List Int) × (List Int) × (List Int)) : Option (Int × Unit) :=
  bif ilt t j1 then
    chk (inB t c1.1.length) <|
    (impl_Case_rate N c1 i1 t).bind fun r1 =>
    kx i1 j1 (iadd .i64 sum (imul .i64 (gd c1.1 t.toNat 0) r1.1)) (iadd .i64 t 1) c1
  else
    impl_Case_span_K1 N sum
def impl_Case_span_L1 (N fu_ : Nat) (i1 : Int) (j1 : Int) (sum : Int) (t : Int) (c1 : (List Int) × (List Int) × (List Int) × (List Int)) : Option (Int × Unit) :=
  iterK fu_ (fun kx (v_ : (Int × Int × Int × Int × Unit) × (((List Int) × (List Int) × (List Int) × (List Int)) × Unit)) => impl_Case_span_B1 N (fun i1 j1 sum t c1 => kx ((i1, j1, sum, t, ()), (c1, ()))) v_.1.1 v_.1.2.1 v_.1.2.2.1 v_.1.2.2.2.1 v_.2.1) ((i1, j1, sum, t, ()), (c1, ()))
theorem impl_Case_span_L1_succ (N fu_ : Nat) (i1 : Int) (j1 : Int) (sum : Int) (t : Int) (c1 : (List Int) × (List Int) × (List Int) × (List Int)) : impl_Case_span_L1 N (fu_ + 1) i1 j1 sum t c1 = impl_Case_span_B1 N (fun i1 j1 sum t c1 => impl_Case_span_L1 N fu_ i1 j1 sum t c1) i1 j1 sum t c1 := rfl
theorem impl_Case_span_L1_run (N : Nat) (i1 : Nat → Int) (j1 : Nat → Int) (sum : Nat → Int) (t : Nat → Int) (c1 : Nat → ((List Int) × (List Int) × (List Int) × (List Int))) (n_ : Nat) {res_ : Option (Int × Unit)} (hstep_ : ∀ j_, j_ < n_ → ∀ kx_, impl_Case_span_B1 N kx_ (i1 j_) (j1 j_) (sum j_) (t j_) (c1 j_) = kx_ (i1 (j_ + 1)) (j1 (j_ + 1)) (sum (j_ + 1)) (t (j_ + 1)) (c1 (j_ + 1))) (hend_ : ∀ kx_, impl_Case_span_B1 N kx_ (i1 n_) (j1 n_) (sum n_) (t n_) (c1 n_) = res_) (fu_ : Nat) (hm_ : n_ < fu_) : impl_Case_span_L1 N fu_ (i1 0) (j1 0) (sum 0) (t 0) (c1 0) = res_ := by
  exact loop_run (L := fun fu_ (x_ : Int × Int × Int × Int × ((List Int) × (List Int) × (List Int) × (List Int))) => impl_Case_span_L1 N fu_ x_.1 x_.2.1 x_.2.2.1 x_.2.2.2.1 x_.2.2.2.2) (B := fun kx_ x_ => impl_Case_span_B1 N (fun i1 j1 sum t c1 => kx_ (i1, j1, sum, t, c1)) x_.1 x_.2.1 x_.2.2.1 x_.2.2.2.1 x_.2.2.2.2) (fun _ _ => rfl) (fun j_ => (i1 j_, j1 j_, sum j_, t j_, c1 j_)) n_ (fun j_ hi_ kx_ => hstep_ j_ hi_ _) (fun kx_ => hend_ _) fu_ hm_
def impl_Case_span (N : Nat) (c : (List Int) × (List Int) × (List Int) × (List Int)) (i : Int) (j : Int) : Option (Int × Unit) :=
  chk (cutB i j c.1.length) <|
  (impl_total N (cut c.1 i j)).bind fun r =>
  bif ieq r.1 0 then
    some (0, ())
  else
    chk (inB i c.2.1.length) <|
    impl_Case_span_L1 N N i j (gd c.2.1 i.toNat 0) i c
def impl_Case_forward_K1 (N : Nat) (kx : Int → ((List Int) × (List Int) × (List Int) × (List Int)) → (List Int) → Option ((List Int) × Unit)) (j2 : Int) (least1 : Int) (c3 : (List Int) × (List Int) × (List Int) × (List Int)) (out2 : List Int) : Option ((List Int) × Unit) :=
  chk (fitB (out2.length + 1) 8) <|
  kx (iadd .i64 j2 1) c3 (out2 ++ [least1])
def impl_Case_forward_B1 (N : Nat) (kx : Int → ((List Int) × (List Int) × (List Int) × (List Int)) → (List Int) → Option ((List Int) × Unit)) (kx1 : Int → Int → Int → ((List Int) × (List Int) × (List Int) × (List Int)) → (List Int) → Option ((List Int) × Unit)) (j1 : Int) (least : Int) (i : Int) (c2 : (List Int) × (List Int) × (List Int) × (List Int)) (out1 : List Int) : Option ((List Int) × Unit) :=
  bif ilt i j1 then
    chk (inB i out1.length) <|
    (impl_Case_span N c2 i j1).bind fun r1 =>
    kx1 j1 (imin least (iadd .i64 (gd out1 i.toNat 0) r1.1)) (iadd .i64 i 1) c2 out1
  else
    impl_Case_forward_K1 N kx j1 least c2 out1
def impl_Case_forward_L1 (N fu_ : Nat) (kx : Int → ((List Int) × (List Int) × (List Int) × (List Int)) → (List Int) → Option ((List Int) × Unit)) (j1 : Int) (least : Int) (i : Int) (c2 : (List Int) × (List Int) × (List Int) × (List Int)) (out1 : List Int) : Option ((List Int) × Unit) :=
  iterK fu_ (fun kx1 (v_ : (Int × Int × Int × Unit) × (((List Int) × (List Int) × (List Int) × (List Int)) × (List Int) × Unit)) => impl_Case_forward_B1 N kx (fun j1 least i c2 out1 => kx1 ((j1, least, i, ()), (c2, out1, ()))) v_.1.1 v_.1.2.1 v_.1.2.2.1 v_.2.1 v_.2.2.1) ((j1, least, i, ()), (c2, out1, ()))
theorem impl_Case_forward_L1_succ (N fu_ : Nat) (kx : Int → ((List Int) × (List Int) × (List Int) × (List Int)) → (List Int) → Option ((List Int) × Unit)) (j1 : Int) (least : Int) (i : Int) (c2 : (List Int) × (List Int) × (List Int) × (List Int)) (out1 : List Int) : impl_Case_forward_L1 N (fu_ + 1) kx j1 least i c2 out1 = impl_Case_forward_B1 N kx (fun j1 least i c2 out1 => impl_Case_forward_L1 N fu_ kx j1 least i c2 out1) j1 least i c2 out1 := rfl
theorem impl_Case_forward_L1_run (N : Nat) (kx : Int → ((List Int) × (List Int) × (List Int) × (List Int)) → (List Int) → Option ((List Int) × Unit)) (j1 : Nat → Int) (least : Nat → Int) (i : Nat → Int) (c2 : Nat → ((List Int) × (List Int) × (List Int) × (List Int))) (out1 : Nat → (List Int)) (n_ : Nat) {res_ : Option ((List Int) × Unit)} (hstep_ : ∀ j_, j_ < n_ → ∀ kx_, impl_Case_forward_B1 N kx kx_ (j1 j_) (least j_) (i j_) (c2 j_) (out1 j_) = kx_ (j1 (j_ + 1)) (least (j_ + 1)) (i (j_ + 1)) (c2 (j_ + 1)) (out1 (j_ + 1))) (hend_ : ∀ kx_, impl_Case_forward_B1 N kx kx_ (j1 n_) (least n_) (i n_) (c2 n_) (out1 n_) = res_) (fu_ : Nat) (hm_ : n_ < fu_) : impl_Case_forward_L1 N fu_ kx (j1 0) (least 0) (i 0) (c2 0) (out1 0) = res_ := by
  exact loop_run (L := fun fu_ (x_ : Int × Int × Int × ((List Int) × (List Int) × (List Int) × (List Int)) × (List Int)) => impl_Case_forward_L1 N fu_ kx x_.1 x_.2.1 x_.2.2.1 x_.2.2.2.1 x_.2.2.2.2) (B := fun kx_ x_ => impl_Case_forward_B1 N kx (fun j1 least i c2 out1 => kx_ (j1, least, i, c2, out1)) x_.1 x_.2.1 x_.2.2.1 x_.2.2.2.1 x_.2.2.2.2) (fun _ _ => rfl) (fun j_ => (j1 j_, least j_, i j_, c2 j_, out1 j_)) n_ (fun j_ hi_ kx_ => hstep_ j_ hi_ _) (fun kx_ => hend_ _) fu_ hm_
def impl_Case_forward_K2 (N : Nat) (out3 : List Int) : Option ((List Int) × Unit) :=
  some (out3, ())
def impl_Case_forward_B2 (N : Nat) (kx : Int → ((List Int) × (List Int) × (List Int) × (List Int)) → (List Int) → Option ((List Int) × Unit)) (j : Int) (c1 : (List Int) × (List Int) × (List Int) × (List Int)) (out : List Int) : Option ((List Int) × Unit) :=
  bif ile j (len c1.1) then
    chk (inB 0 out.length) <|
    (impl_Case_span N c1 0 j).bind fun r =>
    impl_Case_forward_L1 N N kx j (iadd .i64 (gd out 0 0) r.1) 1 c1 out
  else
    impl_Case_forward_K2 N out
def impl_Case_forward_L2 (N fu_ : Nat) (j : Int) (c1 : (List Int) × (List Int) × (List Int) × (List Int)) (out : List Int) : Option ((List Int) × Unit) :=
  iterK fu_ (fun kx (v_ : (Int × Unit) × (((List Int) × (List Int) × (List Int) × (List Int)) × (List Int) × Unit)) => impl_Case_forward_B2 N (fun j c1 out => kx ((j, ()), (c1, out, ()))) v_.1.1 v_.2.1 v_.2.2.1) ((j, ()), (c1, out, ()))
theorem impl_Case_forward_L2_succ (N fu_ : Nat) (j : Int) (c1 : (List Int) × (List Int) × (List Int) × (List Int)) (out : List Int) : impl_Case_forward_L2 N (fu_ + 1) j c1 out = impl_Case_forward_B2 N (fun j c1 out => impl_Case_forward_L2 N fu_ j c1 out) j c1 out := rfl
theorem impl_Case_forward_L2_run (N : Nat) (j : Nat → Int) (c1 : Nat → ((List Int) × (List Int) × (List Int) × (List Int))) (out : Nat → (List Int)) (n_ : Nat) {res_ : Option ((List Int) × Unit)} (hstep_ : ∀ j_, j_ < n_ → ∀ kx_, impl_Case_forward_B2 N kx_ (j j_) (c1 j_) (out j_) = kx_ (j (j_ + 1)) (c1 (j_ + 1)) (out (j_ + 1))) (hend_ : ∀ kx_, impl_Case_forward_B2 N kx_ (j n_) (c1 n_) (out n_) = res_) (fu_ : Nat) (hm_ : n_ < fu_) : impl_Case_forward_L2 N fu_ (j 0) (c1 0) (out 0) = res_ := by
  exact loop_run (L := fun fu_ (x_ : Int × ((List Int) × (List Int) × (List Int) × (List Int)) × (List Int)) => impl_Case_forward_L2 N fu_ x_.1 x_.2.1 x_.2.2) (B := fun kx_ x_ => impl_Case_forward_B2 N (fun j c1 out => kx_ (j, c1, out)) x_.1 x_.2.1 x_.2.2) (fun _ _ => rfl) (fun j_ => (j j_, c1 j_, out j_)) n_ (fun j_ hi_ kx_ => hstep_ j_ hi_ _) (fun kx_ => hend_ _) fu_ hm_
def impl_Case_forward (N : Nat) (c : (List Int) × (List Int) × (List Int) × (List Int)) : Option ((List Int) × Unit) :=
  impl_Case_forward_L2 N N 1 c [0]
def impl_Case_lastOrders_K1 (N : Nat) (kx : Int → ((List Int) × (List Int) × (List Int) × (List Int)) → (List Int) → (List Int) → Option ((List Int) × Unit)) (j2 : Int) (i1 : Int) (c3 : (List Int) × (List Int) × (List Int) × (List Int)) (out2 : List Int) (forward2 : List Int) : Option ((List Int) × Unit) :=
  chk (fitB (out2.length + 1) 8) <|
  kx (iadd .i64 j2 1) c3 (out2 ++ [i1]) forward2
def impl_Case_lastOrders_B1 (N : Nat) (kx : Int → ((List Int) × (List Int) × (List Int) × (List Int)) → (List Int) → (List Int) → Option ((List Int) × Unit)) (kx1 : Int → Int → ((List Int) × (List Int) × (List Int) × (List Int)) → (List Int) → (List Int) → Option ((List Int) × Unit)) (j1 : Int) (i : Int) (c2 : (List Int) × (List Int) × (List Int) × (List Int)) (out1 : List Int) (forward1 : List Int) : Option ((List Int) × Unit) :=
  chk (inB i forward1.length) <|
  (impl_Case_span N c2 i j1).bind fun r1 =>
  chk (inB j1 forward1.length) <|
  bif ine (iadd .i64 (gd forward1 i.toNat 0) r1.1) (gd forward1 j1.toNat 0) then
    kx1 j1 (isub .i64 i 1) c2 out1 forward1
  else
    impl_Case_lastOrders_K1 N kx j1 i c2 out1 forward1
def impl_Case_lastOrders_L1 (N fu_ : Nat) (kx : Int → ((List Int) × (List Int) × (List Int) × (List Int)) → (List Int) → (List Int) → Option ((List Int) × Unit)) (j1 : Int) (i : Int) (c2 : (List Int) × (List Int) × (List Int) × (List Int)) (out1 : List Int) (forward1 : List Int) : Option ((List Int) × Unit) :=
  iterK fu_ (fun kx1 (v_ : (Int × Int × Unit) × (((List Int) × (List Int) × (List Int) × (List Int)) × (List Int) × (List Int) × Unit)) => impl_Case_lastOrders_B1 N kx (fun j1 i c2 out1 forward1 => kx1 ((j1, i, ()), (c2, out1, forward1, ()))) v_.1.1 v_.1.2.1 v_.2.1 v_.2.2.1 v_.2.2.2.1) ((j1, i, ()), (c2, out1, forward1, ()))
theorem impl_Case_lastOrders_L1_succ (N fu_ : Nat) (kx : Int → ((List Int) × (List Int) × (List Int) × (List Int)) → (List Int) → (List Int) → Option ((List Int) × Unit)) (j1 : Int) (i : Int) (c2 : (List Int) × (List Int) × (List Int) × (List Int)) (out1 : List Int) (forward1 : List Int) : impl_Case_lastOrders_L1 N (fu_ + 1) kx j1 i c2 out1 forward1 = impl_Case_lastOrders_B1 N kx (fun j1 i c2 out1 forward1 => impl_Case_lastOrders_L1 N fu_ kx j1 i c2 out1 forward1) j1 i c2 out1 forward1 := rfl
theorem impl_Case_lastOrders_L1_run (N : Nat) (kx : Int → ((List Int) × (List Int) × (List Int) × (List Int)) → (List Int) → (List Int) → Option ((List Int) × Unit)) (j1 : Nat → Int) (i : Nat → Int) (c2 : Nat → ((List Int) × (List Int) × (List Int) × (List Int))) (out1 : Nat → (List Int)) (forward1 : Nat → (List Int)) (n_ : Nat) {res_ : Option ((List Int) × Unit)} (hstep_ : ∀ j_, j_ < n_ → ∀ kx_, impl_Case_lastOrders_B1 N kx kx_ (j1 j_) (i j_) (c2 j_) (out1 j_) (forward1 j_) = kx_ (j1 (j_ + 1)) (i (j_ + 1)) (c2 (j_ + 1)) (out1 (j_ + 1)) (forward1 (j_ + 1))) (hend_ : ∀ kx_, impl_Case_lastOrders_B1 N kx kx_ (j1 n_) (i n_) (c2 n_) (out1 n_) (forward1 n_) = res_) (fu_ : Nat) (hm_ : n_ < fu_) : impl_Case_lastOrders_L1 N fu_ kx (j1 0) (i 0) (c2 0) (out1 0) (forward1 0) = res_ := by
  exact loop_run (L := fun fu_ (x_ : Int × Int × ((List Int) × (List Int) × (List Int) × (List Int)) × (List Int) × (List Int)) => impl_Case_lastOrders_L1 N fu_ kx x_.1 x_.2.1 x_.2.2.1 x_.2.2.2.1 x_.2.2.2.2) (B := fun kx_ x_ => impl_Case_lastOrders_B1 N kx (fun j1 i c2 out1 forward1 => kx_ (j1, i, c2, out1, forward1)) x_.1 x_.2.1 x_.2.2.1 x_.2.2.2.1 x_.2.2.2.2) (fun _ _ => rfl) (fun j_ => (j1 j_, i j_, c2 j_, out1 j_, forward1 j_)) n_ (fun j_ hi_ kx_ => hstep_ j_ hi_ _) (fun kx_ => hend_ _) fu_ hm_
def impl_Case_lastOrders_K2 (N : Nat) (out3 : List Int) : Option ((List Int) × Unit) :=
  some (out3, ())
def impl_Case_lastOrders_B2 (N : Nat) (kx : Int → ((List Int) × (List Int) × (List Int) × (List Int)) → (List Int) → (List Int) → Option ((List Int) × Unit)) (j : Int) (c1 : (List Int) × (List Int) × (List Int) × (List Int)) (out : List Int) (forward : List Int) : Option ((List Int) × Unit) :=
  bif ilt j (len forward) then
    impl_Case_lastOrders_L1 N N kx j (isub .i64 j 1) c1 out forward
  else
    impl_Case_lastOrders_K2 N out
def impl_Case_lastOrders_L2 (N fu_ : Nat) (j : Int) (c1 : (List Int) × (List Int) × (List Int) × (List Int)) (out : List Int) (forward : List Int) : Option ((List Int) × Unit) :=
  iterK fu_ (fun kx (v_ : (Int × Unit) × (((List Int) × (List Int) × (List Int) × (List Int)) × (List Int) × (List Int) × Unit)) => impl_Case_lastOrders_B2 N (fun j c1 out forward => kx ((j, ()), (c1, out, forward, ()))) v_.1.1 v_.2.1 v_.2.2.1 v_.2.2.2.1) ((j, ()), (c1, out, forward, ()))
theorem impl_Case_lastOrders_L2_succ (N fu_ : Nat) (j : Int) (c1 : (List Int) × (List Int) × (List Int) × (List Int)) (out : List Int) (forward : List Int) : impl_Case_lastOrders_L2 N (fu_ + 1) j c1 out forward = impl_Case_lastOrders_B2 N (fun j c1 out forward => impl_Case_lastOrders_L2 N fu_ j c1 out forward) j c1 out forward := rfl
theorem impl_Case_lastOrders_L2_run (N : Nat) (j : Nat → Int) (c1 : Nat → ((List Int) × (List Int) × (List Int) × (List Int))) (out : Nat → (List Int)) (forward : Nat → (List Int)) (n_ : Nat) {res_ : Option ((List Int) × Unit)} (hstep_ : ∀ j_, j_ < n_ → ∀ kx_, impl_Case_lastOrders_B2 N kx_ (j j_) (c1 j_) (out j_) (forward j_) = kx_ (j (j_ + 1)) (c1 (j_ + 1)) (out (j_ + 1)) (forward (j_ + 1))) (hend_ : ∀ kx_, impl_Case_lastOrders_B2 N kx_ (j n_) (c1 n_) (out n_) (forward n_) = res_) (fu_ : Nat) (hm_ : n_ < fu_) : impl_Case_lastOrders_L2 N fu_ (j 0) (c1 0) (out 0) (forward 0) = res_ := by
  exact loop_run (L := fun fu_ (x_ : Int × ((List Int) × (List Int) × (List Int) × (List Int)) × (List Int) × (List Int)) => impl_Case_lastOrders_L2 N fu_ x_.1 x_.2.1 x_.2.2.1 x_.2.2.2) (B := fun kx_ x_ => impl_Case_lastOrders_B2 N (fun j c1 out forward => kx_ (j, c1, out, forward)) x_.1 x_.2.1 x_.2.2.1 x_.2.2.2) (fun _ _ => rfl) (fun j_ => (j j_, c1 j_, out j_, forward j_)) n_ (fun j_ hi_ kx_ => hstep_ j_ hi_ _) (fun kx_ => hend_ _) fu_ hm_
def impl_Case_lastOrders (N : Nat) (c : (List Int) × (List Int) × (List Int) × (List Int)) : Option ((List Int) × Unit) :=
  (impl_Case_forward N c).bind fun r =>
  impl_Case_lastOrders_L2 N N 1 c [] r.1
def impl_HorizonsOf_K1 (N : Nat) (out1 : List Int) : Option (((List Int) × Bool) × Unit) :=
  some ((out1, true), ())
def impl_HorizonsOf_B1 (N : Nat) (kx : Int → Int → ((List Int) × (List Int) × (List Int) × (List Int)) → (List Int) → (List Int) → Option (((List Int) × Bool) × Unit)) (v13 : Int) (v14 : Int) (c1 : (List Int) × (List Int) × (List Int) × (List Int)) (out : List Int) (v12 : List Int) : Option (((List Int) × Bool) × Unit) :=
  bif ilt v14 v13 then
    chk (inB v14 v12.length) <|
    bif ieq (gd v12 v14.toNat 0) v14 then
      chk (inB v14 c1.1.length) <|
      bif ilt 0 (gd c1.1 v14.toNat 0) then
        chk (fitB (out.length + 1) 8) <|
        kx v13 (iadd .i64 v14 1) c1 (out ++ [iadd .i64 v14 1]) v12
      else
        kx v13 (iadd .i64 v14 1) c1 out v12
    else
      kx v13 (iadd .i64 v14 1) c1 out v12
  else
    impl_HorizonsOf_K1 N out
def impl_HorizonsOf_L1 (N fu_ : Nat) (v13 : Int) (v14 : Int) (c1 : (List Int) × (List Int) × (List Int) × (List Int)) (out : List Int) (v12 : List Int) : Option (((List Int) × Bool) × Unit) :=
  iterK fu_ (fun kx (v_ : (Int × Int × Unit) × (((List Int) × (List Int) × (List Int) × (List Int)) × (List Int) × (List Int) × Unit)) => impl_HorizonsOf_B1 N (fun v13 v14 c1 out v12 => kx ((v13, v14, ()), (c1, out, v12, ()))) v_.1.1 v_.1.2.1 v_.2.1 v_.2.2.1 v_.2.2.2.1) ((v13, v14, ()), (c1, out, v12, ()))
theorem impl_HorizonsOf_L1_succ (N fu_ : Nat) (v13 : Int) (v14 : Int) (c1 : (List Int) × (List Int) × (List Int) × (List Int)) (out : List Int) (v12 : List Int) : impl_HorizonsOf_L1 N (fu_ + 1) v13 v14 c1 out v12 = impl_HorizonsOf_B1 N (fun v13 v14 c1 out v12 => impl_HorizonsOf_L1 N fu_ v13 v14 c1 out v12) v13 v14 c1 out v12 := rfl
theorem impl_HorizonsOf_L1_run (N : Nat) (v13 : Nat → Int) (v14 : Nat → Int) (c1 : Nat → ((List Int) × (List Int) × (List Int) × (List Int))) (out : Nat → (List Int)) (v12 : Nat → (List Int)) (n_ : Nat) {res_ : Option (((List Int) × Bool) × Unit)} (hstep_ : ∀ j_, j_ < n_ → ∀ kx_, impl_HorizonsOf_B1 N kx_ (v13 j_) (v14 j_) (c1 j_) (out j_) (v12 j_) = kx_ (v13 (j_ + 1)) (v14 (j_ + 1)) (c1 (j_ + 1)) (out (j_ + 1)) (v12 (j_ + 1))) (hend_ : ∀ kx_, impl_HorizonsOf_B1 N kx_ (v13 n_) (v14 n_) (c1 n_) (out n_) (v12 n_) = res_) (fu_ : Nat) (hm_ : n_ < fu_) : impl_HorizonsOf_L1 N fu_ (v13 0) (v14 0) (c1 0) (out 0) (v12 0) = res_ := by
  exact loop_run (L := fun fu_ (x_ : Int × Int × ((List Int) × (List Int) × (List Int) × (List Int)) × (List Int) × (List Int)) => impl_HorizonsOf_L1 N fu_ x_.1 x_.2.1 x_.2.2.1 x_.2.2.2.1 x_.2.2.2.2) (B := fun kx_ x_ => impl_HorizonsOf_B1 N (fun v13 v14 c1 out v12 => kx_ (v13, v14, c1, out, v12)) x_.1 x_.2.1 x_.2.2.1 x_.2.2.2.1 x_.2.2.2.2) (fun _ _ => rfl) (fun j_ => (v13 j_, v14 j_, c1 j_, out j_, v12 j_)) n_ (fun j_ hi_ kx_ => hstep_ j_ hi_ _) (fun kx_ => hend_ _) fu_ hm_
def impl_HorizonsOf (N : Nat) (c : (List Int) × (List Int) × (List Int) × (List Int)) : Option (((List Int) × Bool) × Unit) :=
  (impl_IsCase N c).bind fun r =>
  bif !r.1 then
    some (([], false), ())
  else
    (impl_Case_lastOrders N c).bind fun r1 =>
    impl_HorizonsOf_L1 N N (len r1.1) 0 c [] r1.1
def spec_l1In (N : Nat) (x : Int) (a : Int) (b : Int) : Option (Bool × Unit) :=
  bif ile a x then
    some (ile x b, ())
  else
    some (false, ())
def spec_l2Row_K1 (N : Nat) (row2 : List Int) (n2 : Int) : Option (Bool × Unit) :=
  some (ieq (len row2) n2, ())
def spec_l2Row_B1 (N : Nat) (kx : (List Int) → Int → Int → Int → Option (Bool × Unit)) (row1 : List Int) (n1 : Int) (most1 : Int) (i : Int) : Option (Bool × Unit) :=
  bif ilt i (len row1) then
    chk (inB i row1.length) <|
    (spec_l1In N (gd row1 i.toNat 0) 0 most1).bind fun r =>
    bif !r.1 then
      some (false, ())
    else
      kx row1 n1 most1 (iadd .i64 i 1)
  else
    spec_l2Row_K1 N row1 n1
def spec_l2Row_L1 (N fu_ : Nat) (row1 : List Int) (n1 : Int) (most1 : Int) (i : Int) : Option (Bool × Unit) :=
  iterK fu_ (fun kx (v_ : ((List Int) × Int × Int × Int × Unit) × (Unit)) => spec_l2Row_B1 N (fun row1 n1 most1 i => kx ((row1, n1, most1, i, ()), ())) v_.1.1 v_.1.2.1 v_.1.2.2.1 v_.1.2.2.2.1) ((row1, n1, most1, i, ()), ())
theorem spec_l2Row_L1_succ (N fu_ : Nat) (row1 : List Int) (n1 : Int) (most1 : Int) (i : Int) : spec_l2Row_L1 N (fu_ + 1) row1 n1 most1 i = spec_l2Row_B1 N (fun row1 n1 most1 i => spec_l2Row_L1 N fu_ row1 n1 most1 i) row1 n1 most1 i := rfl
theorem spec_l2Row_L1_run (N : Nat) (row1 : Nat → (List Int)) (n1 : Nat → Int) (most1 : Nat → Int) (i : Nat → Int) (n_ : Nat) {res_ : Option (Bool × Unit)} (hstep_ : ∀ j_, j_ < n_ → ∀ kx_, spec_l2Row_B1 N kx_ (row1 j_) (n1 j_) (most1 j_) (i j_) = kx_ (row1 (j_ + 1)) (n1 (j_ + 1)) (most1 (j_ + 1)) (i (j_ + 1))) (hend_ : ∀ kx_, spec_l2Row_B1 N kx_ (row1 n_) (n1 n_) (most1 n_) (i n_) = res_) (fu_ : Nat) (hm_ : n_ < fu_) : spec_l2Row_L1 N fu_ (row1 0) (n1 0) (most1 0) (i 0) = res_ := by
  exact loop_run (L := fun fu_ (x_ : (List Int) × Int × Int × Int) => spec_l2Row_L1 N fu_ x_.1 x_.2.1 x_.2.2.1 x_.2.2.2) (B := fun kx_ x_ => spec_l2Row_B1 N (fun row1 n1 most1 i => kx_ (row1, n1, most1, i)) x_.1 x_.2.1 x_.2.2.1 x_.2.2.2) (fun _ _ => rfl) (fun j_ => (row1 j_, n1 j_, most1 j_, i j_)) n_ (fun j_ hi_ kx_ => hstep_ j_ hi_ _) (fun kx_ => hend_ _) fu_ hm_
def spec_l2Row (N : Nat) (row : List Int) (n : Int) (most : Int) : Option (Bool × Unit) :=
  spec_l2Row_L1 N N row n most 0
def spec_l2Good (N : Nat) (c : (List Int) × (List Int) × (List Int) × (List Int)) : Option (Bool × Unit) :=
  bif ile (len c.1) 8 then
    (spec_l2Row N c.1 (len c.1) 20).bind fun r =>
    bif r.1 then
      (spec_l2Row N c.2.1 (len c.1) 99).bind fun r1 =>
      bif r1.1 then
        (spec_l2Row N c.2.2.1 (len c.1) 9).bind fun r2 =>
        bif r2.1 then
          (spec_l2Row N c.2.2.2 (len c.1) 9).bind fun r3 =>
          some (r3.1, ())
        else
          some (false, ())
      else
        some (false, ())
    else
      some (false, ())
  else
    some (false, ())
def spec_l3Rate_K1 (N : Nat) (sum1 : Int) : Option (Int × Unit) :=
  some (sum1, ())
def spec_l3Rate_B1 (N : Nat) (kx1 : Int → Int → Int → ((List Int) × (List Int) × (List Int) × (List Int)) → Option (Int × Unit)) (t1 : Int) (sum : Int) (kx : Int) (c1 : (List Int) × (List Int) × (List Int) × (List Int)) : Option (Int × Unit) :=
  bif ilt kx t1 then
    chk (inB kx c1.2.2.2.length) <|
    kx1 t1 (iadd .i64 sum (gd c1.2.2.2 kx.toNat 0)) (iadd .i64 kx 1) c1
  else
    spec_l3Rate_K1 N sum
def spec_l3Rate_L1 (N fu_ : Nat) (t1 : Int) (sum : Int) (kx : Int) (c1 : (List Int) × (List Int) × (List Int) × (List Int)) : Option (Int × Unit) :=
  iterK fu_ (fun kx1 (v_ : (Int × Int × Int × Unit) × (((List Int) × (List Int) × (List Int) × (List Int)) × Unit)) => spec_l3Rate_B1 N (fun t1 sum kx c1 => kx1 ((t1, sum, kx, ()), (c1, ()))) v_.1.1 v_.1.2.1 v_.1.2.2.1 v_.2.1) ((t1, sum, kx, ()), (c1, ()))
theorem spec_l3Rate_L1_succ (N fu_ : Nat) (t1 : Int) (sum : Int) (kx : Int) (c1 : (List Int) × (List Int) × (List Int) × (List Int)) : spec_l3Rate_L1 N (fu_ + 1) t1 sum kx c1 = spec_l3Rate_B1 N (fun t1 sum kx c1 => spec_l3Rate_L1 N fu_ t1 sum kx c1) t1 sum kx c1 := rfl
theorem spec_l3Rate_L1_run (N : Nat) (t1 : Nat → Int) (sum : Nat → Int) (kx : Nat → Int) (c1 : Nat → ((List Int) × (List Int) × (List Int) × (List Int))) (n_ : Nat) {res_ : Option (Int × Unit)} (hstep_ : ∀ j_, j_ < n_ → ∀ kx_, spec_l3Rate_B1 N kx_ (t1 j_) (sum j_) (kx j_) (c1 j_) = kx_ (t1 (j_ + 1)) (sum (j_ + 1)) (kx (j_ + 1)) (c1 (j_ + 1))) (hend_ : ∀ kx_, spec_l3Rate_B1 N kx_ (t1 n_) (sum n_) (kx n_) (c1 n_) = res_) (fu_ : Nat) (hm_ : n_ < fu_) : spec_l3Rate_L1 N fu_ (t1 0) (sum 0) (kx 0) (c1 0) = res_ := by
  exact loop_run (L := fun fu_ (x_ : Int × Int × Int × ((List Int) × (List Int) × (List Int) × (List Int))) => spec_l3Rate_L1 N fu_ x_.1 x_.2.1 x_.2.2.1 x_.2.2.2) (B := fun kx_ x_ => spec_l3Rate_B1 N (fun t1 sum kx c1 => kx_ (t1, sum, kx, c1)) x_.1 x_.2.1 x_.2.2.1 x_.2.2.2) (fun _ _ => rfl) (fun j_ => (t1 j_, sum j_, kx j_, c1 j_)) n_ (fun j_ hi_ kx_ => hstep_ j_ hi_ _) (fun kx_ => hend_ _) fu_ hm_
def spec_l3Rate (N : Nat) (c : (List Int) × (List Int) × (List Int) × (List Int)) (i : Int) (t : Int) : Option (Int × Unit) :=
  chk (inB i c.2.2.1.length) <|
  spec_l3Rate_L1 N N t (gd c.2.2.1 i.toNat 0) i c
def spec_l3Span_K1 (N : Nat) (i2 : Int) (sum1 : Int) (any1 : Bool) (c2 : (List Int) × (List Int) × (List Int) × (List Int)) : Option (Int × Unit) :=
  bif !any1 then
    some (0, ())
  else
    chk (inB i2 c2.2.1.length) <|
    some (iadd .i64 (gd c2.2.1 i2.toNat 0) sum1, ())
def spec_l3Span_B1 (N : Nat) (kx : Int → Int → Int → Bool → Int → ((List Int) × (List Int) × (List Int) × (List Int)) → Option (Int × Unit)) (i1 : Int) (j1 : Int) (sum : Int) (any : Bool) (t : Int) (c1 : (List Int) × (List Int) × (List Int) × (List Int)) : Option (Int × Unit) :=
  bif ilt t j1 then
    chk (inB t c1.1.length) <|
    (spec_l3Rate N c1 i1 t).bind fun r =>
    bif any then
      kx i1 j1 (iadd .i64 sum (imul .i64 (gd c1.1 t.toNat 0) r.1)) true (iadd .i64 t 1) c1
    else
      chk (inB t c1.1.length) <|
      kx i1 j1 (iadd .i64 sum (imul .i64 (gd c1.1 t.toNat 0) r.1)) (ilt 0 (gd c1.1 t.toNat 0)) (iadd .i64 t 1) c1
  else
    spec_l3Span_K1 N i1 sum any c1
def spec_l3Span_L1 (N fu_ : Nat) (i1 : Int) (j1 : Int) (sum : Int) (any : Bool) (t : Int) (c1 : (List Int) × (List Int) × (List Int) × (List Int)) : Option (Int × Unit) :=
  iterK fu_ (fun kx (v_ : (Int × Int × Int × Bool × Int × Unit) × (((List Int) × (List Int) × (List Int) × (List Int)) × Unit)) => spec_l3Span_B1 N (fun i1 j1 sum any t c1 => kx ((i1, j1, sum, any, t, ()), (c1, ()))) v_.1.1 v_.1.2.1 v_.1.2.2.1 v_.1.2.2.2.1 v_.1.2.2.2.2.1 v_.2.1) ((i1, j1, sum, any, t, ()), (c1, ()))
theorem spec_l3Span_L1_succ (N fu_ : Nat) (i1 : Int) (j1 : Int) (sum : Int) (any : Bool) (t : Int) (c1 : (List Int) × (List Int) × (List Int) × (List Int)) : spec_l3Span_L1 N (fu_ + 1) i1 j1 sum any t c1 = spec_l3Span_B1 N (fun i1 j1 sum any t c1 => spec_l3Span_L1 N fu_ i1 j1 sum any t c1) i1 j1 sum any t c1 := rfl
theorem spec_l3Span_L1_run (N : Nat) (i1 : Nat → Int) (j1 : Nat → Int) (sum : Nat → Int) (any : Nat → Bool) (t : Nat → Int) (c1 : Nat → ((List Int) × (List Int) × (List Int) × (List Int))) (n_ : Nat) {res_ : Option (Int × Unit)} (hstep_ : ∀ j_, j_ < n_ → ∀ kx_, spec_l3Span_B1 N kx_ (i1 j_) (j1 j_) (sum j_) (any j_) (t j_) (c1 j_) = kx_ (i1 (j_ + 1)) (j1 (j_ + 1)) (sum (j_ + 1)) (any (j_ + 1)) (t (j_ + 1)) (c1 (j_ + 1))) (hend_ : ∀ kx_, spec_l3Span_B1 N kx_ (i1 n_) (j1 n_) (sum n_) (any n_) (t n_) (c1 n_) = res_) (fu_ : Nat) (hm_ : n_ < fu_) : spec_l3Span_L1 N fu_ (i1 0) (j1 0) (sum 0) (any 0) (t 0) (c1 0) = res_ := by
  exact loop_run (L := fun fu_ (x_ : Int × Int × Int × Bool × Int × ((List Int) × (List Int) × (List Int) × (List Int))) => spec_l3Span_L1 N fu_ x_.1 x_.2.1 x_.2.2.1 x_.2.2.2.1 x_.2.2.2.2.1 x_.2.2.2.2.2) (B := fun kx_ x_ => spec_l3Span_B1 N (fun i1 j1 sum any t c1 => kx_ (i1, j1, sum, any, t, c1)) x_.1 x_.2.1 x_.2.2.1 x_.2.2.2.1 x_.2.2.2.2.1 x_.2.2.2.2.2) (fun _ _ => rfl) (fun j_ => (i1 j_, j1 j_, sum j_, any j_, t j_, c1 j_)) n_ (fun j_ hi_ kx_ => hstep_ j_ hi_ _) (fun kx_ => hend_ _) fu_ hm_
def spec_l3Span (N : Nat) (c : (List Int) × (List Int) × (List Int) × (List Int)) (i : Int) (j : Int) : Option (Int × Unit) :=
  spec_l3Span_L1 N N i j 0 false i c
def spec_l3Forward_K1 (N : Nat) (kx : Int → ((List Int) × (List Int) × (List Int) × (List Int)) → (List Int) → (List Int) → Option (((List Int) × (List Int)) × Unit)) (j2 : Int) (best1 : Int) (c3 : (List Int) × (List Int) × (List Int) × (List Int)) (costs2 : List Int) (lasts2 : List Int) : Option (((List Int) × (List Int)) × Unit) :=
  chk (inB best1 costs2.length) <|
  (spec_l3Span N c3 best1 j2).bind fun r2 =>
  chk (fitB (costs2.length + 1) 8) <|
  chk (fitB (lasts2.length + 1) 8) <|
  kx (iadd .i64 j2 1) c3 (costs2 ++ [iadd .i64 (gd costs2 best1.toNat 0) r2.1]) (lasts2 ++ [best1])
def spec_l3Forward_B1 (N : Nat) (kx : Int → ((List Int) × (List Int) × (List Int) × (List Int)) → (List Int) → (List Int) → Option (((List Int) × (List Int)) × Unit)) (kx1 : Int → Int → Int → ((List Int) × (List Int) × (List Int) × (List Int)) → (List Int) → (List Int) → Option (((List Int) × (List Int)) × Unit)) (j1 : Int) (best : Int) (i : Int) (c2 : (List Int) × (List Int) × (List Int) × (List Int)) (costs1 : List Int) (lasts1 : List Int) : Option (((List Int) × (List Int)) × Unit) :=
  bif ilt i j1 then
    chk (inB i costs1.length) <|
    (spec_l3Span N c2 i j1).bind fun r =>
    chk (inB best costs1.length) <|
    (spec_l3Span N c2 best j1).bind fun r1 =>
    bif ile (iadd .i64 (gd costs1 i.toNat 0) r.1) (iadd .i64 (gd costs1 best.toNat 0) r1.1) then
      kx1 j1 i (iadd .i64 i 1) c2 costs1 lasts1
    else
      kx1 j1 best (iadd .i64 i 1) c2 costs1 lasts1
  else
    spec_l3Forward_K1 N kx j1 best c2 costs1 lasts1
def spec_l3Forward_L1 (N fu_ : Nat) (kx : Int → ((List Int) × (List Int) × (List Int) × (List Int)) → (List Int) → (List Int) → Option (((List Int) × (List Int)) × Unit)) (j1 : Int) (best : Int) (i : Int) (c2 : (List Int) × (List Int) × (List Int) × (List Int)) (costs1 : List Int) (lasts1 : List Int) : Option (((List Int) × (List Int)) × Unit) :=
  iterK fu_ (fun kx1 (v_ : (Int × Int × Int × Unit) × (((List Int) × (List Int) × (List Int) × (List Int)) × (List Int) × (List Int) × Unit)) => spec_l3Forward_B1 N kx (fun j1 best i c2 costs1 lasts1 => kx1 ((j1, best, i, ()), (c2, costs1, lasts1, ()))) v_.1.1 v_.1.2.1 v_.1.2.2.1 v_.2.1 v_.2.2.1 v_.2.2.2.1) ((j1, best, i, ()), (c2, costs1, lasts1, ()))
theorem spec_l3Forward_L1_succ (N fu_ : Nat) (kx : Int → ((List Int) × (List Int) × (List Int) × (List Int)) → (List Int) → (List Int) → Option (((List Int) × (List Int)) × Unit)) (j1 : Int) (best : Int) (i : Int) (c2 : (List Int) × (List Int) × (List Int) × (List Int)) (costs1 : List Int) (lasts1 : List Int) : spec_l3Forward_L1 N (fu_ + 1) kx j1 best i c2 costs1 lasts1 = spec_l3Forward_B1 N kx (fun j1 best i c2 costs1 lasts1 => spec_l3Forward_L1 N fu_ kx j1 best i c2 costs1 lasts1) j1 best i c2 costs1 lasts1 := rfl
theorem spec_l3Forward_L1_run (N : Nat) (kx : Int → ((List Int) × (List Int) × (List Int) × (List Int)) → (List Int) → (List Int) → Option (((List Int) × (List Int)) × Unit)) (j1 : Nat → Int) (best : Nat → Int) (i : Nat → Int) (c2 : Nat → ((List Int) × (List Int) × (List Int) × (List Int))) (costs1 : Nat → (List Int)) (lasts1 : Nat → (List Int)) (n_ : Nat) {res_ : Option (((List Int) × (List Int)) × Unit)} (hstep_ : ∀ j_, j_ < n_ → ∀ kx_, spec_l3Forward_B1 N kx kx_ (j1 j_) (best j_) (i j_) (c2 j_) (costs1 j_) (lasts1 j_) = kx_ (j1 (j_ + 1)) (best (j_ + 1)) (i (j_ + 1)) (c2 (j_ + 1)) (costs1 (j_ + 1)) (lasts1 (j_ + 1))) (hend_ : ∀ kx_, spec_l3Forward_B1 N kx kx_ (j1 n_) (best n_) (i n_) (c2 n_) (costs1 n_) (lasts1 n_) = res_) (fu_ : Nat) (hm_ : n_ < fu_) : spec_l3Forward_L1 N fu_ kx (j1 0) (best 0) (i 0) (c2 0) (costs1 0) (lasts1 0) = res_ := by
  exact loop_run (L := fun fu_ (x_ : Int × Int × Int × ((List Int) × (List Int) × (List Int) × (List Int)) × (List Int) × (List Int)) => spec_l3Forward_L1 N fu_ kx x_.1 x_.2.1 x_.2.2.1 x_.2.2.2.1 x_.2.2.2.2.1 x_.2.2.2.2.2) (B := fun kx_ x_ => spec_l3Forward_B1 N kx (fun j1 best i c2 costs1 lasts1 => kx_ (j1, best, i, c2, costs1, lasts1)) x_.1 x_.2.1 x_.2.2.1 x_.2.2.2.1 x_.2.2.2.2.1 x_.2.2.2.2.2) (fun _ _ => rfl) (fun j_ => (j1 j_, best j_, i j_, c2 j_, costs1 j_, lasts1 j_)) n_ (fun j_ hi_ kx_ => hstep_ j_ hi_ _) (fun kx_ => hend_ _) fu_ hm_
def spec_l3Forward_K2 (N : Nat) (costs3 : List Int) (lasts3 : List Int) : Option (((List Int) × (List Int)) × Unit) :=
  some ((costs3, lasts3), ())
def spec_l3Forward_B2 (N : Nat) (kx : Int → ((List Int) × (List Int) × (List Int) × (List Int)) → (List Int) → (List Int) → Option (((List Int) × (List Int)) × Unit)) (j : Int) (c1 : (List Int) × (List Int) × (List Int) × (List Int)) (costs : List Int) (lasts : List Int) : Option (((List Int) × (List Int)) × Unit) :=
  bif ile j (len c1.1) then
    spec_l3Forward_L1 N N kx j 0 1 c1 costs lasts
  else
    spec_l3Forward_K2 N costs lasts
def spec_l3Forward_L2 (N fu_ : Nat) (j : Int) (c1 : (List Int) × (List Int) × (List Int) × (List Int)) (costs : List Int) (lasts : List Int) : Option (((List Int) × (List Int)) × Unit) :=
  iterK fu_ (fun kx (v_ : (Int × Unit) × (((List Int) × (List Int) × (List Int) × (List Int)) × (List Int) × (List Int) × Unit)) => spec_l3Forward_B2 N (fun j c1 costs lasts => kx ((j, ()), (c1, costs, lasts, ()))) v_.1.1 v_.2.1 v_.2.2.1 v_.2.2.2.1) ((j, ()), (c1, costs, lasts, ()))
theorem spec_l3Forward_L2_succ (N fu_ : Nat) (j : Int) (c1 : (List Int) × (List Int) × (List Int) × (List Int)) (costs : List Int) (lasts : List Int) : spec_l3Forward_L2 N (fu_ + 1) j c1 costs lasts = spec_l3Forward_B2 N (fun j c1 costs lasts => spec_l3Forward_L2 N fu_ j c1 costs lasts) j c1 costs lasts := rfl
theorem spec_l3Forward_L2_run (N : Nat) (j : Nat → Int) (c1 : Nat → ((List Int) × (List Int) × (List Int) × (List Int))) (costs : Nat → (List Int)) (lasts : Nat → (List Int)) (n_ : Nat) {res_ : Option (((List Int) × (List Int)) × Unit)} (hstep_ : ∀ j_, j_ < n_ → ∀ kx_, spec_l3Forward_B2 N kx_ (j j_) (c1 j_) (costs j_) (lasts j_) = kx_ (j (j_ + 1)) (c1 (j_ + 1)) (costs (j_ + 1)) (lasts (j_ + 1))) (hend_ : ∀ kx_, spec_l3Forward_B2 N kx_ (j n_) (c1 n_) (costs n_) (lasts n_) = res_) (fu_ : Nat) (hm_ : n_ < fu_) : spec_l3Forward_L2 N fu_ (j 0) (c1 0) (costs 0) (lasts 0) = res_ := by
  exact loop_run (L := fun fu_ (x_ : Int × ((List Int) × (List Int) × (List Int) × (List Int)) × (List Int) × (List Int)) => spec_l3Forward_L2 N fu_ x_.1 x_.2.1 x_.2.2.1 x_.2.2.2) (B := fun kx_ x_ => spec_l3Forward_B2 N (fun j c1 costs lasts => kx_ (j, c1, costs, lasts)) x_.1 x_.2.1 x_.2.2.1 x_.2.2.2) (fun _ _ => rfl) (fun j_ => (j j_, c1 j_, costs j_, lasts j_)) n_ (fun j_ hi_ kx_ => hstep_ j_ hi_ _) (fun kx_ => hend_ _) fu_ hm_
def spec_l3Forward (N : Nat) (c : (List Int) × (List Int) × (List Int) × (List Int)) : Option (((List Int) × (List Int)) × Unit) :=
  spec_l3Forward_L2 N N 1 c [0] []
def spec_HorizonsOf_K1 (N : Nat) (out1 : List Int) : Option (((List Int) × Bool) × Unit) :=
  some ((out1, true), ())
def spec_HorizonsOf_B1 (N : Nat) (kx : Int → ((List Int) × (List Int) × (List Int) × (List Int)) → (List Int) → ((List Int) × (List Int)) → Option (((List Int) × Bool) × Unit)) (h : Int) (c1 : (List Int) × (List Int) × (List Int) × (List Int)) (out : List Int) (b15 : (List Int) × (List Int)) : Option (((List Int) × Bool) × Unit) :=
  bif ile h (len b15.2) then
    chk (inB (isub .i64 h 1) b15.2.length) <|
    bif ieq (gd b15.2 (isub .i64 h 1).toNat 0) (isub .i64 h 1) then
      chk (inB (isub .i64 h 1) c1.1.length) <|
      bif ilt 0 (gd c1.1 (isub .i64 h 1).toNat 0) then
        chk (fitB (out.length + 1) 8) <|
        kx (iadd .i64 h 1) c1 (out ++ [h]) b15
      else
        kx (iadd .i64 h 1) c1 out b15
    else
      kx (iadd .i64 h 1) c1 out b15
  else
    spec_HorizonsOf_K1 N out
def spec_HorizonsOf_L1 (N fu_ : Nat) (h : Int) (c1 : (List Int) × (List Int) × (List Int) × (List Int)) (out : List Int) (b15 : (List Int) × (List Int)) : Option (((List Int) × Bool) × Unit) :=
  iterK fu_ (fun kx (v_ : (Int × Unit) × (((List Int) × (List Int) × (List Int) × (List Int)) × (List Int) × ((List Int) × (List Int)) × Unit)) => spec_HorizonsOf_B1 N (fun h c1 out b15 => kx ((h, ()), (c1, out, b15, ()))) v_.1.1 v_.2.1 v_.2.2.1 v_.2.2.2.1) ((h, ()), (c1, out, b15, ()))
theorem spec_HorizonsOf_L1_succ (N fu_ : Nat) (h : Int) (c1 : (List Int) × (List Int) × (List Int) × (List Int)) (out : List Int) (b15 : (List Int) × (List Int)) : spec_HorizonsOf_L1 N (fu_ + 1) h c1 out b15 = spec_HorizonsOf_B1 N (fun h c1 out b15 => spec_HorizonsOf_L1 N fu_ h c1 out b15) h c1 out b15 := rfl
theorem spec_HorizonsOf_L1_run (N : Nat) (h : Nat → Int) (c1 : Nat → ((List Int) × (List Int) × (List Int) × (List Int))) (out : Nat → (List Int)) (b15 : Nat → ((List Int) × (List Int))) (n_ : Nat) {res_ : Option (((List Int) × Bool) × Unit)} (hstep_ : ∀ j_, j_ < n_ → ∀ kx_, spec_HorizonsOf_B1 N kx_ (h j_) (c1 j_) (out j_) (b15 j_) = kx_ (h (j_ + 1)) (c1 (j_ + 1)) (out (j_ + 1)) (b15 (j_ + 1))) (hend_ : ∀ kx_, spec_HorizonsOf_B1 N kx_ (h n_) (c1 n_) (out n_) (b15 n_) = res_) (fu_ : Nat) (hm_ : n_ < fu_) : spec_HorizonsOf_L1 N fu_ (h 0) (c1 0) (out 0) (b15 0) = res_ := by
  exact loop_run (L := fun fu_ (x_ : Int × ((List Int) × (List Int) × (List Int) × (List Int)) × (List Int) × ((List Int) × (List Int))) => spec_HorizonsOf_L1 N fu_ x_.1 x_.2.1 x_.2.2.1 x_.2.2.2) (B := fun kx_ x_ => spec_HorizonsOf_B1 N (fun h c1 out b15 => kx_ (h, c1, out, b15)) x_.1 x_.2.1 x_.2.2.1 x_.2.2.2) (fun _ _ => rfl) (fun j_ => (h j_, c1 j_, out j_, b15 j_)) n_ (fun j_ hi_ kx_ => hstep_ j_ hi_ _) (fun kx_ => hend_ _) fu_ hm_
def spec_HorizonsOf (N : Nat) (c : (List Int) × (List Int) × (List Int) × (List Int)) : Option (((List Int) × Bool) × Unit) :=
  (spec_l2Good N c).bind fun r =>
  bif !r.1 then
    some (([], false), ())
  else
    (spec_l3Forward N c).bind fun r1 =>
    spec_HorizonsOf_L1 N N 1 c [] r1.1
def impl_LastOrders (N : Nat) (c : (List Int) × (List Int) × (List Int) × (List Int)) : Option (((List Int) × Bool) × Unit) :=
  (impl_IsCase N c).bind fun r =>
  bif !r.1 then
    some (([], false), ())
  else
    (impl_Case_lastOrders N c).bind fun r1 =>
    some ((r1.1, true), ())
def spec_LastOrders (N : Nat) (c : (List Int) × (List Int) × (List Int) × (List Int)) : Option (((List Int) × Bool) × Unit) :=
  (spec_l2Good N c).bind fun r =>
  bif !r.1 then
    some (([], false), ())
  else
    (spec_l3Forward N c).bind fun r1 =>
    some ((r1.1.2, true), ())
def slices_Reverse_int_int_K1 (N : Nat) (s2 : List Int) : Option (Bool × (List Int)) :=
  some (false, s2)
def slices_Reverse_int_int_B1 (N : Nat) (kx : Int → Int → (List Int) → Option (Bool × (List Int))) (i : Int) (j : Int) (s1 : List Int) : Option (Bool × (List Int)) :=
  bif ilt i j then
    chk (inB j s1.length) <|
    chk (inB i s1.length) <|
    chk (inB i s1.length) <|
    chk (inB j (List.set s1 i.toNat (gd s1 j.toNat 0)).length) <|
    kx (iadd .i64 i 1) (isub .i64 j 1) (List.set (List.set s1 i.toNat (gd s1 j.toNat 0)) j.toNat (gd s1 i.toNat 0))
  else
    slices_Reverse_int_int_K1 N s1
def slices_Reverse_int_int_L1 (N fu_ : Nat) (i : Int) (j : Int) (s1 : List Int) : Option (Bool × (List Int)) :=
  iterK fu_ (fun kx (v_ : (Int × Int × Unit) × ((List Int) × Unit)) => slices_Reverse_int_int_B1 N (fun i j s1 => kx ((i, j, ()), (s1, ()))) v_.1.1 v_.1.2.1 v_.2.1) ((i, j, ()), (s1, ()))
theorem slices_Reverse_int_int_L1_succ (N fu_ : Nat) (i : Int) (j : Int) (s1 : List Int) : slices_Reverse_int_int_L1 N (fu_ + 1) i j s1 = slices_Reverse_int_int_B1 N (fun i j s1 => slices_Reverse_int_int_L1 N fu_ i j s1) i j s1 := rfl
theorem slices_Reverse_int_int_L1_run (N : Nat) (i : Nat → Int) (j : Nat → Int) (s1 : Nat → (List Int)) (n_ : Nat) {res_ : Option (Bool × (List Int))} (hstep_ : ∀ j_, j_ < n_ → ∀ kx_, slices_Reverse_int_int_B1 N kx_ (i j_) (j j_) (s1 j_) = kx_ (i (j_ + 1)) (j (j_ + 1)) (s1 (j_ + 1))) (hend_ : ∀ kx_, slices_Reverse_int_int_B1 N kx_ (i n_) (j n_) (s1 n_) = res_) (fu_ : Nat) (hm_ : n_ < fu_) : slices_Reverse_int_int_L1 N fu_ (i 0) (j 0) (s1 0) = res_ := by
  exact loop_run (L := fun fu_ (x_ : Int × Int × (List Int)) => slices_Reverse_int_int_L1 N fu_ x_.1 x_.2.1 x_.2.2) (B := fun kx_ x_ => slices_Reverse_int_int_B1 N (fun i j s1 => kx_ (i, j, s1)) x_.1 x_.2.1 x_.2.2) (fun _ _ => rfl) (fun j_ => (i j_, j j_, s1 j_)) n_ (fun j_ hi_ kx_ => hstep_ j_ hi_ _) (fun kx_ => hend_ _) fu_ hm_
def slices_Reverse_int_int (N : Nat) (s : List Int) : Option (Bool × (List Int)) :=
  slices_Reverse_int_int_L1 N N 0 (isub .i64 (len s) 1) s
def impl_TablePeriods_K1 (N : Nat) (out1 : List Int) : Option (((List Int) × Bool) × Unit) :=
  (slices_Reverse_int_int N out1).bind fun r3 =>
  some ((r3.2, true), ())
def impl_TablePeriods_B1 (N : Nat) (kx : Int → ((List Int) × (List Int) × (List Int) × (List Int)) → (List Int) → (List Int) → Option (((List Int) × Bool) × Unit)) (j : Int) (c1 : (List Int) × (List Int) × (List Int) × (List Int)) (out : List Int) (last : List Int) : Option (((List Int) × Bool) × Unit) :=
  bif ilt 0 j then
    chk (inB (isub .i64 j 1) last.length) <|
    chk (cutB (gd last (isub .i64 j 1).toNat 0) j c1.1.length) <|
    (impl_total N (cut c1.1 (gd last (isub .i64 j 1).toNat 0) j)).bind fun r2 =>
    bif ilt 0 r2.1 then
      chk (fitB (out.length + 1) 8) <|
      chk (inB (isub .i64 j 1) last.length) <|
      kx (gd last (isub .i64 j 1).toNat 0) c1 (out ++ [gd last (isub .i64 j 1).toNat 0]) last
    else
      chk (inB (isub .i64 j 1) last.length) <|
      kx (gd last (isub .i64 j 1).toNat 0) c1 out last
  else
    impl_TablePeriods_K1 N out
def impl_TablePeriods_L1 (N fu_ : Nat) (j : Int) (c1 : (List Int) × (List Int) × (List Int) × (List Int)) (out : List Int) (last : List Int) : Option (((List Int) × Bool) × Unit) :=
  iterK fu_ (fun kx (v_ : (Int × Unit) × (((List Int) × (List Int) × (List Int) × (List Int)) × (List Int) × (List Int) × Unit)) => impl_TablePeriods_B1 N (fun j c1 out last => kx ((j, ()), (c1, out, last, ()))) v_.1.1 v_.2.1 v_.2.2.1 v_.2.2.2.1) ((j, ()), (c1, out, last, ()))
theorem impl_TablePeriods_L1_succ (N fu_ : Nat) (j : Int) (c1 : (List Int) × (List Int) × (List Int) × (List Int)) (out : List Int) (last : List Int) : impl_TablePeriods_L1 N (fu_ + 1) j c1 out last = impl_TablePeriods_B1 N (fun j c1 out last => impl_TablePeriods_L1 N fu_ j c1 out last) j c1 out last := rfl
theorem impl_TablePeriods_L1_run (N : Nat) (j : Nat → Int) (c1 : Nat → ((List Int) × (List Int) × (List Int) × (List Int))) (out : Nat → (List Int)) (last : Nat → (List Int)) (n_ : Nat) {res_ : Option (((List Int) × Bool) × Unit)} (hstep_ : ∀ j_, j_ < n_ → ∀ kx_, impl_TablePeriods_B1 N kx_ (j j_) (c1 j_) (out j_) (last j_) = kx_ (j (j_ + 1)) (c1 (j_ + 1)) (out (j_ + 1)) (last (j_ + 1))) (hend_ : ∀ kx_, impl_TablePeriods_B1 N kx_ (j n_) (c1 n_) (out n_) (last n_) = res_) (fu_ : Nat) (hm_ : n_ < fu_) : impl_TablePeriods_L1 N fu_ (j 0) (c1 0) (out 0) (last 0) = res_ := by
  exact loop_run (L := fun fu_ (x_ : Int × ((List Int) × (List Int) × (List Int) × (List Int)) × (List Int) × (List Int)) => impl_TablePeriods_L1 N fu_ x_.1 x_.2.1 x_.2.2.1 x_.2.2.2) (B := fun kx_ x_ => impl_TablePeriods_B1 N (fun j c1 out last => kx_ (j, c1, out, last)) x_.1 x_.2.1 x_.2.2.1 x_.2.2.2) (fun _ _ => rfl) (fun j_ => (j j_, c1 j_, out j_, last j_)) n_ (fun j_ hi_ kx_ => hstep_ j_ hi_ _) (fun kx_ => hend_ _) fu_ hm_
def impl_TablePeriods (N : Nat) (c : (List Int) × (List Int) × (List Int) × (List Int)) : Option (((List Int) × Bool) × Unit) :=
  (impl_IsCase N c).bind fun r =>
  bif !r.1 then
    some (([], false), ())
  else
    (impl_Case_lastOrders N c).bind fun r1 =>
    impl_TablePeriods_L1 N N (len c.1) c [] r1.1
def spec_l2Sum_K1 (N : Nat) (sum1 : Int) : Option (Int × Unit) :=
  some (sum1, ())
def spec_l2Sum_B1 (N : Nat) (kx : (List Int) → Int → Int → Option (Int × Unit)) (list1 : List Int) (sum : Int) (i : Int) : Option (Int × Unit) :=
  bif ilt i (len list1) then
    chk (inB i list1.length) <|
    kx list1 (iadd .i64 sum (gd list1 i.toNat 0)) (iadd .i64 i 1)
  else
    spec_l2Sum_K1 N sum
def spec_l2Sum_L1 (N fu_ : Nat) (list1 : List Int) (sum : Int) (i : Int) : Option (Int × Unit) :=
  iterK fu_ (fun kx (v_ : ((List Int) × Int × Int × Unit) × (Unit)) => spec_l2Sum_B1 N (fun list1 sum i => kx ((list1, sum, i, ()), ())) v_.1.1 v_.1.2.1 v_.1.2.2.1) ((list1, sum, i, ()), ())
theorem spec_l2Sum_L1_succ (N fu_ : Nat) (list1 : List Int) (sum : Int) (i : Int) : spec_l2Sum_L1 N (fu_ + 1) list1 sum i = spec_l2Sum_B1 N (fun list1 sum i => spec_l2Sum_L1 N fu_ list1 sum i) list1 sum i := rfl
theorem spec_l2Sum_L1_run (N : Nat) (list1 : Nat → (List Int)) (sum : Nat → Int) (i : Nat → Int) (n_ : Nat) {res_ : Option (Int × Unit)} (hstep_ : ∀ j_, j_ < n_ → ∀ kx_, spec_l2Sum_B1 N kx_ (list1 j_) (sum j_) (i j_) = kx_ (list1 (j_ + 1)) (sum (j_ + 1)) (i (j_ + 1))) (hend_ : ∀ kx_, spec_l2Sum_B1 N kx_ (list1 n_) (sum n_) (i n_) = res_) (fu_ : Nat) (hm_ : n_ < fu_) : spec_l2Sum_L1 N fu_ (list1 0) (sum 0) (i 0) = res_ := by
  exact loop_run (L := fun fu_ (x_ : (List Int) × Int × Int) => spec_l2Sum_L1 N fu_ x_.1 x_.2.1 x_.2.2) (B := fun kx_ x_ => spec_l2Sum_B1 N (fun list1 sum i => kx_ (list1, sum, i)) x_.1 x_.2.1 x_.2.2) (fun _ _ => rfl) (fun j_ => (list1 j_, sum j_, i j_)) n_ (fun j_ hi_ kx_ => hstep_ j_ hi_ _) (fun kx_ => hend_ _) fu_ hm_
def spec_l2Sum (N : Nat) (list : List Int) : Option (Int × Unit) :=
  spec_l2Sum_L1 N N list 0 0
def spec_l3Asks (N : Nat) (c : (List Int) × (List Int) × (List Int) × (List Int)) (i : Int) (j : Int) : Option (Bool × Unit) :=
  chk (cutB i j c.1.length) <|
  (spec_l2Sum N (cut c.1 i j)).bind fun r =>
  some (ilt 0 r.1, ())
def spec_TablePeriods_K1 (N : Nat) (out1 : List Int) : Option (((List Int) × Bool) × Unit) :=
  some ((out1, true), ())
def spec_TablePeriods_B1 (N : Nat) (kx : Int → ((List Int) × (List Int) × (List Int) × (List Int)) → (List Int) → ((List Int) × (List Int)) → Option (((List Int) × Bool) × Unit)) (j : Int) (c1 : (List Int) × (List Int) × (List Int) × (List Int)) (out : List Int) (b16 : (List Int) × (List Int)) : Option (((List Int) × Bool) × Unit) :=
  bif ilt 0 j then
    chk (inB (isub .i64 j 1) b16.2.length) <|
    (spec_l3Asks N c1 (gd b16.2 (isub .i64 j 1).toNat 0) j).bind fun r2 =>
    bif r2.1 then
      chk (fitB (1 + out.length) 8) <|
      chk (inB (isub .i64 j 1) b16.2.length) <|
      kx (gd b16.2 (isub .i64 j 1).toNat 0) c1 ([gd b16.2 (isub .i64 j 1).toNat 0] ++ out) b16
    else
      chk (inB (isub .i64 j 1) b16.2.length) <|
      kx (gd b16.2 (isub .i64 j 1).toNat 0) c1 out b16
  else
    spec_TablePeriods_K1 N out
def spec_TablePeriods_L1 (N fu_ : Nat) (j : Int) (c1 : (List Int) × (List Int) × (List Int) × (List Int)) (out : List Int) (b16 : (List Int) × (List Int)) : Option (((List Int) × Bool) × Unit) :=
  iterK fu_ (fun kx (v_ : (Int × Unit) × (((List Int) × (List Int) × (List Int) × (List Int)) × (List Int) × ((List Int) × (List Int)) × Unit)) => spec_TablePeriods_B1 N (fun j c1 out b16 => kx ((j, ()), (c1, out, b16, ()))) v_.1.1 v_.2.1 v_.2.2.1 v_.2.2.2.1) ((j, ()), (c1, out, b16, ()))
theorem spec_TablePeriods_L1_succ (N fu_ : Nat) (j : Int) (c1 : (List Int) × (List Int) × (List Int) × (List Int)) (out : List Int) (b16 : (List Int) × (List Int)) : spec_TablePeriods_L1 N (fu_ + 1) j c1 out b16 = spec_TablePeriods_B1 N (fun j c1 out b16 => spec_TablePeriods_L1 N fu_ j c1 out b16) j c1 out b16 := rfl
theorem spec_TablePeriods_L1_run (N : Nat) (j : Nat → Int) (c1 : Nat → ((List Int) × (List Int) × (List Int) × (List Int))) (out : Nat → (List Int)) (b16 : Nat → ((List Int) × (List Int))) (n_ : Nat) {res_ : Option (((List Int) × Bool) × Unit)} (hstep_ : ∀ j_, j_ < n_ → ∀ kx_, spec_TablePeriods_B1 N kx_ (j j_) (c1 j_) (out j_) (b16 j_) = kx_ (j (j_ + 1)) (c1 (j_ + 1)) (out (j_ + 1)) (b16 (j_ + 1))) (hend_ : ∀ kx_, spec_TablePeriods_B1 N kx_ (j n_) (c1 n_) (out n_) (b16 n_) = res_) (fu_ : Nat) (hm_ : n_ < fu_) : spec_TablePeriods_L1 N fu_ (j 0) (c1 0) (out 0) (b16 0) = res_ := by
  exact loop_run (L := fun fu_ (x_ : Int × ((List Int) × (List Int) × (List Int) × (List Int)) × (List Int) × ((List Int) × (List Int))) => spec_TablePeriods_L1 N fu_ x_.1 x_.2.1 x_.2.2.1 x_.2.2.2) (B := fun kx_ x_ => spec_TablePeriods_B1 N (fun j c1 out b16 => kx_ (j, c1, out, b16)) x_.1 x_.2.1 x_.2.2.1 x_.2.2.2) (fun _ _ => rfl) (fun j_ => (j j_, c1 j_, out j_, b16 j_)) n_ (fun j_ hi_ kx_ => hstep_ j_ hi_ _) (fun kx_ => hend_ _) fu_ hm_
def spec_TablePeriods (N : Nat) (c : (List Int) × (List Int) × (List Int) × (List Int)) : Option (((List Int) × Bool) × Unit) :=
  (spec_l2Good N c).bind fun r =>
  bif !r.1 then
    some (([], false), ())
  else
    (spec_l3Forward N c).bind fun r1 =>
    spec_TablePeriods_L1 N N (len c.1) c [] r1.1
def laws_vInts_K1 (N : Nat) : Option (Bool × Unit) :=
  some (true, ())
def laws_vInts_B1 (N : Nat) (kx : (List Int) → (List Int) → Int → Option (Bool × Unit)) (a1 : List Int) (b1 : List Int) (i : Int) : Option (Bool × Unit) :=
  bif ilt i (len a1) then
    chk (inB i a1.length) <|
    chk (inB i b1.length) <|
    bif ine (gd a1 i.toNat 0) (gd b1 i.toNat 0) then
      some (false, ())
    else
      kx a1 b1 (iadd .i64 i 1)
  else
    laws_vInts_K1 N
def laws_vInts_L1 (N fu_ : Nat) (a1 : List Int) (b1 : List Int) (i : Int) : Option (Bool × Unit) :=
  iterK fu_ (fun kx (v_ : ((List Int) × (List Int) × Int × Unit) × (Unit)) => laws_vInts_B1 N (fun a1 b1 i => kx ((a1, b1, i, ()), ())) v_.1.1 v_.1.2.1 v_.1.2.2.1) ((a1, b1, i, ()), ())
theorem laws_vInts_L1_succ (N fu_ : Nat) (a1 : List Int) (b1 : List Int) (i : Int) : laws_vInts_L1 N (fu_ + 1) a1 b1 i = laws_vInts_B1 N (fun a1 b1 i => laws_vInts_L1 N fu_ a1 b1 i) a1 b1 i := rfl
theorem laws_vInts_L1_run (N : Nat) (a1 : Nat → (List Int)) (b1 : Nat → (List Int)) (i : Nat → Int) (n_ : Nat) {res_ : Option (Bool × Unit)} (hstep_ : ∀ j_, j_ < n_ → ∀ kx_, laws_vInts_B1 N kx_ (a1 j_) (b1 j_) (i j_) = kx_ (a1 (j_ + 1)) (b1 (j_ + 1)) (i (j_ + 1))) (hend_ : ∀ kx_, laws_vInts_B1 N kx_ (a1 n_) (b1 n_) (i n_) = res_) (fu_ : Nat) (hm_ : n_ < fu_) : laws_vInts_L1 N fu_ (a1 0) (b1 0) (i 0) = res_ := by
  exact loop_run (L := fun fu_ (x_ : (List Int) × (List Int) × Int) => laws_vInts_L1 N fu_ x_.1 x_.2.1 x_.2.2) (B := fun kx_ x_ => laws_vInts_B1 N (fun a1 b1 i => kx_ (a1, b1, i)) x_.1 x_.2.1 x_.2.2) (fun _ _ => rfl) (fun j_ => (a1 j_, b1 j_, i j_)) n_ (fun j_ hi_ kx_ => hstep_ j_ hi_ _) (fun kx_ => hend_ _) fu_ hm_
def laws_vInts (N : Nat) (a : List Int) (b : List Int) : Option (Bool × Unit) :=
  bif ine (len a) (len b) then
    some (false, ())
  else
    laws_vInts_L1 N N a b 0
def impl_Case_arePeriods_K1 (N : Nat) : Option (Bool × Unit) :=
  some (true, ())
def impl_Case_arePeriods_B1 (N : Nat) (kx : (List Int) → (List Int) → Int → Int → ((List Int) × (List Int) × (List Int) × (List Int)) → Option (Bool × Unit)) (periods1 : List Int) (v7 : List Int) (v8 : Int) (v9 : Int) (c1 : (List Int) × (List Int) × (List Int) × (List Int)) : Option (Bool × Unit) :=
  bif ilt v9 v8 then
    chk (inB v9 v7.length) <|
    (impl_within N (gd v7 v9.toNat 0) 0 (isub .i64 (len c1.1) 1)).bind fun r =>
    bif !r.1 then
      some (false, ())
    else
      bif ilt 0 v9 then
        chk (inB (isub .i64 v9 1) periods1.length) <|
        bif ile (gd v7 v9.toNat 0) (gd periods1 (isub .i64 v9 1).toNat 0) then
          some (false, ())
        else
          kx periods1 v7 v8 (iadd .i64 v9 1) c1
      else
        kx periods1 v7 v8 (iadd .i64 v9 1) c1
  else
    impl_Case_arePeriods_K1 N
def impl_Case_arePeriods_L1 (N fu_ : Nat) (periods1 : List Int) (v7 : List Int) (v8 : Int) (v9 : Int) (c1 : (List Int) × (List Int) × (List Int) × (List Int)) : Option (Bool × Unit) :=
  iterK fu_ (fun kx (v_ : ((List Int) × (List Int) × Int × Int × Unit) × (((List Int) × (List Int) × (List Int) × (List Int)) × Unit)) => impl_Case_arePeriods_B1 N (fun periods1 v7 v8 v9 c1 => kx ((periods1, v7, v8, v9, ()), (c1, ()))) v_.1.1 v_.1.2.1 v_.1.2.2.1 v_.1.2.2.2.1 v_.2.1) ((periods1, v7, v8, v9, ()), (c1, ()))
theorem impl_Case_arePeriods_L1_succ (N fu_ : Nat) (periods1 : List Int) (v7 : List Int) (v8 : Int) (v9 : Int) (c1 : (List Int) × (List Int) × (List Int) × (List Int)) : impl_Case_arePeriods_L1 N (fu_ + 1) periods1 v7 v8 v9 c1 = impl_Case_arePeriods_B1 N (fun periods1 v7 v8 v9 c1 => impl_Case_arePeriods_L1 N fu_ periods1 v7 v8 v9 c1) periods1 v7 v8 v9 c1 := rfl
theorem impl_Case_arePeriods_L1_run (N : Nat) (periods1 : Nat → (List Int)) (v7 : Nat → (List Int)) (v8 : Nat → Int) (v9 : Nat → Int) (c1 : Nat → ((List Int) × (List Int) × (List Int) × (List Int))) (n_ : Nat) {res_ : Option (Bool × Unit)} (hstep_ : ∀ j_, j_ < n_ → ∀ kx_, impl_Case_arePeriods_B1 N kx_ (periods1 j_) (v7 j_) (v8 j_) (v9 j_) (c1 j_) = kx_ (periods1 (j_ + 1)) (v7 (j_ + 1)) (v8 (j_ + 1)) (v9 (j_ + 1)) (c1 (j_ + 1))) (hend_ : ∀ kx_, impl_Case_arePeriods_B1 N kx_ (periods1 n_) (v7 n_) (v8 n_) (v9 n_) (c1 n_) = res_) (fu_ : Nat) (hm_ : n_ < fu_) : impl_Case_arePeriods_L1 N fu_ (periods1 0) (v7 0) (v8 0) (v9 0) (c1 0) = res_ := by
  exact loop_run (L := fun fu_ (x_ : (List Int) × (List Int) × Int × Int × ((List Int) × (List Int) × (List Int) × (List Int))) => impl_Case_arePeriods_L1 N fu_ x_.1 x_.2.1 x_.2.2.1 x_.2.2.2.1 x_.2.2.2.2) (B := fun kx_ x_ => impl_Case_arePeriods_B1 N (fun periods1 v7 v8 v9 c1 => kx_ (periods1, v7, v8, v9, c1)) x_.1 x_.2.1 x_.2.2.1 x_.2.2.2.1 x_.2.2.2.2) (fun _ _ => rfl) (fun j_ => (periods1 j_, v7 j_, v8 j_, v9 j_, c1 j_)) n_ (fun j_ hi_ kx_ => hstep_ j_ hi_ _) (fun kx_ => hend_ _) fu_ hm_
def impl_Case_arePeriods (N : Nat) (c : (List Int) × (List Int) × (List Int) × (List Int)) (periods : List Int) : Option (Bool × Unit) :=
  impl_Case_arePeriods_L1 N N periods periods (len periods) 0 c
def impl_Case_planFrom_K1 (N : Nat) (kx : (List Int) → Int → (List Int) → Int → Int → (List Int) → Option (((List Int) × Bool) × Unit)) (periods3 : List Int) (next2 : Int) (need1 : Int) (v152 : List Int) (v162 : Int) (v172 : Int) (plan2 : List Int) : Option (((List Int) × Bool) × Unit) :=
  bif ieq next2 0 then
    bif ilt 0 need1 then
      some (([], false), ())
    else
      kx periods3 next2 v152 v162 (iadd .i64 v172 1) plan2
  else
    chk (inB (isub .i64 next2 1) periods3.length) <|
    chk (inB (gd periods3 (isub .i64 next2 1).toNat 0) plan2.length) <|
    chk (inB (gd periods3 (isub .i64 next2 1).toNat 0) plan2.length) <|
    kx periods3 next2 v152 v162 (iadd .i64 v172 1) (List.set plan2 (gd periods3 (isub .i64 next2 1).toNat 0).toNat (iadd .i64 (gd plan2 (gd periods3 (isub .i64 next2 1).toNat 0).toNat 0) need1))
def impl_Case_planFrom_K2 (N : Nat) (kx : (List Int) → Int → (List Int) → Int → Int → (List Int) → Option (((List Int) × Bool) × Unit)) (periods2 : List Int) (next1 : Int) (need : Int) (v151 : List Int) (v161 : Int) (v171 : Int) (v33 : Bool) (plan1 : List Int) : Option (((List Int) × Bool) × Unit) :=
  bif v33 then
    impl_Case_planFrom_K1 N kx periods2 (iadd .i64 next1 1) need v151 v161 v171 plan1
  else
    impl_Case_planFrom_K1 N kx periods2 next1 need v151 v161 v171 plan1
def impl_Case_planFrom_K3 (N : Nat) (plan3 : List Int) : Option (((List Int) × Bool) × Unit) :=
  some ((plan3, true), ())
def impl_Case_planFrom_B1 (N : Nat) (kx : (List Int) → Int → (List Int) → Int → Int → (List Int) → Option (((List Int) × Bool) × Unit)) (periods1 : List Int) (next : Int) (v15 : List Int) (v16 : Int) (v17 : Int) (plan : List Int) : Option (((List Int) × Bool) × Unit) :=
  bif ilt v17 v16 then
    chk (inB v17 v15.length) <|
    bif ilt next (len periods1) then
      chk (inB next periods1.length) <|
      impl_Case_planFrom_K2 N kx periods1 next (gd v15 v17.toNat 0) v15 v16 v17 (ieq (gd periods1 next.toNat 0) v17) plan
    else
      impl_Case_planFrom_K2 N kx periods1 next (gd v15 v17.toNat 0) v15 v16 v17 false plan
  else
    impl_Case_planFrom_K3 N plan
def impl_Case_planFrom_L1 (N fu_ : Nat) (periods1 : List Int) (next : Int) (v15 : List Int) (v16 : Int) (v17 : Int) (plan : List Int) : Option (((List Int) × Bool) × Unit) :=
  iterK fu_ (fun kx (v_ : ((List Int) × Int × (List Int) × Int × Int × Unit) × ((List Int) × Unit)) => impl_Case_planFrom_B1 N (fun periods1 next v15 v16 v17 plan => kx ((periods1, next, v15, v16, v17, ()), (plan, ()))) v_.1.1 v_.1.2.1 v_.1.2.2.1 v_.1.2.2.2.1 v_.1.2.2.2.2.1 v_.2.1) ((periods1, next, v15, v16, v17, ()), (plan, ()))
theorem impl_Case_planFrom_L1_succ (N fu_ : Nat) (periods1 : List Int) (next : Int) (v15 : List Int) (v16 : Int) (v17 : Int) (plan : List Int) : impl_Case_planFrom_L1 N (fu_ + 1) periods1 next v15 v16 v17 plan = impl_Case_planFrom_B1 N (fun periods1 next v15 v16 v17 plan => impl_Case_planFrom_L1 N fu_ periods1 next v15 v16 v17 plan) periods1 next v15 v16 v17 plan := rfl
theorem impl_Case_planFrom_L1_run (N : Nat) (periods1 : Nat → (List Int)) (next : Nat → Int) (v15 : Nat → (List Int)) (v16 : Nat → Int) (v17 : Nat → Int) (plan : Nat → (List Int)) (n_ : Nat) {res_ : Option (((List Int) × Bool) × Unit)} (hstep_ : ∀ j_, j_ < n_ → ∀ kx_, impl_Case_planFrom_B1 N kx_ (periods1 j_) (next j_) (v15 j_) (v16 j_) (v17 j_) (plan j_) = kx_ (periods1 (j_ + 1)) (next (j_ + 1)) (v15 (j_ + 1)) (v16 (j_ + 1)) (v17 (j_ + 1)) (plan (j_ + 1))) (hend_ : ∀ kx_, impl_Case_planFrom_B1 N kx_ (periods1 n_) (next n_) (v15 n_) (v16 n_) (v17 n_) (plan n_) = res_) (fu_ : Nat) (hm_ : n_ < fu_) : impl_Case_planFrom_L1 N fu_ (periods1 0) (next 0) (v15 0) (v16 0) (v17 0) (plan 0) = res_ := by
  exact loop_run (L := fun fu_ (x_ : (List Int) × Int × (List Int) × Int × Int × (List Int)) => impl_Case_planFrom_L1 N fu_ x_.1 x_.2.1 x_.2.2.1 x_.2.2.2.1 x_.2.2.2.2.1 x_.2.2.2.2.2) (B := fun kx_ x_ => impl_Case_planFrom_B1 N (fun periods1 next v15 v16 v17 plan => kx_ (periods1, next, v15, v16, v17, plan)) x_.1 x_.2.1 x_.2.2.1 x_.2.2.2.1 x_.2.2.2.2.1 x_.2.2.2.2.2) (fun _ _ => rfl) (fun j_ => (periods1 j_, next j_, v15 j_, v16 j_, v17 j_, plan j_)) n_ (fun j_ hi_ kx_ => hstep_ j_ hi_ _) (fun kx_ => hend_ _) fu_ hm_
def impl_Case_planFrom (N : Nat) (c : (List Int) × (List Int) × (List Int) × (List Int)) (periods : List Int) : Option (((List Int) × Bool) × Unit) :=
  chk (mkB (len c.1) 8) <|
  impl_Case_planFrom_L1 N N periods 0 c.1 (len c.1) 0 (List.replicate (len c.1).toNat 0)
def impl_PlanFrom (N : Nat) (c : (List Int) × (List Int) × (List Int) × (List Int)) (periods : List Int) : Option (((List Int) × Bool) × Unit) :=
  (impl_IsCase N c).bind fun r =>
  bif !r.1 then
    some (([], false), ())
  else
    (impl_Case_arePeriods N c periods).bind fun r1 =>
    bif !r1.1 then
      some (([], false), ())
    else
      (impl_Case_planFrom N c periods).bind fun r2 =>
      some ((r2.1.1, r2.1.2), ())
def impl_Case_stocks_K1 (N : Nat) (stock1 : Int) (out1 : List Int) : Option (((List Int) × Bool) × Unit) :=
  some ((out1, ieq stock1 0), ())
def impl_Case_stocks_B1 (N : Nat) (kx : Int → (List Int) → Int → Int → ((List Int) × (List Int) × (List Int) × (List Int)) → (List Int) → Option (((List Int) × Bool) × Unit)) (stock : Int) (v22 : List Int) (v23 : Int) (v24 : Int) (c1 : (List Int) × (List Int) × (List Int) × (List Int)) (out : List Int) : Option (((List Int) × Bool) × Unit) :=
  bif ilt v24 v23 then
    chk (inB v24 v22.length) <|
    chk (inB v24 c1.1.length) <|
    bif ilt (iadd .i64 stock (isub .i64 (gd v22 v24.toNat 0) (gd c1.1 v24.toNat 0))) 0 then
      some (([], false), ())
    else
      chk (fitB (out.length + 1) 8) <|
      kx (iadd .i64 stock (isub .i64 (gd v22 v24.toNat 0) (gd c1.1 v24.toNat 0))) v22 v23 (iadd .i64 v24 1) c1 (out ++ [iadd .i64 stock (isub .i64 (gd v22 v24.toNat 0) (gd c1.1 v24.toNat 0))])
  else
    impl_Case_stocks_K1 N stock out
def impl_Case_stocks_L1 (N fu_ : Nat) (stock : Int) (v22 : List Int) (v23 : Int) (v24 : Int) (c1 : (List Int) × (List Int) × (List Int) × (List Int)) (out : List Int) : Option (((List Int) × Bool) × Unit) :=
  iterK fu_ (fun kx (v_ : (Int × (List Int) × Int × Int × Unit) × (((List Int) × (List Int) × (List Int) × (List Int)) × (List Int) × Unit)) => impl_Case_stocks_B1 N (fun stock v22 v23 v24 c1 out => kx ((stock, v22, v23, v24, ()), (c1, out, ()))) v_.1.1 v_.1.2.1 v_.1.2.2.1 v_.1.2.2.2.1 v_.2.1 v_.2.2.1) ((stock, v22, v23, v24, ()), (c1, out, ()))
theorem impl_Case_stocks_L1_succ (N fu_ : Nat) (stock : Int) (v22 : List Int) (v23 : Int) (v24 : Int) (c1 : (List Int) × (List Int) × (List Int) × (List Int)) (out : List Int) : impl_Case_stocks_L1 N (fu_ + 1) stock v22 v23 v24 c1 out = impl_Case_stocks_B1 N (fun stock v22 v23 v24 c1 out => impl_Case_stocks_L1 N fu_ stock v22 v23 v24 c1 out) stock v22 v23 v24 c1 out := rfl
theorem impl_Case_stocks_L1_run (N : Nat) (stock : Nat → Int) (v22 : Nat → (List Int)) (v23 : Nat → Int) (v24 : Nat → Int) (c1 : Nat → ((List Int) × (List Int) × (List Int) × (List Int))) (out : Nat → (List Int)) (n_ : Nat) {res_ : Option (((List Int) × Bool) × Unit)} (hstep_ : ∀ j_, j_ < n_ → ∀ kx_, impl_Case_stocks_B1 N kx_ (stock j_) (v22 j_) (v23 j_) (v24 j_) (c1 j_) (out j_) = kx_ (stock (j_ + 1)) (v22 (j_ + 1)) (v23 (j_ + 1)) (v24 (j_ + 1)) (c1 (j_ + 1)) (out (j_ + 1))) (hend_ : ∀ kx_, impl_Case_stocks_B1 N kx_ (stock n_) (v22 n_) (v23 n_) (v24 n_) (c1 n_) (out n_) = res_) (fu_ : Nat) (hm_ : n_ < fu_) : impl_Case_stocks_L1 N fu_ (stock 0) (v22 0) (v23 0) (v24 0) (c1 0) (out 0) = res_ := by
  exact loop_run (L := fun fu_ (x_ : Int × (List Int) × Int × Int × ((List Int) × (List Int) × (List Int) × (List Int)) × (List Int)) => impl_Case_stocks_L1 N fu_ x_.1 x_.2.1 x_.2.2.1 x_.2.2.2.1 x_.2.2.2.2.1 x_.2.2.2.2.2) (B := fun kx_ x_ => impl_Case_stocks_B1 N (fun stock v22 v23 v24 c1 out => kx_ (stock, v22, v23, v24, c1, out)) x_.1 x_.2.1 x_.2.2.1 x_.2.2.2.1 x_.2.2.2.2.1 x_.2.2.2.2.2) (fun _ _ => rfl) (fun j_ => (stock j_, v22 j_, v23 j_, v24 j_, c1 j_, out j_)) n_ (fun j_ hi_ kx_ => hstep_ j_ hi_ _) (fun kx_ => hend_ _) fu_ hm_
def impl_Case_stocks (N : Nat) (c : (List Int) × (List Int) × (List Int) × (List Int)) (plan : List Int) : Option (((List Int) × Bool) × Unit) :=
  bif ine (len plan) (len c.1) then
    some (([], false), ())
  else
    (impl_allWithin N plan 0 160).bind fun r =>
    bif !r.1 then
      some (([], false), ())
    else
      impl_Case_stocks_L1 N N 0 plan (len plan) 0 c []
def impl_planned (N : Nat) (c : (List Int) × (List Int) × (List Int) × (List Int)) (plan : List Int) : Option (((List Int) × Bool) × Unit) :=
  (impl_IsCase N c).bind fun r =>
  bif !r.1 then
    some (([], false), ())
  else
    (impl_Case_stocks N c plan).bind fun r1 =>
    bif !r1.1.2 then
      some (([], false), ())
    else
      some ((r1.1.1, true), ())
def impl_Case_parts_K1 (N : Nat) (kx : Int → Int → Int → Int → (List Int) → Int → Int → ((List Int) × (List Int) × (List Int) × (List Int)) → Option ((Int × Int × Int) × Unit)) (setups1 : Int) (units1 : Int) (holds1 : Int) (stock1 : Int) (i : Int) (amount : Int) (v131 : List Int) (v141 : Int) (v151 : Int) (c2 : (List Int) × (List Int) × (List Int) × (List Int)) : Option ((Int × Int × Int) × Unit) :=
  chk (inB i c2.2.2.1.length) <|
  chk (inB i c2.2.2.2.length) <|
  kx setups1 (iadd .i64 units1 (imul .i64 (gd c2.2.2.1 i.toNat 0) amount)) (iadd .i64 holds1 (imul .i64 (gd c2.2.2.2 i.toNat 0) stock1)) stock1 v131 v141 (iadd .i64 v151 1) c2
def impl_Case_parts_K2 (N : Nat) (setups2 : Int) (units2 : Int) (holds2 : Int) : Option ((Int × Int × Int) × Unit) :=
  some ((setups2, (units2, holds2)), ())
def impl_Case_parts_B1 (N : Nat) (kx : Int → Int → Int → Int → (List Int) → Int → Int → ((List Int) × (List Int) × (List Int) × (List Int)) → Option ((Int × Int × Int) × Unit)) (setups : Int) (units : Int) (holds : Int) (stock : Int) (v13 : List Int) (v14 : Int) (v15 : Int) (c1 : (List Int) × (List Int) × (List Int) × (List Int)) : Option ((Int × Int × Int) × Unit) :=
  bif ilt v15 v14 then
    chk (inB v15 v13.length) <|
    chk (inB v15 c1.1.length) <|
    bif ilt 0 (gd v13 v15.toNat 0) then
      chk (inB v15 c1.2.1.length) <|
      impl_Case_parts_K1 N kx (iadd .i64 setups (gd c1.2.1 v15.toNat 0)) units holds (iadd .i64 stock (isub .i64 (gd v13 v15.toNat 0) (gd c1.1 v15.toNat 0))) v15 (gd v13 v15.toNat 0) v13 v14 v15 c1
    else
      impl_Case_parts_K1 N kx setups units holds (iadd .i64 stock (isub .i64 (gd v13 v15.toNat 0) (gd c1.1 v15.toNat 0))) v15 (gd v13 v15.toNat 0) v13 v14 v15 c1
  else
    impl_Case_parts_K2 N setups units holds
def impl_Case_parts_L1 (N fu_ : Nat) (setups : Int) (units : Int) (holds : Int) (stock : Int) (v13 : List Int) (v14 : Int) (v15 : Int) (c1 : (List Int) × (List Int) × (List Int) × (List Int)) : Option ((Int × Int × Int) × Unit) :=
  iterK fu_ (fun kx (v_ : (Int × Int × Int × Int × (List Int) × Int × Int × Unit) × (((List Int) × (List Int) × (List Int) × (List Int)) × Unit)) => impl_Case_parts_B1 N (fun setups units holds stock v13 v14 v15 c1 => kx ((setups, units, holds, stock, v13, v14, v15, ()), (c1, ()))) v_.1.1 v_.1.2.1 v_.1.2.2.1 v_.1.2.2.2.1 v_.1.2.2.2.2.1 v_.1.2.2.2.2.2.1 v_.1.2.2.2.2.2.2.1 v_.2.1) ((setups, units, holds, stock, v13, v14, v15, ()), (c1, ()))
theorem impl_Case_parts_L1_succ (N fu_ : Nat) (setups : Int) (units : Int) (holds : Int) (stock : Int) (v13 : List Int) (v14 : Int) (v15 : Int) (c1 : (List Int) × (List Int) × (List Int) × (List Int)) : impl_Case_parts_L1 N (fu_ + 1) setups units holds stock v13 v14 v15 c1 = impl_Case_parts_B1 N (fun setups units holds stock v13 v14 v15 c1 => impl_Case_parts_L1 N fu_ setups units holds stock v13 v14 v15 c1) setups units holds stock v13 v14 v15 c1 := rfl
theorem impl_Case_parts_L1_run (N : Nat) (setups : Nat → Int) (units : Nat → Int) (holds : Nat → Int) (stock : Nat → Int) (v13 : Nat → (List Int)) (v14 : Nat → Int) (v15 : Nat → Int) (c1 : Nat → ((List Int) × (List Int) × (List Int) × (List Int))) (n_ : Nat) {res_ : Option ((Int × Int × Int) × Unit)} (hstep_ : ∀ j_, j_ < n_ → ∀ kx_, impl_Case_parts_B1 N kx_ (setups j_) (units j_) (holds j_) (stock j_) (v13 j_) (v14 j_) (v15 j_) (c1 j_) = kx_ (setups (j_ + 1)) (units (j_ + 1)) (holds (j_ + 1)) (stock (j_ + 1)) (v13 (j_ + 1)) (v14 (j_ + 1)) (v15 (j_ + 1)) (c1 (j_ + 1))) (hend_ : ∀ kx_, impl_Case_parts_B1 N kx_ (setups n_) (units n_) (holds n_) (stock n_) (v13 n_) (v14 n_) (v15 n_) (c1 n_) = res_) (fu_ : Nat) (hm_ : n_ < fu_) : impl_Case_parts_L1 N fu_ (setups 0) (units 0) (holds 0) (stock 0) (v13 0) (v14 0) (v15 0) (c1 0) = res_ := by
  exact loop_run (L := fun fu_ (x_ : Int × Int × Int × Int × (List Int) × Int × Int × ((List Int) × (List Int) × (List Int) × (List Int))) => impl_Case_parts_L1 N fu_ x_.1 x_.2.1 x_.2.2.1 x_.2.2.2.1 x_.2.2.2.2.1 x_.2.2.2.2.2.1 x_.2.2.2.2.2.2.1 x_.2.2.2.2.2.2.2) (B := fun kx_ x_ => impl_Case_parts_B1 N (fun setups units holds stock v13 v14 v15 c1 => kx_ (setups, units, holds, stock, v13, v14, v15, c1)) x_.1 x_.2.1 x_.2.2.1 x_.2.2.2.1 x_.2.2.2.2.1 x_.2.2.2.2.2.1 x_.2.2.2.2.2.2.1 x_.2.2.2.2.2.2.2) (fun _ _ => rfl) (fun j_ => (setups j_, units j_, holds j_, stock j_, v13 j_, v14 j_, v15 j_, c1 j_)) n_ (fun j_ hi_ kx_ => hstep_ j_ hi_ _) (fun kx_ => hend_ _) fu_ hm_
def impl_Case_parts (N : Nat) (c : (List Int) × (List Int) × (List Int) × (List Int)) (plan : List Int) : Option ((Int × Int × Int) × Unit) :=
  impl_Case_parts_L1 N N 0 0 0 0 plan (len plan) 0 c
def impl_Case_cost (N : Nat) (c : (List Int) × (List Int) × (List Int) × (List Int)) (plan : List Int) : Option (Int × Unit) :=
  (impl_Case_parts N c plan).bind fun r =>
  some (iadd .i64 (iadd .i64 r.1.1 r.1.2.1) r.1.2.2, ())
def impl_PlanCost (N : Nat) (c : (List Int) × (List Int) × (List Int) × (List Int)) (plan : List Int) : Option ((Int × Bool) × Unit) :=
  (impl_planned N c plan).bind fun r =>
  bif !r.1.2 then
    some ((0, false), ())
  else
    (impl_Case_cost N c plan).bind fun r1 =>
    some ((r1.1, true), ())
def cmp_isNaN_int (N : Nat) (x : Int) : Option (Bool × Unit) :=
  some (ine x x, ())
def cmp_Compare_int (N : Nat) (x : Int) (y : Int) : Option (Int × Unit) :=
  (cmp_isNaN_int N x).bind fun r =>
  (cmp_isNaN_int N y).bind fun r1 =>
  bif r.1 then
    bif r1.1 then
      some (0, ())
    else
      some ((-1), ())
  else
    bif r1.1 then
      some (1, ())
    else
      bif ilt x y then
        some ((-1), ())
      else
        bif ilt y x then
          some (1, ())
        else
          some (0, ())
def slices_Compare_int_int_K1 (N : Nat) (s12 : List Int) (s22 : List Int) : Option (Int × Unit) :=
  bif ilt (len s12) (len s22) then
    some ((-1), ())
  else
    some (0, ())
def slices_Compare_int_int_B1 (N : Nat) (kx : (List Int) → (List Int) → (List Int) → Int → Int → Option (Int × Unit)) (s11 : List Int) (s21 : List Int) (v9 : List Int) (v10 : Int) (v11 : Int) : Option (Int × Unit) :=
  bif ilt v11 v10 then
    chk (inB v11 v9.length) <|
    bif ile (len s21) v11 then
      some (1, ())
    else
      chk (inB v11 s21.length) <|
      (cmp_Compare_int N (gd v9 v11.toNat 0) (gd s21 v11.toNat 0)).bind fun r =>
      bif ine r.1 0 then
        some (r.1, ())
      else
        kx s11 s21 v9 v10 (iadd .i64 v11 1)
  else
    slices_Compare_int_int_K1 N s11 s21
def slices_Compare_int_int_L1 (N fu_ : Nat) (s11 : List Int) (s21 : List Int) (v9 : List Int) (v10 : Int) (v11 : Int) : Option (Int × Unit) :=
  iterK fu_ (fun kx (v_ : ((List Int) × (List Int) × (List Int) × Int × Int × Unit) × (Unit)) => slices_Compare_int_int_B1 N (fun s11 s21 v9 v10 v11 => kx ((s11, s21, v9, v10, v11, ()), ())) v_.1.1 v_.1.2.1 v_.1.2.2.1 v_.1.2.2.2.1 v_.1.2.2.2.2.1) ((s11, s21, v9, v10, v11, ()), ())
theorem slices_Compare_int_int_L1_succ (N fu_ : Nat) (s11 : List Int) (s21 : List Int) (v9 : List Int) (v10 : Int) (v11 : Int) : slices_Compare_int_int_L1 N (fu_ + 1) s11 s21 v9 v10 v11 = slices_Compare_int_int_B1 N (fun s11 s21 v9 v10 v11 => slices_Compare_int_int_L1 N fu_ s11 s21 v9 v10 v11) s11 s21 v9 v10 v11 := rfl
theorem slices_Compare_int_int_L1_run (N : Nat) (s11 : Nat → (List Int)) (s21 : Nat → (List Int)) (v9 : Nat → (List Int)) (v10 : Nat → Int) (v11 : Nat → Int) (n_ : Nat) {res_ : Option (Int × Unit)} (hstep_ : ∀ j_, j_ < n_ → ∀ kx_, slices_Compare_int_int_B1 N kx_ (s11 j_) (s21 j_) (v9 j_) (v10 j_) (v11 j_) = kx_ (s11 (j_ + 1)) (s21 (j_ + 1)) (v9 (j_ + 1)) (v10 (j_ + 1)) (v11 (j_ + 1))) (hend_ : ∀ kx_, slices_Compare_int_int_B1 N kx_ (s11 n_) (s21 n_) (v9 n_) (v10 n_) (v11 n_) = res_) (fu_ : Nat) (hm_ : n_ < fu_) : slices_Compare_int_int_L1 N fu_ (s11 0) (s21 0) (v9 0) (v10 0) (v11 0) = res_ := by
  exact loop_run (L := fun fu_ (x_ : (List Int) × (List Int) × (List Int) × Int × Int) => slices_Compare_int_int_L1 N fu_ x_.1 x_.2.1 x_.2.2.1 x_.2.2.2.1 x_.2.2.2.2) (B := fun kx_ x_ => slices_Compare_int_int_B1 N (fun s11 s21 v9 v10 v11 => kx_ (s11, s21, v9, v10, v11)) x_.1 x_.2.1 x_.2.2.1 x_.2.2.2.1 x_.2.2.2.2) (fun _ _ => rfl) (fun j_ => (s11 j_, s21 j_, v9 j_, v10 j_, v11 j_)) n_ (fun j_ hi_ kx_ => hstep_ j_ hi_ _) (fun kx_ => hend_ _) fu_ hm_
def slices_Compare_int_int (N : Nat) (s1 : List Int) (s2 : List Int) : Option (Int × Unit) :=
  slices_Compare_int_int_L1 N N s1 s2 s1 (len s1) 0
def impl_Case_best_K1 (N : Nat) (kx : Int → Int → Int → ((List Int) × (List Int) × (List Int) × (List Int)) → (List Int) → Option (((List Int) × Int) × Unit)) (v53 : Int) (v111 : Int) (v121 : Bool) (v163 : Int) (v173 : Int) (v13 : (List Int) × (List Int) × (List Int) × (List Int)) (v43 : List Int) (v72 : List Int) : Option (((List Int) × Int) × Unit) :=
  bif ilt v53 0 then
    kx v111 v163 (iadd .i64 v173 1) v13 v72
  else
    bif ilt v111 v53 then
      kx v111 v163 (iadd .i64 v173 1) v13 v72
    else
      bif ieq v111 v53 then
        bif v121 then
          kx v111 v163 (iadd .i64 v173 1) v13 v72
        else
          kx v53 v163 (iadd .i64 v173 1) v13 v43
      else
        kx v53 v163 (iadd .i64 v173 1) v13 v43
def impl_Case_best_K2 (N : Nat) (kx : Int → Int → Int → ((List Int) × (List Int) × (List Int) × (List Int)) → (List Int) → Option (((List Int) × Int) × Unit)) (v52 : Int) (v162 : Int) (v172 : Int) (v12 : (List Int) × (List Int) × (List Int) × (List Int)) (v42 : List Int) (v71 : List Int) : Option (((List Int) × Int) × Unit) :=
  (impl_Case_planFrom N v12 v71).bind fun r =>
  bif !r.1.2 then
    kx v52 v162 (iadd .i64 v172 1) v12 v42
  else
    (impl_Case_cost N v12 r.1.1).bind fun r1 =>
    bif ilt (len v71) (len v42) then
      impl_Case_best_K1 N kx v52 r1.1 true v162 v172 v12 v42 v71
    else
      bif ieq (len v71) (len v42) then
        (slices_Compare_int_int N v71 v42).bind fun r2 =>
        impl_Case_best_K1 N kx v52 r1.1 (ilt r2.1 0) v162 v172 v12 v42 v71
      else
        impl_Case_best_K1 N kx v52 r1.1 false v162 v172 v12 v42 v71
def impl_Case_best_B1 (N : Nat) (kx : Int → Int → Int → ((List Int) × (List Int) × (List Int) × (List Int)) → (List Int) → Option (((List Int) × Int) × Unit)) (kx1 : Int → Int → Int → Int → Int → Int → ((List Int) × (List Int) × (List Int) × (List Int)) → (List Int) → (List Int) → Option (((List Int) × Int) × Unit)) (v51 : Int) (v6 : Int) (v161 : Int) (v171 : Int) (v23 : Int) (v24 : Int) (v11 : (List Int) × (List Int) × (List Int) × (List Int)) (v41 : List Int) (v7 : List Int) : Option (((List Int) × Int) × Unit) :=
  bif ilt v24 v23 then
    chk (ile 0 v24) <|
    bif ieq (iand .i64 (ishr .i64 v6 v24) 1) 1 then
      chk (fitB (v7.length + 1) 8) <|
      kx1 v51 v6 v161 v171 v23 (iadd .i64 v24 1) v11 v41 (v7 ++ [v24])
    else
      kx1 v51 v6 v161 v171 v23 (iadd .i64 v24 1) v11 v41 v7
  else
    impl_Case_best_K2 N kx v51 v161 v171 v11 v41 v7
def impl_Case_best_L1 (N fu_ : Nat) (kx : Int → Int → Int → ((List Int) × (List Int) × (List Int) × (List Int)) → (List Int) → Option (((List Int) × Int) × Unit)) (v51 : Int) (v6 : Int) (v161 : Int) (v171 : Int) (v23 : Int) (v24 : Int) (v11 : (List Int) × (List Int) × (List Int) × (List Int)) (v41 : List Int) (v7 : List Int) : Option (((List Int) × Int) × Unit) :=
  iterK fu_ (fun kx1 (v_ : (Int × Int × Int × Int × Int × Int × Unit) × (((List Int) × (List Int) × (List Int) × (List Int)) × (List Int) × (List Int) × Unit)) => impl_Case_best_B1 N kx (fun v51 v6 v161 v171 v23 v24 v11 v41 v7 => kx1 ((v51, v6, v161, v171, v23, v24, ()), (v11, v41, v7, ()))) v_.1.1 v_.1.2.1 v_.1.2.2.1 v_.1.2.2.2.1 v_.1.2.2.2.2.1 v_.1.2.2.2.2.2.1 v_.2.1 v_.2.2.1 v_.2.2.2.1) ((v51, v6, v161, v171, v23, v24, ()), (v11, v41, v7, ()))
theorem impl_Case_best_L1_succ (N fu_ : Nat) (kx : Int → Int → Int → ((List Int) × (List Int) × (List Int) × (List Int)) → (List Int) → Option (((List Int) × Int) × Unit)) (v51 : Int) (v6 : Int) (v161 : Int) (v171 : Int) (v23 : Int) (v24 : Int) (v11 : (List Int) × (List Int) × (List Int) × (List Int)) (v41 : List Int) (v7 : List Int) : impl_Case_best_L1 N (fu_ + 1) kx v51 v6 v161 v171 v23 v24 v11 v41 v7 = impl_Case_best_B1 N kx (fun v51 v6 v161 v171 v23 v24 v11 v41 v7 => impl_Case_best_L1 N fu_ kx v51 v6 v161 v171 v23 v24 v11 v41 v7) v51 v6 v161 v171 v23 v24 v11 v41 v7 := rfl
theorem impl_Case_best_L1_run (N : Nat) (kx : Int → Int → Int → ((List Int) × (List Int) × (List Int) × (List Int)) → (List Int) → Option (((List Int) × Int) × Unit)) (v51 : Nat → Int) (v6 : Nat → Int) (v161 : Nat → Int) (v171 : Nat → Int) (v23 : Nat → Int) (v24 : Nat → Int) (v11 : Nat → ((List Int) × (List Int) × (List Int) × (List Int))) (v41 : Nat → (List Int)) (v7 : Nat → (List Int)) (n_ : Nat) {res_ : Option (((List Int) × Int) × Unit)} (hstep_ : ∀ j_, j_ < n_ → ∀ kx_, impl_Case_best_B1 N kx kx_ (v51 j_) (v6 j_) (v161 j_) (v171 j_) (v23 j_) (v24 j_) (v11 j_) (v41 j_) (v7 j_) = kx_ (v51 (j_ + 1)) (v6 (j_ + 1)) (v161 (j_ + 1)) (v171 (j_ + 1)) (v23 (j_ + 1)) (v24 (j_ + 1)) (v11 (j_ + 1)) (v41 (j_ + 1)) (v7 (j_ + 1))) (hend_ : ∀ kx_, impl_Case_best_B1 N kx kx_ (v51 n_) (v6 n_) (v161 n_) (v171 n_) (v23 n_) (v24 n_) (v11 n_) (v41 n_) (v7 n_) = res_) (fu_ : Nat) (hm_ : n_ < fu_) : impl_Case_best_L1 N fu_ kx (v51 0) (v6 0) (v161 0) (v171 0) (v23 0) (v24 0) (v11 0) (v41 0) (v7 0) = res_ := by
  exact loop_run (L := fun fu_ (x_ : Int × Int × Int × Int × Int × Int × ((List Int) × (List Int) × (List Int) × (List Int)) × (List Int) × (List Int)) => impl_Case_best_L1 N fu_ kx x_.1 x_.2.1 x_.2.2.1 x_.2.2.2.1 x_.2.2.2.2.1 x_.2.2.2.2.2.1 x_.2.2.2.2.2.2.1 x_.2.2.2.2.2.2.2.1 x_.2.2.2.2.2.2.2.2) (B := fun kx_ x_ => impl_Case_best_B1 N kx (fun v51 v6 v161 v171 v23 v24 v11 v41 v7 => kx_ (v51, v6, v161, v171, v23, v24, v11, v41, v7)) x_.1 x_.2.1 x_.2.2.1 x_.2.2.2.1 x_.2.2.2.2.1 x_.2.2.2.2.2.1 x_.2.2.2.2.2.2.1 x_.2.2.2.2.2.2.2.1 x_.2.2.2.2.2.2.2.2) (fun _ _ => rfl) (fun j_ => (v51 j_, v6 j_, v161 j_, v171 j_, v23 j_, v24 j_, v11 j_, v41 j_, v7 j_)) n_ (fun j_ hi_ kx_ => hstep_ j_ hi_ _) (fun kx_ => hend_ _) fu_ hm_
def impl_Case_best_K3 (N : Nat) (v54 : Int) (v44 : List Int) : Option (((List Int) × Int) × Unit) :=
  some ((v44, v54), ())
def impl_Case_best_B2 (N : Nat) (kx : Int → Int → Int → ((List Int) × (List Int) × (List Int) × (List Int)) → (List Int) → Option (((List Int) × Int) × Unit)) (v5 : Int) (v16 : Int) (v17 : Int) (v1 : (List Int) × (List Int) × (List Int) × (List Int)) (v4 : List Int) : Option (((List Int) × Int) × Unit) :=
  bif ilt v17 v16 then
    impl_Case_best_L1 N N kx v5 v17 v16 v17 (len v1.1) 0 v1 v4 []
  else
    impl_Case_best_K3 N v5 v4
def impl_Case_best_L2 (N fu_ : Nat) (v5 : Int) (v16 : Int) (v17 : Int) (v1 : (List Int) × (List Int) × (List Int) × (List Int)) (v4 : List Int) : Option (((List Int) × Int) × Unit) :=
  iterK fu_ (fun kx (v_ : (Int × Int × Int × Unit) × (((List Int) × (List Int) × (List Int) × (List Int)) × (List Int) × Unit)) => impl_Case_best_B2 N (fun v5 v16 v17 v1 v4 => kx ((v5, v16, v17, ()), (v1, v4, ()))) v_.1.1 v_.1.2.1 v_.1.2.2.1 v_.2.1 v_.2.2.1) ((v5, v16, v17, ()), (v1, v4, ()))
theorem impl_Case_best_L2_succ (N fu_ : Nat) (v5 : Int) (v16 : Int) (v17 : Int) (v1 : (List Int) × (List Int) × (List Int) × (List Int)) (v4 : List Int) : impl_Case_best_L2 N (fu_ + 1) v5 v16 v17 v1 v4 = impl_Case_best_B2 N (fun v5 v16 v17 v1 v4 => impl_Case_best_L2 N fu_ v5 v16 v17 v1 v4) v5 v16 v17 v1 v4 := rfl
theorem impl_Case_best_L2_run (N : Nat) (v5 : Nat → Int) (v16 : Nat → Int) (v17 : Nat → Int) (v1 : Nat → ((List Int) × (List Int) × (List Int) × (List Int))) (v4 : Nat → (List Int)) (n_ : Nat) {res_ : Option (((List Int) × Int) × Unit)} (hstep_ : ∀ j_, j_ < n_ → ∀ kx_, impl_Case_best_B2 N kx_ (v5 j_) (v16 j_) (v17 j_) (v1 j_) (v4 j_) = kx_ (v5 (j_ + 1)) (v16 (j_ + 1)) (v17 (j_ + 1)) (v1 (j_ + 1)) (v4 (j_ + 1))) (hend_ : ∀ kx_, impl_Case_best_B2 N kx_ (v5 n_) (v16 n_) (v17 n_) (v1 n_) (v4 n_) = res_) (fu_ : Nat) (hm_ : n_ < fu_) : impl_Case_best_L2 N fu_ (v5 0) (v16 0) (v17 0) (v1 0) (v4 0) = res_ := by
  exact loop_run (L := fun fu_ (x_ : Int × Int × Int × ((List Int) × (List Int) × (List Int) × (List Int)) × (List Int)) => impl_Case_best_L2 N fu_ x_.1 x_.2.1 x_.2.2.1 x_.2.2.2.1 x_.2.2.2.2) (B := fun kx_ x_ => impl_Case_best_B2 N (fun v5 v16 v17 v1 v4 => kx_ (v5, v16, v17, v1, v4)) x_.1 x_.2.1 x_.2.2.1 x_.2.2.2.1 x_.2.2.2.2) (fun _ _ => rfl) (fun j_ => (v5 j_, v16 j_, v17 j_, v1 j_, v4 j_)) n_ (fun j_ hi_ kx_ => hstep_ j_ hi_ _) (fun kx_ => hend_ _) fu_ hm_
def impl_Case_best (N : Nat) (app : (List Int) × (List Int) × (List Int) × (List Int)) : Option (((List Int) × Int) × Unit) :=
  chk (ile 0 (len app.1)) <|
  impl_Case_best_L2 N N (-1) (ishl .i64 1 (len app.1)) 0 app []
def impl_BestCost (N : Nat) (c : (List Int) × (List Int) × (List Int) × (List Int)) : Option ((Int × Bool) × Unit) :=
  (impl_IsCase N c).bind fun r =>
  bif !r.1 then
    some ((0, false), ())
  else
    (impl_Case_best N c).bind fun r1 =>
    some ((r1.1.2, true), ())
def impl_WaitsNever_K1 (N : Nat) : Option ((Bool × Bool) × Unit) :=
  some ((true, true), ())
def impl_WaitsNever_B1 (N : Nat) (kx : Int → ((List Int) × (List Int) × (List Int) × (List Int)) → Option ((Bool × Bool) × Unit)) (i : Int) (c1 : (List Int) × (List Int) × (List Int) × (List Int)) : Option ((Bool × Bool) × Unit) :=
  bif ilt i (len c1.1) then
    chk (inB (isub .i64 i 1) c1.2.2.1.length) <|
    chk (inB (isub .i64 i 1) c1.2.2.2.length) <|
    chk (inB i c1.2.2.1.length) <|
    bif ilt (iadd .i64 (gd c1.2.2.1 (isub .i64 i 1).toNat 0) (gd c1.2.2.2 (isub .i64 i 1).toNat 0)) (gd c1.2.2.1 i.toNat 0) then
      some ((false, true), ())
    else
      kx (iadd .i64 i 1) c1
  else
    impl_WaitsNever_K1 N
def impl_WaitsNever_L1 (N fu_ : Nat) (i : Int) (c1 : (List Int) × (List Int) × (List Int) × (List Int)) : Option ((Bool × Bool) × Unit) :=
  iterK fu_ (fun kx (v_ : (Int × Unit) × (((List Int) × (List Int) × (List Int) × (List Int)) × Unit)) => impl_WaitsNever_B1 N (fun i c1 => kx ((i, ()), (c1, ()))) v_.1.1 v_.2.1) ((i, ()), (c1, ()))
theorem impl_WaitsNever_L1_succ (N fu_ : Nat) (i : Int) (c1 : (List Int) × (List Int) × (List Int) × (List Int)) : impl_WaitsNever_L1 N (fu_ + 1) i c1 = impl_WaitsNever_B1 N (fun i c1 => impl_WaitsNever_L1 N fu_ i c1) i c1 := rfl
theorem impl_WaitsNever_L1_run (N : Nat) (i : Nat → Int) (c1 : Nat → ((List Int) × (List Int) × (List Int) × (List Int))) (n_ : Nat) {res_ : Option ((Bool × Bool) × Unit)} (hstep_ : ∀ j_, j_ < n_ → ∀ kx_, impl_WaitsNever_B1 N kx_ (i j_) (c1 j_) = kx_ (i (j_ + 1)) (c1 (j_ + 1))) (hend_ : ∀ kx_, impl_WaitsNever_B1 N kx_ (i n_) (c1 n_) = res_) (fu_ : Nat) (hm_ : n_ < fu_) : impl_WaitsNever_L1 N fu_ (i 0) (c1 0) = res_ := by
  exact loop_run (L := fun fu_ (x_ : Int × ((List Int) × (List Int) × (List Int) × (List Int))) => impl_WaitsNever_L1 N fu_ x_.1 x_.2) (B := fun kx_ x_ => impl_WaitsNever_B1 N (fun i c1 => kx_ (i, c1)) x_.1 x_.2) (fun _ _ => rfl) (fun j_ => (i j_, c1 j_)) n_ (fun j_ hi_ kx_ => hstep_ j_ hi_ _) (fun kx_ => hend_ _) fu_ hm_
def impl_WaitsNever (N : Nat) (c : (List Int) × (List Int) × (List Int) × (List Int)) : Option ((Bool × Bool) × Unit) :=
  (impl_IsCase N c).bind fun r =>
  bif !r.1 then
    some ((false, false), ())
  else
    impl_WaitsNever_L1 N N 1 c
def impl_Case_backward_K1 (N : Nat) (kx : Int → Int → ((List Int) × (List Int) × (List Int) × (List Int)) → (List Int) → Option ((List Int) × Unit)) (n2 : Int) (i2 : Int) (c3 : (List Int) × (List Int) × (List Int) × (List Int)) (out2 : List Int) : Option ((List Int) × Unit) :=
  kx n2 (isub .i64 i2 1) c3 out2
def impl_Case_backward_B1 (N : Nat) (kx : Int → Int → ((List Int) × (List Int) × (List Int) × (List Int)) → (List Int) → Option ((List Int) × Unit)) (kx1 : Int → Int → Int → ((List Int) × (List Int) × (List Int) × (List Int)) → (List Int) → Option ((List Int) × Unit)) (n1 : Int) (i1 : Int) (j : Int) (c2 : (List Int) × (List Int) × (List Int) × (List Int)) (out1 : List Int) : Option ((List Int) × Unit) :=
  bif ilt j n1 then
    chk (inB i1 out1.length) <|
    (impl_Case_span N c2 i1 j).bind fun r1 =>
    chk (inB j out1.length) <|
    chk (inB i1 out1.length) <|
    kx1 n1 i1 (iadd .i64 j 1) c2 (List.set out1 i1.toNat (imin (gd out1 i1.toNat 0) (iadd .i64 r1.1 (gd out1 j.toNat 0))))
  else
    impl_Case_backward_K1 N kx n1 i1 c2 out1
def impl_Case_backward_L1 (N fu_ : Nat) (kx : Int → Int → ((List Int) × (List Int) × (List Int) × (List Int)) → (List Int) → Option ((List Int) × Unit)) (n1 : Int) (i1 : Int) (j : Int) (c2 : (List Int) × (List Int) × (List Int) × (List Int)) (out1 : List Int) : Option ((List Int) × Unit) :=
  iterK fu_ (fun kx1 (v_ : (Int × Int × Int × Unit) × (((List Int) × (List Int) × (List Int) × (List Int)) × (List Int) × Unit)) => impl_Case_backward_B1 N kx (fun n1 i1 j c2 out1 => kx1 ((n1, i1, j, ()), (c2, out1, ()))) v_.1.1 v_.1.2.1 v_.1.2.2.1 v_.2.1 v_.2.2.1) ((n1, i1, j, ()), (c2, out1, ()))
theorem impl_Case_backward_L1_succ (N fu_ : Nat) (kx : Int → Int → ((List Int) × (List Int) × (List Int) × (List Int)) → (List Int) → Option ((List Int) × Unit)) (n1 : Int) (i1 : Int) (j : Int) (c2 : (List Int) × (List Int) × (List Int) × (List Int)) (out1 : List Int) : impl_Case_backward_L1 N (fu_ + 1) kx n1 i1 j c2 out1 = impl_Case_backward_B1 N kx (fun n1 i1 j c2 out1 => impl_Case_backward_L1 N fu_ kx n1 i1 j c2 out1) n1 i1 j c2 out1 := rfl
theorem impl_Case_backward_L1_run (N : Nat) (kx : Int → Int → ((List Int) × (List Int) × (List Int) × (List Int)) → (List Int) → Option ((List Int) × Unit)) (n1 : Nat → Int) (i1 : Nat → Int) (j : Nat → Int) (c2 : Nat → ((List Int) × (List Int) × (List Int) × (List Int))) (out1 : Nat → (List Int)) (n_ : Nat) {res_ : Option ((List Int) × Unit)} (hstep_ : ∀ j_, j_ < n_ → ∀ kx_, impl_Case_backward_B1 N kx kx_ (n1 j_) (i1 j_) (j j_) (c2 j_) (out1 j_) = kx_ (n1 (j_ + 1)) (i1 (j_ + 1)) (j (j_ + 1)) (c2 (j_ + 1)) (out1 (j_ + 1))) (hend_ : ∀ kx_, impl_Case_backward_B1 N kx kx_ (n1 n_) (i1 n_) (j n_) (c2 n_) (out1 n_) = res_) (fu_ : Nat) (hm_ : n_ < fu_) : impl_Case_backward_L1 N fu_ kx (n1 0) (i1 0) (j 0) (c2 0) (out1 0) = res_ := by
  exact loop_run (L := fun fu_ (x_ : Int × Int × Int × ((List Int) × (List Int) × (List Int) × (List Int)) × (List Int)) => impl_Case_backward_L1 N fu_ kx x_.1 x_.2.1 x_.2.2.1 x_.2.2.2.1 x_.2.2.2.2) (B := fun kx_ x_ => impl_Case_backward_B1 N kx (fun n1 i1 j c2 out1 => kx_ (n1, i1, j, c2, out1)) x_.1 x_.2.1 x_.2.2.1 x_.2.2.2.1 x_.2.2.2.2) (fun _ _ => rfl) (fun j_ => (n1 j_, i1 j_, j j_, c2 j_, out1 j_)) n_ (fun j_ hi_ kx_ => hstep_ j_ hi_ _) (fun kx_ => hend_ _) fu_ hm_
def impl_Case_backward_K2 (N : Nat) (out3 : List Int) : Option ((List Int) × Unit) :=
  some (out3, ())
def impl_Case_backward_B2 (N : Nat) (kx : Int → Int → ((List Int) × (List Int) × (List Int) × (List Int)) → (List Int) → Option ((List Int) × Unit)) (n : Int) (i : Int) (c1 : (List Int) × (List Int) × (List Int) × (List Int)) (out : List Int) : Option ((List Int) × Unit) :=
  bif ile 0 i then
    (impl_Case_span N c1 i n).bind fun r =>
    chk (inB i out.length) <|
    impl_Case_backward_L1 N N kx n i (iadd .i64 i 1) c1 (List.set out i.toNat r.1)
  else
    impl_Case_backward_K2 N out
def impl_Case_backward_L2 (N fu_ : Nat) (n : Int) (i : Int) (c1 : (List Int) × (List Int) × (List Int) × (List Int)) (out : List Int) : Option ((List Int) × Unit) :=
  iterK fu_ (fun kx (v_ : (Int × Int × Unit) × (((List Int) × (List Int) × (List Int) × (List Int)) × (List Int) × Unit)) => impl_Case_backward_B2 N (fun n i c1 out => kx ((n, i, ()), (c1, out, ()))) v_.1.1 v_.1.2.1 v_.2.1 v_.2.2.1) ((n, i, ()), (c1, out, ()))
theorem impl_Case_backward_L2_succ (N fu_ : Nat) (n : Int) (i : Int) (c1 : (List Int) × (List Int) × (List Int) × (List Int)) (out : List Int) : impl_Case_backward_L2 N (fu_ + 1) n i c1 out = impl_Case_backward_B2 N (fun n i c1 out => impl_Case_backward_L2 N fu_ n i c1 out) n i c1 out := rfl
theorem impl_Case_backward_L2_run (N : Nat) (n : Nat → Int) (i : Nat → Int) (c1 : Nat → ((List Int) × (List Int) × (List Int) × (List Int))) (out : Nat → (List Int)) (n_ : Nat) {res_ : Option ((List Int) × Unit)} (hstep_ : ∀ j_, j_ < n_ → ∀ kx_, impl_Case_backward_B2 N kx_ (n j_) (i j_) (c1 j_) (out j_) = kx_ (n (j_ + 1)) (i (j_ + 1)) (c1 (j_ + 1)) (out (j_ + 1))) (hend_ : ∀ kx_, impl_Case_backward_B2 N kx_ (n n_) (i n_) (c1 n_) (out n_) = res_) (fu_ : Nat) (hm_ : n_ < fu_) : impl_Case_backward_L2 N fu_ (n 0) (i 0) (c1 0) (out 0) = res_ := by
  exact loop_run (L := fun fu_ (x_ : Int × Int × ((List Int) × (List Int) × (List Int) × (List Int)) × (List Int)) => impl_Case_backward_L2 N fu_ x_.1 x_.2.1 x_.2.2.1 x_.2.2.2) (B := fun kx_ x_ => impl_Case_backward_B2 N (fun n i c1 out => kx_ (n, i, c1, out)) x_.1 x_.2.1 x_.2.2.1 x_.2.2.2) (fun _ _ => rfl) (fun j_ => (n j_, i j_, c1 j_, out j_)) n_ (fun j_ hi_ kx_ => hstep_ j_ hi_ _) (fun kx_ => hend_ _) fu_ hm_
def impl_Case_backward (N : Nat) (c : (List Int) × (List Int) × (List Int) × (List Int)) : Option ((List Int) × Unit) :=
  chk (mkB (iadd .i64 (len c.1) 1) 8) <|
  impl_Case_backward_L2 N N (len c.1) (isub .i64 (len c.1) 1) c (List.replicate (iadd .i64 (len c.1) 1).toNat 0)
def impl_TurningPeriods_K1 (N : Nat) (out1 : List Int) : Option (((List Int) × Bool) × Unit) :=
  some ((out1, true), ())
def impl_TurningPeriods_B1 (N : Nat) (kx : Int → Int → (List Int) → (List Int) → (List Int) → Option (((List Int) × Bool) × Unit)) (v18 : Int) (v19 : Int) (out : List Int) (backward : List Int) (v17 : List Int) : Option (((List Int) × Bool) × Unit) :=
  bif ilt v19 v18 then
    chk (inB v19 v17.length) <|
    chk (inB v19 backward.length) <|
    chk (inB 0 backward.length) <|
    bif ieq (iadd .i64 (gd v17 v19.toNat 0) (gd backward v19.toNat 0)) (gd backward 0 0) then
      chk (fitB (out.length + 1) 8) <|
      kx v18 (iadd .i64 v19 1) (out ++ [v19]) backward v17
    else
      kx v18 (iadd .i64 v19 1) out backward v17
  else
    impl_TurningPeriods_K1 N out
def impl_TurningPeriods_L1 (N fu_ : Nat) (v18 : Int) (v19 : Int) (out : List Int) (backward : List Int) (v17 : List Int) : Option (((List Int) × Bool) × Unit) :=
  iterK fu_ (fun kx (v_ : (Int × Int × Unit) × ((List Int) × (List Int) × (List Int) × Unit)) => impl_TurningPeriods_B1 N (fun v18 v19 out backward v17 => kx ((v18, v19, ()), (out, backward, v17, ()))) v_.1.1 v_.1.2.1 v_.2.1 v_.2.2.1 v_.2.2.2.1) ((v18, v19, ()), (out, backward, v17, ()))
theorem impl_TurningPeriods_L1_succ (N fu_ : Nat) (v18 : Int) (v19 : Int) (out : List Int) (backward : List Int) (v17 : List Int) : impl_TurningPeriods_L1 N (fu_ + 1) v18 v19 out backward v17 = impl_TurningPeriods_B1 N (fun v18 v19 out backward v17 => impl_TurningPeriods_L1 N fu_ v18 v19 out backward v17) v18 v19 out backward v17 := rfl
theorem impl_TurningPeriods_L1_run (N : Nat) (v18 : Nat → Int) (v19 : Nat → Int) (out : Nat → (List Int)) (backward : Nat → (List Int)) (v17 : Nat → (List Int)) (n_ : Nat) {res_ : Option (((List Int) × Bool) × Unit)} (hstep_ : ∀ j_, j_ < n_ → ∀ kx_, impl_TurningPeriods_B1 N kx_ (v18 j_) (v19 j_) (out j_) (backward j_) (v17 j_) = kx_ (v18 (j_ + 1)) (v19 (j_ + 1)) (out (j_ + 1)) (backward (j_ + 1)) (v17 (j_ + 1))) (hend_ : ∀ kx_, impl_TurningPeriods_B1 N kx_ (v18 n_) (v19 n_) (out n_) (backward n_) (v17 n_) = res_) (fu_ : Nat) (hm_ : n_ < fu_) : impl_TurningPeriods_L1 N fu_ (v18 0) (v19 0) (out 0) (backward 0) (v17 0) = res_ := by
  exact loop_run (L := fun fu_ (x_ : Int × Int × (List Int) × (List Int) × (List Int)) => impl_TurningPeriods_L1 N fu_ x_.1 x_.2.1 x_.2.2.1 x_.2.2.2.1 x_.2.2.2.2) (B := fun kx_ x_ => impl_TurningPeriods_B1 N (fun v18 v19 out backward v17 => kx_ (v18, v19, out, backward, v17)) x_.1 x_.2.1 x_.2.2.1 x_.2.2.2.1 x_.2.2.2.2) (fun _ _ => rfl) (fun j_ => (v18 j_, v19 j_, out j_, backward j_, v17 j_)) n_ (fun j_ hi_ kx_ => hstep_ j_ hi_ _) (fun kx_ => hend_ _) fu_ hm_
def impl_TurningPeriods (N : Nat) (c : (List Int) × (List Int) × (List Int) × (List Int)) : Option (((List Int) × Bool) × Unit) :=
  (impl_IsCase N c).bind fun r =>
  bif !r.1 then
    some (([], false), ())
  else
    (impl_Case_forward N c).bind fun r1 =>
    (impl_Case_backward N c).bind fun r2 =>
    impl_TurningPeriods_L1 N N (len r1.1) 0 [] r2.1 r1.1
def laws_vHas_K1 (N : Nat) : Option (Bool × Unit) :=
  some (false, ())
def laws_vHas_B1 (N : Nat) (kx : (List Int) → Int → Int → Option (Bool × Unit)) (l1 : List Int) (x1 : Int) (i : Int) : Option (Bool × Unit) :=
  bif ilt i (len l1) then
    chk (inB i l1.length) <|
    bif ieq (gd l1 i.toNat 0) x1 then
      some (true, ())
    else
      kx l1 x1 (iadd .i64 i 1)
  else
    laws_vHas_K1 N
def laws_vHas_L1 (N fu_ : Nat) (l1 : List Int) (x1 : Int) (i : Int) : Option (Bool × Unit) :=
  iterK fu_ (fun kx (v_ : ((List Int) × Int × Int × Unit) × (Unit)) => laws_vHas_B1 N (fun l1 x1 i => kx ((l1, x1, i, ()), ())) v_.1.1 v_.1.2.1 v_.1.2.2.1) ((l1, x1, i, ()), ())
theorem laws_vHas_L1_succ (N fu_ : Nat) (l1 : List Int) (x1 : Int) (i : Int) : laws_vHas_L1 N (fu_ + 1) l1 x1 i = laws_vHas_B1 N (fun l1 x1 i => laws_vHas_L1 N fu_ l1 x1 i) l1 x1 i := rfl
theorem laws_vHas_L1_run (N : Nat) (l1 : Nat → (List Int)) (x1 : Nat → Int) (i : Nat → Int) (n_ : Nat) {res_ : Option (Bool × Unit)} (hstep_ : ∀ j_, j_ < n_ → ∀ kx_, laws_vHas_B1 N kx_ (l1 j_) (x1 j_) (i j_) = kx_ (l1 (j_ + 1)) (x1 (j_ + 1)) (i (j_ + 1))) (hend_ : ∀ kx_, laws_vHas_B1 N kx_ (l1 n_) (x1 n_) (i n_) = res_) (fu_ : Nat) (hm_ : n_ < fu_) : laws_vHas_L1 N fu_ (l1 0) (x1 0) (i 0) = res_ := by
  exact loop_run (L := fun fu_ (x_ : (List Int) × Int × Int) => laws_vHas_L1 N fu_ x_.1 x_.2.1 x_.2.2) (B := fun kx_ x_ => laws_vHas_B1 N (fun l1 x1 i => kx_ (l1, x1, i)) x_.1 x_.2.1 x_.2.2) (fun _ _ => rfl) (fun j_ => (l1 j_, x1 j_, i j_)) n_ (fun j_ hi_ kx_ => hstep_ j_ hi_ _) (fun kx_ => hend_ _) fu_ hm_
def laws_vHas (N : Nat) (l : List Int) (x : Int) : Option (Bool × Unit) :=
  laws_vHas_L1 N N l x 0
def laws_FnHorizons_K1 (N : Nat) (kx : Bool → Bool → Int → ((List Int) × (List Int) × (List Int) × (List Int)) → ((List Int) × Bool) → ((List Int) × Bool) → ((List Int) × Bool) → Option (Bool × Unit)) (v221 : Bool) (v261 : Bool) (v271 : Int) (v31 : (List Int) × (List Int) × (List Int) × (List Int)) (b351 : (List Int) × Bool) (b451 : (List Int) × Bool) (b1201 : (List Int) × Bool) : Option (Bool × Unit) :=
  (laws_vHas N b351.1 v271).bind fun r16 =>
  chk (inB (isub .i64 v271 1) b451.1.length) <|
  bif ieq (gd b451.1 (isub .i64 v271 1).toNat 0) (isub .i64 v271 1) then
    chk (inB (isub .i64 v271 1) v31.1.length) <|
    bif !(Go.Rx.beq r16.1 (ilt 0 (gd v31.1 (isub .i64 v271 1).toNat 0))) then
      some (false, ())
    else
      bif v221 then
        (laws_vHas N b351.1 v271).bind fun r17 =>
        bif r17.1 then
          (laws_vHas N b1201.1 (isub .i64 v271 1)).bind fun r18 =>
          bif !r18.1 then
            some (false, ())
          else
            kx v221 v261 (iadd .i64 v271 1) v31 b351 b451 b1201
        else
          kx v221 v261 (iadd .i64 v271 1) v31 b351 b451 b1201
      else
        kx v221 v261 (iadd .i64 v271 1) v31 b351 b451 b1201
  else
    bif !(Go.Rx.beq r16.1 false) then
      some (false, ())
    else
      bif v221 then
        (laws_vHas N b351.1 v271).bind fun r19 =>
        bif r19.1 then
          (laws_vHas N b1201.1 (isub .i64 v271 1)).bind fun r20 =>
          bif !r20.1 then
            some (false, ())
          else
            kx v221 v261 (iadd .i64 v271 1) v31 b351 b451 b1201
        else
          kx v221 v261 (iadd .i64 v271 1) v31 b351 b451 b1201
      else
        kx v221 v261 (iadd .i64 v271 1) v31 b351 b451 b1201
def laws_FnHorizons_K2 (N : Nat) : Option (Bool × Unit) :=
  some (true, ())
def laws_FnHorizons_B1 (N : Nat) (kx1 : Bool → Bool → Int → ((List Int) × Bool) → Option (Bool × Unit)) (v223 : Bool) (v263 : Bool) (v28 : Int) (b453 : (List Int) × Bool) : Option (Bool × Unit) :=
  bif v223 then
    bif v263 then
      bif ilt v28 (len b453.1) then
        chk (inB v28 b453.1.length) <|
        chk (inB (isub .i64 v28 1) b453.1.length) <|
        bif ilt (gd b453.1 v28.toNat 0) (gd b453.1 (isub .i64 v28 1).toNat 0) then
          some (false, ())
        else
          kx1 v223 v263 (iadd .i64 v28 1) b453
      else
        laws_FnHorizons_K2 N
    else
      laws_FnHorizons_K2 N
  else
    laws_FnHorizons_K2 N
def laws_FnHorizons_L1 (N fu_ : Nat) (v223 : Bool) (v263 : Bool) (v28 : Int) (b453 : (List Int) × Bool) : Option (Bool × Unit) :=
  iterK fu_ (fun kx1 (v_ : (Bool × Bool × Int × Unit) × (((List Int) × Bool) × Unit)) => laws_FnHorizons_B1 N (fun v223 v263 v28 b453 => kx1 ((v223, v263, v28, ()), (b453, ()))) v_.1.1 v_.1.2.1 v_.1.2.2.1 v_.2.1) ((v223, v263, v28, ()), (b453, ()))
theorem laws_FnHorizons_L1_succ (N fu_ : Nat) (v223 : Bool) (v263 : Bool) (v28 : Int) (b453 : (List Int) × Bool) : laws_FnHorizons_L1 N (fu_ + 1) v223 v263 v28 b453 = laws_FnHorizons_B1 N (fun v223 v263 v28 b453 => laws_FnHorizons_L1 N fu_ v223 v263 v28 b453) v223 v263 v28 b453 := rfl
theorem laws_FnHorizons_L1_run (N : Nat) (v223 : Nat → Bool) (v263 : Nat → Bool) (v28 : Nat → Int) (b453 : Nat → ((List Int) × Bool)) (n_ : Nat) {res_ : Option (Bool × Unit)} (hstep_ : ∀ j_, j_ < n_ → ∀ kx_, laws_FnHorizons_B1 N kx_ (v223 j_) (v263 j_) (v28 j_) (b453 j_) = kx_ (v223 (j_ + 1)) (v263 (j_ + 1)) (v28 (j_ + 1)) (b453 (j_ + 1))) (hend_ : ∀ kx_, laws_FnHorizons_B1 N kx_ (v223 n_) (v263 n_) (v28 n_) (b453 n_) = res_) (fu_ : Nat) (hm_ : n_ < fu_) : laws_FnHorizons_L1 N fu_ (v223 0) (v263 0) (v28 0) (b453 0) = res_ := by
  exact loop_run (L := fun fu_ (x_ : Bool × Bool × Int × ((List Int) × Bool)) => laws_FnHorizons_L1 N fu_ x_.1 x_.2.1 x_.2.2.1 x_.2.2.2) (B := fun kx_ x_ => laws_FnHorizons_B1 N (fun v223 v263 v28 b453 => kx_ (v223, v263, v28, b453)) x_.1 x_.2.1 x_.2.2.1 x_.2.2.2) (fun _ _ => rfl) (fun j_ => (v223 j_, v263 j_, v28 j_, b453 j_)) n_ (fun j_ hi_ kx_ => hstep_ j_ hi_ _) (fun kx_ => hend_ _) fu_ hm_
def laws_FnHorizons_K3 (N : Nat) (v222 : Bool) (v262 : Bool) (b452 : (List Int) × Bool) : Option (Bool × Unit) :=
  laws_FnHorizons_L1 N N v222 v262 1 b452
def laws_FnHorizons_B2 (N : Nat) (kx : Bool → Bool → Int → ((List Int) × (List Int) × (List Int) × (List Int)) → ((List Int) × Bool) → ((List Int) × Bool) → ((List Int) × Bool) → Option (Bool × Unit)) (v22 : Bool) (v26 : Bool) (v27 : Int) (v3 : (List Int) × (List Int) × (List Int) × (List Int)) (b35 : (List Int) × Bool) (b45 : (List Int) × Bool) (b120 : (List Int) × Bool) : Option (Bool × Unit) :=
  bif ile v27 (len b45.1) then
    bif v26 then
      chk (inB (isub .i64 v27 1) v3.1.length) <|
      laws_FnHorizons_K1 N kx v22 (ilt 0 (gd v3.1 (isub .i64 v27 1).toNat 0)) v27 v3 b35 b45 b120
    else
      laws_FnHorizons_K1 N kx v22 false v27 v3 b35 b45 b120
  else
    laws_FnHorizons_K3 N v22 v26 b45
def laws_FnHorizons_L2 (N fu_ : Nat) (v22 : Bool) (v26 : Bool) (v27 : Int) (v3 : (List Int) × (List Int) × (List Int) × (List Int)) (b35 : (List Int) × Bool) (b45 : (List Int) × Bool) (b120 : (List Int) × Bool) : Option (Bool × Unit) :=
  iterK fu_ (fun kx (v_ : (Bool × Bool × Int × Unit) × (((List Int) × (List Int) × (List Int) × (List Int)) × ((List Int) × Bool) × ((List Int) × Bool) × ((List Int) × Bool) × Unit)) => laws_FnHorizons_B2 N (fun v22 v26 v27 v3 b35 b45 b120 => kx ((v22, v26, v27, ()), (v3, b35, b45, b120, ()))) v_.1.1 v_.1.2.1 v_.1.2.2.1 v_.2.1 v_.2.2.1 v_.2.2.2.1 v_.2.2.2.2.1) ((v22, v26, v27, ()), (v3, b35, b45, b120, ()))
theorem laws_FnHorizons_L2_succ (N fu_ : Nat) (v22 : Bool) (v26 : Bool) (v27 : Int) (v3 : (List Int) × (List Int) × (List Int) × (List Int)) (b35 : (List Int) × Bool) (b45 : (List Int) × Bool) (b120 : (List Int) × Bool) : laws_FnHorizons_L2 N (fu_ + 1) v22 v26 v27 v3 b35 b45 b120 = laws_FnHorizons_B2 N (fun v22 v26 v27 v3 b35 b45 b120 => laws_FnHorizons_L2 N fu_ v22 v26 v27 v3 b35 b45 b120) v22 v26 v27 v3 b35 b45 b120 := rfl
theorem laws_FnHorizons_L2_run (N : Nat) (v22 : Nat → Bool) (v26 : Nat → Bool) (v27 : Nat → Int) (v3 : Nat → ((List Int) × (List Int) × (List Int) × (List Int))) (b35 : Nat → ((List Int) × Bool)) (b45 : Nat → ((List Int) × Bool)) (b120 : Nat → ((List Int) × Bool)) (n_ : Nat) {res_ : Option (Bool × Unit)} (hstep_ : ∀ j_, j_ < n_ → ∀ kx_, laws_FnHorizons_B2 N kx_ (v22 j_) (v26 j_) (v27 j_) (v3 j_) (b35 j_) (b45 j_) (b120 j_) = kx_ (v22 (j_ + 1)) (v26 (j_ + 1)) (v27 (j_ + 1)) (v3 (j_ + 1)) (b35 (j_ + 1)) (b45 (j_ + 1)) (b120 (j_ + 1))) (hend_ : ∀ kx_, laws_FnHorizons_B2 N kx_ (v22 n_) (v26 n_) (v27 n_) (v3 n_) (b35 n_) (b45 n_) (b120 n_) = res_) (fu_ : Nat) (hm_ : n_ < fu_) : laws_FnHorizons_L2 N fu_ (v22 0) (v26 0) (v27 0) (v3 0) (b35 0) (b45 0) (b120 0) = res_ := by
  exact loop_run (L := fun fu_ (x_ : Bool × Bool × Int × ((List Int) × (List Int) × (List Int) × (List Int)) × ((List Int) × Bool) × ((List Int) × Bool) × ((List Int) × Bool)) => laws_FnHorizons_L2 N fu_ x_.1 x_.2.1 x_.2.2.1 x_.2.2.2.1 x_.2.2.2.2.1 x_.2.2.2.2.2.1 x_.2.2.2.2.2.2) (B := fun kx_ x_ => laws_FnHorizons_B2 N (fun v22 v26 v27 v3 b35 b45 b120 => kx_ (v22, v26, v27, v3, b35, b45, b120)) x_.1 x_.2.1 x_.2.2.1 x_.2.2.2.1 x_.2.2.2.2.1 x_.2.2.2.2.2.1 x_.2.2.2.2.2.2) (fun _ _ => rfl) (fun j_ => (v22 j_, v26 j_, v27 j_, v3 j_, b35 j_, b45 j_, b120 j_)) n_ (fun j_ hi_ kx_ => hstep_ j_ hi_ _) (fun kx_ => hend_ _) fu_ hm_
def laws_FnHorizons (N : Nat) (app : List Int) : Option (Bool × Unit) :=
  (laws_vBig N app).bind fun r =>
  bif r.1 then
    some (true, ())
  else
    (spec_DrawHorizonsOf N app).bind fun r1 =>
    (impl_HorizonsOf N r1.1).bind fun r2 =>
    (spec_HorizonsOf N r1.1).bind fun r3 =>
    (impl_LastOrders N r1.1).bind fun r4 =>
    (spec_LastOrders N r1.1).bind fun r5 =>
    (impl_TablePeriods N r1.1).bind fun r6 =>
    (spec_TablePeriods N r1.1).bind fun r7 =>
    bif !(Go.Rx.beq r2.1.2 r3.1.2) then
      some (false, ())
    else
      (laws_vInts N r2.1.1 r3.1.1).bind fun r8 =>
      bif !r8.1 then
        some (false, ())
      else
        bif !(Go.Rx.beq r4.1.2 r5.1.2) then
          some (false, ())
        else
          (laws_vInts N r4.1.1 r5.1.1).bind fun r9 =>
          bif !r9.1 then
            some (false, ())
          else
            bif !(Go.Rx.beq r6.1.2 r7.1.2) then
              some (false, ())
            else
              (laws_vInts N r6.1.1 r7.1.1).bind fun r10 =>
              bif !r10.1 then
                some (false, ())
              else
                bif !r2.1.2 then
                  some (true, ())
                else
                  (impl_PlanFrom N r1.1 r6.1.1).bind fun r11 =>
                  (impl_PlanCost N r1.1 r11.1.1).bind fun r12 =>
                  (impl_BestCost N r1.1).bind fun r13 =>
                  (impl_WaitsNever N r1.1).bind fun r14 =>
                  (impl_TurningPeriods N r1.1).bind fun r15 =>
                  bif !r11.1.2 then
                    some (false, ())
                  else
                    bif !r15.1.2 then
                      some (false, ())
                    else
                      bif ine r12.1.1 r13.1.1 then
                        some (false, ())
                      else
                        laws_FnHorizons_L2 N N r14.1.1 true 1 r1.1 r2.1 r4.1 r15.1
end Px
end Go.Rx
