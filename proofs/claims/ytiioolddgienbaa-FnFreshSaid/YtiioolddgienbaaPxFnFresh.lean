/- This text defines the plain functions that the Go functions behind FnFresh compute; no condition. -/
import Derived.Test.YtiioolddgienbaaRxd
set_option linter.unusedVariables false
set_option linter.unusedSimpArgs false
namespace Go.Rx
namespace Px
def laws_vBig (N : Nat) (code : List Int) : Option (Bool × Unit) :=
  some (ilt 65536 (len code), ())
def pspec_l1Cur_next_K1 (N : Nat) (b : Int) (c1 : (List Int) × Int × Int) : Option (Int × ((List Int) × Int × Int)) :=
  bif ile (iadd .i64 c1.2.1 1) (len c1.1) then
    some (b, (c1.1, (iadd .i64 c1.2.1 1, iadd .u64 (iadd .u64 (imul .u64 c1.2.2 6364136223846793005) (icv .u64 b)) 462197)))
  else
    chk (ile 0 40) <|
    some (icv .i64 (iand .u64 (ishr .u64 (iadd .u64 (iadd .u64 (imul .u64 c1.2.2 6364136223846793005) (icv .u64 b)) 462197) 40) 255), (c1.1, (iadd .i64 c1.2.1 1, iadd .u64 (iadd .u64 (imul .u64 c1.2.2 6364136223846793005) (icv .u64 b)) 462197)))
def pspec_l1Cur_next (N : Nat) (c : (List Int) × Int × Int) : Option (Int × ((List Int) × Int × Int)) :=
  bif ilt c.2.1 (len c.1) then
    chk (inB c.2.1 c.1.length) <|
    pspec_l1Cur_next_K1 N (icv .i64 (gd c.1 c.2.1.toNat 0)) c
  else
    pspec_l1Cur_next_K1 N 0 c
def pspec_l1Cur_pick (N : Nat) (c : (List Int) × Int × Int) (n : Int) : Option (Int × ((List Int) × Int × Int)) :=
  bif ile n 1 then
    some (0, c)
  else
    (pspec_l1Cur_next N c).bind fun r =>
    bif ilt 200 n then
      (pspec_l1Cur_next N r.2).bind fun r1 =>
      chk (ine n 0) <|
      some (irem (iadd .i64 (imul .i64 r.1 256) r1.1) n, r1.2)
    else
      chk (ine n 0) <|
      some (irem r.1 n, r.2)
def pspec_l1Cur_among (N : Nat) (c : (List Int) × Int × Int) (list : List Int) : Option (Int × ((List Int) × Int × Int)) :=
  (pspec_l1Cur_pick N c (len list)).bind fun r =>
  chk (inB r.1 list.length) <|
  some (gd list r.1.toNat 0, r.2)
def spec_l1Least (N : Nat) (a : Int) (b : Int) : Option (Int × Unit) :=
  bif ilt a b then
    some (a, ())
  else
    some (b, ())
def pspec_l1Cur_one (N : Nat) (c : (List Int) × Int × Int) (n : Int) : Option (Bool × ((List Int) × Int × Int)) :=
  (pspec_l1Cur_pick N c n).bind fun r =>
  some (ieq r.1 0, r.2)
def pspec_l1Cur_someLots_K1 (N : Nat) (kx1 : Int → Bool → Int → Int → Int → Int → ((List Int) × Int × Int) → ((List Int) × (List Int) × (List Int) × (List Int)) → ((List Int) × (List Int) × (List Int) × (List Int)) → Option (((List Int) × (List Int) × (List Int) × (List Int)) × ((List Int) × Int × Int))) (n1 : Int) (same1 : Bool) (setup1 : Int) (unit1 : Int) (hold1 : Int) (t1 : Int) (c2 : (List Int) × Int × Int) (v41 : (List Int) × (List Int) × (List Int) × (List Int)) (kx2 : (List Int) × (List Int) × (List Int) × (List Int)) : Option (((List Int) × (List Int) × (List Int) × (List Int)) × ((List Int) × Int × Int)) :=
  (pspec_l1Cur_among N c2 [0, 1, 2, 3, 5, 8]).bind fun r9 =>
  chk (fitB (kx2.1.length + 1) 8) <|
  chk (fitB (kx2.2.1.length + 1) 8) <|
  chk (fitB (kx2.2.2.1.length + 1) 8) <|
  chk (fitB (kx2.2.2.2.length + 1) 8) <|
  kx1 n1 same1 setup1 unit1 hold1 (iadd .i64 t1 1) r9.2 v41 (kx2.1 ++ [r9.1], (kx2.2.1 ++ [setup1], (kx2.2.2.1 ++ [unit1], kx2.2.2.2 ++ [hold1])))
def pspec_l1Cur_someLots_K2 (N : Nat) (c5 : (List Int) × Int × Int) (v44 : (List Int) × (List Int) × (List Int) × (List Int)) (kx6 : (List Int) × (List Int) × (List Int) × (List Int)) : Option (((List Int) × (List Int) × (List Int) × (List Int)) × ((List Int) × Int × Int)) :=
  some (kx6, c5)
def pspec_l1Cur_someLots_B1 (N : Nat) (kx5 : ((List Int) × Int × Int) → ((List Int) × (List Int) × (List Int) × (List Int)) → ((List Int) × (List Int) × (List Int) × (List Int)) → Option (((List Int) × (List Int) × (List Int) × (List Int)) × ((List Int) × Int × Int))) (c4 : (List Int) × Int × Int) (v43 : (List Int) × (List Int) × (List Int) × (List Int)) (kx4 : (List Int) × (List Int) × (List Int) × (List Int)) : Option (((List Int) × (List Int) × (List Int) × (List Int)) × ((List Int) × Int × Int)) :=
  bif ilt (len kx4.1) 9 then
    chk (fitB (kx4.1.length + 1) 8) <|
    chk (fitB (kx4.2.1.length + 1) 8) <|
    chk (fitB (kx4.2.2.1.length + 1) 8) <|
    chk (fitB (kx4.2.2.2.length + 1) 8) <|
    kx5 c4 v43 (kx4.1 ++ [1], (kx4.2.1 ++ [1], (kx4.2.2.1 ++ [1], kx4.2.2.2 ++ [1])))
  else
    pspec_l1Cur_someLots_K2 N c4 v43 kx4
def pspec_l1Cur_someLots_L1 (N fu_ : Nat) (c4 : (List Int) × Int × Int) (v43 : (List Int) × (List Int) × (List Int) × (List Int)) (kx4 : (List Int) × (List Int) × (List Int) × (List Int)) : Option (((List Int) × (List Int) × (List Int) × (List Int)) × ((List Int) × Int × Int)) :=
  iterK fu_ (fun kx5 (v_ : (Unit) × (((List Int) × Int × Int) × ((List Int) × (List Int) × (List Int) × (List Int)) × ((List Int) × (List Int) × (List Int) × (List Int)) × Unit)) => pspec_l1Cur_someLots_B1 N (fun c4 v43 kx4 => kx5 ((), (c4, v43, kx4, ()))) v_.2.1 v_.2.2.1 v_.2.2.2.1) ((), (c4, v43, kx4, ()))
theorem pspec_l1Cur_someLots_L1_succ (N fu_ : Nat) (c4 : (List Int) × Int × Int) (v43 : (List Int) × (List Int) × (List Int) × (List Int)) (kx4 : (List Int) × (List Int) × (List Int) × (List Int)) : pspec_l1Cur_someLots_L1 N (fu_ + 1) c4 v43 kx4 = pspec_l1Cur_someLots_B1 N (fun c4 v43 kx4 => pspec_l1Cur_someLots_L1 N fu_ c4 v43 kx4) c4 v43 kx4 := rfl
theorem pspec_l1Cur_someLots_L1_run (N : Nat) (c4 : Nat → ((List Int) × Int × Int)) (v43 : Nat → ((List Int) × (List Int) × (List Int) × (List Int))) (kx4 : Nat → ((List Int) × (List Int) × (List Int) × (List Int))) (n_ : Nat) {res_ : Option (((List Int) × (List Int) × (List Int) × (List Int)) × ((List Int) × Int × Int))} (hstep_ : ∀ j_, j_ < n_ → ∀ kx_, pspec_l1Cur_someLots_B1 N kx_ (c4 j_) (v43 j_) (kx4 j_) = kx_ (c4 (j_ + 1)) (v43 (j_ + 1)) (kx4 (j_ + 1))) (hend_ : ∀ kx_, pspec_l1Cur_someLots_B1 N kx_ (c4 n_) (v43 n_) (kx4 n_) = res_) (fu_ : Nat) (hm_ : n_ < fu_) : pspec_l1Cur_someLots_L1 N fu_ (c4 0) (v43 0) (kx4 0) = res_ := by
  exact loop_run (L := fun fu_ (x_ : ((List Int) × Int × Int) × ((List Int) × (List Int) × (List Int) × (List Int)) × ((List Int) × (List Int) × (List Int) × (List Int))) => pspec_l1Cur_someLots_L1 N fu_ x_.1 x_.2.1 x_.2.2) (B := fun kx_ x_ => pspec_l1Cur_someLots_B1 N (fun c4 v43 kx4 => kx_ (c4, v43, kx4)) x_.1 x_.2.1 x_.2.2) (fun _ _ => rfl) (fun j_ => (c4 j_, v43 j_, kx4 j_)) n_ (fun j_ hi_ kx_ => hstep_ j_ hi_ _) (fun kx_ => hend_ _) fu_ hm_
def pspec_l1Cur_someLots_K3 (N : Nat) (n2 : Int) (c3 : (List Int) × Int × Int) (v42 : (List Int) × (List Int) × (List Int) × (List Int)) (kx3 : (List Int) × (List Int) × (List Int) × (List Int)) : Option (((List Int) × (List Int) × (List Int) × (List Int)) × ((List Int) × Int × Int)) :=
  bif ilt 0 n2 then
    (pspec_l1Cur_pick N c3 n2).bind fun r10 =>
    (pspec_l1Cur_pick N r10.2 60).bind fun r11 =>
    bif ieq r11.1 0 then
      (pspec_l1Cur_among N r11.2 [(-1), 20, 21, 4611686018427387904]).bind fun r12 =>
      chk (inB r10.1 kx3.1.length) <|
      some ((List.set kx3.1 r10.1.toNat r12.1, kx3.2), r12.2)
    else
      bif ieq r11.1 1 then
        (pspec_l1Cur_among N r11.2 [(-1), 99, 100]).bind fun r13 =>
        chk (inB r10.1 kx3.2.1.length) <|
        some ((kx3.1, (List.set kx3.2.1 r10.1.toNat r13.1, kx3.2.2)), r13.2)
      else
        bif ieq r11.1 2 then
          (pspec_l1Cur_among N r11.2 [(-1), 9, 10]).bind fun r14 =>
          chk (inB r10.1 kx3.2.2.1.length) <|
          some ((kx3.1, (kx3.2.1, (List.set kx3.2.2.1 r10.1.toNat r14.1, kx3.2.2.2))), r14.2)
        else
          bif ieq r11.1 3 then
            (pspec_l1Cur_among N r11.2 [(-1), 9, 10]).bind fun r15 =>
            chk (inB r10.1 kx3.2.2.2.length) <|
            some ((kx3.1, (kx3.2.1, (kx3.2.2.1, List.set kx3.2.2.2 r10.1.toNat r15.1))), r15.2)
          else
            bif ieq r11.1 4 then
              chk (fitB (kx3.2.2.1.length + 1) 8) <|
              some ((kx3.1, (kx3.2.1, (kx3.2.2.1 ++ [1], kx3.2.2.2))), r11.2)
            else
              bif ieq r11.1 5 then
                pspec_l1Cur_someLots_L1 N N r11.2 v42 kx3
              else
                some (kx3, r11.2)
  else
    some (kx3, c3)
def pspec_l1Cur_someLots_B2 (N : Nat) (kx1 : Int → Bool → Int → Int → Int → Int → ((List Int) × Int × Int) → ((List Int) × (List Int) × (List Int) × (List Int)) → ((List Int) × (List Int) × (List Int) × (List Int)) → Option (((List Int) × (List Int) × (List Int) × (List Int)) × ((List Int) × Int × Int))) (n : Int) (same : Bool) (setup : Int) (unit : Int) (hold : Int) (t : Int) (c1 : (List Int) × Int × Int) (v4 : (List Int) × (List Int) × (List Int) × (List Int)) (kx : (List Int) × (List Int) × (List Int) × (List Int)) : Option (((List Int) × (List Int) × (List Int) × (List Int)) × ((List Int) × Int × Int)) :=
  bif ilt t n then
    bif !same then
      (pspec_l1Cur_among N c1 [0, 2, 5, 9, 14, 30]).bind fun r6 =>
      (pspec_l1Cur_pick N r6.2 5).bind fun r7 =>
      (pspec_l1Cur_pick N r7.2 4).bind fun r8 =>
      pspec_l1Cur_someLots_K1 N kx1 n same r6.1 r7.1 r8.1 t r8.2 v4 kx
    else
      pspec_l1Cur_someLots_K1 N kx1 n same setup unit hold t c1 v4 kx
  else
    pspec_l1Cur_someLots_K3 N n c1 v4 kx
def pspec_l1Cur_someLots_L2 (N fu_ : Nat) (n : Int) (same : Bool) (setup : Int) (unit : Int) (hold : Int) (t : Int) (c1 : (List Int) × Int × Int) (v4 : (List Int) × (List Int) × (List Int) × (List Int)) (kx : (List Int) × (List Int) × (List Int) × (List Int)) : Option (((List Int) × (List Int) × (List Int) × (List Int)) × ((List Int) × Int × Int)) :=
  iterK fu_ (fun kx1 (v_ : (Int × Bool × Int × Int × Int × Int × Unit) × (((List Int) × Int × Int) × ((List Int) × (List Int) × (List Int) × (List Int)) × ((List Int) × (List Int) × (List Int) × (List Int)) × Unit)) => pspec_l1Cur_someLots_B2 N (fun n same setup unit hold t c1 v4 kx => kx1 ((n, same, setup, unit, hold, t, ()), (c1, v4, kx, ()))) v_.1.1 v_.1.2.1 v_.1.2.2.1 v_.1.2.2.2.1 v_.1.2.2.2.2.1 v_.1.2.2.2.2.2.1 v_.2.1 v_.2.2.1 v_.2.2.2.1) ((n, same, setup, unit, hold, t, ()), (c1, v4, kx, ()))
theorem pspec_l1Cur_someLots_L2_succ (N fu_ : Nat) (n : Int) (same : Bool) (setup : Int) (unit : Int) (hold : Int) (t : Int) (c1 : (List Int) × Int × Int) (v4 : (List Int) × (List Int) × (List Int) × (List Int)) (kx : (List Int) × (List Int) × (List Int) × (List Int)) : pspec_l1Cur_someLots_L2 N (fu_ + 1) n same setup unit hold t c1 v4 kx = pspec_l1Cur_someLots_B2 N (fun n same setup unit hold t c1 v4 kx => pspec_l1Cur_someLots_L2 N fu_ n same setup unit hold t c1 v4 kx) n same setup unit hold t c1 v4 kx := rfl
theorem pspec_l1Cur_someLots_L2_run (N : Nat) (n : Nat → Int) (same : Nat → Bool) (setup : Nat → Int) (unit : Nat → Int) (hold : Nat → Int) (t : Nat → Int) (c1 : Nat → ((List Int) × Int × Int)) (v4 : Nat → ((List Int) × (List Int) × (List Int) × (List Int))) (kx : Nat → ((List Int) × (List Int) × (List Int) × (List Int))) (n_ : Nat) {res_ : Option (((List Int) × (List Int) × (List Int) × (List Int)) × ((List Int) × Int × Int))} (hstep_ : ∀ j_, j_ < n_ → ∀ kx_, pspec_l1Cur_someLots_B2 N kx_ (n j_) (same j_) (setup j_) (unit j_) (hold j_) (t j_) (c1 j_) (v4 j_) (kx j_) = kx_ (n (j_ + 1)) (same (j_ + 1)) (setup (j_ + 1)) (unit (j_ + 1)) (hold (j_ + 1)) (t (j_ + 1)) (c1 (j_ + 1)) (v4 (j_ + 1)) (kx (j_ + 1))) (hend_ : ∀ kx_, pspec_l1Cur_someLots_B2 N kx_ (n n_) (same n_) (setup n_) (unit n_) (hold n_) (t n_) (c1 n_) (v4 n_) (kx n_) = res_) (fu_ : Nat) (hm_ : n_ < fu_) : pspec_l1Cur_someLots_L2 N fu_ (n 0) (same 0) (setup 0) (unit 0) (hold 0) (t 0) (c1 0) (v4 0) (kx 0) = res_ := by
  exact loop_run (L := fun fu_ (x_ : Int × Bool × Int × Int × Int × Int × ((List Int) × Int × Int) × ((List Int) × (List Int) × (List Int) × (List Int)) × ((List Int) × (List Int) × (List Int) × (List Int))) => pspec_l1Cur_someLots_L2 N fu_ x_.1 x_.2.1 x_.2.2.1 x_.2.2.2.1 x_.2.2.2.2.1 x_.2.2.2.2.2.1 x_.2.2.2.2.2.2.1 x_.2.2.2.2.2.2.2.1 x_.2.2.2.2.2.2.2.2) (B := fun kx_ x_ => pspec_l1Cur_someLots_B2 N (fun n same setup unit hold t c1 v4 kx => kx_ (n, same, setup, unit, hold, t, c1, v4, kx)) x_.1 x_.2.1 x_.2.2.1 x_.2.2.2.1 x_.2.2.2.2.1 x_.2.2.2.2.2.1 x_.2.2.2.2.2.2.1 x_.2.2.2.2.2.2.2.1 x_.2.2.2.2.2.2.2.2) (fun _ _ => rfl) (fun j_ => (n j_, same j_, setup j_, unit j_, hold j_, t j_, c1 j_, v4 j_, kx j_)) n_ (fun j_ hi_ kx_ => hstep_ j_ hi_ _) (fun kx_ => hend_ _) fu_ hm_
def pspec_l1Cur_someLots (N : Nat) (c : (List Int) × Int × Int) (most : Int) : Option (((List Int) × (List Int) × (List Int) × (List Int)) × ((List Int) × Int × Int)) :=
  (pspec_l1Cur_among N c [4, 5, 3, 6, 8, 2, 1, 0]).bind fun r =>
  (spec_l1Least N r.1 most).bind fun r1 =>
  (pspec_l1Cur_one N r.2 2).bind fun r2 =>
  (pspec_l1Cur_among N r2.2 [0, 3, 5, 8, 12, 20]).bind fun r3 =>
  (pspec_l1Cur_pick N r3.2 3).bind fun r4 =>
  (pspec_l1Cur_pick N r4.2 2).bind fun r5 =>
  pspec_l1Cur_someLots_L2 N N r1.1 r2.1 r3.1 r4.1 (iadd .i64 1 r5.1) 0 r5.2 ([], ([], ([], []))) ([], ([], ([], [])))
def spec_DrawBestFresh (N : Nat) (code : List Int) : Option ((((List Int) × (List Int) × (List Int) × (List Int)) × Int) × Unit) :=
  (pspec_l1Cur_someLots N (code, (0, 0)) 6).bind fun r =>
  (pspec_l1Cur_among N r.2 [2, 3, 8, 4, 1, 0, 9]).bind fun r1 =>
  some ((r.1, r1.1), ())
def impl_within (N : Nat) (n : Int) (low : Int) (high : Int) : Option (Bool × Unit) :=
  bif ile low n then
    some (ile n high, ())
  else
    some (false, ())
def impl_allWithin_K1 (N : Nat) : Option (Bool × Unit) :=
  some (true, ())
def impl_allWithin_B1 (N : Nat) (kx : Int → Int → (List Int) → Int → Int → Option (Bool × Unit)) (low1 : Int) (high1 : Int) (v9 : List Int) (v10 : Int) (v11 : Int) : Option (Bool × Unit) :=
  bif ilt v11 v10 then
    chk (inB v11 v9.length) <|
    (impl_within N (gd v9 v11.toNat 0) low1 high1).bind fun r =>
    bif !r.1 then
      some (false, ())
    else
      kx low1 high1 v9 v10 (iadd .i64 v11 1)
  else
    impl_allWithin_K1 N
def impl_allWithin_L1 (N fu_ : Nat) (low1 : Int) (high1 : Int) (v9 : List Int) (v10 : Int) (v11 : Int) : Option (Bool × Unit) :=
  iterK fu_ (fun kx (v_ : (Int × Int × (List Int) × Int × Int × Unit) × (Unit)) => impl_allWithin_B1 N (fun low1 high1 v9 v10 v11 => kx ((low1, high1, v9, v10, v11, ()), ())) v_.1.1 v_.1.2.1 v_.1.2.2.1 v_.1.2.2.2.1 v_.1.2.2.2.2.1) ((low1, high1, v9, v10, v11, ()), ())
theorem impl_allWithin_L1_succ (N fu_ : Nat) (low1 : Int) (high1 : Int) (v9 : List Int) (v10 : Int) (v11 : Int) : impl_allWithin_L1 N (fu_ + 1) low1 high1 v9 v10 v11 = impl_allWithin_B1 N (fun low1 high1 v9 v10 v11 => impl_allWithin_L1 N fu_ low1 high1 v9 v10 v11) low1 high1 v9 v10 v11 := rfl
theorem impl_allWithin_L1_run (N : Nat) (low1 : Nat → Int) (high1 : Nat → Int) (v9 : Nat → (List Int)) (v10 : Nat → Int) (v11 : Nat → Int) (n_ : Nat) {res_ : Option (Bool × Unit)} (hstep_ : ∀ j_, j_ < n_ → ∀ kx_, impl_allWithin_B1 N kx_ (low1 j_) (high1 j_) (v9 j_) (v10 j_) (v11 j_) = kx_ (low1 (j_ + 1)) (high1 (j_ + 1)) (v9 (j_ + 1)) (v10 (j_ + 1)) (v11 (j_ + 1))) (hend_ : ∀ kx_, impl_allWithin_B1 N kx_ (low1 n_) (high1 n_) (v9 n_) (v10 n_) (v11 n_) = res_) (fu_ : Nat) (hm_ : n_ < fu_) : impl_allWithin_L1 N fu_ (low1 0) (high1 0) (v9 0) (v10 0) (v11 0) = res_ := by
  exact loop_run (L := fun fu_ (x_ : Int × Int × (List Int) × Int × Int) => impl_allWithin_L1 N fu_ x_.1 x_.2.1 x_.2.2.1 x_.2.2.2.1 x_.2.2.2.2) (B := fun kx_ x_ => impl_allWithin_B1 N (fun low1 high1 v9 v10 v11 => kx_ (low1, high1, v9, v10, v11)) x_.1 x_.2.1 x_.2.2.1 x_.2.2.2.1 x_.2.2.2.2) (fun _ _ => rfl) (fun j_ => (low1 j_, high1 j_, v9 j_, v10 j_, v11 j_)) n_ (fun j_ hi_ kx_ => hstep_ j_ hi_ _) (fun kx_ => hend_ _) fu_ hm_
def impl_allWithin (N : Nat) (list : List Int) (low : Int) (high : Int) : Option (Bool × Unit) :=
  impl_allWithin_L1 N N low high list (len list) 0
def impl_IsCase (N : Nat) (c : (List Int) × (List Int) × (List Int) × (List Int)) : Option (Bool × Unit) :=
  bif ile (len c.1) 8 then
    bif ieq (len c.2.1) (len c.1) then
      bif ieq (len c.2.2.1) (len c.1) then
        bif ieq (len c.2.2.2) (len c.1) then
          (impl_allWithin N c.1 0 20).bind fun r =>
          bif r.1 then
            (impl_allWithin N c.2.1 0 99).bind fun r1 =>
            bif r1.1 then
              (impl_allWithin N c.2.2.1 0 9).bind fun r2 =>
              bif r2.1 then
                (impl_allWithin N c.2.2.2 0 9).bind fun r3 =>
                some (r3.1, ())
              else
                some (false, ())
            else
              some (false, ())
          else
            some (false, ())
        else
          some (false, ())
      else
        some (false, ())
    else
      some (false, ())
  else
    some (false, ())
def impl_isLife (N : Nat) (life : Int) : Option (Bool × Unit) :=
  (impl_within N life 1 8).bind fun r =>
  some (r.1, ())
def impl_total_K1 (N : Nat) (sum1 : Int) : Option (Int × Unit) :=
  some (sum1, ())
def impl_total_B1 (N : Nat) (kx : Int → (List Int) → Int → Int → Option (Int × Unit)) (sum : Int) (v6 : List Int) (v7 : Int) (v8 : Int) : Option (Int × Unit) :=
  bif ilt v8 v7 then
    chk (inB v8 v6.length) <|
    kx (iadd .i64 sum (gd v6 v8.toNat 0)) v6 v7 (iadd .i64 v8 1)
  else
    impl_total_K1 N sum
def impl_total_L1 (N fu_ : Nat) (sum : Int) (v6 : List Int) (v7 : Int) (v8 : Int) : Option (Int × Unit) :=
  iterK fu_ (fun kx (v_ : (Int × (List Int) × Int × Int × Unit) × (Unit)) => impl_total_B1 N (fun sum v6 v7 v8 => kx ((sum, v6, v7, v8, ()), ())) v_.1.1 v_.1.2.1 v_.1.2.2.1 v_.1.2.2.2.1) ((sum, v6, v7, v8, ()), ())
theorem impl_total_L1_succ (N fu_ : Nat) (sum : Int) (v6 : List Int) (v7 : Int) (v8 : Int) : impl_total_L1 N (fu_ + 1) sum v6 v7 v8 = impl_total_B1 N (fun sum v6 v7 v8 => impl_total_L1 N fu_ sum v6 v7 v8) sum v6 v7 v8 := rfl
theorem impl_total_L1_run (N : Nat) (sum : Nat → Int) (v6 : Nat → (List Int)) (v7 : Nat → Int) (v8 : Nat → Int) (n_ : Nat) {res_ : Option (Int × Unit)} (hstep_ : ∀ j_, j_ < n_ → ∀ kx_, impl_total_B1 N kx_ (sum j_) (v6 j_) (v7 j_) (v8 j_) = kx_ (sum (j_ + 1)) (v6 (j_ + 1)) (v7 (j_ + 1)) (v8 (j_ + 1))) (hend_ : ∀ kx_, impl_total_B1 N kx_ (sum n_) (v6 n_) (v7 n_) (v8 n_) = res_) (fu_ : Nat) (hm_ : n_ < fu_) : impl_total_L1 N fu_ (sum 0) (v6 0) (v7 0) (v8 0) = res_ := by
  exact loop_run (L := fun fu_ (x_ : Int × (List Int) × Int × Int) => impl_total_L1 N fu_ x_.1 x_.2.1 x_.2.2.1 x_.2.2.2) (B := fun kx_ x_ => impl_total_B1 N (fun sum v6 v7 v8 => kx_ (sum, v6, v7, v8)) x_.1 x_.2.1 x_.2.2.1 x_.2.2.2) (fun _ _ => rfl) (fun j_ => (sum j_, v6 j_, v7 j_, v8 j_)) n_ (fun j_ hi_ kx_ => hstep_ j_ hi_ _) (fun kx_ => hend_ _) fu_ hm_
def impl_total (N : Nat) (list : List Int) : Option (Int × Unit) :=
  impl_total_L1 N N 0 list (len list) 0
def impl_Case_rate (N : Nat) (c : (List Int) × (List Int) × (List Int) × (List Int)) (i : Int) (t : Int) : Option (Int × Unit) :=
  chk (inB i c.2.2.1.length) <|
  chk (cutB i t c.2.2.2.length) <|
  (impl_total N (cut c.2.2.2 i t)).bind fun r =>
  some (iadd .i64 (gd c.2.2.1 i.toNat 0) r.1, ())
def impl_Case_fresh_K1 (N : Nat) (kx1 : Int → (List Int) → Int → (List Int) → Int → Int → ((List Int) × (List Int) × (List Int) × (List Int)) → Option ((Int × Bool) × Unit)) (life5 : Int) (periods5 : List Int) (sum4 : Int) (need1 : Int) (least1 : Int) (v312 : List Int) (v322 : Int) (v332 : Int) (c5 : (List Int) × (List Int) × (List Int) × (List Int)) : Option ((Int × Bool) × Unit) :=
  bif ilt 0 need1 then
    bif ieq least1 1099511627776 then
      some ((0, false), ())
    else
      kx1 life5 periods5 (iadd .i64 sum4 (imul .i64 need1 least1)) v312 v322 (iadd .i64 v332 1) c5
  else
    kx1 life5 periods5 sum4 v312 v322 (iadd .i64 v332 1) c5
def impl_Case_fresh_B1 (N : Nat) (kx1 : Int → (List Int) → Int → (List Int) → Int → Int → ((List Int) × (List Int) × (List Int) × (List Int)) → Option ((Int × Bool) × Unit)) (kx2 : Int → (List Int) → Int → Int → Int → Int → (List Int) → Int → Int → (List Int) → Int → Int → ((List Int) × (List Int) × (List Int) × (List Int)) → Option ((Int × Bool) × Unit)) (life4 : Int) (periods4 : List Int) (sum3 : Int) (t : Int) (need : Int) (least : Int) (v311 : List Int) (v321 : Int) (v331 : Int) (v38 : List Int) (v39 : Int) (v40 : Int) (c4 : (List Int) × (List Int) × (List Int) × (List Int)) : Option ((Int × Bool) × Unit) :=
  bif ilt v40 v39 then
    chk (inB v40 v38.length) <|
    (impl_within N (gd v38 v40.toNat 0) (iadd .i64 (isub .i64 t life4) 1) t).bind fun r =>
    bif r.1 then
      (impl_Case_rate N c4 (gd v38 v40.toNat 0) t).bind fun r1 =>
      kx2 life4 periods4 sum3 t need (imin least r1.1) v311 v321 v331 v38 v39 (iadd .i64 v40 1) c4
    else
      kx2 life4 periods4 sum3 t need least v311 v321 v331 v38 v39 (iadd .i64 v40 1) c4
  else
    impl_Case_fresh_K1 N kx1 life4 periods4 sum3 need least v311 v321 v331 c4
def impl_Case_fresh_L1 (N fu_ : Nat) (kx1 : Int → (List Int) → Int → (List Int) → Int → Int → ((List Int) × (List Int) × (List Int) × (List Int)) → Option ((Int × Bool) × Unit)) (life4 : Int) (periods4 : List Int) (sum3 : Int) (t : Int) (need : Int) (least : Int) (v311 : List Int) (v321 : Int) (v331 : Int) (v38 : List Int) (v39 : Int) (v40 : Int) (c4 : (List Int) × (List Int) × (List Int) × (List Int)) : Option ((Int × Bool) × Unit) :=
  iterK fu_ (fun kx2 (v_ : (Int × (List Int) × Int × Int × Int × Int × (List Int) × Int × Int × (List Int) × Int × Int × Unit) × (((List Int) × (List Int) × (List Int) × (List Int)) × Unit)) => impl_Case_fresh_B1 N kx1 (fun life4 periods4 sum3 t need least v311 v321 v331 v38 v39 v40 c4 => kx2 ((life4, periods4, sum3, t, need, least, v311, v321, v331, v38, v39, v40, ()), (c4, ()))) v_.1.1 v_.1.2.1 v_.1.2.2.1 v_.1.2.2.2.1 v_.1.2.2.2.2.1 v_.1.2.2.2.2.2.1 v_.1.2.2.2.2.2.2.1 v_.1.2.2.2.2.2.2.2.1 v_.1.2.2.2.2.2.2.2.2.1 v_.1.2.2.2.2.2.2.2.2.2.1 v_.1.2.2.2.2.2.2.2.2.2.2.1 v_.1.2.2.2.2.2.2.2.2.2.2.2.1 v_.2.1) ((life4, periods4, sum3, t, need, least, v311, v321, v331, v38, v39, v40, ()), (c4, ()))
theorem impl_Case_fresh_L1_succ (N fu_ : Nat) (kx1 : Int → (List Int) → Int → (List Int) → Int → Int → ((List Int) × (List Int) × (List Int) × (List Int)) → Option ((Int × Bool) × Unit)) (life4 : Int) (periods4 : List Int) (sum3 : Int) (t : Int) (need : Int) (least : Int) (v311 : List Int) (v321 : Int) (v331 : Int) (v38 : List Int) (v39 : Int) (v40 : Int) (c4 : (List Int) × (List Int) × (List Int) × (List Int)) : impl_Case_fresh_L1 N (fu_ + 1) kx1 life4 periods4 sum3 t need least v311 v321 v331 v38 v39 v40 c4 = impl_Case_fresh_B1 N kx1 (fun life4 periods4 sum3 t need least v311 v321 v331 v38 v39 v40 c4 => impl_Case_fresh_L1 N fu_ kx1 life4 periods4 sum3 t need least v311 v321 v331 v38 v39 v40 c4) life4 periods4 sum3 t need least v311 v321 v331 v38 v39 v40 c4 := rfl
theorem impl_Case_fresh_L1_run (N : Nat) (kx1 : Int → (List Int) → Int → (List Int) → Int → Int → ((List Int) × (List Int) × (List Int) × (List Int)) → Option ((Int × Bool) × Unit)) (life4 : Nat → Int) (periods4 : Nat → (List Int)) (sum3 : Nat → Int) (t : Nat → Int) (need : Nat → Int) (least : Nat → Int) (v311 : Nat → (List Int)) (v321 : Nat → Int) (v331 : Nat → Int) (v38 : Nat → (List Int)) (v39 : Nat → Int) (v40 : Nat → Int) (c4 : Nat → ((List Int) × (List Int) × (List Int) × (List Int))) (n_ : Nat) {res_ : Option ((Int × Bool) × Unit)} (hstep_ : ∀ j_, j_ < n_ → ∀ kx_, impl_Case_fresh_B1 N kx1 kx_ (life4 j_) (periods4 j_) (sum3 j_) (t j_) (need j_) (least j_) (v311 j_) (v321 j_) (v331 j_) (v38 j_) (v39 j_) (v40 j_) (c4 j_) = kx_ (life4 (j_ + 1)) (periods4 (j_ + 1)) (sum3 (j_ + 1)) (t (j_ + 1)) (need (j_ + 1)) (least (j_ + 1)) (v311 (j_ + 1)) (v321 (j_ + 1)) (v331 (j_ + 1)) (v38 (j_ + 1)) (v39 (j_ + 1)) (v40 (j_ + 1)) (c4 (j_ + 1))) (hend_ : ∀ kx_, impl_Case_fresh_B1 N kx1 kx_ (life4 n_) (periods4 n_) (sum3 n_) (t n_) (need n_) (least n_) (v311 n_) (v321 n_) (v331 n_) (v38 n_) (v39 n_) (v40 n_) (c4 n_) = res_) (fu_ : Nat) (hm_ : n_ < fu_) : impl_Case_fresh_L1 N fu_ kx1 (life4 0) (periods4 0) (sum3 0) (t 0) (need 0) (least 0) (v311 0) (v321 0) (v331 0) (v38 0) (v39 0) (v40 0) (c4 0) = res_ := by
  exact loop_run (L := fun fu_ (x_ : Int × (List Int) × Int × Int × Int × Int × (List Int) × Int × Int × (List Int) × Int × Int × ((List Int) × (List Int) × (List Int) × (List Int))) => impl_Case_fresh_L1 N fu_ kx1 x_.1 x_.2.1 x_.2.2.1 x_.2.2.2.1 x_.2.2.2.2.1 x_.2.2.2.2.2.1 x_.2.2.2.2.2.2.1 x_.2.2.2.2.2.2.2.1 x_.2.2.2.2.2.2.2.2.1 x_.2.2.2.2.2.2.2.2.2.1 x_.2.2.2.2.2.2.2.2.2.2.1 x_.2.2.2.2.2.2.2.2.2.2.2.1 x_.2.2.2.2.2.2.2.2.2.2.2.2) (B := fun kx_ x_ => impl_Case_fresh_B1 N kx1 (fun life4 periods4 sum3 t need least v311 v321 v331 v38 v39 v40 c4 => kx_ (life4, periods4, sum3, t, need, least, v311, v321, v331, v38, v39, v40, c4)) x_.1 x_.2.1 x_.2.2.1 x_.2.2.2.1 x_.2.2.2.2.1 x_.2.2.2.2.2.1 x_.2.2.2.2.2.2.1 x_.2.2.2.2.2.2.2.1 x_.2.2.2.2.2.2.2.2.1 x_.2.2.2.2.2.2.2.2.2.1 x_.2.2.2.2.2.2.2.2.2.2.1 x_.2.2.2.2.2.2.2.2.2.2.2.1 x_.2.2.2.2.2.2.2.2.2.2.2.2) (fun _ _ => rfl) (fun j_ => (life4 j_, periods4 j_, sum3 j_, t j_, need j_, least j_, v311 j_, v321 j_, v331 j_, v38 j_, v39 j_, v40 j_, c4 j_)) n_ (fun j_ hi_ kx_ => hstep_ j_ hi_ _) (fun kx_ => hend_ _) fu_ hm_
def impl_Case_fresh_K2 (N : Nat) (sum5 : Int) : Option ((Int × Bool) × Unit) :=
  some ((sum5, true), ())
def impl_Case_fresh_B2 (N : Nat) (kx1 : Int → (List Int) → Int → (List Int) → Int → Int → ((List Int) × (List Int) × (List Int) × (List Int)) → Option ((Int × Bool) × Unit)) (life3 : Int) (periods3 : List Int) (sum2 : Int) (v31 : List Int) (v32 : Int) (v33 : Int) (c3 : (List Int) × (List Int) × (List Int) × (List Int)) : Option ((Int × Bool) × Unit) :=
  bif ilt v33 v32 then
    chk (inB v33 v31.length) <|
    impl_Case_fresh_L1 N N kx1 life3 periods3 sum2 v33 (gd v31 v33.toNat 0) 1099511627776 v31 v32 v33 periods3 (len periods3) 0 c3
  else
    impl_Case_fresh_K2 N sum2
def impl_Case_fresh_L2 (N fu_ : Nat) (life3 : Int) (periods3 : List Int) (sum2 : Int) (v31 : List Int) (v32 : Int) (v33 : Int) (c3 : (List Int) × (List Int) × (List Int) × (List Int)) : Option ((Int × Bool) × Unit) :=
  iterK fu_ (fun kx1 (v_ : (Int × (List Int) × Int × (List Int) × Int × Int × Unit) × (((List Int) × (List Int) × (List Int) × (List Int)) × Unit)) => impl_Case_fresh_B2 N (fun life3 periods3 sum2 v31 v32 v33 c3 => kx1 ((life3, periods3, sum2, v31, v32, v33, ()), (c3, ()))) v_.1.1 v_.1.2.1 v_.1.2.2.1 v_.1.2.2.2.1 v_.1.2.2.2.2.1 v_.1.2.2.2.2.2.1 v_.2.1) ((life3, periods3, sum2, v31, v32, v33, ()), (c3, ()))
theorem impl_Case_fresh_L2_succ (N fu_ : Nat) (life3 : Int) (periods3 : List Int) (sum2 : Int) (v31 : List Int) (v32 : Int) (v33 : Int) (c3 : (List Int) × (List Int) × (List Int) × (List Int)) : impl_Case_fresh_L2 N (fu_ + 1) life3 periods3 sum2 v31 v32 v33 c3 = impl_Case_fresh_B2 N (fun life3 periods3 sum2 v31 v32 v33 c3 => impl_Case_fresh_L2 N fu_ life3 periods3 sum2 v31 v32 v33 c3) life3 periods3 sum2 v31 v32 v33 c3 := rfl
theorem impl_Case_fresh_L2_run (N : Nat) (life3 : Nat → Int) (periods3 : Nat → (List Int)) (sum2 : Nat → Int) (v31 : Nat → (List Int)) (v32 : Nat → Int) (v33 : Nat → Int) (c3 : Nat → ((List Int) × (List Int) × (List Int) × (List Int))) (n_ : Nat) {res_ : Option ((Int × Bool) × Unit)} (hstep_ : ∀ j_, j_ < n_ → ∀ kx_, impl_Case_fresh_B2 N kx_ (life3 j_) (periods3 j_) (sum2 j_) (v31 j_) (v32 j_) (v33 j_) (c3 j_) = kx_ (life3 (j_ + 1)) (periods3 (j_ + 1)) (sum2 (j_ + 1)) (v31 (j_ + 1)) (v32 (j_ + 1)) (v33 (j_ + 1)) (c3 (j_ + 1))) (hend_ : ∀ kx_, impl_Case_fresh_B2 N kx_ (life3 n_) (periods3 n_) (sum2 n_) (v31 n_) (v32 n_) (v33 n_) (c3 n_) = res_) (fu_ : Nat) (hm_ : n_ < fu_) : impl_Case_fresh_L2 N fu_ (life3 0) (periods3 0) (sum2 0) (v31 0) (v32 0) (v33 0) (c3 0) = res_ := by
  exact loop_run (L := fun fu_ (x_ : Int × (List Int) × Int × (List Int) × Int × Int × ((List Int) × (List Int) × (List Int) × (List Int))) => impl_Case_fresh_L2 N fu_ x_.1 x_.2.1 x_.2.2.1 x_.2.2.2.1 x_.2.2.2.2.1 x_.2.2.2.2.2.1 x_.2.2.2.2.2.2) (B := fun kx_ x_ => impl_Case_fresh_B2 N (fun life3 periods3 sum2 v31 v32 v33 c3 => kx_ (life3, periods3, sum2, v31, v32, v33, c3)) x_.1 x_.2.1 x_.2.2.1 x_.2.2.2.1 x_.2.2.2.2.1 x_.2.2.2.2.2.1 x_.2.2.2.2.2.2) (fun _ _ => rfl) (fun j_ => (life3 j_, periods3 j_, sum2 j_, v31 j_, v32 j_, v33 j_, c3 j_)) n_ (fun j_ hi_ kx_ => hstep_ j_ hi_ _) (fun kx_ => hend_ _) fu_ hm_
def impl_Case_fresh_K3 (N : Nat) (life2 : Int) (periods2 : List Int) (sum1 : Int) (c2 : (List Int) × (List Int) × (List Int) × (List Int)) : Option ((Int × Bool) × Unit) :=
  impl_Case_fresh_L2 N N life2 periods2 sum1 c2.1 (len c2.1) 0 c2
def impl_Case_fresh_B3 (N : Nat) (kx : Int → (List Int) → Int → (List Int) → Int → Int → ((List Int) × (List Int) × (List Int) × (List Int)) → Option ((Int × Bool) × Unit)) (life1 : Int) (periods1 : List Int) (sum : Int) (v16 : List Int) (v17 : Int) (v18 : Int) (c1 : (List Int) × (List Int) × (List Int) × (List Int)) : Option ((Int × Bool) × Unit) :=
  bif ilt v18 v17 then
    chk (inB v18 v16.length) <|
    chk (inB (gd v16 v18.toNat 0) c1.2.1.length) <|
    kx life1 periods1 (iadd .i64 sum (gd c1.2.1 (gd v16 v18.toNat 0).toNat 0)) v16 v17 (iadd .i64 v18 1) c1
  else
    impl_Case_fresh_K3 N life1 periods1 sum c1
def impl_Case_fresh_L3 (N fu_ : Nat) (life1 : Int) (periods1 : List Int) (sum : Int) (v16 : List Int) (v17 : Int) (v18 : Int) (c1 : (List Int) × (List Int) × (List Int) × (List Int)) : Option ((Int × Bool) × Unit) :=
  iterK fu_ (fun kx (v_ : (Int × (List Int) × Int × (List Int) × Int × Int × Unit) × (((List Int) × (List Int) × (List Int) × (List Int)) × Unit)) => impl_Case_fresh_B3 N (fun life1 periods1 sum v16 v17 v18 c1 => kx ((life1, periods1, sum, v16, v17, v18, ()), (c1, ()))) v_.1.1 v_.1.2.1 v_.1.2.2.1 v_.1.2.2.2.1 v_.1.2.2.2.2.1 v_.1.2.2.2.2.2.1 v_.2.1) ((life1, periods1, sum, v16, v17, v18, ()), (c1, ()))
theorem impl_Case_fresh_L3_succ (N fu_ : Nat) (life1 : Int) (periods1 : List Int) (sum : Int) (v16 : List Int) (v17 : Int) (v18 : Int) (c1 : (List Int) × (List Int) × (List Int) × (List Int)) : impl_Case_fresh_L3 N (fu_ + 1) life1 periods1 sum v16 v17 v18 c1 = impl_Case_fresh_B3 N (fun life1 periods1 sum v16 v17 v18 c1 => impl_Case_fresh_L3 N fu_ life1 periods1 sum v16 v17 v18 c1) life1 periods1 sum v16 v17 v18 c1 := rfl
theorem impl_Case_fresh_L3_run (N : Nat) (life1 : Nat → Int) (periods1 : Nat → (List Int)) (sum : Nat → Int) (v16 : Nat → (List Int)) (v17 : Nat → Int) (v18 : Nat → Int) (c1 : Nat → ((List Int) × (List Int) × (List Int) × (List Int))) (n_ : Nat) {res_ : Option ((Int × Bool) × Unit)} (hstep_ : ∀ j_, j_ < n_ → ∀ kx_, impl_Case_fresh_B3 N kx_ (life1 j_) (periods1 j_) (sum j_) (v16 j_) (v17 j_) (v18 j_) (c1 j_) = kx_ (life1 (j_ + 1)) (periods1 (j_ + 1)) (sum (j_ + 1)) (v16 (j_ + 1)) (v17 (j_ + 1)) (v18 (j_ + 1)) (c1 (j_ + 1))) (hend_ : ∀ kx_, impl_Case_fresh_B3 N kx_ (life1 n_) (periods1 n_) (sum n_) (v16 n_) (v17 n_) (v18 n_) (c1 n_) = res_) (fu_ : Nat) (hm_ : n_ < fu_) : impl_Case_fresh_L3 N fu_ (life1 0) (periods1 0) (sum 0) (v16 0) (v17 0) (v18 0) (c1 0) = res_ := by
  exact loop_run (L := fun fu_ (x_ : Int × (List Int) × Int × (List Int) × Int × Int × ((List Int) × (List Int) × (List Int) × (List Int))) => impl_Case_fresh_L3 N fu_ x_.1 x_.2.1 x_.2.2.1 x_.2.2.2.1 x_.2.2.2.2.1 x_.2.2.2.2.2.1 x_.2.2.2.2.2.2) (B := fun kx_ x_ => impl_Case_fresh_B3 N (fun life1 periods1 sum v16 v17 v18 c1 => kx_ (life1, periods1, sum, v16, v17, v18, c1)) x_.1 x_.2.1 x_.2.2.1 x_.2.2.2.1 x_.2.2.2.2.1 x_.2.2.2.2.2.1 x_.2.2.2.2.2.2) (fun _ _ => rfl) (fun j_ => (life1 j_, periods1 j_, sum j_, v16 j_, v17 j_, v18 j_, c1 j_)) n_ (fun j_ hi_ kx_ => hstep_ j_ hi_ _) (fun kx_ => hend_ _) fu_ hm_
def impl_Case_fresh (N : Nat) (c : (List Int) × (List Int) × (List Int) × (List Int)) (life : Int) (periods : List Int) : Option ((Int × Bool) × Unit) :=
  impl_Case_fresh_L3 N N life periods 0 periods (len periods) 0 c
def cmp_isNaN_int (N : Nat) (x : Int) : Option (Bool × Unit) :=
  some (ine x x, ())
def cmp_Compare_int (N : Nat) (x : Int) (y : Int) : Option (Int × Unit) :=
  (cmp_isNaN_int N x).bind fun r =>
  (cmp_isNaN_int N y).bind fun r1 =>
  bif r.1 then
    bif r1.1 then
      some (0, ())
    else
      some ((-1), ())
  else
    bif r1.1 then
      some (1, ())
    else
      bif ilt x y then
        some ((-1), ())
      else
        bif ilt y x then
          some (1, ())
        else
          some (0, ())
def slices_Compare_int_int_K1 (N : Nat) (s12 : List Int) (s22 : List Int) : Option (Int × Unit) :=
  bif ilt (len s12) (len s22) then
    some ((-1), ())
  else
    some (0, ())
def slices_Compare_int_int_B1 (N : Nat) (kx : (List Int) → (List Int) → (List Int) → Int → Int → Option (Int × Unit)) (s11 : List Int) (s21 : List Int) (v9 : List Int) (v10 : Int) (v11 : Int) : Option (Int × Unit) :=
  bif ilt v11 v10 then
    chk (inB v11 v9.length) <|
    bif ile (len s21) v11 then
      some (1, ())
    else
      chk (inB v11 s21.length) <|
      (cmp_Compare_int N (gd v9 v11.toNat 0) (gd s21 v11.toNat 0)).bind fun r =>
      bif ine r.1 0 then
        some (r.1, ())
      else
        kx s11 s21 v9 v10 (iadd .i64 v11 1)
  else
    slices_Compare_int_int_K1 N s11 s21
def slices_Compare_int_int_L1 (N fu_ : Nat) (s11 : List Int) (s21 : List Int) (v9 : List Int) (v10 : Int) (v11 : Int) : Option (Int × Unit) :=
  iterK fu_ (fun kx (v_ : ((List Int) × (List Int) × (List Int) × Int × Int × Unit) × (Unit)) => slices_Compare_int_int_B1 N (fun s11 s21 v9 v10 v11 => kx ((s11, s21, v9, v10, v11, ()), ())) v_.1.1 v_.1.2.1 v_.1.2.2.1 v_.1.2.2.2.1 v_.1.2.2.2.2.1) ((s11, s21, v9, v10, v11, ()), ())
theorem slices_Compare_int_int_L1_succ (N fu_ : Nat) (s11 : List Int) (s21 : List Int) (v9 : List Int) (v10 : Int) (v11 : Int) : slices_Compare_int_int_L1 N (fu_ + 1) s11 s21 v9 v10 v11 = slices_Compare_int_int_B1 N (fun s11 s21 v9 v10 v11 => slices_Compare_int_int_L1 N fu_ s11 s21 v9 v10 v11) s11 s21 v9 v10 v11 := rfl
theorem slices_Compare_int_int_L1_run (N : Nat) (s11 : Nat → (List Int)) (s21 : Nat → (List Int)) (v9 : Nat → (List Int)) (v10 : Nat → Int) (v11 : Nat → Int) (n_ : Nat) {res_ : Option (Int × Unit)} (hstep_ : ∀ j_, j_ < n_ → ∀ kx_, slices_Compare_int_int_B1 N kx_ (s11 j_) (s21 j_) (v9 j_) (v10 j_) (v11 j_) = kx_ (s11 (j_ + 1)) (s21 (j_ + 1)) (v9 (j_ + 1)) (v10 (j_ + 1)) (v11 (j_ + 1))) (hend_ : ∀ kx_, slices_Compare_int_int_B1 N kx_ (s11 n_) (s21 n_) (v9 n_) (v10 n_) (v11 n_) = res_) (fu_ : Nat) (hm_ : n_ < fu_) : slices_Compare_int_int_L1 N fu_ (s11 0) (s21 0) (v9 0) (v10 0) (v11 0) = res_ := by
  exact loop_run (L := fun fu_ (x_ : (List Int) × (List Int) × (List Int) × Int × Int) => slices_Compare_int_int_L1 N fu_ x_.1 x_.2.1 x_.2.2.1 x_.2.2.2.1 x_.2.2.2.2) (B := fun kx_ x_ => slices_Compare_int_int_B1 N (fun s11 s21 v9 v10 v11 => kx_ (s11, s21, v9, v10, v11)) x_.1 x_.2.1 x_.2.2.1 x_.2.2.2.1 x_.2.2.2.2) (fun _ _ => rfl) (fun j_ => (s11 j_, s21 j_, v9 j_, v10 j_, v11 j_)) n_ (fun j_ hi_ kx_ => hstep_ j_ hi_ _) (fun kx_ => hend_ _) fu_ hm_
def slices_Compare_int_int (N : Nat) (s1 : List Int) (s2 : List Int) : Option (Int × Unit) :=
  slices_Compare_int_int_L1 N N s1 s2 s1 (len s1) 0
def impl_sets_1 (N : Nat) (a : List Int) (b : List Int) : Option (Int × Unit) :=
  bif ine (len a) (len b) then
    some (isub .i64 (len a) (len b), ())
  else
    (slices_Compare_int_int N a b).bind fun r =>
    some (r.1, ())

def impl_sets_K1 (N : Nat) (kx : Int → Int → Int → (List (List Int)) → Option ((List (List Int)) × Unit)) (n3 : Int) (v92 : Int) (v102 : Int) (out2 : List (List Int)) (list1 : List Int) : Option ((List (List Int)) × Unit) :=
  chk (fitB (out2.length + 1) 24) <|
  kx n3 v92 (iadd .i64 v102 1) (out2 ++ [list1])
def impl_sets_B1 (N : Nat) (kx : Int → Int → Int → (List (List Int)) → Option ((List (List Int)) × Unit)) (kx1 : Int → Int → Int → Int → Int → Int → (List (List Int)) → (List Int) → Option ((List (List Int)) × Unit)) (n2 : Int) (code : Int) (v91 : Int) (v101 : Int) (v14 : Int) (v15 : Int) (out1 : List (List Int)) (list : List Int) : Option ((List (List Int)) × Unit) :=
  bif ilt v15 v14 then
    chk (ile 0 v15) <|
    bif ieq (iand .i64 (ishr .i64 code v15) 1) 1 then
      chk (fitB (list.length + 1) 8) <|
      kx1 n2 code v91 v101 v14 (iadd .i64 v15 1) out1 (list ++ [v15])
    else
      kx1 n2 code v91 v101 v14 (iadd .i64 v15 1) out1 list
  else
    impl_sets_K1 N kx n2 v91 v101 out1 list
def impl_sets_L1 (N fu_ : Nat) (kx : Int → Int → Int → (List (List Int)) → Option ((List (List Int)) × Unit)) (n2 : Int) (code : Int) (v91 : Int) (v101 : Int) (v14 : Int) (v15 : Int) (out1 : List (List Int)) (list : List Int) : Option ((List (List Int)) × Unit) :=
  iterK fu_ (fun kx1 (v_ : (Int × Int × Int × Int × Int × Int × Unit) × ((List (List Int)) × (List Int) × Unit)) => impl_sets_B1 N kx (fun n2 code v91 v101 v14 v15 out1 list => kx1 ((n2, code, v91, v101, v14, v15, ()), (out1, list, ()))) v_.1.1 v_.1.2.1 v_.1.2.2.1 v_.1.2.2.2.1 v_.1.2.2.2.2.1 v_.1.2.2.2.2.2.1 v_.2.1 v_.2.2.1) ((n2, code, v91, v101, v14, v15, ()), (out1, list, ()))
theorem impl_sets_L1_succ (N fu_ : Nat) (kx : Int → Int → Int → (List (List Int)) → Option ((List (List Int)) × Unit)) (n2 : Int) (code : Int) (v91 : Int) (v101 : Int) (v14 : Int) (v15 : Int) (out1 : List (List Int)) (list : List Int) : impl_sets_L1 N (fu_ + 1) kx n2 code v91 v101 v14 v15 out1 list = impl_sets_B1 N kx (fun n2 code v91 v101 v14 v15 out1 list => impl_sets_L1 N fu_ kx n2 code v91 v101 v14 v15 out1 list) n2 code v91 v101 v14 v15 out1 list := rfl
theorem impl_sets_L1_run (N : Nat) (kx : Int → Int → Int → (List (List Int)) → Option ((List (List Int)) × Unit)) (n2 : Nat → Int) (code : Nat → Int) (v91 : Nat → Int) (v101 : Nat → Int) (v14 : Nat → Int) (v15 : Nat → Int) (out1 : Nat → (List (List Int))) (list : Nat → (List Int)) (n_ : Nat) {res_ : Option ((List (List Int)) × Unit)} (hstep_ : ∀ j_, j_ < n_ → ∀ kx_, impl_sets_B1 N kx kx_ (n2 j_) (code j_) (v91 j_) (v101 j_) (v14 j_) (v15 j_) (out1 j_) (list j_) = kx_ (n2 (j_ + 1)) (code (j_ + 1)) (v91 (j_ + 1)) (v101 (j_ + 1)) (v14 (j_ + 1)) (v15 (j_ + 1)) (out1 (j_ + 1)) (list (j_ + 1))) (hend_ : ∀ kx_, impl_sets_B1 N kx kx_ (n2 n_) (code n_) (v91 n_) (v101 n_) (v14 n_) (v15 n_) (out1 n_) (list n_) = res_) (fu_ : Nat) (hm_ : n_ < fu_) : impl_sets_L1 N fu_ kx (n2 0) (code 0) (v91 0) (v101 0) (v14 0) (v15 0) (out1 0) (list 0) = res_ := by
  exact loop_run (L := fun fu_ (x_ : Int × Int × Int × Int × Int × Int × (List (List Int)) × (List Int)) => impl_sets_L1 N fu_ kx x_.1 x_.2.1 x_.2.2.1 x_.2.2.2.1 x_.2.2.2.2.1 x_.2.2.2.2.2.1 x_.2.2.2.2.2.2.1 x_.2.2.2.2.2.2.2) (B := fun kx_ x_ => impl_sets_B1 N kx (fun n2 code v91 v101 v14 v15 out1 list => kx_ (n2, code, v91, v101, v14, v15, out1, list)) x_.1 x_.2.1 x_.2.2.1 x_.2.2.2.1 x_.2.2.2.2.1 x_.2.2.2.2.2.1 x_.2.2.2.2.2.2.1 x_.2.2.2.2.2.2.2) (fun _ _ => rfl) (fun j_ => (n2 j_, code j_, v91 j_, v101 j_, v14 j_, v15 j_, out1 j_, list j_)) n_ (fun j_ hi_ kx_ => hstep_ j_ hi_ _) (fun kx_ => hend_ _) fu_ hm_
def impl_sets_K2 (N : Nat) (out3 : List (List Int)) : Option ((List (List Int)) × Unit) :=
  (slices_SortFunc_int_int__impl_sets_1 N out3).bind fun r =>
  some (r.2, ())
def impl_sets_B2 (N : Nat) (kx : Int → Int → Int → (List (List Int)) → Option ((List (List Int)) × Unit)) (n1 : Int) (v9 : Int) (v10 : Int) (out : List (List Int)) : Option ((List (List Int)) × Unit) :=
  bif ilt v10 v9 then
    impl_sets_L1 N N kx n1 v10 v9 v10 n1 0 out []
  else
    impl_sets_K2 N out
def impl_sets_L2 (N fu_ : Nat) (n1 : Int) (v9 : Int) (v10 : Int) (out : List (List Int)) : Option ((List (List Int)) × Unit) :=
  iterK fu_ (fun kx (v_ : (Int × Int × Int × Unit) × ((List (List Int)) × Unit)) => impl_sets_B2 N (fun n1 v9 v10 out => kx ((n1, v9, v10, ()), (out, ()))) v_.1.1 v_.1.2.1 v_.1.2.2.1 v_.2.1) ((n1, v9, v10, ()), (out, ()))
theorem impl_sets_L2_succ (N fu_ : Nat) (n1 : Int) (v9 : Int) (v10 : Int) (out : List (List Int)) : impl_sets_L2 N (fu_ + 1) n1 v9 v10 out = impl_sets_B2 N (fun n1 v9 v10 out => impl_sets_L2 N fu_ n1 v9 v10 out) n1 v9 v10 out := rfl
theorem impl_sets_L2_run (N : Nat) (n1 : Nat → Int) (v9 : Nat → Int) (v10 : Nat → Int) (out : Nat → (List (List Int))) (n_ : Nat) {res_ : Option ((List (List Int)) × Unit)} (hstep_ : ∀ j_, j_ < n_ → ∀ kx_, impl_sets_B2 N kx_ (n1 j_) (v9 j_) (v10 j_) (out j_) = kx_ (n1 (j_ + 1)) (v9 (j_ + 1)) (v10 (j_ + 1)) (out (j_ + 1))) (hend_ : ∀ kx_, impl_sets_B2 N kx_ (n1 n_) (v9 n_) (v10 n_) (out n_) = res_) (fu_ : Nat) (hm_ : n_ < fu_) : impl_sets_L2 N fu_ (n1 0) (v9 0) (v10 0) (out 0) = res_ := by
  exact loop_run (L := fun fu_ (x_ : Int × Int × Int × (List (List Int))) => impl_sets_L2 N fu_ x_.1 x_.2.1 x_.2.2.1 x_.2.2.2) (B := fun kx_ x_ => impl_sets_B2 N (fun n1 v9 v10 out => kx_ (n1, v9, v10, out)) x_.1 x_.2.1 x_.2.2.1 x_.2.2.2) (fun _ _ => rfl) (fun j_ => (n1 j_, v9 j_, v10 j_, out j_)) n_ (fun j_ hi_ kx_ => hstep_ j_ hi_ _) (fun kx_ => hend_ _) fu_ hm_
def impl_sets (N : Nat) (n : Int) : Option ((List (List Int)) × Unit) :=
  chk (ile 0 n) <|
  impl_sets_L2 N N n (ishl .i64 1 n) 0 []
def impl_Case_bestFresh_K1 (N : Nat) (kx : Int → (List Int) → Int → Int → Int → ((List Int) × (List Int) × (List Int) × (List Int)) → (List (List Int)) → Option (((List Int) × Int) × Unit)) (life2 : Int) (best1 : List Int) (least1 : Int) (v171 : Int) (v181 : Int) (c2 : (List Int) × (List Int) × (List Int) × (List Int)) (v161 : List (List Int)) : Option (((List Int) × Int) × Unit) :=
  kx life2 best1 least1 v171 (iadd .i64 v181 1) c2 v161
def impl_Case_bestFresh_K2 (N : Nat) (best2 : List Int) (least2 : Int) : Option (((List Int) × Int) × Unit) :=
  some ((best2, least2), ())
def impl_Case_bestFresh_B1 (N : Nat) (kx : Int → (List Int) → Int → Int → Int → ((List Int) × (List Int) × (List Int) × (List Int)) → (List (List Int)) → Option (((List Int) × Int) × Unit)) (life1 : Int) (best : List Int) (least : Int) (v17 : Int) (v18 : Int) (c1 : (List Int) × (List Int) × (List Int) × (List Int)) (v16 : List (List Int)) : Option (((List Int) × Int) × Unit) :=
  bif ilt v18 v17 then
    chk (inB v18 v16.length) <|
    (impl_Case_fresh N c1 life1 (gd v16 v18.toNat [])).bind fun r1 =>
    bif r1.1.2 then
      bif ilt r1.1.1 least then
        impl_Case_bestFresh_K1 N kx life1 (gd v16 v18.toNat []) r1.1.1 v17 v18 c1 v16
      else
        impl_Case_bestFresh_K1 N kx life1 best least v17 v18 c1 v16
    else
      impl_Case_bestFresh_K1 N kx life1 best least v17 v18 c1 v16
  else
    impl_Case_bestFresh_K2 N best least
def impl_Case_bestFresh_L1 (N fu_ : Nat) (life1 : Int) (best : List Int) (least : Int) (v17 : Int) (v18 : Int) (c1 : (List Int) × (List Int) × (List Int) × (List Int)) (v16 : List (List Int)) : Option (((List Int) × Int) × Unit) :=
  iterK fu_ (fun kx (v_ : (Int × (List Int) × Int × Int × Int × Unit) × (((List Int) × (List Int) × (List Int) × (List Int)) × (List (List Int)) × Unit)) => impl_Case_bestFresh_B1 N (fun life1 best least v17 v18 c1 v16 => kx ((life1, best, least, v17, v18, ()), (c1, v16, ()))) v_.1.1 v_.1.2.1 v_.1.2.2.1 v_.1.2.2.2.1 v_.1.2.2.2.2.1 v_.2.1 v_.2.2.1) ((life1, best, least, v17, v18, ()), (c1, v16, ()))
theorem impl_Case_bestFresh_L1_succ (N fu_ : Nat) (life1 : Int) (best : List Int) (least : Int) (v17 : Int) (v18 : Int) (c1 : (List Int) × (List Int) × (List Int) × (List Int)) (v16 : List (List Int)) : impl_Case_bestFresh_L1 N (fu_ + 1) life1 best least v17 v18 c1 v16 = impl_Case_bestFresh_B1 N (fun life1 best least v17 v18 c1 v16 => impl_Case_bestFresh_L1 N fu_ life1 best least v17 v18 c1 v16) life1 best least v17 v18 c1 v16 := rfl
theorem impl_Case_bestFresh_L1_run (N : Nat) (life1 : Nat → Int) (best : Nat → (List Int)) (least : Nat → Int) (v17 : Nat → Int) (v18 : Nat → Int) (c1 : Nat → ((List Int) × (List Int) × (List Int) × (List Int))) (v16 : Nat → (List (List Int))) (n_ : Nat) {res_ : Option (((List Int) × Int) × Unit)} (hstep_ : ∀ j_, j_ < n_ → ∀ kx_, impl_Case_bestFresh_B1 N kx_ (life1 j_) (best j_) (least j_) (v17 j_) (v18 j_) (c1 j_) (v16 j_) = kx_ (life1 (j_ + 1)) (best (j_ + 1)) (least (j_ + 1)) (v17 (j_ + 1)) (v18 (j_ + 1)) (c1 (j_ + 1)) (v16 (j_ + 1))) (hend_ : ∀ kx_, impl_Case_bestFresh_B1 N kx_ (life1 n_) (best n_) (least n_) (v17 n_) (v18 n_) (c1 n_) (v16 n_) = res_) (fu_ : Nat) (hm_ : n_ < fu_) : impl_Case_bestFresh_L1 N fu_ (life1 0) (best 0) (least 0) (v17 0) (v18 0) (c1 0) (v16 0) = res_ := by
  exact loop_run (L := fun fu_ (x_ : Int × (List Int) × Int × Int × Int × ((List Int) × (List Int) × (List Int) × (List Int)) × (List (List Int))) => impl_Case_bestFresh_L1 N fu_ x_.1 x_.2.1 x_.2.2.1 x_.2.2.2.1 x_.2.2.2.2.1 x_.2.2.2.2.2.1 x_.2.2.2.2.2.2) (B := fun kx_ x_ => impl_Case_bestFresh_B1 N (fun life1 best least v17 v18 c1 v16 => kx_ (life1, best, least, v17, v18, c1, v16)) x_.1 x_.2.1 x_.2.2.1 x_.2.2.2.1 x_.2.2.2.2.1 x_.2.2.2.2.2.1 x_.2.2.2.2.2.2) (fun _ _ => rfl) (fun j_ => (life1 j_, best j_, least j_, v17 j_, v18 j_, c1 j_, v16 j_)) n_ (fun j_ hi_ kx_ => hstep_ j_ hi_ _) (fun kx_ => hend_ _) fu_ hm_
def impl_Case_bestFresh (N : Nat) (c : (List Int) × (List Int) × (List Int) × (List Int)) (life : Int) : Option (((List Int) × Int) × Unit) :=
  (impl_sets N (len c.1)).bind fun r =>
  impl_Case_bestFresh_L1 N N life [] 1099511627776 (len r.1) 0 c r.1
def impl_BestFresh (N : Nat) (c : (List Int) × (List Int) × (List Int) × (List Int)) (life : Int) : Option (((List Int) × Int × Bool) × Unit) :=
  (impl_IsCase N c).bind fun r =>
  bif !r.1 then
    some (([], (0, false)), ())
  else
    (impl_isLife N life).bind fun r1 =>
    bif !r1.1 then
      some (([], (0, false)), ())
    else
      (impl_Case_bestFresh N c life).bind fun r2 =>
      some ((r2.1.1, (r2.1.2, true)), ())
def spec_l1In (N : Nat) (x : Int) (a : Int) (b : Int) : Option (Bool × Unit) :=
  bif ile a x then
    some (ile x b, ())
  else
    some (false, ())
def spec_l2Row_K1 (N : Nat) (row2 : List Int) (n2 : Int) : Option (Bool × Unit) :=
  some (ieq (len row2) n2, ())
def spec_l2Row_B1 (N : Nat) (kx : (List Int) → Int → Int → Int → Option (Bool × Unit)) (row1 : List Int) (n1 : Int) (most1 : Int) (i : Int) : Option (Bool × Unit) :=
  bif ilt i (len row1) then
    chk (inB i row1.length) <|
    (spec_l1In N (gd row1 i.toNat 0) 0 most1).bind fun r =>
    bif !r.1 then
      some (false, ())
    else
      kx row1 n1 most1 (iadd .i64 i 1)
  else
    spec_l2Row_K1 N row1 n1
def spec_l2Row_L1 (N fu_ : Nat) (row1 : List Int) (n1 : Int) (most1 : Int) (i : Int) : Option (Bool × Unit) :=
  iterK fu_ (fun kx (v_ : ((List Int) × Int × Int × Int × Unit) × (Unit)) => spec_l2Row_B1 N (fun row1 n1 most1 i => kx ((row1, n1, most1, i, ()), ())) v_.1.1 v_.1.2.1 v_.1.2.2.1 v_.1.2.2.2.1) ((row1, n1, most1, i, ()), ())
theorem spec_l2Row_L1_succ (N fu_ : Nat) (row1 : List Int) (n1 : Int) (most1 : Int) (i : Int) : spec_l2Row_L1 N (fu_ + 1) row1 n1 most1 i = spec_l2Row_B1 N (fun row1 n1 most1 i => spec_l2Row_L1 N fu_ row1 n1 most1 i) row1 n1 most1 i := rfl
theorem spec_l2Row_L1_run (N : Nat) (row1 : Nat → (List Int)) (n1 : Nat → Int) (most1 : Nat → Int) (i : Nat → Int) (n_ : Nat) {res_ : Option (Bool × Unit)} (hstep_ : ∀ j_, j_ < n_ → ∀ kx_, spec_l2Row_B1 N kx_ (row1 j_) (n1 j_) (most1 j_) (i j_) = kx_ (row1 (j_ + 1)) (n1 (j_ + 1)) (most1 (j_ + 1)) (i (j_ + 1))) (hend_ : ∀ kx_, spec_l2Row_B1 N kx_ (row1 n_) (n1 n_) (most1 n_) (i n_) = res_) (fu_ : Nat) (hm_ : n_ < fu_) : spec_l2Row_L1 N fu_ (row1 0) (n1 0) (most1 0) (i 0) = res_ := by
  exact loop_run (L := fun fu_ (x_ : (List Int) × Int × Int × Int) => spec_l2Row_L1 N fu_ x_.1 x_.2.1 x_.2.2.1 x_.2.2.2) (B := fun kx_ x_ => spec_l2Row_B1 N (fun row1 n1 most1 i => kx_ (row1, n1, most1, i)) x_.1 x_.2.1 x_.2.2.1 x_.2.2.2) (fun _ _ => rfl) (fun j_ => (row1 j_, n1 j_, most1 j_, i j_)) n_ (fun j_ hi_ kx_ => hstep_ j_ hi_ _) (fun kx_ => hend_ _) fu_ hm_
def spec_l2Row (N : Nat) (row : List Int) (n : Int) (most : Int) : Option (Bool × Unit) :=
  spec_l2Row_L1 N N row n most 0
def spec_l2Good (N : Nat) (c : (List Int) × (List Int) × (List Int) × (List Int)) : Option (Bool × Unit) :=
  bif ile (len c.1) 8 then
    (spec_l2Row N c.1 (len c.1) 20).bind fun r =>
    bif r.1 then
      (spec_l2Row N c.2.1 (len c.1) 99).bind fun r1 =>
      bif r1.1 then
        (spec_l2Row N c.2.2.1 (len c.1) 9).bind fun r2 =>
        bif r2.1 then
          (spec_l2Row N c.2.2.2 (len c.1) 9).bind fun r3 =>
          some (r3.1, ())
        else
          some (false, ())
      else
        some (false, ())
    else
      some (false, ())
  else
    some (false, ())
def spec_l9Life (N : Nat) (c : (List Int) × (List Int) × (List Int) × (List Int)) (life : Int) : Option (Bool × Unit) :=
  (spec_l2Good N c).bind fun r =>
  bif r.1 then
    (spec_l1In N life 1 8).bind fun r1 =>
    some (r1.1, ())
  else
    some (false, ())
def spec_l2Bits_K1 (N : Nat) (out1 : List Int) : Option ((List Int) × Unit) :=
  some (out1, ())
def spec_l2Bits_B1 (N : Nat) (kx : Int → Int → Int → (List Int) → Option ((List Int) × Unit)) (n1 : Int) (code1 : Int) (x : Int) (out : List Int) : Option ((List Int) × Unit) :=
  bif ilt x n1 then
    chk (ile 0 x) <|
    bif ieq (iand .i64 (ishr .i64 code1 x) 1) 1 then
      chk (fitB (out.length + 1) 8) <|
      kx n1 code1 (iadd .i64 x 1) (out ++ [x])
    else
      kx n1 code1 (iadd .i64 x 1) out
  else
    spec_l2Bits_K1 N out
def spec_l2Bits_L1 (N fu_ : Nat) (n1 : Int) (code1 : Int) (x : Int) (out : List Int) : Option ((List Int) × Unit) :=
  iterK fu_ (fun kx (v_ : (Int × Int × Int × Unit) × ((List Int) × Unit)) => spec_l2Bits_B1 N (fun n1 code1 x out => kx ((n1, code1, x, ()), (out, ()))) v_.1.1 v_.1.2.1 v_.1.2.2.1 v_.2.1) ((n1, code1, x, ()), (out, ()))
theorem spec_l2Bits_L1_succ (N fu_ : Nat) (n1 : Int) (code1 : Int) (x : Int) (out : List Int) : spec_l2Bits_L1 N (fu_ + 1) n1 code1 x out = spec_l2Bits_B1 N (fun n1 code1 x out => spec_l2Bits_L1 N fu_ n1 code1 x out) n1 code1 x out := rfl
theorem spec_l2Bits_L1_run (N : Nat) (n1 : Nat → Int) (code1 : Nat → Int) (x : Nat → Int) (out : Nat → (List Int)) (n_ : Nat) {res_ : Option ((List Int) × Unit)} (hstep_ : ∀ j_, j_ < n_ → ∀ kx_, spec_l2Bits_B1 N kx_ (n1 j_) (code1 j_) (x j_) (out j_) = kx_ (n1 (j_ + 1)) (code1 (j_ + 1)) (x (j_ + 1)) (out (j_ + 1))) (hend_ : ∀ kx_, spec_l2Bits_B1 N kx_ (n1 n_) (code1 n_) (x n_) (out n_) = res_) (fu_ : Nat) (hm_ : n_ < fu_) : spec_l2Bits_L1 N fu_ (n1 0) (code1 0) (x 0) (out 0) = res_ := by
  exact loop_run (L := fun fu_ (x_ : Int × Int × Int × (List Int)) => spec_l2Bits_L1 N fu_ x_.1 x_.2.1 x_.2.2.1 x_.2.2.2) (B := fun kx_ x_ => spec_l2Bits_B1 N (fun n1 code1 x out => kx_ (n1, code1, x, out)) x_.1 x_.2.1 x_.2.2.1 x_.2.2.2) (fun _ _ => rfl) (fun j_ => (n1 j_, code1 j_, x j_, out j_)) n_ (fun j_ hi_ kx_ => hstep_ j_ hi_ _) (fun kx_ => hend_ _) fu_ hm_
def spec_l2Bits (N : Nat) (n : Int) (code : Int) : Option ((List Int) × Unit) :=
  spec_l2Bits_L1 N N n code 0 []
def spec_l3Rate_K1 (N : Nat) (sum1 : Int) : Option (Int × Unit) :=
  some (sum1, ())
def spec_l3Rate_B1 (N : Nat) (kx1 : Int → Int → Int → ((List Int) × (List Int) × (List Int) × (List Int)) → Option (Int × Unit)) (t1 : Int) (sum : Int) (kx : Int) (c1 : (List Int) × (List Int) × (List Int) × (List Int)) : Option (Int × Unit) :=
  bif ilt kx t1 then
    chk (inB kx c1.2.2.2.length) <|
    kx1 t1 (iadd .i64 sum (gd c1.2.2.2 kx.toNat 0)) (iadd .i64 kx 1) c1
  else
    spec_l3Rate_K1 N sum
def spec_l3Rate_L1 (N fu_ : Nat) (t1 : Int) (sum : Int) (kx : Int) (c1 : (List Int) × (List Int) × (List Int) × (List Int)) : Option (Int × Unit) :=
  iterK fu_ (fun kx1 (v_ : (Int × Int × Int × Unit) × (((List Int) × (List Int) × (List Int) × (List Int)) × Unit)) => spec_l3Rate_B1 N (fun t1 sum kx c1 => kx1 ((t1, sum, kx, ()), (c1, ()))) v_.1.1 v_.1.2.1 v_.1.2.2.1 v_.2.1) ((t1, sum, kx, ()), (c1, ()))
theorem spec_l3Rate_L1_succ (N fu_ : Nat) (t1 : Int) (sum : Int) (kx : Int) (c1 : (List Int) × (List Int) × (List Int) × (List Int)) : spec_l3Rate_L1 N (fu_ + 1) t1 sum kx c1 = spec_l3Rate_B1 N (fun t1 sum kx c1 => spec_l3Rate_L1 N fu_ t1 sum kx c1) t1 sum kx c1 := rfl
theorem spec_l3Rate_L1_run (N : Nat) (t1 : Nat → Int) (sum : Nat → Int) (kx : Nat → Int) (c1 : Nat → ((List Int) × (List Int) × (List Int) × (List Int))) (n_ : Nat) {res_ : Option (Int × Unit)} (hstep_ : ∀ j_, j_ < n_ → ∀ kx_, spec_l3Rate_B1 N kx_ (t1 j_) (sum j_) (kx j_) (c1 j_) = kx_ (t1 (j_ + 1)) (sum (j_ + 1)) (kx (j_ + 1)) (c1 (j_ + 1))) (hend_ : ∀ kx_, spec_l3Rate_B1 N kx_ (t1 n_) (sum n_) (kx n_) (c1 n_) = res_) (fu_ : Nat) (hm_ : n_ < fu_) : spec_l3Rate_L1 N fu_ (t1 0) (sum 0) (kx 0) (c1 0) = res_ := by
  exact loop_run (L := fun fu_ (x_ : Int × Int × Int × ((List Int) × (List Int) × (List Int) × (List Int))) => spec_l3Rate_L1 N fu_ x_.1 x_.2.1 x_.2.2.1 x_.2.2.2) (B := fun kx_ x_ => spec_l3Rate_B1 N (fun t1 sum kx c1 => kx_ (t1, sum, kx, c1)) x_.1 x_.2.1 x_.2.2.1 x_.2.2.2) (fun _ _ => rfl) (fun j_ => (t1 j_, sum j_, kx j_, c1 j_)) n_ (fun j_ hi_ kx_ => hstep_ j_ hi_ _) (fun kx_ => hend_ _) fu_ hm_
def spec_l3Rate (N : Nat) (c : (List Int) × (List Int) × (List Int) × (List Int)) (i : Int) (t : Int) : Option (Int × Unit) :=
  chk (inB i c.2.2.1.length) <|
  spec_l3Rate_L1 N N t (gd c.2.2.1 i.toNat 0) i c
def spec_l9Rate_K1 (N : Nat) (best1 : Int) : Option (Int × Unit) :=
  some (best1, ())
def spec_l9Rate_B1 (N : Nat) (kx : Int → (List Int) → Int → Int → Int → ((List Int) × (List Int) × (List Int) × (List Int)) → Option (Int × Unit)) (life1 : Int) (periods1 : List Int) (t1 : Int) (best : Int) (i : Int) (c1 : (List Int) × (List Int) × (List Int) × (List Int)) : Option (Int × Unit) :=
  bif ilt i (len periods1) then
    chk (inB i periods1.length) <|
    bif ile (gd periods1 i.toNat 0) t1 then
      bif ilt t1 (iadd .i64 (gd periods1 i.toNat 0) life1) then
        (spec_l3Rate N c1 (gd periods1 i.toNat 0) t1).bind fun r =>
        bif ilt best 0 then
          kx life1 periods1 t1 r.1 (iadd .i64 i 1) c1
        else
          bif ilt r.1 best then
            kx life1 periods1 t1 r.1 (iadd .i64 i 1) c1
          else
            kx life1 periods1 t1 best (iadd .i64 i 1) c1
      else
        kx life1 periods1 t1 best (iadd .i64 i 1) c1
    else
      kx life1 periods1 t1 best (iadd .i64 i 1) c1
  else
    spec_l9Rate_K1 N best
def spec_l9Rate_L1 (N fu_ : Nat) (life1 : Int) (periods1 : List Int) (t1 : Int) (best : Int) (i : Int) (c1 : (List Int) × (List Int) × (List Int) × (List Int)) : Option (Int × Unit) :=
  iterK fu_ (fun kx (v_ : (Int × (List Int) × Int × Int × Int × Unit) × (((List Int) × (List Int) × (List Int) × (List Int)) × Unit)) => spec_l9Rate_B1 N (fun life1 periods1 t1 best i c1 => kx ((life1, periods1, t1, best, i, ()), (c1, ()))) v_.1.1 v_.1.2.1 v_.1.2.2.1 v_.1.2.2.2.1 v_.1.2.2.2.2.1 v_.2.1) ((life1, periods1, t1, best, i, ()), (c1, ()))
theorem spec_l9Rate_L1_succ (N fu_ : Nat) (life1 : Int) (periods1 : List Int) (t1 : Int) (best : Int) (i : Int) (c1 : (List Int) × (List Int) × (List Int) × (List Int)) : spec_l9Rate_L1 N (fu_ + 1) life1 periods1 t1 best i c1 = spec_l9Rate_B1 N (fun life1 periods1 t1 best i c1 => spec_l9Rate_L1 N fu_ life1 periods1 t1 best i c1) life1 periods1 t1 best i c1 := rfl
theorem spec_l9Rate_L1_run (N : Nat) (life1 : Nat → Int) (periods1 : Nat → (List Int)) (t1 : Nat → Int) (best : Nat → Int) (i : Nat → Int) (c1 : Nat → ((List Int) × (List Int) × (List Int) × (List Int))) (n_ : Nat) {res_ : Option (Int × Unit)} (hstep_ : ∀ j_, j_ < n_ → ∀ kx_, spec_l9Rate_B1 N kx_ (life1 j_) (periods1 j_) (t1 j_) (best j_) (i j_) (c1 j_) = kx_ (life1 (j_ + 1)) (periods1 (j_ + 1)) (t1 (j_ + 1)) (best (j_ + 1)) (i (j_ + 1)) (c1 (j_ + 1))) (hend_ : ∀ kx_, spec_l9Rate_B1 N kx_ (life1 n_) (periods1 n_) (t1 n_) (best n_) (i n_) (c1 n_) = res_) (fu_ : Nat) (hm_ : n_ < fu_) : spec_l9Rate_L1 N fu_ (life1 0) (periods1 0) (t1 0) (best 0) (i 0) (c1 0) = res_ := by
  exact loop_run (L := fun fu_ (x_ : Int × (List Int) × Int × Int × Int × ((List Int) × (List Int) × (List Int) × (List Int))) => spec_l9Rate_L1 N fu_ x_.1 x_.2.1 x_.2.2.1 x_.2.2.2.1 x_.2.2.2.2.1 x_.2.2.2.2.2) (B := fun kx_ x_ => spec_l9Rate_B1 N (fun life1 periods1 t1 best i c1 => kx_ (life1, periods1, t1, best, i, c1)) x_.1 x_.2.1 x_.2.2.1 x_.2.2.2.1 x_.2.2.2.2.1 x_.2.2.2.2.2) (fun _ _ => rfl) (fun j_ => (life1 j_, periods1 j_, t1 j_, best j_, i j_, c1 j_)) n_ (fun j_ hi_ kx_ => hstep_ j_ hi_ _) (fun kx_ => hend_ _) fu_ hm_
def spec_l9Rate (N : Nat) (c : (List Int) × (List Int) × (List Int) × (List Int)) (life : Int) (periods : List Int) (t : Int) : Option (Int × Unit) :=
  spec_l9Rate_L1 N N life periods t (-1) 0 c
def spec_l9Fresh_K1 (N : Nat) (kx1 : Int → (List Int) → Int → Int → ((List Int) × (List Int) × (List Int) × (List Int)) → Option (Int × Unit)) (life4 : Int) (periods4 : List Int) (sum3 : Int) (t1 : Int) (rate : Int) (v48 : Bool) (c4 : (List Int) × (List Int) × (List Int) × (List Int)) : Option (Int × Unit) :=
  bif v48 then
    some ((-1), ())
  else
    chk (inB t1 c4.1.length) <|
    bif ilt 0 (gd c4.1 t1.toNat 0) then
      chk (inB t1 c4.1.length) <|
      kx1 life4 periods4 (iadd .i64 sum3 (imul .i64 (gd c4.1 t1.toNat 0) rate)) (iadd .i64 t1 1) c4
    else
      kx1 life4 periods4 sum3 (iadd .i64 t1 1) c4
def spec_l9Fresh_K2 (N : Nat) (sum4 : Int) : Option (Int × Unit) :=
  some (sum4, ())
def spec_l9Fresh_B1 (N : Nat) (kx1 : Int → (List Int) → Int → Int → ((List Int) × (List Int) × (List Int) × (List Int)) → Option (Int × Unit)) (life3 : Int) (periods3 : List Int) (sum2 : Int) (t : Int) (c3 : (List Int) × (List Int) × (List Int) × (List Int)) : Option (Int × Unit) :=
  bif ilt t (len c3.1) then
    (spec_l9Rate N c3 life3 periods3 t).bind fun r =>
    chk (inB t c3.1.length) <|
    bif ilt 0 (gd c3.1 t.toNat 0) then
      spec_l9Fresh_K1 N kx1 life3 periods3 sum2 t r.1 (ilt r.1 0) c3
    else
      spec_l9Fresh_K1 N kx1 life3 periods3 sum2 t r.1 false c3
  else
    spec_l9Fresh_K2 N sum2
def spec_l9Fresh_L1 (N fu_ : Nat) (life3 : Int) (periods3 : List Int) (sum2 : Int) (t : Int) (c3 : (List Int) × (List Int) × (List Int) × (List Int)) : Option (Int × Unit) :=
  iterK fu_ (fun kx1 (v_ : (Int × (List Int) × Int × Int × Unit) × (((List Int) × (List Int) × (List Int) × (List Int)) × Unit)) => spec_l9Fresh_B1 N (fun life3 periods3 sum2 t c3 => kx1 ((life3, periods3, sum2, t, ()), (c3, ()))) v_.1.1 v_.1.2.1 v_.1.2.2.1 v_.1.2.2.2.1 v_.2.1) ((life3, periods3, sum2, t, ()), (c3, ()))
theorem spec_l9Fresh_L1_succ (N fu_ : Nat) (life3 : Int) (periods3 : List Int) (sum2 : Int) (t : Int) (c3 : (List Int) × (List Int) × (List Int) × (List Int)) : spec_l9Fresh_L1 N (fu_ + 1) life3 periods3 sum2 t c3 = spec_l9Fresh_B1 N (fun life3 periods3 sum2 t c3 => spec_l9Fresh_L1 N fu_ life3 periods3 sum2 t c3) life3 periods3 sum2 t c3 := rfl
theorem spec_l9Fresh_L1_run (N : Nat) (life3 : Nat → Int) (periods3 : Nat → (List Int)) (sum2 : Nat → Int) (t : Nat → Int) (c3 : Nat → ((List Int) × (List Int) × (List Int) × (List Int))) (n_ : Nat) {res_ : Option (Int × Unit)} (hstep_ : ∀ j_, j_ < n_ → ∀ kx_, spec_l9Fresh_B1 N kx_ (life3 j_) (periods3 j_) (sum2 j_) (t j_) (c3 j_) = kx_ (life3 (j_ + 1)) (periods3 (j_ + 1)) (sum2 (j_ + 1)) (t (j_ + 1)) (c3 (j_ + 1))) (hend_ : ∀ kx_, spec_l9Fresh_B1 N kx_ (life3 n_) (periods3 n_) (sum2 n_) (t n_) (c3 n_) = res_) (fu_ : Nat) (hm_ : n_ < fu_) : spec_l9Fresh_L1 N fu_ (life3 0) (periods3 0) (sum2 0) (t 0) (c3 0) = res_ := by
  exact loop_run (L := fun fu_ (x_ : Int × (List Int) × Int × Int × ((List Int) × (List Int) × (List Int) × (List Int))) => spec_l9Fresh_L1 N fu_ x_.1 x_.2.1 x_.2.2.1 x_.2.2.2.1 x_.2.2.2.2) (B := fun kx_ x_ => spec_l9Fresh_B1 N (fun life3 periods3 sum2 t c3 => kx_ (life3, periods3, sum2, t, c3)) x_.1 x_.2.1 x_.2.2.1 x_.2.2.2.1 x_.2.2.2.2) (fun _ _ => rfl) (fun j_ => (life3 j_, periods3 j_, sum2 j_, t j_, c3 j_)) n_ (fun j_ hi_ kx_ => hstep_ j_ hi_ _) (fun kx_ => hend_ _) fu_ hm_
def spec_l9Fresh_K3 (N : Nat) (life2 : Int) (periods2 : List Int) (sum1 : Int) (c2 : (List Int) × (List Int) × (List Int) × (List Int)) : Option (Int × Unit) :=
  spec_l9Fresh_L1 N N life2 periods2 sum1 0 c2
def spec_l9Fresh_B2 (N : Nat) (kx : Int → (List Int) → Int → Int → ((List Int) × (List Int) × (List Int) × (List Int)) → Option (Int × Unit)) (life1 : Int) (periods1 : List Int) (sum : Int) (i : Int) (c1 : (List Int) × (List Int) × (List Int) × (List Int)) : Option (Int × Unit) :=
  bif ilt i (len periods1) then
    chk (inB i periods1.length) <|
    chk (inB (gd periods1 i.toNat 0) c1.2.1.length) <|
    kx life1 periods1 (iadd .i64 sum (gd c1.2.1 (gd periods1 i.toNat 0).toNat 0)) (iadd .i64 i 1) c1
  else
    spec_l9Fresh_K3 N life1 periods1 sum c1
def spec_l9Fresh_L2 (N fu_ : Nat) (life1 : Int) (periods1 : List Int) (sum : Int) (i : Int) (c1 : (List Int) × (List Int) × (List Int) × (List Int)) : Option (Int × Unit) :=
  iterK fu_ (fun kx (v_ : (Int × (List Int) × Int × Int × Unit) × (((List Int) × (List Int) × (List Int) × (List Int)) × Unit)) => spec_l9Fresh_B2 N (fun life1 periods1 sum i c1 => kx ((life1, periods1, sum, i, ()), (c1, ()))) v_.1.1 v_.1.2.1 v_.1.2.2.1 v_.1.2.2.2.1 v_.2.1) ((life1, periods1, sum, i, ()), (c1, ()))
theorem spec_l9Fresh_L2_succ (N fu_ : Nat) (life1 : Int) (periods1 : List Int) (sum : Int) (i : Int) (c1 : (List Int) × (List Int) × (List Int) × (List Int)) : spec_l9Fresh_L2 N (fu_ + 1) life1 periods1 sum i c1 = spec_l9Fresh_B2 N (fun life1 periods1 sum i c1 => spec_l9Fresh_L2 N fu_ life1 periods1 sum i c1) life1 periods1 sum i c1 := rfl
theorem spec_l9Fresh_L2_run (N : Nat) (life1 : Nat → Int) (periods1 : Nat → (List Int)) (sum : Nat → Int) (i : Nat → Int) (c1 : Nat → ((List Int) × (List Int) × (List Int) × (List Int))) (n_ : Nat) {res_ : Option (Int × Unit)} (hstep_ : ∀ j_, j_ < n_ → ∀ kx_, spec_l9Fresh_B2 N kx_ (life1 j_) (periods1 j_) (sum j_) (i j_) (c1 j_) = kx_ (life1 (j_ + 1)) (periods1 (j_ + 1)) (sum (j_ + 1)) (i (j_ + 1)) (c1 (j_ + 1))) (hend_ : ∀ kx_, spec_l9Fresh_B2 N kx_ (life1 n_) (periods1 n_) (sum n_) (i n_) (c1 n_) = res_) (fu_ : Nat) (hm_ : n_ < fu_) : spec_l9Fresh_L2 N fu_ (life1 0) (periods1 0) (sum 0) (i 0) (c1 0) = res_ := by
  exact loop_run (L := fun fu_ (x_ : Int × (List Int) × Int × Int × ((List Int) × (List Int) × (List Int) × (List Int))) => spec_l9Fresh_L2 N fu_ x_.1 x_.2.1 x_.2.2.1 x_.2.2.2.1 x_.2.2.2.2) (B := fun kx_ x_ => spec_l9Fresh_B2 N (fun life1 periods1 sum i c1 => kx_ (life1, periods1, sum, i, c1)) x_.1 x_.2.1 x_.2.2.1 x_.2.2.2.1 x_.2.2.2.2) (fun _ _ => rfl) (fun j_ => (life1 j_, periods1 j_, sum j_, i j_, c1 j_)) n_ (fun j_ hi_ kx_ => hstep_ j_ hi_ _) (fun kx_ => hend_ _) fu_ hm_
def spec_l9Fresh (N : Nat) (c : (List Int) × (List Int) × (List Int) × (List Int)) (life : Int) (periods : List Int) : Option (Int × Unit) :=
  spec_l9Fresh_L2 N N life periods 0 0 c
def spec_l2Before_K1 (N : Nat) : Option (Bool × Unit) :=
  some (false, ())
def spec_l2Before_B1 (N : Nat) (kx : (List Int) → (List Int) → Int → Option (Bool × Unit)) (a1 : List Int) (b1 : List Int) (i : Int) : Option (Bool × Unit) :=
  bif ilt i (len a1) then
    chk (inB i a1.length) <|
    chk (inB i b1.length) <|
    bif ine (gd a1 i.toNat 0) (gd b1 i.toNat 0) then
      chk (inB i a1.length) <|
      chk (inB i b1.length) <|
      some (ilt (gd a1 i.toNat 0) (gd b1 i.toNat 0), ())
    else
      kx a1 b1 (iadd .i64 i 1)
  else
    spec_l2Before_K1 N
def spec_l2Before_L1 (N fu_ : Nat) (a1 : List Int) (b1 : List Int) (i : Int) : Option (Bool × Unit) :=
  iterK fu_ (fun kx (v_ : ((List Int) × (List Int) × Int × Unit) × (Unit)) => spec_l2Before_B1 N (fun a1 b1 i => kx ((a1, b1, i, ()), ())) v_.1.1 v_.1.2.1 v_.1.2.2.1) ((a1, b1, i, ()), ())
theorem spec_l2Before_L1_succ (N fu_ : Nat) (a1 : List Int) (b1 : List Int) (i : Int) : spec_l2Before_L1 N (fu_ + 1) a1 b1 i = spec_l2Before_B1 N (fun a1 b1 i => spec_l2Before_L1 N fu_ a1 b1 i) a1 b1 i := rfl
theorem spec_l2Before_L1_run (N : Nat) (a1 : Nat → (List Int)) (b1 : Nat → (List Int)) (i : Nat → Int) (n_ : Nat) {res_ : Option (Bool × Unit)} (hstep_ : ∀ j_, j_ < n_ → ∀ kx_, spec_l2Before_B1 N kx_ (a1 j_) (b1 j_) (i j_) = kx_ (a1 (j_ + 1)) (b1 (j_ + 1)) (i (j_ + 1))) (hend_ : ∀ kx_, spec_l2Before_B1 N kx_ (a1 n_) (b1 n_) (i n_) = res_) (fu_ : Nat) (hm_ : n_ < fu_) : spec_l2Before_L1 N fu_ (a1 0) (b1 0) (i 0) = res_ := by
  exact loop_run (L := fun fu_ (x_ : (List Int) × (List Int) × Int) => spec_l2Before_L1 N fu_ x_.1 x_.2.1 x_.2.2) (B := fun kx_ x_ => spec_l2Before_B1 N (fun a1 b1 i => kx_ (a1, b1, i)) x_.1 x_.2.1 x_.2.2) (fun _ _ => rfl) (fun j_ => (a1 j_, b1 j_, i j_)) n_ (fun j_ hi_ kx_ => hstep_ j_ hi_ _) (fun kx_ => hend_ _) fu_ hm_
def spec_l2Before (N : Nat) (a : List Int) (b : List Int) : Option (Bool × Unit) :=
  bif ine (len a) (len b) then
    some (ilt (len a) (len b), ())
  else
    spec_l2Before_L1 N N a b 0
def spec_l9Best_K1 (N : Nat) (least1 : Int) (best1 : List Int) : Option (((List Int) × Int) × Unit) :=
  some ((best1, least1), ())
def spec_l9Best_B1 (N : Nat) (kx : Int → Int → Int → ((List Int) × (List Int) × (List Int) × (List Int)) → (List Int) → Option (((List Int) × Int) × Unit)) (life1 : Int) (least : Int) (code : Int) (c1 : (List Int) × (List Int) × (List Int) × (List Int)) (best : List Int) : Option (((List Int) × Int) × Unit) :=
  chk (ile 0 (len c1.1)) <|
  bif ilt code (ishl .i64 1 (len c1.1)) then
    (spec_l2Bits N (len c1.1) code).bind fun r =>
    (spec_l9Fresh N c1 life1 r.1).bind fun r1 =>
    bif ile 0 r1.1 then
      bif ilt least 0 then
        kx life1 r1.1 (iadd .i64 code 1) c1 r.1
      else
        bif ilt r1.1 least then
          kx life1 r1.1 (iadd .i64 code 1) c1 r.1
        else
          bif ieq r1.1 least then
            (spec_l2Before N r.1 best).bind fun r2 =>
            bif r2.1 then
              kx life1 r1.1 (iadd .i64 code 1) c1 r.1
            else
              kx life1 least (iadd .i64 code 1) c1 best
          else
            kx life1 least (iadd .i64 code 1) c1 best
    else
      kx life1 least (iadd .i64 code 1) c1 best
  else
    spec_l9Best_K1 N least best
def spec_l9Best_L1 (N fu_ : Nat) (life1 : Int) (least : Int) (code : Int) (c1 : (List Int) × (List Int) × (List Int) × (List Int)) (best : List Int) : Option (((List Int) × Int) × Unit) :=
  iterK fu_ (fun kx (v_ : (Int × Int × Int × Unit) × (((List Int) × (List Int) × (List Int) × (List Int)) × (List Int) × Unit)) => spec_l9Best_B1 N (fun life1 least code c1 best => kx ((life1, least, code, ()), (c1, best, ()))) v_.1.1 v_.1.2.1 v_.1.2.2.1 v_.2.1 v_.2.2.1) ((life1, least, code, ()), (c1, best, ()))
theorem spec_l9Best_L1_succ (N fu_ : Nat) (life1 : Int) (least : Int) (code : Int) (c1 : (List Int) × (List Int) × (List Int) × (List Int)) (best : List Int) : spec_l9Best_L1 N (fu_ + 1) life1 least code c1 best = spec_l9Best_B1 N (fun life1 least code c1 best => spec_l9Best_L1 N fu_ life1 least code c1 best) life1 least code c1 best := rfl
theorem spec_l9Best_L1_run (N : Nat) (life1 : Nat → Int) (least : Nat → Int) (code : Nat → Int) (c1 : Nat → ((List Int) × (List Int) × (List Int) × (List Int))) (best : Nat → (List Int)) (n_ : Nat) {res_ : Option (((List Int) × Int) × Unit)} (hstep_ : ∀ j_, j_ < n_ → ∀ kx_, spec_l9Best_B1 N kx_ (life1 j_) (least j_) (code j_) (c1 j_) (best j_) = kx_ (life1 (j_ + 1)) (least (j_ + 1)) (code (j_ + 1)) (c1 (j_ + 1)) (best (j_ + 1))) (hend_ : ∀ kx_, spec_l9Best_B1 N kx_ (life1 n_) (least n_) (code n_) (c1 n_) (best n_) = res_) (fu_ : Nat) (hm_ : n_ < fu_) : spec_l9Best_L1 N fu_ (life1 0) (least 0) (code 0) (c1 0) (best 0) = res_ := by
  exact loop_run (L := fun fu_ (x_ : Int × Int × Int × ((List Int) × (List Int) × (List Int) × (List Int)) × (List Int)) => spec_l9Best_L1 N fu_ x_.1 x_.2.1 x_.2.2.1 x_.2.2.2.1 x_.2.2.2.2) (B := fun kx_ x_ => spec_l9Best_B1 N (fun life1 least code c1 best => kx_ (life1, least, code, c1, best)) x_.1 x_.2.1 x_.2.2.1 x_.2.2.2.1 x_.2.2.2.2) (fun _ _ => rfl) (fun j_ => (life1 j_, least j_, code j_, c1 j_, best j_)) n_ (fun j_ hi_ kx_ => hstep_ j_ hi_ _) (fun kx_ => hend_ _) fu_ hm_
def spec_l9Best (N : Nat) (c : (List Int) × (List Int) × (List Int) × (List Int)) (life : Int) : Option (((List Int) × Int) × Unit) :=
  spec_l9Best_L1 N N life (-1) 0 c []
def spec_BestFresh (N : Nat) (c : (List Int) × (List Int) × (List Int) × (List Int)) (life : Int) : Option (((List Int) × Int × Bool) × Unit) :=
  (spec_l9Life N c life).bind fun r =>
  bif !r.1 then
    some (([], (0, false)), ())
  else
    (spec_l9Best N c life).bind fun r1 =>
    some ((r1.1.1, (r1.1.2, true)), ())
def pspec_l1Cur_lots (N : Nat) (c : (List Int) × Int × Int) : Option (((List Int) × (List Int) × (List Int) × (List Int)) × ((List Int) × Int × Int)) :=
  (pspec_l1Cur_someLots N c 8).bind fun r =>
  some (r.1, r.2)
def spec_l1Has_K1 (N : Nat) : Option (Bool × Unit) :=
  some (false, ())
def spec_l1Has_B1 (N : Nat) (kx : (List Int) → Int → Int → Option (Bool × Unit)) (l1 : List Int) (n1 : Int) (i : Int) : Option (Bool × Unit) :=
  bif ilt i (len l1) then
    chk (inB i l1.length) <|
    bif ieq (gd l1 i.toNat 0) n1 then
      some (true, ())
    else
      kx l1 n1 (iadd .i64 i 1)
  else
    spec_l1Has_K1 N
def spec_l1Has_L1 (N fu_ : Nat) (l1 : List Int) (n1 : Int) (i : Int) : Option (Bool × Unit) :=
  iterK fu_ (fun kx (v_ : ((List Int) × Int × Int × Unit) × (Unit)) => spec_l1Has_B1 N (fun l1 n1 i => kx ((l1, n1, i, ()), ())) v_.1.1 v_.1.2.1 v_.1.2.2.1) ((l1, n1, i, ()), ())
theorem spec_l1Has_L1_succ (N fu_ : Nat) (l1 : List Int) (n1 : Int) (i : Int) : spec_l1Has_L1 N (fu_ + 1) l1 n1 i = spec_l1Has_B1 N (fun l1 n1 i => spec_l1Has_L1 N fu_ l1 n1 i) l1 n1 i := rfl
theorem spec_l1Has_L1_run (N : Nat) (l1 : Nat → (List Int)) (n1 : Nat → Int) (i : Nat → Int) (n_ : Nat) {res_ : Option (Bool × Unit)} (hstep_ : ∀ j_, j_ < n_ → ∀ kx_, spec_l1Has_B1 N kx_ (l1 j_) (n1 j_) (i j_) = kx_ (l1 (j_ + 1)) (n1 (j_ + 1)) (i (j_ + 1))) (hend_ : ∀ kx_, spec_l1Has_B1 N kx_ (l1 n_) (n1 n_) (i n_) = res_) (fu_ : Nat) (hm_ : n_ < fu_) : spec_l1Has_L1 N fu_ (l1 0) (n1 0) (i 0) = res_ := by
  exact loop_run (L := fun fu_ (x_ : (List Int) × Int × Int) => spec_l1Has_L1 N fu_ x_.1 x_.2.1 x_.2.2) (B := fun kx_ x_ => spec_l1Has_B1 N (fun l1 n1 i => kx_ (l1, n1, i)) x_.1 x_.2.1 x_.2.2) (fun _ _ => rfl) (fun j_ => (l1 j_, n1 j_, i j_)) n_ (fun j_ hi_ kx_ => hstep_ j_ hi_ _) (fun kx_ => hend_ _) fu_ hm_
def spec_l1Has (N : Nat) (l : List Int) (n : Int) : Option (Bool × Unit) :=
  spec_l1Has_L1 N N l n 0
def spec_l1Put_K1 (N : Nat) (n2 : Int) (kx2 : Int) (l2 : List Int) : Option ((List Int) × Unit) :=
  bif ilt kx2 (len l2) then
    chk (inB kx2 l2.length) <|
    bif ieq (gd l2 kx2.toNat 0) n2 then
      some (l2, ())
    else
      chk (cutB 0 kx2 l2.length) <|
      chk (fitB (0 + (List.take (kx2.toNat - 0) (List.drop 0 l2)).length) 8) <|
      chk (fitB ((List.take (kx2.toNat - 0) (List.drop 0 l2)).length + 1) 8) <|
      chk (cutB kx2 (len l2) l2.length) <|
      chk (fitB (((List.take (kx2.toNat - 0) (List.drop 0 l2)) ++ [n2]).length + (List.take ((len l2).toNat - kx2.toNat) (List.drop kx2.toNat l2)).length) 8) <|
      some (((List.take (kx2.toNat - 0) (List.drop 0 l2)) ++ [n2]) ++ (List.take ((len l2).toNat - kx2.toNat) (List.drop kx2.toNat l2)), ())
  else
    chk (cutB 0 kx2 l2.length) <|
    chk (fitB (0 + (List.take (kx2.toNat - 0) (List.drop 0 l2)).length) 8) <|
    chk (fitB ((List.take (kx2.toNat - 0) (List.drop 0 l2)).length + 1) 8) <|
    chk (cutB kx2 (len l2) l2.length) <|
    chk (fitB (((List.take (kx2.toNat - 0) (List.drop 0 l2)) ++ [n2]).length + (List.take ((len l2).toNat - kx2.toNat) (List.drop kx2.toNat l2)).length) 8) <|
    some (((List.take (kx2.toNat - 0) (List.drop 0 l2)) ++ [n2]) ++ (List.take ((len l2).toNat - kx2.toNat) (List.drop kx2.toNat l2)), ())
def spec_l1Put_B1 (N : Nat) (kx1 : Int → Int → (List Int) → Option ((List Int) × Unit)) (n1 : Int) (kx : Int) (l1 : List Int) : Option ((List Int) × Unit) :=
  bif ilt kx (len l1) then
    chk (inB kx l1.length) <|
    bif ilt (gd l1 kx.toNat 0) n1 then
      kx1 n1 (iadd .i64 kx 1) l1
    else
      spec_l1Put_K1 N n1 kx l1
  else
    spec_l1Put_K1 N n1 kx l1
def spec_l1Put_L1 (N fu_ : Nat) (n1 : Int) (kx : Int) (l1 : List Int) : Option ((List Int) × Unit) :=
  iterK fu_ (fun kx1 (v_ : (Int × Int × Unit) × ((List Int) × Unit)) => spec_l1Put_B1 N (fun n1 kx l1 => kx1 ((n1, kx, ()), (l1, ()))) v_.1.1 v_.1.2.1 v_.2.1) ((n1, kx, ()), (l1, ()))
theorem spec_l1Put_L1_succ (N fu_ : Nat) (n1 : Int) (kx : Int) (l1 : List Int) : spec_l1Put_L1 N (fu_ + 1) n1 kx l1 = spec_l1Put_B1 N (fun n1 kx l1 => spec_l1Put_L1 N fu_ n1 kx l1) n1 kx l1 := rfl
theorem spec_l1Put_L1_run (N : Nat) (n1 : Nat → Int) (kx : Nat → Int) (l1 : Nat → (List Int)) (n_ : Nat) {res_ : Option ((List Int) × Unit)} (hstep_ : ∀ j_, j_ < n_ → ∀ kx_, spec_l1Put_B1 N kx_ (n1 j_) (kx j_) (l1 j_) = kx_ (n1 (j_ + 1)) (kx (j_ + 1)) (l1 (j_ + 1))) (hend_ : ∀ kx_, spec_l1Put_B1 N kx_ (n1 n_) (kx n_) (l1 n_) = res_) (fu_ : Nat) (hm_ : n_ < fu_) : spec_l1Put_L1 N fu_ (n1 0) (kx 0) (l1 0) = res_ := by
  exact loop_run (L := fun fu_ (x_ : Int × Int × (List Int)) => spec_l1Put_L1 N fu_ x_.1 x_.2.1 x_.2.2) (B := fun kx_ x_ => spec_l1Put_B1 N (fun n1 kx l1 => kx_ (n1, kx, l1)) x_.1 x_.2.1 x_.2.2) (fun _ _ => rfl) (fun j_ => (n1 j_, kx j_, l1 j_)) n_ (fun j_ hi_ kx_ => hstep_ j_ hi_ _) (fun kx_ => hend_ _) fu_ hm_
def spec_l1Put (N : Nat) (l : List Int) (n : Int) : Option ((List Int) × Unit) :=
  spec_l1Put_L1 N N n 0 l
def spec_DrawFreshCost_K1 (N : Nat) (v21 : (List Int) × (List Int) × (List Int) × (List Int)) (c1 : (List Int) × Int × Int) (kx1 : (List Int) × (List Int) × (List Int) × (List Int)) (periods1 : List Int) : Option ((((List Int) × (List Int) × (List Int) × (List Int)) × Int × (List Int)) × Unit) :=
  (pspec_l1Cur_one N c1 24).bind fun r7 =>
  bif r7.1 then
    (pspec_l1Cur_among N r7.2 [(-1), 0, 8]).bind fun r8 =>
    chk (fitB (periods1.length + 1) 8) <|
    (pspec_l1Cur_among N r8.2 [2, 3, 8, 4, 1, 0, 9]).bind fun r9 =>
    some ((kx1, (r9.1, periods1 ++ [r8.1])), ())
  else
    (pspec_l1Cur_among N r7.2 [2, 3, 8, 4, 1, 0, 9]).bind fun r10 =>
    some ((kx1, (r10.1, periods1)), ())
def spec_DrawFreshCost_K2 (N : Nat) (v35 : Bool) (v2 : (List Int) × (List Int) × (List Int) × (List Int)) (c : (List Int) × Int × Int) (kx : (List Int) × (List Int) × (List Int) × (List Int)) (periods : List Int) : Option ((((List Int) × (List Int) × (List Int) × (List Int)) × Int × (List Int)) × Unit) :=
  bif v35 then
    (spec_l1Put N periods 0).bind fun r6 =>
    spec_DrawFreshCost_K1 N v2 c kx r6.1
  else
    spec_DrawFreshCost_K1 N v2 c kx periods
def spec_DrawFreshCost (N : Nat) (code : List Int) : Option ((((List Int) × (List Int) × (List Int) × (List Int)) × Int × (List Int)) × Unit) :=
  (pspec_l1Cur_lots N (code, (0, 0))).bind fun r =>
  (spec_l1Least N (len r.1.1) 8).bind fun r1 =>
  chk (ile 0 r1.1) <|
  (pspec_l1Cur_pick N r.2 (ishl .i64 1 r1.1)).bind fun r2 =>
  (spec_l2Bits N r1.1 r2.1).bind fun r3 =>
  bif ilt 0 r1.1 then
    (spec_l1Has N r3.1 0).bind fun r4 =>
    bif !r4.1 then
      (pspec_l1Cur_one N r2.2 6).bind fun r5 =>
      spec_DrawFreshCost_K2 N (!r5.1) ([], ([], ([], []))) r5.2 r.1 r3.1
    else
      spec_DrawFreshCost_K2 N false ([], ([], ([], []))) r2.2 r.1 r3.1
  else
    spec_DrawFreshCost_K2 N false ([], ([], ([], []))) r2.2 r.1 r3.1
def laws_vCut (N : Nat) (code : List Int) (n : Int) : Option ((List Int) × Unit) :=
  bif ilt (len code) n then
    chk (cutB (len code) (len code) code.length) <|
    chk (fitB (0 + (cut code (len code) (len code)).length) 1) <|
    chk (fitB ((cut code (len code) (len code)).length + 1) 1) <|
    some ((cut code (len code) (len code)) ++ [icv .u8 (len code)], ())
  else
    chk (cutB n (len code) code.length) <|
    chk (fitB (0 + (cut code n (len code)).length) 1) <|
    chk (fitB ((cut code n (len code)).length + 1) 1) <|
    some ((cut code n (len code)) ++ [icv .u8 n], ())
def impl_Case_arePeriods_K1 (N : Nat) : Option (Bool × Unit) :=
  some (true, ())
def impl_Case_arePeriods_B1 (N : Nat) (kx : (List Int) → (List Int) → Int → Int → ((List Int) × (List Int) × (List Int) × (List Int)) → Option (Bool × Unit)) (periods1 : List Int) (v7 : List Int) (v8 : Int) (v9 : Int) (c1 : (List Int) × (List Int) × (List Int) × (List Int)) : Option (Bool × Unit) :=
  bif ilt v9 v8 then
    chk (inB v9 v7.length) <|
    (impl_within N (gd v7 v9.toNat 0) 0 (isub .i64 (len c1.1) 1)).bind fun r =>
    bif !r.1 then
      some (false, ())
    else
      bif ilt 0 v9 then
        chk (inB (isub .i64 v9 1) periods1.length) <|
        bif ile (gd v7 v9.toNat 0) (gd periods1 (isub .i64 v9 1).toNat 0) then
          some (false, ())
        else
          kx periods1 v7 v8 (iadd .i64 v9 1) c1
      else
        kx periods1 v7 v8 (iadd .i64 v9 1) c1
  else
    impl_Case_arePeriods_K1 N
def impl_Case_arePeriods_L1 (N fu_ : Nat) (periods1 : List Int) (v7 : List Int) (v8 : Int) (v9 : Int) (c1 : (List Int) × (List Int) × (List Int) × (List Int)) : Option (Bool × Unit) :=
  iterK fu_ (fun kx (v_ : ((List Int) × (List Int) × Int × Int × Unit) × (((List Int) × (List Int) × (List Int) × (List Int)) × Unit)) => impl_Case_arePeriods_B1 N (fun periods1 v7 v8 v9 c1 => kx ((periods1, v7, v8, v9, ()), (c1, ()))) v_.1.1 v_.1.2.1 v_.1.2.2.1 v_.1.2.2.2.1 v_.2.1) ((periods1, v7, v8, v9, ()), (c1, ()))
theorem impl_Case_arePeriods_L1_succ (N fu_ : Nat) (periods1 : List Int) (v7 : List Int) (v8 : Int) (v9 : Int) (c1 : (List Int) × (List Int) × (List Int) × (List Int)) : impl_Case_arePeriods_L1 N (fu_ + 1) periods1 v7 v8 v9 c1 = impl_Case_arePeriods_B1 N (fun periods1 v7 v8 v9 c1 => impl_Case_arePeriods_L1 N fu_ periods1 v7 v8 v9 c1) periods1 v7 v8 v9 c1 := rfl
theorem impl_Case_arePeriods_L1_run (N : Nat) (periods1 : Nat → (List Int)) (v7 : Nat → (List Int)) (v8 : Nat → Int) (v9 : Nat → Int) (c1 : Nat → ((List Int) × (List Int) × (List Int) × (List Int))) (n_ : Nat) {res_ : Option (Bool × Unit)} (hstep_ : ∀ j_, j_ < n_ → ∀ kx_, impl_Case_arePeriods_B1 N kx_ (periods1 j_) (v7 j_) (v8 j_) (v9 j_) (c1 j_) = kx_ (periods1 (j_ + 1)) (v7 (j_ + 1)) (v8 (j_ + 1)) (v9 (j_ + 1)) (c1 (j_ + 1))) (hend_ : ∀ kx_, impl_Case_arePeriods_B1 N kx_ (periods1 n_) (v7 n_) (v8 n_) (v9 n_) (c1 n_) = res_) (fu_ : Nat) (hm_ : n_ < fu_) : impl_Case_arePeriods_L1 N fu_ (periods1 0) (v7 0) (v8 0) (v9 0) (c1 0) = res_ := by
  exact loop_run (L := fun fu_ (x_ : (List Int) × (List Int) × Int × Int × ((List Int) × (List Int) × (List Int) × (List Int))) => impl_Case_arePeriods_L1 N fu_ x_.1 x_.2.1 x_.2.2.1 x_.2.2.2.1 x_.2.2.2.2) (B := fun kx_ x_ => impl_Case_arePeriods_B1 N (fun periods1 v7 v8 v9 c1 => kx_ (periods1, v7, v8, v9, c1)) x_.1 x_.2.1 x_.2.2.1 x_.2.2.2.1 x_.2.2.2.2) (fun _ _ => rfl) (fun j_ => (periods1 j_, v7 j_, v8 j_, v9 j_, c1 j_)) n_ (fun j_ hi_ kx_ => hstep_ j_ hi_ _) (fun kx_ => hend_ _) fu_ hm_
def impl_Case_arePeriods (N : Nat) (c : (List Int) × (List Int) × (List Int) × (List Int)) (periods : List Int) : Option (Bool × Unit) :=
  impl_Case_arePeriods_L1 N N periods periods (len periods) 0 c
def impl_FreshCost (N : Nat) (c : (List Int) × (List Int) × (List Int) × (List Int)) (life : Int) (periods : List Int) : Option ((Int × Bool) × Unit) :=
  (impl_IsCase N c).bind fun r =>
  bif !r.1 then
    some ((0, false), ())
  else
    (impl_isLife N life).bind fun r1 =>
    bif !r1.1 then
      some ((0, false), ())
    else
      (impl_Case_arePeriods N c periods).bind fun r2 =>
      bif !r2.1 then
        some ((0, false), ())
      else
        (impl_Case_fresh N c life periods).bind fun r3 =>
        some ((r3.1.1, r3.1.2), ())
def spec_l1Rising_K1 (N : Nat) : Option (Bool × Unit) :=
  some (true, ())
def spec_l1Rising_B1 (N : Nat) (kx : (List Int) → Int → Int → Int → Option (Bool × Unit)) (l1 : List Int) (lo1 : Int) (hi1 : Int) (i : Int) : Option (Bool × Unit) :=
  bif ilt i (len l1) then
    chk (inB i l1.length) <|
    (spec_l1In N (gd l1 i.toNat 0) lo1 hi1).bind fun r =>
    bif !r.1 then
      some (false, ())
    else
      bif ilt 0 i then
        chk (inB (isub .i64 i 1) l1.length) <|
        chk (inB i l1.length) <|
        bif ile (gd l1 i.toNat 0) (gd l1 (isub .i64 i 1).toNat 0) then
          some (false, ())
        else
          kx l1 lo1 hi1 (iadd .i64 i 1)
      else
        kx l1 lo1 hi1 (iadd .i64 i 1)
  else
    spec_l1Rising_K1 N
def spec_l1Rising_L1 (N fu_ : Nat) (l1 : List Int) (lo1 : Int) (hi1 : Int) (i : Int) : Option (Bool × Unit) :=
  iterK fu_ (fun kx (v_ : ((List Int) × Int × Int × Int × Unit) × (Unit)) => spec_l1Rising_B1 N (fun l1 lo1 hi1 i => kx ((l1, lo1, hi1, i, ()), ())) v_.1.1 v_.1.2.1 v_.1.2.2.1 v_.1.2.2.2.1) ((l1, lo1, hi1, i, ()), ())
theorem spec_l1Rising_L1_succ (N fu_ : Nat) (l1 : List Int) (lo1 : Int) (hi1 : Int) (i : Int) : spec_l1Rising_L1 N (fu_ + 1) l1 lo1 hi1 i = spec_l1Rising_B1 N (fun l1 lo1 hi1 i => spec_l1Rising_L1 N fu_ l1 lo1 hi1 i) l1 lo1 hi1 i := rfl
theorem spec_l1Rising_L1_run (N : Nat) (l1 : Nat → (List Int)) (lo1 : Nat → Int) (hi1 : Nat → Int) (i : Nat → Int) (n_ : Nat) {res_ : Option (Bool × Unit)} (hstep_ : ∀ j_, j_ < n_ → ∀ kx_, spec_l1Rising_B1 N kx_ (l1 j_) (lo1 j_) (hi1 j_) (i j_) = kx_ (l1 (j_ + 1)) (lo1 (j_ + 1)) (hi1 (j_ + 1)) (i (j_ + 1))) (hend_ : ∀ kx_, spec_l1Rising_B1 N kx_ (l1 n_) (lo1 n_) (hi1 n_) (i n_) = res_) (fu_ : Nat) (hm_ : n_ < fu_) : spec_l1Rising_L1 N fu_ (l1 0) (lo1 0) (hi1 0) (i 0) = res_ := by
  exact loop_run (L := fun fu_ (x_ : (List Int) × Int × Int × Int) => spec_l1Rising_L1 N fu_ x_.1 x_.2.1 x_.2.2.1 x_.2.2.2) (B := fun kx_ x_ => spec_l1Rising_B1 N (fun l1 lo1 hi1 i => kx_ (l1, lo1, hi1, i)) x_.1 x_.2.1 x_.2.2.1 x_.2.2.2) (fun _ _ => rfl) (fun j_ => (l1 j_, lo1 j_, hi1 j_, i j_)) n_ (fun j_ hi_ kx_ => hstep_ j_ hi_ _) (fun kx_ => hend_ _) fu_ hm_
def spec_l1Rising (N : Nat) (l : List Int) (lo : Int) (hi : Int) : Option (Bool × Unit) :=
  spec_l1Rising_L1 N N l lo hi 0
def spec_l2Periods (N : Nat) (c : (List Int) × (List Int) × (List Int) × (List Int)) (periods : List Int) : Option (Bool × Unit) :=
  (spec_l1Rising N periods 0 (isub .i64 (len c.1) 1)).bind fun r =>
  some (r.1, ())
def spec_FreshCost (N : Nat) (c : (List Int) × (List Int) × (List Int) × (List Int)) (life : Int) (periods : List Int) : Option ((Int × Bool) × Unit) :=
  (spec_l9Life N c life).bind fun r =>
  bif !r.1 then
    some ((0, false), ())
  else
    (spec_l2Periods N c periods).bind fun r1 =>
    bif !r1.1 then
      some ((0, false), ())
    else
      (spec_l9Fresh N c life periods).bind fun r2 =>
      bif ilt r2.1 0 then
        some ((0, false), ())
      else
        some ((r2.1, true), ())
def impl_LifeGains_K1 (N : Nat) (out1 : List Int) : Option (((List Int) × Bool) × Unit) :=
  some ((out1, true), ())
def impl_LifeGains_B1 (N : Nat) (kx : Int → ((List Int) × (List Int) × (List Int) × (List Int)) → (List Int) → Option (((List Int) × Bool) × Unit)) (life : Int) (c1 : (List Int) × (List Int) × (List Int) × (List Int)) (out : List Int) : Option (((List Int) × Bool) × Unit) :=
  bif ilt life 8 then
    (impl_Case_bestFresh N c1 life).bind fun r1 =>
    (impl_Case_bestFresh N c1 (iadd .i64 life 1)).bind fun r2 =>
    chk (fitB (out.length + 1) 8) <|
    kx (iadd .i64 life 1) c1 (out ++ [isub .i64 r1.1.2 r2.1.2])
  else
    impl_LifeGains_K1 N out
def impl_LifeGains_L1 (N fu_ : Nat) (life : Int) (c1 : (List Int) × (List Int) × (List Int) × (List Int)) (out : List Int) : Option (((List Int) × Bool) × Unit) :=
  iterK fu_ (fun kx (v_ : (Int × Unit) × (((List Int) × (List Int) × (List Int) × (List Int)) × (List Int) × Unit)) => impl_LifeGains_B1 N (fun life c1 out => kx ((life, ()), (c1, out, ()))) v_.1.1 v_.2.1 v_.2.2.1) ((life, ()), (c1, out, ()))
theorem impl_LifeGains_L1_succ (N fu_ : Nat) (life : Int) (c1 : (List Int) × (List Int) × (List Int) × (List Int)) (out : List Int) : impl_LifeGains_L1 N (fu_ + 1) life c1 out = impl_LifeGains_B1 N (fun life c1 out => impl_LifeGains_L1 N fu_ life c1 out) life c1 out := rfl
theorem impl_LifeGains_L1_run (N : Nat) (life : Nat → Int) (c1 : Nat → ((List Int) × (List Int) × (List Int) × (List Int))) (out : Nat → (List Int)) (n_ : Nat) {res_ : Option (((List Int) × Bool) × Unit)} (hstep_ : ∀ j_, j_ < n_ → ∀ kx_, impl_LifeGains_B1 N kx_ (life j_) (c1 j_) (out j_) = kx_ (life (j_ + 1)) (c1 (j_ + 1)) (out (j_ + 1))) (hend_ : ∀ kx_, impl_LifeGains_B1 N kx_ (life n_) (c1 n_) (out n_) = res_) (fu_ : Nat) (hm_ : n_ < fu_) : impl_LifeGains_L1 N fu_ (life 0) (c1 0) (out 0) = res_ := by
  exact loop_run (L := fun fu_ (x_ : Int × ((List Int) × (List Int) × (List Int) × (List Int)) × (List Int)) => impl_LifeGains_L1 N fu_ x_.1 x_.2.1 x_.2.2) (B := fun kx_ x_ => impl_LifeGains_B1 N (fun life c1 out => kx_ (life, c1, out)) x_.1 x_.2.1 x_.2.2) (fun _ _ => rfl) (fun j_ => (life j_, c1 j_, out j_)) n_ (fun j_ hi_ kx_ => hstep_ j_ hi_ _) (fun kx_ => hend_ _) fu_ hm_
def impl_LifeGains (N : Nat) (c : (List Int) × (List Int) × (List Int) × (List Int)) : Option (((List Int) × Bool) × Unit) :=
  (impl_IsCase N c).bind fun r =>
  bif !r.1 then
    some (([], false), ())
  else
    impl_LifeGains_L1 N N 1 c []
def spec_LifeGains_K1 (N : Nat) (out1 : List Int) : Option (((List Int) × Bool) × Unit) :=
  some ((out1, true), ())
def spec_LifeGains_B1 (N : Nat) (kx : Int → ((List Int) × (List Int) × (List Int) × (List Int)) → (List Int) → Option (((List Int) × Bool) × Unit)) (life : Int) (c1 : (List Int) × (List Int) × (List Int) × (List Int)) (out : List Int) : Option (((List Int) × Bool) × Unit) :=
  bif ilt life 8 then
    (spec_l9Best N c1 life).bind fun r1 =>
    (spec_l9Best N c1 (iadd .i64 life 1)).bind fun r2 =>
    chk (fitB (out.length + 1) 8) <|
    kx (iadd .i64 life 1) c1 (out ++ [isub .i64 r1.1.2 r2.1.2])
  else
    spec_LifeGains_K1 N out
def spec_LifeGains_L1 (N fu_ : Nat) (life : Int) (c1 : (List Int) × (List Int) × (List Int) × (List Int)) (out : List Int) : Option (((List Int) × Bool) × Unit) :=
  iterK fu_ (fun kx (v_ : (Int × Unit) × (((List Int) × (List Int) × (List Int) × (List Int)) × (List Int) × Unit)) => spec_LifeGains_B1 N (fun life c1 out => kx ((life, ()), (c1, out, ()))) v_.1.1 v_.2.1 v_.2.2.1) ((life, ()), (c1, out, ()))
theorem spec_LifeGains_L1_succ (N fu_ : Nat) (life : Int) (c1 : (List Int) × (List Int) × (List Int) × (List Int)) (out : List Int) : spec_LifeGains_L1 N (fu_ + 1) life c1 out = spec_LifeGains_B1 N (fun life c1 out => spec_LifeGains_L1 N fu_ life c1 out) life c1 out := rfl
theorem spec_LifeGains_L1_run (N : Nat) (life : Nat → Int) (c1 : Nat → ((List Int) × (List Int) × (List Int) × (List Int))) (out : Nat → (List Int)) (n_ : Nat) {res_ : Option (((List Int) × Bool) × Unit)} (hstep_ : ∀ j_, j_ < n_ → ∀ kx_, spec_LifeGains_B1 N kx_ (life j_) (c1 j_) (out j_) = kx_ (life (j_ + 1)) (c1 (j_ + 1)) (out (j_ + 1))) (hend_ : ∀ kx_, spec_LifeGains_B1 N kx_ (life n_) (c1 n_) (out n_) = res_) (fu_ : Nat) (hm_ : n_ < fu_) : spec_LifeGains_L1 N fu_ (life 0) (c1 0) (out 0) = res_ := by
  exact loop_run (L := fun fu_ (x_ : Int × ((List Int) × (List Int) × (List Int) × (List Int)) × (List Int)) => spec_LifeGains_L1 N fu_ x_.1 x_.2.1 x_.2.2) (B := fun kx_ x_ => spec_LifeGains_B1 N (fun life c1 out => kx_ (life, c1, out)) x_.1 x_.2.1 x_.2.2) (fun _ _ => rfl) (fun j_ => (life j_, c1 j_, out j_)) n_ (fun j_ hi_ kx_ => hstep_ j_ hi_ _) (fun kx_ => hend_ _) fu_ hm_
def spec_LifeGains (N : Nat) (c : (List Int) × (List Int) × (List Int) × (List Int)) : Option (((List Int) × Bool) × Unit) :=
  (spec_l2Good N c).bind fun r =>
  bif !r.1 then
    some (([], false), ())
  else
    spec_LifeGains_L1 N N 1 c []
def laws_vInts_K1 (N : Nat) : Option (Bool × Unit) :=
  some (true, ())
def laws_vInts_B1 (N : Nat) (kx : (List Int) → (List Int) → Int → Option (Bool × Unit)) (a1 : List Int) (b1 : List Int) (i : Int) : Option (Bool × Unit) :=
  bif ilt i (len a1) then
    chk (inB i a1.length) <|
    chk (inB i b1.length) <|
    bif ine (gd a1 i.toNat 0) (gd b1 i.toNat 0) then
      some (false, ())
    else
      kx a1 b1 (iadd .i64 i 1)
  else
    laws_vInts_K1 N
def laws_vInts_L1 (N fu_ : Nat) (a1 : List Int) (b1 : List Int) (i : Int) : Option (Bool × Unit) :=
  iterK fu_ (fun kx (v_ : ((List Int) × (List Int) × Int × Unit) × (Unit)) => laws_vInts_B1 N (fun a1 b1 i => kx ((a1, b1, i, ()), ())) v_.1.1 v_.1.2.1 v_.1.2.2.1) ((a1, b1, i, ()), ())
theorem laws_vInts_L1_succ (N fu_ : Nat) (a1 : List Int) (b1 : List Int) (i : Int) : laws_vInts_L1 N (fu_ + 1) a1 b1 i = laws_vInts_B1 N (fun a1 b1 i => laws_vInts_L1 N fu_ a1 b1 i) a1 b1 i := rfl
theorem laws_vInts_L1_run (N : Nat) (a1 : Nat → (List Int)) (b1 : Nat → (List Int)) (i : Nat → Int) (n_ : Nat) {res_ : Option (Bool × Unit)} (hstep_ : ∀ j_, j_ < n_ → ∀ kx_, laws_vInts_B1 N kx_ (a1 j_) (b1 j_) (i j_) = kx_ (a1 (j_ + 1)) (b1 (j_ + 1)) (i (j_ + 1))) (hend_ : ∀ kx_, laws_vInts_B1 N kx_ (a1 n_) (b1 n_) (i n_) = res_) (fu_ : Nat) (hm_ : n_ < fu_) : laws_vInts_L1 N fu_ (a1 0) (b1 0) (i 0) = res_ := by
  exact loop_run (L := fun fu_ (x_ : (List Int) × (List Int) × Int) => laws_vInts_L1 N fu_ x_.1 x_.2.1 x_.2.2) (B := fun kx_ x_ => laws_vInts_B1 N (fun a1 b1 i => kx_ (a1, b1, i)) x_.1 x_.2.1 x_.2.2) (fun _ _ => rfl) (fun j_ => (a1 j_, b1 j_, i j_)) n_ (fun j_ hi_ kx_ => hstep_ j_ hi_ _) (fun kx_ => hend_ _) fu_ hm_
def laws_vInts (N : Nat) (a : List Int) (b : List Int) : Option (Bool × Unit) :=
  bif ine (len a) (len b) then
    some (false, ())
  else
    laws_vInts_L1 N N a b 0
def impl_Case_planFrom_K1 (N : Nat) (kx : (List Int) → Int → (List Int) → Int → Int → (List Int) → Option (((List Int) × Bool) × Unit)) (periods3 : List Int) (next2 : Int) (need1 : Int) (v152 : List Int) (v162 : Int) (v172 : Int) (plan2 : List Int) : Option (((List Int) × Bool) × Unit) :=
  bif ieq next2 0 then
    bif ilt 0 need1 then
      some (([], false), ())
    else
      kx periods3 next2 v152 v162 (iadd .i64 v172 1) plan2
  else
    chk (inB (isub .i64 next2 1) periods3.length) <|
    chk (inB (gd periods3 (isub .i64 next2 1).toNat 0) plan2.length) <|
    chk (inB (gd periods3 (isub .i64 next2 1).toNat 0) plan2.length) <|
    kx periods3 next2 v152 v162 (iadd .i64 v172 1) (List.set plan2 (gd periods3 (isub .i64 next2 1).toNat 0).toNat (iadd .i64 (gd plan2 (gd periods3 (isub .i64 next2 1).toNat 0).toNat 0) need1))
def impl_Case_planFrom_K2 (N : Nat) (kx : (List Int) → Int → (List Int) → Int → Int → (List Int) → Option (((List Int) × Bool) × Unit)) (periods2 : List Int) (next1 : Int) (need : Int) (v151 : List Int) (v161 : Int) (v171 : Int) (v33 : Bool) (plan1 : List Int) : Option (((List Int) × Bool) × Unit) :=
  bif v33 then
    impl_Case_planFrom_K1 N kx periods2 (iadd .i64 next1 1) need v151 v161 v171 plan1
  else
    impl_Case_planFrom_K1 N kx periods2 next1 need v151 v161 v171 plan1
def impl_Case_planFrom_K3 (N : Nat) (plan3 : List Int) : Option (((List Int) × Bool) × Unit) :=
  some ((plan3, true), ())
def impl_Case_planFrom_B1 (N : Nat) (kx : (List Int) → Int → (List Int) → Int → Int → (List Int) → Option (((List Int) × Bool) × Unit)) (periods1 : List Int) (next : Int) (v15 : List Int) (v16 : Int) (v17 : Int) (plan : List Int) : Option (((List Int) × Bool) × Unit) :=
  bif ilt v17 v16 then
    chk (inB v17 v15.length) <|
    bif ilt next (len periods1) then
      chk (inB next periods1.length) <|
      impl_Case_planFrom_K2 N kx periods1 next (gd v15 v17.toNat 0) v15 v16 v17 (ieq (gd periods1 next.toNat 0) v17) plan
    else
      impl_Case_planFrom_K2 N kx periods1 next (gd v15 v17.toNat 0) v15 v16 v17 false plan
  else
    impl_Case_planFrom_K3 N plan
def impl_Case_planFrom_L1 (N fu_ : Nat) (periods1 : List Int) (next : Int) (v15 : List Int) (v16 : Int) (v17 : Int) (plan : List Int) : Option (((List Int) × Bool) × Unit) :=
  iterK fu_ (fun kx (v_ : ((List Int) × Int × (List Int) × Int × Int × Unit) × ((List Int) × Unit)) => impl_Case_planFrom_B1 N (fun periods1 next v15 v16 v17 plan => kx ((periods1, next, v15, v16, v17, ()), (plan, ()))) v_.1.1 v_.1.2.1 v_.1.2.2.1 v_.1.2.2.2.1 v_.1.2.2.2.2.1 v_.2.1) ((periods1, next, v15, v16, v17, ()), (plan, ()))
theorem impl_Case_planFrom_L1_succ (N fu_ : Nat) (periods1 : List Int) (next : Int) (v15 : List Int) (v16 : Int) (v17 : Int) (plan : List Int) : impl_Case_planFrom_L1 N (fu_ + 1) periods1 next v15 v16 v17 plan = impl_Case_planFrom_B1 N (fun periods1 next v15 v16 v17 plan => impl_Case_planFrom_L1 N fu_ periods1 next v15 v16 v17 plan) periods1 next v15 v16 v17 plan := rfl
theorem impl_Case_planFrom_L1_run (N : Nat) (periods1 : Nat → (List Int)) (next : Nat → Int) (v15 : Nat → (List Int)) (v16 : Nat → Int) (v17 : Nat → Int) (plan : Nat → (List Int)) (n_ : Nat) {res_ : Option (((List Int) × Bool) × Unit)} (hstep_ : ∀ j_, j_ < n_ → ∀ kx_, impl_Case_planFrom_B1 N kx_ (periods1 j_) (next j_) (v15 j_) (v16 j_) (v17 j_) (plan j_) = kx_ (periods1 (j_ + 1)) (next (j_ + 1)) (v15 (j_ + 1)) (v16 (j_ + 1)) (v17 (j_ + 1)) (plan (j_ + 1))) (hend_ : ∀ kx_, impl_Case_planFrom_B1 N kx_ (periods1 n_) (next n_) (v15 n_) (v16 n_) (v17 n_) (plan n_) = res_) (fu_ : Nat) (hm_ : n_ < fu_) : impl_Case_planFrom_L1 N fu_ (periods1 0) (next 0) (v15 0) (v16 0) (v17 0) (plan 0) = res_ := by
  exact loop_run (L := fun fu_ (x_ : (List Int) × Int × (List Int) × Int × Int × (List Int)) => impl_Case_planFrom_L1 N fu_ x_.1 x_.2.1 x_.2.2.1 x_.2.2.2.1 x_.2.2.2.2.1 x_.2.2.2.2.2) (B := fun kx_ x_ => impl_Case_planFrom_B1 N (fun periods1 next v15 v16 v17 plan => kx_ (periods1, next, v15, v16, v17, plan)) x_.1 x_.2.1 x_.2.2.1 x_.2.2.2.1 x_.2.2.2.2.1 x_.2.2.2.2.2) (fun _ _ => rfl) (fun j_ => (periods1 j_, next j_, v15 j_, v16 j_, v17 j_, plan j_)) n_ (fun j_ hi_ kx_ => hstep_ j_ hi_ _) (fun kx_ => hend_ _) fu_ hm_
def impl_Case_planFrom (N : Nat) (c : (List Int) × (List Int) × (List Int) × (List Int)) (periods : List Int) : Option (((List Int) × Bool) × Unit) :=
  chk (mkB (len c.1) 8) <|
  impl_Case_planFrom_L1 N N periods 0 c.1 (len c.1) 0 (List.replicate (len c.1).toNat 0)
def impl_Case_parts_K1 (N : Nat) (kx : Int → Int → Int → Int → (List Int) → Int → Int → ((List Int) × (List Int) × (List Int) × (List Int)) → Option ((Int × Int × Int) × Unit)) (setups1 : Int) (units1 : Int) (holds1 : Int) (stock1 : Int) (i : Int) (amount : Int) (v131 : List Int) (v141 : Int) (v151 : Int) (c2 : (List Int) × (List Int) × (List Int) × (List Int)) : Option ((Int × Int × Int) × Unit) :=
  chk (inB i c2.2.2.1.length) <|
  chk (inB i c2.2.2.2.length) <|
  kx setups1 (iadd .i64 units1 (imul .i64 (gd c2.2.2.1 i.toNat 0) amount)) (iadd .i64 holds1 (imul .i64 (gd c2.2.2.2 i.toNat 0) stock1)) stock1 v131 v141 (iadd .i64 v151 1) c2
def impl_Case_parts_K2 (N : Nat) (setups2 : Int) (units2 : Int) (holds2 : Int) : Option ((Int × Int × Int) × Unit) :=
  some ((setups2, (units2, holds2)), ())
def impl_Case_parts_B1 (N : Nat) (kx : Int → Int → Int → Int → (List Int) → Int → Int → ((List Int) × (List Int) × (List Int) × (List Int)) → Option ((Int × Int × Int) × Unit)) (setups : Int) (units : Int) (holds : Int) (stock : Int) (v13 : List Int) (v14 : Int) (v15 : Int) (c1 : (List Int) × (List Int) × (List Int) × (List Int)) : Option ((Int × Int × Int) × Unit) :=
  bif ilt v15 v14 then
    chk (inB v15 v13.length) <|
    chk (inB v15 c1.1.length) <|
    bif ilt 0 (gd v13 v15.toNat 0) then
      chk (inB v15 c1.2.1.length) <|
      impl_Case_parts_K1 N kx (iadd .i64 setups (gd c1.2.1 v15.toNat 0)) units holds (iadd .i64 stock (isub .i64 (gd v13 v15.toNat 0) (gd c1.1 v15.toNat 0))) v15 (gd v13 v15.toNat 0) v13 v14 v15 c1
    else
      impl_Case_parts_K1 N kx setups units holds (iadd .i64 stock (isub .i64 (gd v13 v15.toNat 0) (gd c1.1 v15.toNat 0))) v15 (gd v13 v15.toNat 0) v13 v14 v15 c1
  else
    impl_Case_parts_K2 N setups units holds
def impl_Case_parts_L1 (N fu_ : Nat) (setups : Int) (units : Int) (holds : Int) (stock : Int) (v13 : List Int) (v14 : Int) (v15 : Int) (c1 : (List Int) × (List Int) × (List Int) × (List Int)) : Option ((Int × Int × Int) × Unit) :=
  iterK fu_ (fun kx (v_ : (Int × Int × Int × Int × (List Int) × Int × Int × Unit) × (((List Int) × (List Int) × (List Int) × (List Int)) × Unit)) => impl_Case_parts_B1 N (fun setups units holds stock v13 v14 v15 c1 => kx ((setups, units, holds, stock, v13, v14, v15, ()), (c1, ()))) v_.1.1 v_.1.2.1 v_.1.2.2.1 v_.1.2.2.2.1 v_.1.2.2.2.2.1 v_.1.2.2.2.2.2.1 v_.1.2.2.2.2.2.2.1 v_.2.1) ((setups, units, holds, stock, v13, v14, v15, ()), (c1, ()))
theorem impl_Case_parts_L1_succ (N fu_ : Nat) (setups : Int) (units : Int) (holds : Int) (stock : Int) (v13 : List Int) (v14 : Int) (v15 : Int) (c1 : (List Int) × (List Int) × (List Int) × (List Int)) : impl_Case_parts_L1 N (fu_ + 1) setups units holds stock v13 v14 v15 c1 = impl_Case_parts_B1 N (fun setups units holds stock v13 v14 v15 c1 => impl_Case_parts_L1 N fu_ setups units holds stock v13 v14 v15 c1) setups units holds stock v13 v14 v15 c1 := rfl
theorem impl_Case_parts_L1_run (N : Nat) (setups : Nat → Int) (units : Nat → Int) (holds : Nat → Int) (stock : Nat → Int) (v13 : Nat → (List Int)) (v14 : Nat → Int) (v15 : Nat → Int) (c1 : Nat → ((List Int) × (List Int) × (List Int) × (List Int))) (n_ : Nat) {res_ : Option ((Int × Int × Int) × Unit)} (hstep_ : ∀ j_, j_ < n_ → ∀ kx_, impl_Case_parts_B1 N kx_ (setups j_) (units j_) (holds j_) (stock j_) (v13 j_) (v14 j_) (v15 j_) (c1 j_) = kx_ (setups (j_ + 1)) (units (j_ + 1)) (holds (j_ + 1)) (stock (j_ + 1)) (v13 (j_ + 1)) (v14 (j_ + 1)) (v15 (j_ + 1)) (c1 (j_ + 1))) (hend_ : ∀ kx_, impl_Case_parts_B1 N kx_ (setups n_) (units n_) (holds n_) (stock n_) (v13 n_) (v14 n_) (v15 n_) (c1 n_) = res_) (fu_ : Nat) (hm_ : n_ < fu_) : impl_Case_parts_L1 N fu_ (setups 0) (units 0) (holds 0) (stock 0) (v13 0) (v14 0) (v15 0) (c1 0) = res_ := by
  exact loop_run (L := fun fu_ (x_ : Int × Int × Int × Int × (List Int) × Int × Int × ((List Int) × (List Int) × (List Int) × (List Int))) => impl_Case_parts_L1 N fu_ x_.1 x_.2.1 x_.2.2.1 x_.2.2.2.1 x_.2.2.2.2.1 x_.2.2.2.2.2.1 x_.2.2.2.2.2.2.1 x_.2.2.2.2.2.2.2) (B := fun kx_ x_ => impl_Case_parts_B1 N (fun setups units holds stock v13 v14 v15 c1 => kx_ (setups, units, holds, stock, v13, v14, v15, c1)) x_.1 x_.2.1 x_.2.2.1 x_.2.2.2.1 x_.2.2.2.2.1 x_.2.2.2.2.2.1 x_.2.2.2.2.2.2.1 x_.2.2.2.2.2.2.2) (fun _ _ => rfl) (fun j_ => (setups j_, units j_, holds j_, stock j_, v13 j_, v14 j_, v15 j_, c1 j_)) n_ (fun j_ hi_ kx_ => hstep_ j_ hi_ _) (fun kx_ => hend_ _) fu_ hm_
def impl_Case_parts (N : Nat) (c : (List Int) × (List Int) × (List Int) × (List Int)) (plan : List Int) : Option ((Int × Int × Int) × Unit) :=
  impl_Case_parts_L1 N N 0 0 0 0 plan (len plan) 0 c
def impl_Case_cost (N : Nat) (c : (List Int) × (List Int) × (List Int) × (List Int)) (plan : List Int) : Option (Int × Unit) :=
  (impl_Case_parts N c plan).bind fun r =>
  some (iadd .i64 (iadd .i64 r.1.1 r.1.2.1) r.1.2.2, ())
def impl_Case_best_K1 (N : Nat) (kx : Int → Int → Int → ((List Int) × (List Int) × (List Int) × (List Int)) → (List Int) → Option (((List Int) × Int) × Unit)) (least3 : Int) (cost : Int) (before : Bool) (v163 : Int) (v173 : Int) (c4 : (List Int) × (List Int) × (List Int) × (List Int)) (best3 : List Int) (periods2 : List Int) : Option (((List Int) × Int) × Unit) :=
  bif ilt least3 0 then
    kx cost v163 (iadd .i64 v173 1) c4 periods2
  else
    bif ilt cost least3 then
      kx cost v163 (iadd .i64 v173 1) c4 periods2
    else
      bif ieq cost least3 then
        bif before then
          kx cost v163 (iadd .i64 v173 1) c4 periods2
        else
          kx least3 v163 (iadd .i64 v173 1) c4 best3
      else
        kx least3 v163 (iadd .i64 v173 1) c4 best3
def impl_Case_best_K2 (N : Nat) (kx : Int → Int → Int → ((List Int) × (List Int) × (List Int) × (List Int)) → (List Int) → Option (((List Int) × Int) × Unit)) (least2 : Int) (v162 : Int) (v172 : Int) (c3 : (List Int) × (List Int) × (List Int) × (List Int)) (best2 : List Int) (periods1 : List Int) : Option (((List Int) × Int) × Unit) :=
  (impl_Case_planFrom N c3 periods1).bind fun r =>
  bif !r.1.2 then
    kx least2 v162 (iadd .i64 v172 1) c3 best2
  else
    (impl_Case_cost N c3 r.1.1).bind fun r1 =>
    bif ilt (len periods1) (len best2) then
      impl_Case_best_K1 N kx least2 r1.1 true v162 v172 c3 best2 periods1
    else
      bif ieq (len periods1) (len best2) then
        (slices_Compare_int_int N periods1 best2).bind fun r2 =>
        impl_Case_best_K1 N kx least2 r1.1 (ilt r2.1 0) v162 v172 c3 best2 periods1
      else
        impl_Case_best_K1 N kx least2 r1.1 false v162 v172 c3 best2 periods1
def impl_Case_best_B1 (N : Nat) (kx : Int → Int → Int → ((List Int) × (List Int) × (List Int) × (List Int)) → (List Int) → Option (((List Int) × Int) × Unit)) (kx1 : Int → Int → Int → Int → Int → Int → ((List Int) × (List Int) × (List Int) × (List Int)) → (List Int) → (List Int) → Option (((List Int) × Int) × Unit)) (least1 : Int) (setx : Int) (v161 : Int) (v171 : Int) (v23 : Int) (v24 : Int) (c2 : (List Int) × (List Int) × (List Int) × (List Int)) (best1 : List Int) (periods : List Int) : Option (((List Int) × Int) × Unit) :=
  bif ilt v24 v23 then
    chk (ile 0 v24) <|
    bif ieq (iand .i64 (ishr .i64 setx v24) 1) 1 then
      chk (fitB (periods.length + 1) 8) <|
      kx1 least1 setx v161 v171 v23 (iadd .i64 v24 1) c2 best1 (periods ++ [v24])
    else
      kx1 least1 setx v161 v171 v23 (iadd .i64 v24 1) c2 best1 periods
  else
    impl_Case_best_K2 N kx least1 v161 v171 c2 best1 periods
def impl_Case_best_L1 (N fu_ : Nat) (kx : Int → Int → Int → ((List Int) × (List Int) × (List Int) × (List Int)) → (List Int) → Option (((List Int) × Int) × Unit)) (least1 : Int) (setx : Int) (v161 : Int) (v171 : Int) (v23 : Int) (v24 : Int) (c2 : (List Int) × (List Int) × (List Int) × (List Int)) (best1 : List Int) (periods : List Int) : Option (((List Int) × Int) × Unit) :=
  iterK fu_ (fun kx1 (v_ : (Int × Int × Int × Int × Int × Int × Unit) × (((List Int) × (List Int) × (List Int) × (List Int)) × (List Int) × (List Int) × Unit)) => impl_Case_best_B1 N kx (fun least1 setx v161 v171 v23 v24 c2 best1 periods => kx1 ((least1, setx, v161, v171, v23, v24, ()), (c2, best1, periods, ()))) v_.1.1 v_.1.2.1 v_.1.2.2.1 v_.1.2.2.2.1 v_.1.2.2.2.2.1 v_.1.2.2.2.2.2.1 v_.2.1 v_.2.2.1 v_.2.2.2.1) ((least1, setx, v161, v171, v23, v24, ()), (c2, best1, periods, ()))
theorem impl_Case_best_L1_succ (N fu_ : Nat) (kx : Int → Int → Int → ((List Int) × (List Int) × (List Int) × (List Int)) → (List Int) → Option (((List Int) × Int) × Unit)) (least1 : Int) (setx : Int) (v161 : Int) (v171 : Int) (v23 : Int) (v24 : Int) (c2 : (List Int) × (List Int) × (List Int) × (List Int)) (best1 : List Int) (periods : List Int) : impl_Case_best_L1 N (fu_ + 1) kx least1 setx v161 v171 v23 v24 c2 best1 periods = impl_Case_best_B1 N kx (fun least1 setx v161 v171 v23 v24 c2 best1 periods => impl_Case_best_L1 N fu_ kx least1 setx v161 v171 v23 v24 c2 best1 periods) least1 setx v161 v171 v23 v24 c2 best1 periods := rfl
theorem impl_Case_best_L1_run (N : Nat) (kx : Int → Int → Int → ((List Int) × (List Int) × (List Int) × (List Int)) → (List Int) → Option (((List Int) × Int) × Unit)) (least1 : Nat → Int) (setx : Nat → Int) (v161 : Nat → Int) (v171 : Nat → Int) (v23 : Nat → Int) (v24 : Nat → Int) (c2 : Nat → ((List Int) × (List Int) × (List Int) × (List Int))) (best1 : Nat → (List Int)) (periods : Nat → (List Int)) (n_ : Nat) {res_ : Option (((List Int) × Int) × Unit)} (hstep_ : ∀ j_, j_ < n_ → ∀ kx_, impl_Case_best_B1 N kx kx_ (least1 j_) (setx j_) (v161 j_) (v171 j_) (v23 j_) (v24 j_) (c2 j_) (best1 j_) (periods j_) = kx_ (least1 (j_ + 1)) (setx (j_ + 1)) (v161 (j_ + 1)) (v171 (j_ + 1)) (v23 (j_ + 1)) (v24 (j_ + 1)) (c2 (j_ + 1)) (best1 (j_ + 1)) (periods (j_ + 1))) (hend_ : ∀ kx_, impl_Case_best_B1 N kx kx_ (least1 n_) (setx n_) (v161 n_) (v171 n_) (v23 n_) (v24 n_) (c2 n_) (best1 n_) (periods n_) = res_) (fu_ : Nat) (hm_ : n_ < fu_) : impl_Case_best_L1 N fu_ kx (least1 0) (setx 0) (v161 0) (v171 0) (v23 0) (v24 0) (c2 0) (best1 0) (periods 0) = res_ := by
  exact loop_run (L := fun fu_ (x_ : Int × Int × Int × Int × Int × Int × ((List Int) × (List Int) × (List Int) × (List Int)) × (List Int) × (List Int)) => impl_Case_best_L1 N fu_ kx x_.1 x_.2.1 x_.2.2.1 x_.2.2.2.1 x_.2.2.2.2.1 x_.2.2.2.2.2.1 x_.2.2.2.2.2.2.1 x_.2.2.2.2.2.2.2.1 x_.2.2.2.2.2.2.2.2) (B := fun kx_ x_ => impl_Case_best_B1 N kx (fun least1 setx v161 v171 v23 v24 c2 best1 periods => kx_ (least1, setx, v161, v171, v23, v24, c2, best1, periods)) x_.1 x_.2.1 x_.2.2.1 x_.2.2.2.1 x_.2.2.2.2.1 x_.2.2.2.2.2.1 x_.2.2.2.2.2.2.1 x_.2.2.2.2.2.2.2.1 x_.2.2.2.2.2.2.2.2) (fun _ _ => rfl) (fun j_ => (least1 j_, setx j_, v161 j_, v171 j_, v23 j_, v24 j_, c2 j_, best1 j_, periods j_)) n_ (fun j_ hi_ kx_ => hstep_ j_ hi_ _) (fun kx_ => hend_ _) fu_ hm_
def impl_Case_best_K3 (N : Nat) (least4 : Int) (best4 : List Int) : Option (((List Int) × Int) × Unit) :=
  some ((best4, least4), ())
def impl_Case_best_B2 (N : Nat) (kx : Int → Int → Int → ((List Int) × (List Int) × (List Int) × (List Int)) → (List Int) → Option (((List Int) × Int) × Unit)) (least : Int) (v16 : Int) (v17 : Int) (c1 : (List Int) × (List Int) × (List Int) × (List Int)) (best : List Int) : Option (((List Int) × Int) × Unit) :=
  bif ilt v17 v16 then
    impl_Case_best_L1 N N kx least v17 v16 v17 (len c1.1) 0 c1 best []
  else
    impl_Case_best_K3 N least best
def impl_Case_best_L2 (N fu_ : Nat) (least : Int) (v16 : Int) (v17 : Int) (c1 : (List Int) × (List Int) × (List Int) × (List Int)) (best : List Int) : Option (((List Int) × Int) × Unit) :=
  iterK fu_ (fun kx (v_ : (Int × Int × Int × Unit) × (((List Int) × (List Int) × (List Int) × (List Int)) × (List Int) × Unit)) => impl_Case_best_B2 N (fun least v16 v17 c1 best => kx ((least, v16, v17, ()), (c1, best, ()))) v_.1.1 v_.1.2.1 v_.1.2.2.1 v_.2.1 v_.2.2.1) ((least, v16, v17, ()), (c1, best, ()))
theorem impl_Case_best_L2_succ (N fu_ : Nat) (least : Int) (v16 : Int) (v17 : Int) (c1 : (List Int) × (List Int) × (List Int) × (List Int)) (best : List Int) : impl_Case_best_L2 N (fu_ + 1) least v16 v17 c1 best = impl_Case_best_B2 N (fun least v16 v17 c1 best => impl_Case_best_L2 N fu_ least v16 v17 c1 best) least v16 v17 c1 best := rfl
theorem impl_Case_best_L2_run (N : Nat) (least : Nat → Int) (v16 : Nat → Int) (v17 : Nat → Int) (c1 : Nat → ((List Int) × (List Int) × (List Int) × (List Int))) (best : Nat → (List Int)) (n_ : Nat) {res_ : Option (((List Int) × Int) × Unit)} (hstep_ : ∀ j_, j_ < n_ → ∀ kx_, impl_Case_best_B2 N kx_ (least j_) (v16 j_) (v17 j_) (c1 j_) (best j_) = kx_ (least (j_ + 1)) (v16 (j_ + 1)) (v17 (j_ + 1)) (c1 (j_ + 1)) (best (j_ + 1))) (hend_ : ∀ kx_, impl_Case_best_B2 N kx_ (least n_) (v16 n_) (v17 n_) (c1 n_) (best n_) = res_) (fu_ : Nat) (hm_ : n_ < fu_) : impl_Case_best_L2 N fu_ (least 0) (v16 0) (v17 0) (c1 0) (best 0) = res_ := by
  exact loop_run (L := fun fu_ (x_ : Int × Int × Int × ((List Int) × (List Int) × (List Int) × (List Int)) × (List Int)) => impl_Case_best_L2 N fu_ x_.1 x_.2.1 x_.2.2.1 x_.2.2.2.1 x_.2.2.2.2) (B := fun kx_ x_ => impl_Case_best_B2 N (fun least v16 v17 c1 best => kx_ (least, v16, v17, c1, best)) x_.1 x_.2.1 x_.2.2.1 x_.2.2.2.1 x_.2.2.2.2) (fun _ _ => rfl) (fun j_ => (least j_, v16 j_, v17 j_, c1 j_, best j_)) n_ (fun j_ hi_ kx_ => hstep_ j_ hi_ _) (fun kx_ => hend_ _) fu_ hm_
def impl_Case_best (N : Nat) (c : (List Int) × (List Int) × (List Int) × (List Int)) : Option (((List Int) × Int) × Unit) :=
  chk (ile 0 (len c.1)) <|
  impl_Case_best_L2 N N (-1) (ishl .i64 1 (len c.1)) 0 c []
def impl_BestCost (N : Nat) (c : (List Int) × (List Int) × (List Int) × (List Int)) : Option ((Int × Bool) × Unit) :=
  (impl_IsCase N c).bind fun r =>
  bif !r.1 then
    some ((0, false), ())
  else
    (impl_Case_best N c).bind fun r1 =>
    some ((r1.1.2, true), ())
def laws_FnFresh_K1 (N : Nat) (life2 : Int) (periods2 : List Int) (cost2 : Int) (ok2 : Bool) (c2 : (List Int) × (List Int) × (List Int) × (List Int)) : Option (Bool × Unit) :=
  bif !ok2 then
    some (true, ())
  else
    (impl_FreshCost N c2 life2 periods2).bind fun r14 =>
    bif r14.1.2 then
      some (ieq r14.1.1 cost2, ())
    else
      some (false, ())
def laws_FnFresh_B1 (N : Nat) (kx : Int → (List Int) → Int → Bool → (List Int) → Int → ((List Int) × (List Int) × (List Int) × (List Int)) → Option (Bool × Unit)) (life1 : Int) (periods1 : List Int) (cost1 : Int) (ok1 : Bool) (gains1 : List Int) (i : Int) (c1 : (List Int) × (List Int) × (List Int) × (List Int)) : Option (Bool × Unit) :=
  bif ilt i (len gains1) then
    chk (inB i gains1.length) <|
    bif ilt (gd gains1 i.toNat 0) 0 then
      some (false, ())
    else
      kx life1 periods1 cost1 ok1 gains1 (iadd .i64 i 1) c1
  else
    laws_FnFresh_K1 N life1 periods1 cost1 ok1 c1
def laws_FnFresh_L1 (N fu_ : Nat) (life1 : Int) (periods1 : List Int) (cost1 : Int) (ok1 : Bool) (gains1 : List Int) (i : Int) (c1 : (List Int) × (List Int) × (List Int) × (List Int)) : Option (Bool × Unit) :=
  iterK fu_ (fun kx (v_ : (Int × (List Int) × Int × Bool × (List Int) × Int × Unit) × (((List Int) × (List Int) × (List Int) × (List Int)) × Unit)) => laws_FnFresh_B1 N (fun life1 periods1 cost1 ok1 gains1 i c1 => kx ((life1, periods1, cost1, ok1, gains1, i, ()), (c1, ()))) v_.1.1 v_.1.2.1 v_.1.2.2.1 v_.1.2.2.2.1 v_.1.2.2.2.2.1 v_.1.2.2.2.2.2.1 v_.2.1) ((life1, periods1, cost1, ok1, gains1, i, ()), (c1, ()))
theorem laws_FnFresh_L1_succ (N fu_ : Nat) (life1 : Int) (periods1 : List Int) (cost1 : Int) (ok1 : Bool) (gains1 : List Int) (i : Int) (c1 : (List Int) × (List Int) × (List Int) × (List Int)) : laws_FnFresh_L1 N (fu_ + 1) life1 periods1 cost1 ok1 gains1 i c1 = laws_FnFresh_B1 N (fun life1 periods1 cost1 ok1 gains1 i c1 => laws_FnFresh_L1 N fu_ life1 periods1 cost1 ok1 gains1 i c1) life1 periods1 cost1 ok1 gains1 i c1 := rfl
theorem laws_FnFresh_L1_run (N : Nat) (life1 : Nat → Int) (periods1 : Nat → (List Int)) (cost1 : Nat → Int) (ok1 : Nat → Bool) (gains1 : Nat → (List Int)) (i : Nat → Int) (c1 : Nat → ((List Int) × (List Int) × (List Int) × (List Int))) (n_ : Nat) {res_ : Option (Bool × Unit)} (hstep_ : ∀ j_, j_ < n_ → ∀ kx_, laws_FnFresh_B1 N kx_ (life1 j_) (periods1 j_) (cost1 j_) (ok1 j_) (gains1 j_) (i j_) (c1 j_) = kx_ (life1 (j_ + 1)) (periods1 (j_ + 1)) (cost1 (j_ + 1)) (ok1 (j_ + 1)) (gains1 (j_ + 1)) (i (j_ + 1)) (c1 (j_ + 1))) (hend_ : ∀ kx_, laws_FnFresh_B1 N kx_ (life1 n_) (periods1 n_) (cost1 n_) (ok1 n_) (gains1 n_) (i n_) (c1 n_) = res_) (fu_ : Nat) (hm_ : n_ < fu_) : laws_FnFresh_L1 N fu_ (life1 0) (periods1 0) (cost1 0) (ok1 0) (gains1 0) (i 0) (c1 0) = res_ := by
  exact loop_run (L := fun fu_ (x_ : Int × (List Int) × Int × Bool × (List Int) × Int × ((List Int) × (List Int) × (List Int) × (List Int))) => laws_FnFresh_L1 N fu_ x_.1 x_.2.1 x_.2.2.1 x_.2.2.2.1 x_.2.2.2.2.1 x_.2.2.2.2.2.1 x_.2.2.2.2.2.2) (B := fun kx_ x_ => laws_FnFresh_B1 N (fun life1 periods1 cost1 ok1 gains1 i c1 => kx_ (life1, periods1, cost1, ok1, gains1, i, c1)) x_.1 x_.2.1 x_.2.2.1 x_.2.2.2.1 x_.2.2.2.2.1 x_.2.2.2.2.2.1 x_.2.2.2.2.2.2) (fun _ _ => rfl) (fun j_ => (life1 j_, periods1 j_, cost1 j_, ok1 j_, gains1 j_, i j_, c1 j_)) n_ (fun j_ hi_ kx_ => hstep_ j_ hi_ _) (fun kx_ => hend_ _) fu_ hm_
def laws_FnFresh_K2 (N : Nat) (life : Int) (periods : List Int) (cost : Int) (ok : Bool) (gains : List Int) (c : (List Int) × (List Int) × (List Int) × (List Int)) : Option (Bool × Unit) :=
  laws_FnFresh_L1 N N life periods cost ok gains 0 c
def laws_FnFresh (N : Nat) (code : List Int) : Option (Bool × Unit) :=
  (laws_vBig N code).bind fun r =>
  bif r.1 then
    some (true, ())
  else
    (spec_DrawBestFresh N code).bind fun r1 =>
    (impl_BestFresh N r1.1.1 r1.1.2).bind fun r2 =>
    (spec_BestFresh N r1.1.1 r1.1.2).bind fun r3 =>
    (laws_vCut N code 1).bind fun r4 =>
    (spec_DrawFreshCost N r4.1).bind fun r5 =>
    (impl_FreshCost N r5.1.1 r5.1.2.1 r5.1.2.2).bind fun r6 =>
    (spec_FreshCost N r5.1.1 r5.1.2.1 r5.1.2.2).bind fun r7 =>
    (impl_LifeGains N r1.1.1).bind fun r8 =>
    (spec_LifeGains N r1.1.1).bind fun r9 =>
    bif !(Go.Rx.beq r2.1.2.2 r3.1.2.2) then
      some (false, ())
    else
      bif ine r2.1.2.1 r3.1.2.1 then
        some (false, ())
      else
        (laws_vInts N r2.1.1 r3.1.1).bind fun r10 =>
        bif !r10.1 then
          some (false, ())
        else
          bif ine r6.1.1 r7.1.1 then
            some (false, ())
          else
            bif !(Go.Rx.beq r6.1.2 r7.1.2) then
              some (false, ())
            else
              bif !(Go.Rx.beq r8.1.2 r9.1.2) then
                some (false, ())
              else
                (laws_vInts N r8.1.1 r9.1.1).bind fun r11 =>
                bif !r11.1 then
                  some (false, ())
                else
                  bif r6.1.2 then
                    (impl_BestFresh N r5.1.1 r5.1.2.1).bind fun r12 =>
                    (impl_BestCost N r5.1.1).bind fun r13 =>
                    bif !r12.1.2.2 then
                      some (false, ())
                    else
                      bif ilt r6.1.1 r12.1.2.1 then
                        some (false, ())
                      else
                        bif ilt r12.1.2.1 r13.1.1 then
                          some (false, ())
                        else
                          bif ile (len r5.1.1.1) r5.1.2.1 then
                            bif ine r12.1.2.1 r13.1.1 then
                              some (false, ())
                            else
                              laws_FnFresh_K2 N r1.1.2 r2.1.1 r2.1.2.1 r2.1.2.2 r8.1.1 r1.1.1
                          else
                            laws_FnFresh_K2 N r1.1.2 r2.1.1 r2.1.2.1 r2.1.2.2 r8.1.1 r1.1.1
                  else
                    laws_FnFresh_K2 N r1.1.2 r2.1.1 r2.1.2.1 r2.1.2.2 r8.1.1 r1.1.1
end Px
end Go.Rx
