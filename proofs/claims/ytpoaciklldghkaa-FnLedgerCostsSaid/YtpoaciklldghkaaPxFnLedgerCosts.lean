/- This text defines the plain functions that the Go functions behind FnLedgerCosts compute; no condition. -/
import Derived.Test.YtpoaciklldghkaaRxd
set_option linter.unusedVariables false
set_option linter.unusedSimpArgs false
namespace Go.Rx
namespace Px
def laws_vBig (N : Nat) (code : List Int) : Option (Bool × Unit) :=
  some (ilt 65536 (len code), ())
def impl_within (N : Nat) (n : Int) (low : Int) (high : Int) : Option (Bool × Unit) :=
  bif ile low n then
    some (ile n high, ())
  else
    some (false, ())
def impl_allWithin_K1 (N : Nat) : Option (Bool × Unit) :=
  some (true, ())
def impl_allWithin_B1 (N : Nat) (kx : Int → Int → (List Int) → Int → Int → Option (Bool × Unit)) (low1 : Int) (high1 : Int) (v9 : List Int) (v10 : Int) (v11 : Int) : Option (Bool × Unit) :=
  bif ilt v11 v10 then
    chk (inB v11 v9.length) <|
    (impl_within N (gd v9 v11.toNat 0) low1 high1).bind fun r =>
    bif !r.1 then
      some (false, ())
    else
      kx low1 high1 v9 v10 (iadd .i64 v11 1)
  else
    impl_allWithin_K1 N
def impl_allWithin_L1 (N fu_ : Nat) (low1 : Int) (high1 : Int) (v9 : List Int) (v10 : Int) (v11 : Int) : Option (Bool × Unit) :=
  iterK fu_ (fun kx (v_ : (Int × Int × (List Int) × Int × Int × Unit) × (Unit)) => impl_allWithin_B1 N (fun low1 high1 v9 v10 v11 => kx ((low1, high1, v9, v10, v11, ()), ())) v_.1.1 v_.1.2.1 v_.1.2.2.1 v_.1.2.2.2.1 v_.1.2.2.2.2.1) ((low1, high1, v9, v10, v11, ()), ())
theorem impl_allWithin_L1_succ (N fu_ : Nat) (low1 : Int) (high1 : Int) (v9 : List Int) (v10 : Int) (v11 : Int) : impl_allWithin_L1 N (fu_ + 1) low1 high1 v9 v10 v11 = impl_allWithin_B1 N (fun low1 high1 v9 v10 v11 => impl_allWithin_L1 N fu_ low1 high1 v9 v10 v11) low1 high1 v9 v10 v11 := rfl
theorem impl_allWithin_L1_run (N : Nat) (low1 : Nat → Int) (high1 : Nat → Int) (v9 : Nat → (List Int)) (v10 : Nat → Int) (v11 : Nat → Int) (n_ : Nat) {res_ : Option (Bool × Unit)} (hstep_ : ∀ j_, j_ < n_ → ∀ kx_, impl_allWithin_B1 N kx_ (low1 j_) (high1 j_) (v9 j_) (v10 j_) (v11 j_) = kx_ (low1 (j_ + 1)) (high1 (j_ + 1)) (v9 (j_ + 1)) (v10 (j_ + 1)) (v11 (j_ + 1))) (hend_ : ∀ kx_, impl_allWithin_B1 N kx_ (low1 n_) (high1 n_) (v9 n_) (v10 n_) (v11 n_) = res_) (fu_ : Nat) (hm_ : n_ < fu_) : impl_allWithin_L1 N fu_ (low1 0) (high1 0) (v9 0) (v10 0) (v11 0) = res_ := by
  exact loop_run (L := fun fu_ (x_ : Int × Int × (List Int) × Int × Int) => impl_allWithin_L1 N fu_ x_.1 x_.2.1 x_.2.2.1 x_.2.2.2.1 x_.2.2.2.2) (B := fun kx_ x_ => impl_allWithin_B1 N (fun low1 high1 v9 v10 v11 => kx_ (low1, high1, v9, v10, v11)) x_.1 x_.2.1 x_.2.2.1 x_.2.2.2.1 x_.2.2.2.2) (fun _ _ => rfl) (fun j_ => (low1 j_, high1 j_, v9 j_, v10 j_, v11 j_)) n_ (fun j_ hi_ kx_ => hstep_ j_ hi_ _) (fun kx_ => hend_ _) fu_ hm_
def impl_allWithin (N : Nat) (list : List Int) (low : Int) (high : Int) : Option (Bool × Unit) :=
  impl_allWithin_L1 N N low high list (len list) 0
def impl_IsCase (N : Nat) (c : (List Int) × (List Int) × (List Int) × (List Int)) : Option (Bool × Unit) :=
  bif ile (len c.1) 8 then
    bif ieq (len c.2.1) (len c.1) then
      bif ieq (len c.2.2.1) (len c.1) then
        bif ieq (len c.2.2.2) (len c.1) then
          (impl_allWithin N c.1 0 20).bind fun r =>
          bif r.1 then
            (impl_allWithin N c.2.1 0 99).bind fun r1 =>
            bif r1.1 then
              (impl_allWithin N c.2.2.1 0 9).bind fun r2 =>
              bif r2.1 then
                (impl_allWithin N c.2.2.2 0 9).bind fun r3 =>
                some (r3.1, ())
              else
                some (false, ())
            else
              some (false, ())
          else
            some (false, ())
        else
          some (false, ())
      else
        some (false, ())
    else
      some (false, ())
  else
    some (false, ())
def impl_total_K1 (N : Nat) (sum1 : Int) : Option (Int × Unit) :=
  some (sum1, ())
def impl_total_B1 (N : Nat) (kx : Int → (List Int) → Int → Int → Option (Int × Unit)) (sum : Int) (v6 : List Int) (v7 : Int) (v8 : Int) : Option (Int × Unit) :=
  bif ilt v8 v7 then
    chk (inB v8 v6.length) <|
    kx (iadd .i64 sum (gd v6 v8.toNat 0)) v6 v7 (iadd .i64 v8 1)
  else
    impl_total_K1 N sum
def impl_total_L1 (N fu_ : Nat) (sum : Int) (v6 : List Int) (v7 : Int) (v8 : Int) : Option (Int × Unit) :=
  iterK fu_ (fun kx (v_ : (Int × (List Int) × Int × Int × Unit) × (Unit)) => impl_total_B1 N (fun sum v6 v7 v8 => kx ((sum, v6, v7, v8, ()), ())) v_.1.1 v_.1.2.1 v_.1.2.2.1 v_.1.2.2.2.1) ((sum, v6, v7, v8, ()), ())
theorem impl_total_L1_succ (N fu_ : Nat) (sum : Int) (v6 : List Int) (v7 : Int) (v8 : Int) : impl_total_L1 N (fu_ + 1) sum v6 v7 v8 = impl_total_B1 N (fun sum v6 v7 v8 => impl_total_L1 N fu_ sum v6 v7 v8) sum v6 v7 v8 := rfl
theorem impl_total_L1_run (N : Nat) (sum : Nat → Int) (v6 : Nat → (List Int)) (v7 : Nat → Int) (v8 : Nat → Int) (n_ : Nat) {res_ : Option (Int × Unit)} (hstep_ : ∀ j_, j_ < n_ → ∀ kx_, impl_total_B1 N kx_ (sum j_) (v6 j_) (v7 j_) (v8 j_) = kx_ (sum (j_ + 1)) (v6 (j_ + 1)) (v7 (j_ + 1)) (v8 (j_ + 1))) (hend_ : ∀ kx_, impl_total_B1 N kx_ (sum n_) (v6 n_) (v7 n_) (v8 n_) = res_) (fu_ : Nat) (hm_ : n_ < fu_) : impl_total_L1 N fu_ (sum 0) (v6 0) (v7 0) (v8 0) = res_ := by
  exact loop_run (L := fun fu_ (x_ : Int × (List Int) × Int × Int) => impl_total_L1 N fu_ x_.1 x_.2.1 x_.2.2.1 x_.2.2.2) (B := fun kx_ x_ => impl_total_B1 N (fun sum v6 v7 v8 => kx_ (sum, v6, v7, v8)) x_.1 x_.2.1 x_.2.2.1 x_.2.2.2) (fun _ _ => rfl) (fun j_ => (sum j_, v6 j_, v7 j_, v8 j_)) n_ (fun j_ hi_ kx_ => hstep_ j_ hi_ _) (fun kx_ => hend_ _) fu_ hm_
def impl_total (N : Nat) (list : List Int) : Option (Int × Unit) :=
  impl_total_L1 N N 0 list (len list) 0
def impl_Ledger_stock (N : Nat) (l : ((List Int) × (List Int) × (List Int) × (List Int)) × (List Int) × Int) (n : Int) : Option (Int × Unit) :=
  chk (cutB 0 n l.2.1.length) <|
  (impl_total N (cut l.2.1 0 n)).bind fun r =>
  chk (cutB 0 n l.1.1.length) <|
  (impl_total N (cut l.1.1 0 n)).bind fun r1 =>
  some (isub .i64 r.1 r1.1, ())
def impl_IsLedger_K1 (N : Nat) : Option (Bool × Unit) :=
  some (true, ())
def impl_IsLedger_B1 (N : Nat) (kx : Int → Int → (((List Int) × (List Int) × (List Int) × (List Int)) × (List Int) × Int) → Option (Bool × Unit)) (v34 : Int) (v35 : Int) (l1 : ((List Int) × (List Int) × (List Int) × (List Int)) × (List Int) × Int) : Option (Bool × Unit) :=
  bif ilt v35 v34 then
    (impl_Ledger_stock N l1 (iadd .i64 v35 1)).bind fun r3 =>
    bif ilt r3.1 0 then
      some (false, ())
    else
      kx v34 (iadd .i64 v35 1) l1
  else
    impl_IsLedger_K1 N
def impl_IsLedger_L1 (N fu_ : Nat) (v34 : Int) (v35 : Int) (l1 : ((List Int) × (List Int) × (List Int) × (List Int)) × (List Int) × Int) : Option (Bool × Unit) :=
  iterK fu_ (fun kx (v_ : (Int × Int × Unit) × ((((List Int) × (List Int) × (List Int) × (List Int)) × (List Int) × Int) × Unit)) => impl_IsLedger_B1 N (fun v34 v35 l1 => kx ((v34, v35, ()), (l1, ()))) v_.1.1 v_.1.2.1 v_.2.1) ((v34, v35, ()), (l1, ()))
theorem impl_IsLedger_L1_succ (N fu_ : Nat) (v34 : Int) (v35 : Int) (l1 : ((List Int) × (List Int) × (List Int) × (List Int)) × (List Int) × Int) : impl_IsLedger_L1 N (fu_ + 1) v34 v35 l1 = impl_IsLedger_B1 N (fun v34 v35 l1 => impl_IsLedger_L1 N fu_ v34 v35 l1) v34 v35 l1 := rfl
theorem impl_IsLedger_L1_run (N : Nat) (v34 : Nat → Int) (v35 : Nat → Int) (l1 : Nat → (((List Int) × (List Int) × (List Int) × (List Int)) × (List Int) × Int)) (n_ : Nat) {res_ : Option (Bool × Unit)} (hstep_ : ∀ j_, j_ < n_ → ∀ kx_, impl_IsLedger_B1 N kx_ (v34 j_) (v35 j_) (l1 j_) = kx_ (v34 (j_ + 1)) (v35 (j_ + 1)) (l1 (j_ + 1))) (hend_ : ∀ kx_, impl_IsLedger_B1 N kx_ (v34 n_) (v35 n_) (l1 n_) = res_) (fu_ : Nat) (hm_ : n_ < fu_) : impl_IsLedger_L1 N fu_ (v34 0) (v35 0) (l1 0) = res_ := by
  exact loop_run (L := fun fu_ (x_ : Int × Int × (((List Int) × (List Int) × (List Int) × (List Int)) × (List Int) × Int)) => impl_IsLedger_L1 N fu_ x_.1 x_.2.1 x_.2.2) (B := fun kx_ x_ => impl_IsLedger_B1 N (fun v34 v35 l1 => kx_ (v34, v35, l1)) x_.1 x_.2.1 x_.2.2) (fun _ _ => rfl) (fun j_ => (v34 j_, v35 j_, l1 j_)) n_ (fun j_ hi_ kx_ => hstep_ j_ hi_ _) (fun kx_ => hend_ _) fu_ hm_
def impl_IsLedger (N : Nat) (l : ((List Int) × (List Int) × (List Int) × (List Int)) × (List Int) × Int) : Option (Bool × Unit) :=
  (impl_IsCase N l.1).bind fun r =>
  bif !r.1 then
    some (false, ())
  else
    bif ine (len l.2.1) (len l.1.1) then
      some (false, ())
    else
      (impl_allWithin N l.2.1 0 200).bind fun r1 =>
      bif !r1.1 then
        some (false, ())
      else
        (impl_within N l.2.2 0 (len l.2.1)).bind fun r2 =>
        bif !r2.1 then
          some (false, ())
        else
          impl_IsLedger_L1 N N l.2.2 0 l
def impl_copied (N : Nat) (list : List Int) : Option ((List Int) × Unit) :=
  chk (fitB (0 + list.length) 8) <|
  some (list, ())
def impl_Ledger_own (N : Nat) (l : ((List Int) × (List Int) × (List Int) × (List Int)) × (List Int) × Int) : Option ((((List Int) × (List Int) × (List Int) × (List Int)) × (List Int) × Int) × Unit) :=
  (impl_copied N l.1.1).bind fun r =>
  (impl_copied N l.1.2.1).bind fun r1 =>
  (impl_copied N l.1.2.2.1).bind fun r2 =>
  (impl_copied N l.1.2.2.2).bind fun r3 =>
  (impl_copied N l.2.1).bind fun r4 =>
  some (((r.1, (r1.1, (r2.1, r3.1))), (r4.1, l.2.2)), ())
def impl_Case_planFrom_K1 (N : Nat) (kx : (List Int) → Int → (List Int) → Int → Int → (List Int) → Option (((List Int) × Bool) × Unit)) (periods3 : List Int) (next2 : Int) (need1 : Int) (v152 : List Int) (v162 : Int) (v172 : Int) (plan2 : List Int) : Option (((List Int) × Bool) × Unit) :=
  bif ieq next2 0 then
    bif ilt 0 need1 then
      some (([], false), ())
    else
      kx periods3 next2 v152 v162 (iadd .i64 v172 1) plan2
  else
    chk (inB (isub .i64 next2 1) periods3.length) <|
    chk (inB (gd periods3 (isub .i64 next2 1).toNat 0) plan2.length) <|
    chk (inB (gd periods3 (isub .i64 next2 1).toNat 0) plan2.length) <|
    kx periods3 next2 v152 v162 (iadd .i64 v172 1) (List.set plan2 (gd periods3 (isub .i64 next2 1).toNat 0).toNat (iadd .i64 (gd plan2 (gd periods3 (isub .i64 next2 1).toNat 0).toNat 0) need1))
def impl_Case_planFrom_K2 (N : Nat) (kx : (List Int) → Int → (List Int) → Int → Int → (List Int) → Option (((List Int) × Bool) × Unit)) (periods2 : List Int) (next1 : Int) (need : Int) (v151 : List Int) (v161 : Int) (v171 : Int) (v33 : Bool) (plan1 : List Int) : Option (((List Int) × Bool) × Unit) :=
  bif v33 then
    impl_Case_planFrom_K1 N kx periods2 (iadd .i64 next1 1) need v151 v161 v171 plan1
  else
    impl_Case_planFrom_K1 N kx periods2 next1 need v151 v161 v171 plan1
def impl_Case_planFrom_K3 (N : Nat) (plan3 : List Int) : Option (((List Int) × Bool) × Unit) :=
  some ((plan3, true), ())
def impl_Case_planFrom_B1 (N : Nat) (kx : (List Int) → Int → (List Int) → Int → Int → (List Int) → Option (((List Int) × Bool) × Unit)) (periods1 : List Int) (next : Int) (v15 : List Int) (v16 : Int) (v17 : Int) (plan : List Int) : Option (((List Int) × Bool) × Unit) :=
  bif ilt v17 v16 then
    chk (inB v17 v15.length) <|
    bif ilt next (len periods1) then
      chk (inB next periods1.length) <|
      impl_Case_planFrom_K2 N kx periods1 next (gd v15 v17.toNat 0) v15 v16 v17 (ieq (gd periods1 next.toNat 0) v17) plan
    else
      impl_Case_planFrom_K2 N kx periods1 next (gd v15 v17.toNat 0) v15 v16 v17 false plan
  else
    impl_Case_planFrom_K3 N plan
def impl_Case_planFrom_L1 (N fu_ : Nat) (periods1 : List Int) (next : Int) (v15 : List Int) (v16 : Int) (v17 : Int) (plan : List Int) : Option (((List Int) × Bool) × Unit) :=
  iterK fu_ (fun kx (v_ : ((List Int) × Int × (List Int) × Int × Int × Unit) × ((List Int) × Unit)) => impl_Case_planFrom_B1 N (fun periods1 next v15 v16 v17 plan => kx ((periods1, next, v15, v16, v17, ()), (plan, ()))) v_.1.1 v_.1.2.1 v_.1.2.2.1 v_.1.2.2.2.1 v_.1.2.2.2.2.1 v_.2.1) ((periods1, next, v15, v16, v17, ()), (plan, ()))
theorem impl_Case_planFrom_L1_succ (N fu_ : Nat) (periods1 : List Int) (next : Int) (v15 : List Int) (v16 : Int) (v17 : Int) (plan : List Int) : impl_Case_planFrom_L1 N (fu_ + 1) periods1 next v15 v16 v17 plan = impl_Case_planFrom_B1 N (fun periods1 next v15 v16 v17 plan => impl_Case_planFrom_L1 N fu_ periods1 next v15 v16 v17 plan) periods1 next v15 v16 v17 plan := rfl
theorem impl_Case_planFrom_L1_run (N : Nat) (periods1 : Nat → (List Int)) (next : Nat → Int) (v15 : Nat → (List Int)) (v16 : Nat → Int) (v17 : Nat → Int) (plan : Nat → (List Int)) (n_ : Nat) {res_ : Option (((List Int) × Bool) × Unit)} (hstep_ : ∀ j_, j_ < n_ → ∀ kx_, impl_Case_planFrom_B1 N kx_ (periods1 j_) (next j_) (v15 j_) (v16 j_) (v17 j_) (plan j_) = kx_ (periods1 (j_ + 1)) (next (j_ + 1)) (v15 (j_ + 1)) (v16 (j_ + 1)) (v17 (j_ + 1)) (plan (j_ + 1))) (hend_ : ∀ kx_, impl_Case_planFrom_B1 N kx_ (periods1 n_) (next n_) (v15 n_) (v16 n_) (v17 n_) (plan n_) = res_) (fu_ : Nat) (hm_ : n_ < fu_) : impl_Case_planFrom_L1 N fu_ (periods1 0) (next 0) (v15 0) (v16 0) (v17 0) (plan 0) = res_ := by
  exact loop_run (L := fun fu_ (x_ : (List Int) × Int × (List Int) × Int × Int × (List Int)) => impl_Case_planFrom_L1 N fu_ x_.1 x_.2.1 x_.2.2.1 x_.2.2.2.1 x_.2.2.2.2.1 x_.2.2.2.2.2) (B := fun kx_ x_ => impl_Case_planFrom_B1 N (fun periods1 next v15 v16 v17 plan => kx_ (periods1, next, v15, v16, v17, plan)) x_.1 x_.2.1 x_.2.2.1 x_.2.2.2.1 x_.2.2.2.2.1 x_.2.2.2.2.2) (fun _ _ => rfl) (fun j_ => (periods1 j_, next j_, v15 j_, v16 j_, v17 j_, plan j_)) n_ (fun j_ hi_ kx_ => hstep_ j_ hi_ _) (fun kx_ => hend_ _) fu_ hm_
def impl_Case_planFrom (N : Nat) (c : (List Int) × (List Int) × (List Int) × (List Int)) (periods : List Int) : Option (((List Int) × Bool) × Unit) :=
  chk (mkB (len c.1) 8) <|
  impl_Case_planFrom_L1 N N periods 0 c.1 (len c.1) 0 (List.replicate (len c.1).toNat 0)
def impl_Case_parts_K1 (N : Nat) (kx : Int → Int → Int → Int → (List Int) → Int → Int → ((List Int) × (List Int) × (List Int) × (List Int)) → Option ((Int × Int × Int) × Unit)) (setups1 : Int) (units1 : Int) (holds1 : Int) (stock1 : Int) (i : Int) (amount : Int) (v131 : List Int) (v141 : Int) (v151 : Int) (c2 : (List Int) × (List Int) × (List Int) × (List Int)) : Option ((Int × Int × Int) × Unit) :=
  chk (inB i c2.2.2.1.length) <|
  chk (inB i c2.2.2.2.length) <|
  kx setups1 (iadd .i64 units1 (imul .i64 (gd c2.2.2.1 i.toNat 0) amount)) (iadd .i64 holds1 (imul .i64 (gd c2.2.2.2 i.toNat 0) stock1)) stock1 v131 v141 (iadd .i64 v151 1) c2
def impl_Case_parts_K2 (N : Nat) (setups2 : Int) (units2 : Int) (holds2 : Int) : Option ((Int × Int × Int) × Unit) :=
  some ((setups2, (units2, holds2)), ())
def impl_Case_parts_B1 (N : Nat) (kx : Int → Int → Int → Int → (List Int) → Int → Int → ((List Int) × (List Int) × (List Int) × (List Int)) → Option ((Int × Int × Int) × Unit)) (setups : Int) (units : Int) (holds : Int) (stock : Int) (v13 : List Int) (v14 : Int) (v15 : Int) (c1 : (List Int) × (List Int) × (List Int) × (List Int)) : Option ((Int × Int × Int) × Unit) :=
  bif ilt v15 v14 then
    chk (inB v15 v13.length) <|
    chk (inB v15 c1.1.length) <|
    bif ilt 0 (gd v13 v15.toNat 0) then
      chk (inB v15 c1.2.1.length) <|
      impl_Case_parts_K1 N kx (iadd .i64 setups (gd c1.2.1 v15.toNat 0)) units holds (iadd .i64 stock (isub .i64 (gd v13 v15.toNat 0) (gd c1.1 v15.toNat 0))) v15 (gd v13 v15.toNat 0) v13 v14 v15 c1
    else
      impl_Case_parts_K1 N kx setups units holds (iadd .i64 stock (isub .i64 (gd v13 v15.toNat 0) (gd c1.1 v15.toNat 0))) v15 (gd v13 v15.toNat 0) v13 v14 v15 c1
  else
    impl_Case_parts_K2 N setups units holds
def impl_Case_parts_L1 (N fu_ : Nat) (setups : Int) (units : Int) (holds : Int) (stock : Int) (v13 : List Int) (v14 : Int) (v15 : Int) (c1 : (List Int) × (List Int) × (List Int) × (List Int)) : Option ((Int × Int × Int) × Unit) :=
  iterK fu_ (fun kx (v_ : (Int × Int × Int × Int × (List Int) × Int × Int × Unit) × (((List Int) × (List Int) × (List Int) × (List Int)) × Unit)) => impl_Case_parts_B1 N (fun setups units holds stock v13 v14 v15 c1 => kx ((setups, units, holds, stock, v13, v14, v15, ()), (c1, ()))) v_.1.1 v_.1.2.1 v_.1.2.2.1 v_.1.2.2.2.1 v_.1.2.2.2.2.1 v_.1.2.2.2.2.2.1 v_.1.2.2.2.2.2.2.1 v_.2.1) ((setups, units, holds, stock, v13, v14, v15, ()), (c1, ()))
theorem impl_Case_parts_L1_succ (N fu_ : Nat) (setups : Int) (units : Int) (holds : Int) (stock : Int) (v13 : List Int) (v14 : Int) (v15 : Int) (c1 : (List Int) × (List Int) × (List Int) × (List Int)) : impl_Case_parts_L1 N (fu_ + 1) setups units holds stock v13 v14 v15 c1 = impl_Case_parts_B1 N (fun setups units holds stock v13 v14 v15 c1 => impl_Case_parts_L1 N fu_ setups units holds stock v13 v14 v15 c1) setups units holds stock v13 v14 v15 c1 := rfl
theorem impl_Case_parts_L1_run (N : Nat) (setups : Nat → Int) (units : Nat → Int) (holds : Nat → Int) (stock : Nat → Int) (v13 : Nat → (List Int)) (v14 : Nat → Int) (v15 : Nat → Int) (c1 : Nat → ((List Int) × (List Int) × (List Int) × (List Int))) (n_ : Nat) {res_ : Option ((Int × Int × Int) × Unit)} (hstep_ : ∀ j_, j_ < n_ → ∀ kx_, impl_Case_parts_B1 N kx_ (setups j_) (units j_) (holds j_) (stock j_) (v13 j_) (v14 j_) (v15 j_) (c1 j_) = kx_ (setups (j_ + 1)) (units (j_ + 1)) (holds (j_ + 1)) (stock (j_ + 1)) (v13 (j_ + 1)) (v14 (j_ + 1)) (v15 (j_ + 1)) (c1 (j_ + 1))) (hend_ : ∀ kx_, impl_Case_parts_B1 N kx_ (setups n_) (units n_) (holds n_) (stock n_) (v13 n_) (v14 n_) (v15 n_) (c1 n_) = res_) (fu_ : Nat) (hm_ : n_ < fu_) : impl_Case_parts_L1 N fu_ (setups 0) (units 0) (holds 0) (stock 0) (v13 0) (v14 0) (v15 0) (c1 0) = res_ := by
  exact loop_run (L := fun fu_ (x_ : Int × Int × Int × Int × (List Int) × Int × Int × ((List Int) × (List Int) × (List Int) × (List Int))) => impl_Case_parts_L1 N fu_ x_.1 x_.2.1 x_.2.2.1 x_.2.2.2.1 x_.2.2.2.2.1 x_.2.2.2.2.2.1 x_.2.2.2.2.2.2.1 x_.2.2.2.2.2.2.2) (B := fun kx_ x_ => impl_Case_parts_B1 N (fun setups units holds stock v13 v14 v15 c1 => kx_ (setups, units, holds, stock, v13, v14, v15, c1)) x_.1 x_.2.1 x_.2.2.1 x_.2.2.2.1 x_.2.2.2.2.1 x_.2.2.2.2.2.1 x_.2.2.2.2.2.2.1 x_.2.2.2.2.2.2.2) (fun _ _ => rfl) (fun j_ => (setups j_, units j_, holds j_, stock j_, v13 j_, v14 j_, v15 j_, c1 j_)) n_ (fun j_ hi_ kx_ => hstep_ j_ hi_ _) (fun kx_ => hend_ _) fu_ hm_
def impl_Case_parts (N : Nat) (c : (List Int) × (List Int) × (List Int) × (List Int)) (plan : List Int) : Option ((Int × Int × Int) × Unit) :=
  impl_Case_parts_L1 N N 0 0 0 0 plan (len plan) 0 c
def impl_Case_cost (N : Nat) (c : (List Int) × (List Int) × (List Int) × (List Int)) (plan : List Int) : Option (Int × Unit) :=
  (impl_Case_parts N c plan).bind fun r =>
  some (iadd .i64 (iadd .i64 r.1.1 r.1.2.1) r.1.2.2, ())
def cmp_isNaN_int (N : Nat) (x : Int) : Option (Bool × Unit) :=
  some (ine x x, ())
def cmp_Compare_int (N : Nat) (x : Int) (y : Int) : Option (Int × Unit) :=
  (cmp_isNaN_int N x).bind fun r =>
  (cmp_isNaN_int N y).bind fun r1 =>
  bif r.1 then
    bif r1.1 then
      some (0, ())
    else
      some ((-1), ())
  else
    bif r1.1 then
      some (1, ())
    else
      bif ilt x y then
        some ((-1), ())
      else
        bif ilt y x then
          some (1, ())
        else
          some (0, ())
def slices_Compare_int_int_K1 (N : Nat) (s12 : List Int) (s22 : List Int) : Option (Int × Unit) :=
  bif ilt (len s12) (len s22) then
    some ((-1), ())
  else
    some (0, ())
def slices_Compare_int_int_B1 (N : Nat) (kx : (List Int) → (List Int) → (List Int) → Int → Int → Option (Int × Unit)) (s11 : List Int) (s21 : List Int) (v9 : List Int) (v10 : Int) (v11 : Int) : Option (Int × Unit) :=
  bif ilt v11 v10 then
    chk (inB v11 v9.length) <|
    bif ile (len s21) v11 then
      some (1, ())
    else
      chk (inB v11 s21.length) <|
      (cmp_Compare_int N (gd v9 v11.toNat 0) (gd s21 v11.toNat 0)).bind fun r =>
      bif ine r.1 0 then
        some (r.1, ())
      else
        kx s11 s21 v9 v10 (iadd .i64 v11 1)
  else
    slices_Compare_int_int_K1 N s11 s21
def slices_Compare_int_int_L1 (N fu_ : Nat) (s11 : List Int) (s21 : List Int) (v9 : List Int) (v10 : Int) (v11 : Int) : Option (Int × Unit) :=
  iterK fu_ (fun kx (v_ : ((List Int) × (List Int) × (List Int) × Int × Int × Unit) × (Unit)) => slices_Compare_int_int_B1 N (fun s11 s21 v9 v10 v11 => kx ((s11, s21, v9, v10, v11, ()), ())) v_.1.1 v_.1.2.1 v_.1.2.2.1 v_.1.2.2.2.1 v_.1.2.2.2.2.1) ((s11, s21, v9, v10, v11, ()), ())
theorem slices_Compare_int_int_L1_succ (N fu_ : Nat) (s11 : List Int) (s21 : List Int) (v9 : List Int) (v10 : Int) (v11 : Int) : slices_Compare_int_int_L1 N (fu_ + 1) s11 s21 v9 v10 v11 = slices_Compare_int_int_B1 N (fun s11 s21 v9 v10 v11 => slices_Compare_int_int_L1 N fu_ s11 s21 v9 v10 v11) s11 s21 v9 v10 v11 := rfl
theorem slices_Compare_int_int_L1_run (N : Nat) (s11 : Nat → (List Int)) (s21 : Nat → (List Int)) (v9 : Nat → (List Int)) (v10 : Nat → Int) (v11 : Nat → Int) (n_ : Nat) {res_ : Option (Int × Unit)} (hstep_ : ∀ j_, j_ < n_ → ∀ kx_, slices_Compare_int_int_B1 N kx_ (s11 j_) (s21 j_) (v9 j_) (v10 j_) (v11 j_) = kx_ (s11 (j_ + 1)) (s21 (j_ + 1)) (v9 (j_ + 1)) (v10 (j_ + 1)) (v11 (j_ + 1))) (hend_ : ∀ kx_, slices_Compare_int_int_B1 N kx_ (s11 n_) (s21 n_) (v9 n_) (v10 n_) (v11 n_) = res_) (fu_ : Nat) (hm_ : n_ < fu_) : slices_Compare_int_int_L1 N fu_ (s11 0) (s21 0) (v9 0) (v10 0) (v11 0) = res_ := by
  exact loop_run (L := fun fu_ (x_ : (List Int) × (List Int) × (List Int) × Int × Int) => slices_Compare_int_int_L1 N fu_ x_.1 x_.2.1 x_.2.2.1 x_.2.2.2.1 x_.2.2.2.2) (B := fun kx_ x_ => slices_Compare_int_int_B1 N (fun s11 s21 v9 v10 v11 => kx_ (s11, s21, v9, v10, v11)) x_.1 x_.2.1 x_.2.2.1 x_.2.2.2.1 x_.2.2.2.2) (fun _ _ => rfl) (fun j_ => (s11 j_, s21 j_, v9 j_, v10 j_, v11 j_)) n_ (fun j_ hi_ kx_ => hstep_ j_ hi_ _) (fun kx_ => hend_ _) fu_ hm_
def slices_Compare_int_int (N : Nat) (s1 : List Int) (s2 : List Int) : Option (Int × Unit) :=
  slices_Compare_int_int_L1 N N s1 s2 s1 (len s1) 0
def impl_Case_best_K1 (N : Nat) (kx : Int → Int → Int → ((List Int) × (List Int) × (List Int) × (List Int)) → (List Int) → Option (((List Int) × Int) × Unit)) (v53 : Int) (v111 : Int) (v121 : Bool) (v163 : Int) (v173 : Int) (v13 : (List Int) × (List Int) × (List Int) × (List Int)) (v43 : List Int) (v72 : List Int) : Option (((List Int) × Int) × Unit) :=
  bif ilt v53 0 then
    kx v111 v163 (iadd .i64 v173 1) v13 v72
  else
    bif ilt v111 v53 then
      kx v111 v163 (iadd .i64 v173 1) v13 v72
    else
      bif ieq v111 v53 then
        bif v121 then
          kx v111 v163 (iadd .i64 v173 1) v13 v72
        else
          kx v53 v163 (iadd .i64 v173 1) v13 v43
      else
        kx v53 v163 (iadd .i64 v173 1) v13 v43
def impl_Case_best_K2 (N : Nat) (kx : Int → Int → Int → ((List Int) × (List Int) × (List Int) × (List Int)) → (List Int) → Option (((List Int) × Int) × Unit)) (v52 : Int) (v162 : Int) (v172 : Int) (v12 : (List Int) × (List Int) × (List Int) × (List Int)) (v42 : List Int) (v71 : List Int) : Option (((List Int) × Int) × Unit) :=
  (impl_Case_planFrom N v12 v71).bind fun r =>
  bif !r.1.2 then
    kx v52 v162 (iadd .i64 v172 1) v12 v42
  else
    (impl_Case_cost N v12 r.1.1).bind fun r1 =>
    bif ilt (len v71) (len v42) then
      impl_Case_best_K1 N kx v52 r1.1 true v162 v172 v12 v42 v71
    else
      bif ieq (len v71) (len v42) then
        (slices_Compare_int_int N v71 v42).bind fun r2 =>
        impl_Case_best_K1 N kx v52 r1.1 (ilt r2.1 0) v162 v172 v12 v42 v71
      else
        impl_Case_best_K1 N kx v52 r1.1 false v162 v172 v12 v42 v71
def impl_Case_best_B1 (N : Nat) (kx : Int → Int → Int → ((List Int) × (List Int) × (List Int) × (List Int)) → (List Int) → Option (((List Int) × Int) × Unit)) (kx1 : Int → Int → Int → Int → Int → Int → ((List Int) × (List Int) × (List Int) × (List Int)) → (List Int) → (List Int) → Option (((List Int) × Int) × Unit)) (v51 : Int) (v6 : Int) (v161 : Int) (v171 : Int) (v23 : Int) (v24 : Int) (v11 : (List Int) × (List Int) × (List Int) × (List Int)) (v41 : List Int) (v7 : List Int) : Option (((List Int) × Int) × Unit) :=
  bif ilt v24 v23 then
    chk (ile 0 v24) <|
    bif ieq (iand .i64 (ishr .i64 v6 v24) 1) 1 then
      chk (fitB (v7.length + 1) 8) <|
      kx1 v51 v6 v161 v171 v23 (iadd .i64 v24 1) v11 v41 (v7 ++ [v24])
    else
      kx1 v51 v6 v161 v171 v23 (iadd .i64 v24 1) v11 v41 v7
  else
    impl_Case_best_K2 N kx v51 v161 v171 v11 v41 v7
def impl_Case_best_L1 (N fu_ : Nat) (kx : Int → Int → Int → ((List Int) × (List Int) × (List Int) × (List Int)) → (List Int) → Option (((List Int) × Int) × Unit)) (v51 : Int) (v6 : Int) (v161 : Int) (v171 : Int) (v23 : Int) (v24 : Int) (v11 : (List Int) × (List Int) × (List Int) × (List Int)) (v41 : List Int) (v7 : List Int) : Option (((List Int) × Int) × Unit) :=
  iterK fu_ (fun kx1 (v_ : (Int × Int × Int × Int × Int × Int × Unit) × (((List Int) × (List Int) × (List Int) × (List Int)) × (List Int) × (List Int) × Unit)) => impl_Case_best_B1 N kx (fun v51 v6 v161 v171 v23 v24 v11 v41 v7 => kx1 ((v51, v6, v161, v171, v23, v24, ()), (v11, v41, v7, ()))) v_.1.1 v_.1.2.1 v_.1.2.2.1 v_.1.2.2.2.1 v_.1.2.2.2.2.1 v_.1.2.2.2.2.2.1 v_.2.1 v_.2.2.1 v_.2.2.2.1) ((v51, v6, v161, v171, v23, v24, ()), (v11, v41, v7, ()))
theorem impl_Case_best_L1_succ (N fu_ : Nat) (kx : Int → Int → Int → ((List Int) × (List Int) × (List Int) × (List Int)) → (List Int) → Option (((List Int) × Int) × Unit)) (v51 : Int) (v6 : Int) (v161 : Int) (v171 : Int) (v23 : Int) (v24 : Int) (v11 : (List Int) × (List Int) × (List Int) × (List Int)) (v41 : List Int) (v7 : List Int) : impl_Case_best_L1 N (fu_ + 1) kx v51 v6 v161 v171 v23 v24 v11 v41 v7 = impl_Case_best_B1 N kx (fun v51 v6 v161 v171 v23 v24 v11 v41 v7 => impl_Case_best_L1 N fu_ kx v51 v6 v161 v171 v23 v24 v11 v41 v7) v51 v6 v161 v171 v23 v24 v11 v41 v7 := rfl
theorem impl_Case_best_L1_run (N : Nat) (kx : Int → Int → Int → ((List Int) × (List Int) × (List Int) × (List Int)) → (List Int) → Option (((List Int) × Int) × Unit)) (v51 : Nat → Int) (v6 : Nat → Int) (v161 : Nat → Int) (v171 : Nat → Int) (v23 : Nat → Int) (v24 : Nat → Int) (v11 : Nat → ((List Int) × (List Int) × (List Int) × (List Int))) (v41 : Nat → (List Int)) (v7 : Nat → (List Int)) (n_ : Nat) {res_ : Option (((List Int) × Int) × Unit)} (hstep_ : ∀ j_, j_ < n_ → ∀ kx_, impl_Case_best_B1 N kx kx_ (v51 j_) (v6 j_) (v161 j_) (v171 j_) (v23 j_) (v24 j_) (v11 j_) (v41 j_) (v7 j_) = kx_ (v51 (j_ + 1)) (v6 (j_ + 1)) (v161 (j_ + 1)) (v171 (j_ + 1)) (v23 (j_ + 1)) (v24 (j_ + 1)) (v11 (j_ + 1)) (v41 (j_ + 1)) (v7 (j_ + 1))) (hend_ : ∀ kx_, impl_Case_best_B1 N kx kx_ (v51 n_) (v6 n_) (v161 n_) (v171 n_) (v23 n_) (v24 n_) (v11 n_) (v41 n_) (v7 n_) = res_) (fu_ : Nat) (hm_ : n_ < fu_) : impl_Case_best_L1 N fu_ kx (v51 0) (v6 0) (v161 0) (v171 0) (v23 0) (v24 0) (v11 0) (v41 0) (v7 0) = res_ := by
  exact loop_run (L := fun fu_ (x_ : Int × Int × Int × Int × Int × Int × ((List Int) × (List Int) × (List Int) × (List Int)) × (List Int) × (List Int)) => impl_Case_best_L1 N fu_ kx x_.1 x_.2.1 x_.2.2.1 x_.2.2.2.1 x_.2.2.2.2.1 x_.2.2.2.2.2.1 x_.2.2.2.2.2.2.1 x_.2.2.2.2.2.2.2.1 x_.2.2.2.2.2.2.2.2) (B := fun kx_ x_ => impl_Case_best_B1 N kx (fun v51 v6 v161 v171 v23 v24 v11 v41 v7 => kx_ (v51, v6, v161, v171, v23, v24, v11, v41, v7)) x_.1 x_.2.1 x_.2.2.1 x_.2.2.2.1 x_.2.2.2.2.1 x_.2.2.2.2.2.1 x_.2.2.2.2.2.2.1 x_.2.2.2.2.2.2.2.1 x_.2.2.2.2.2.2.2.2) (fun _ _ => rfl) (fun j_ => (v51 j_, v6 j_, v161 j_, v171 j_, v23 j_, v24 j_, v11 j_, v41 j_, v7 j_)) n_ (fun j_ hi_ kx_ => hstep_ j_ hi_ _) (fun kx_ => hend_ _) fu_ hm_
def impl_Case_best_K3 (N : Nat) (v54 : Int) (v44 : List Int) : Option (((List Int) × Int) × Unit) :=
  some ((v44, v54), ())
def impl_Case_best_B2 (N : Nat) (kx : Int → Int → Int → ((List Int) × (List Int) × (List Int) × (List Int)) → (List Int) → Option (((List Int) × Int) × Unit)) (v5 : Int) (v16 : Int) (v17 : Int) (v1 : (List Int) × (List Int) × (List Int) × (List Int)) (v4 : List Int) : Option (((List Int) × Int) × Unit) :=
  bif ilt v17 v16 then
    impl_Case_best_L1 N N kx v5 v17 v16 v17 (len v1.1) 0 v1 v4 []
  else
    impl_Case_best_K3 N v5 v4
def impl_Case_best_L2 (N fu_ : Nat) (v5 : Int) (v16 : Int) (v17 : Int) (v1 : (List Int) × (List Int) × (List Int) × (List Int)) (v4 : List Int) : Option (((List Int) × Int) × Unit) :=
  iterK fu_ (fun kx (v_ : (Int × Int × Int × Unit) × (((List Int) × (List Int) × (List Int) × (List Int)) × (List Int) × Unit)) => impl_Case_best_B2 N (fun v5 v16 v17 v1 v4 => kx ((v5, v16, v17, ()), (v1, v4, ()))) v_.1.1 v_.1.2.1 v_.1.2.2.1 v_.2.1 v_.2.2.1) ((v5, v16, v17, ()), (v1, v4, ()))
theorem impl_Case_best_L2_succ (N fu_ : Nat) (v5 : Int) (v16 : Int) (v17 : Int) (v1 : (List Int) × (List Int) × (List Int) × (List Int)) (v4 : List Int) : impl_Case_best_L2 N (fu_ + 1) v5 v16 v17 v1 v4 = impl_Case_best_B2 N (fun v5 v16 v17 v1 v4 => impl_Case_best_L2 N fu_ v5 v16 v17 v1 v4) v5 v16 v17 v1 v4 := rfl
theorem impl_Case_best_L2_run (N : Nat) (v5 : Nat → Int) (v16 : Nat → Int) (v17 : Nat → Int) (v1 : Nat → ((List Int) × (List Int) × (List Int) × (List Int))) (v4 : Nat → (List Int)) (n_ : Nat) {res_ : Option (((List Int) × Int) × Unit)} (hstep_ : ∀ j_, j_ < n_ → ∀ kx_, impl_Case_best_B2 N kx_ (v5 j_) (v16 j_) (v17 j_) (v1 j_) (v4 j_) = kx_ (v5 (j_ + 1)) (v16 (j_ + 1)) (v17 (j_ + 1)) (v1 (j_ + 1)) (v4 (j_ + 1))) (hend_ : ∀ kx_, impl_Case_best_B2 N kx_ (v5 n_) (v16 n_) (v17 n_) (v1 n_) (v4 n_) = res_) (fu_ : Nat) (hm_ : n_ < fu_) : impl_Case_best_L2 N fu_ (v5 0) (v16 0) (v17 0) (v1 0) (v4 0) = res_ := by
  exact loop_run (L := fun fu_ (x_ : Int × Int × Int × ((List Int) × (List Int) × (List Int) × (List Int)) × (List Int)) => impl_Case_best_L2 N fu_ x_.1 x_.2.1 x_.2.2.1 x_.2.2.2.1 x_.2.2.2.2) (B := fun kx_ x_ => impl_Case_best_B2 N (fun v5 v16 v17 v1 v4 => kx_ (v5, v16, v17, v1, v4)) x_.1 x_.2.1 x_.2.2.1 x_.2.2.2.1 x_.2.2.2.2) (fun _ _ => rfl) (fun j_ => (v5 j_, v16 j_, v17 j_, v1 j_, v4 j_)) n_ (fun j_ hi_ kx_ => hstep_ j_ hi_ _) (fun kx_ => hend_ _) fu_ hm_
def impl_Case_best (N : Nat) (app : (List Int) × (List Int) × (List Int) × (List Int)) : Option (((List Int) × Int) × Unit) :=
  chk (ile 0 (len app.1)) <|
  impl_Case_best_L2 N N (-1) (ishl .i64 1 (len app.1)) 0 app []
def impl_Ledger_needsLeft_K1 (N : Nat) (out1 : List Int) : Option ((List Int) × Unit) :=
  some (out1, ())
def impl_Ledger_needsLeft_B1 (N : Nat) (kx : Int → (List Int) → Int → Int → (List Int) → Option ((List Int) × Unit)) (stock : Int) (v18 : List Int) (v19 : Int) (v20 : Int) (out : List Int) : Option ((List Int) × Unit) :=
  bif ilt v20 v19 then
    chk (inB v20 v18.length) <|
    chk (fitB (out.length + 1) 8) <|
    kx (isub .i64 stock (imin stock (gd v18 v20.toNat 0))) v18 v19 (iadd .i64 v20 1) (out ++ [isub .i64 (gd v18 v20.toNat 0) (imin stock (gd v18 v20.toNat 0))])
  else
    impl_Ledger_needsLeft_K1 N out
def impl_Ledger_needsLeft_L1 (N fu_ : Nat) (stock : Int) (v18 : List Int) (v19 : Int) (v20 : Int) (out : List Int) : Option ((List Int) × Unit) :=
  iterK fu_ (fun kx (v_ : (Int × (List Int) × Int × Int × Unit) × ((List Int) × Unit)) => impl_Ledger_needsLeft_B1 N (fun stock v18 v19 v20 out => kx ((stock, v18, v19, v20, ()), (out, ()))) v_.1.1 v_.1.2.1 v_.1.2.2.1 v_.1.2.2.2.1 v_.2.1) ((stock, v18, v19, v20, ()), (out, ()))
theorem impl_Ledger_needsLeft_L1_succ (N fu_ : Nat) (stock : Int) (v18 : List Int) (v19 : Int) (v20 : Int) (out : List Int) : impl_Ledger_needsLeft_L1 N (fu_ + 1) stock v18 v19 v20 out = impl_Ledger_needsLeft_B1 N (fun stock v18 v19 v20 out => impl_Ledger_needsLeft_L1 N fu_ stock v18 v19 v20 out) stock v18 v19 v20 out := rfl
theorem impl_Ledger_needsLeft_L1_run (N : Nat) (stock : Nat → Int) (v18 : Nat → (List Int)) (v19 : Nat → Int) (v20 : Nat → Int) (out : Nat → (List Int)) (n_ : Nat) {res_ : Option ((List Int) × Unit)} (hstep_ : ∀ j_, j_ < n_ → ∀ kx_, impl_Ledger_needsLeft_B1 N kx_ (stock j_) (v18 j_) (v19 j_) (v20 j_) (out j_) = kx_ (stock (j_ + 1)) (v18 (j_ + 1)) (v19 (j_ + 1)) (v20 (j_ + 1)) (out (j_ + 1))) (hend_ : ∀ kx_, impl_Ledger_needsLeft_B1 N kx_ (stock n_) (v18 n_) (v19 n_) (v20 n_) (out n_) = res_) (fu_ : Nat) (hm_ : n_ < fu_) : impl_Ledger_needsLeft_L1 N fu_ (stock 0) (v18 0) (v19 0) (v20 0) (out 0) = res_ := by
  exact loop_run (L := fun fu_ (x_ : Int × (List Int) × Int × Int × (List Int)) => impl_Ledger_needsLeft_L1 N fu_ x_.1 x_.2.1 x_.2.2.1 x_.2.2.2.1 x_.2.2.2.2) (B := fun kx_ x_ => impl_Ledger_needsLeft_B1 N (fun stock v18 v19 v20 out => kx_ (stock, v18, v19, v20, out)) x_.1 x_.2.1 x_.2.2.1 x_.2.2.2.1 x_.2.2.2.2) (fun _ _ => rfl) (fun j_ => (stock j_, v18 j_, v19 j_, v20 j_, out j_)) n_ (fun j_ hi_ kx_ => hstep_ j_ hi_ _) (fun kx_ => hend_ _) fu_ hm_
def impl_Ledger_needsLeft (N : Nat) (l : ((List Int) × (List Int) × (List Int) × (List Int)) × (List Int) × Int) : Option ((List Int) × Unit) :=
  (impl_Ledger_stock N l l.2.2).bind fun r =>
  chk (cutB l.2.2 (len l.1.1) l.1.1.length) <|
  impl_Ledger_needsLeft_L1 N N r.1 (cut l.1.1 l.2.2 (len l.1.1)) (len (cut l.1.1 l.2.2 (len l.1.1))) 0 []
def impl_Case_cut (N : Nat) (c : (List Int) × (List Int) × (List Int) × (List Int)) (fromx : Int) (to : Int) : Option (((List Int) × (List Int) × (List Int) × (List Int)) × Unit) :=
  chk (cutB fromx to c.1.length) <|
  (impl_copied N (cut c.1 fromx to)).bind fun r =>
  chk (cutB fromx to c.2.1.length) <|
  (impl_copied N (cut c.2.1 fromx to)).bind fun r1 =>
  chk (cutB fromx to c.2.2.1.length) <|
  (impl_copied N (cut c.2.2.1 fromx to)).bind fun r2 =>
  chk (cutB fromx to c.2.2.2.length) <|
  (impl_copied N (cut c.2.2.2 fromx to)).bind fun r3 =>
  some ((r.1, (r1.1, (r2.1, r3.1))), ())
def pimpl_Ledger_act_K1 (N : Nat) (v61 : Bool) (v7 : Bool) (app2 : ((List Int) × (List Int) × (List Int) × (List Int)) × (List Int) × Int) (v31 : Int × Int × Int × Int × Int) : Option (Bool × (((List Int) × (List Int) × (List Int) × (List Int)) × (List Int) × Int)) :=
  bif ieq v31.1 1 then
    chk (fitB (app2.1.1.length + 1) 8) <|
    chk (fitB (app2.1.2.1.length + 1) 8) <|
    chk (fitB (app2.1.2.2.1.length + 1) 8) <|
    chk (fitB (app2.1.2.2.2.length + 1) 8) <|
    chk (fitB (app2.2.1.length + 1) 8) <|
    some (true, ((app2.1.1 ++ [v31.2.1], (app2.1.2.1 ++ [v31.2.2.1], (app2.1.2.2.1 ++ [v31.2.2.2.1], app2.1.2.2.2 ++ [v31.2.2.2.2]))), (app2.2.1 ++ [0], app2.2.2)))
  else
    bif ieq v31.1 2 then
      bif v7 then
        chk (inB v31.2.1 app2.1.1.length) <|
        some (v7, ((List.set app2.1.1 v31.2.1.toNat v31.2.2.1, app2.1.2), app2.2))
      else
        some (v7, app2)
    else
      bif ieq v31.1 3 then
        bif v7 then
          chk (inB v31.2.1 app2.2.1.length) <|
          some (v7, (app2.1, (List.set app2.2.1 v31.2.1.toNat v31.2.2.1, app2.2.2)))
        else
          some (v7, app2)
      else
        bif ieq v31.1 4 then
          bif v61 then
            some (ile (iadd .i64 app2.2.2 1) (len app2.2.1), (app2.1, (app2.2.1, iadd .i64 app2.2.2 1)))
          else
            some (false, (app2.1, (app2.2.1, iadd .i64 app2.2.2 1)))
        else
          bif ieq v31.1 5 then
            (impl_Case_cut N app2.1 app2.2.2 (len app2.2.1)).bind fun r1 =>
            (impl_Ledger_needsLeft N app2).bind fun r2 =>
            (impl_Case_best N (r2.1, r1.1.2)).bind fun r3 =>
            (impl_Case_planFrom N (r2.1, r1.1.2) r3.1.1).bind fun r4 =>
            chk (cutB app2.2.2 (len app2.2.1) app2.2.1.length) <|
            some (v61, (app2.1, (over app2.2.1 app2.2.2.toNat (List.take ((len app2.2.1).toNat - app2.2.2.toNat) r4.1.1), app2.2.2)))
          else
            bif ieq v31.1 6 then
              chk (cutB app2.2.2 (len app2.2.1) app2.2.1.length) <|
              some (v61, (app2.1, (over app2.2.1 app2.2.2.toNat (List.replicate ((len app2.2.1).toNat - app2.2.2.toNat) (0 : Int)), app2.2.2)))
            else
              some (false, app2)
def pimpl_Ledger_act_K2 (N : Nat) (v6 : Bool) (app1 : ((List Int) × (List Int) × (List Int) × (List Int)) × (List Int) × Int) (v3 : Int × Int × Int × Int × Int) : Option (Bool × (((List Int) × (List Int) × (List Int) × (List Int)) × (List Int) × Int)) :=
  (impl_within N v3.2.1 app1.2.2 (isub .i64 (len app1.2.1) 1)).bind fun r =>
  bif r.1 then
    bif ieq v3.2.2.2.1 0 then
      pimpl_Ledger_act_K1 N v6 (ieq v3.2.2.2.2 0) app1 v3
    else
      pimpl_Ledger_act_K1 N v6 false app1 v3
  else
    pimpl_Ledger_act_K1 N v6 false app1 v3
def pimpl_Ledger_act (N : Nat) (app : ((List Int) × (List Int) × (List Int) × (List Int)) × (List Int) × Int) (v1 : Int × Int × Int × Int × Int) : Option (Bool × (((List Int) × (List Int) × (List Int) × (List Int)) × (List Int) × Int)) :=
  bif ieq v1.2.1 0 then
    bif ieq v1.2.2.1 0 then
      bif ieq v1.2.2.2.1 0 then
        pimpl_Ledger_act_K2 N (ieq v1.2.2.2.2 0) app v1
      else
        pimpl_Ledger_act_K2 N false app v1
    else
      pimpl_Ledger_act_K2 N false app v1
  else
    pimpl_Ledger_act_K2 N false app v1
def impl_ActLedger (N : Nat) (l : ((List Int) × (List Int) × (List Int) × (List Int)) × (List Int) × Int) (a : Int × Int × Int × Int × Int) : Option (((((List Int) × (List Int) × (List Int) × (List Int)) × (List Int) × Int) × Bool) × Unit) :=
  (impl_IsLedger N l).bind fun r =>
  bif !r.1 then
    some (((([], ([], ([], []))), ([], 0)), false), ())
  else
    (impl_Ledger_own N l).bind fun r1 =>
    (pimpl_Ledger_act N r1.1 a).bind fun r2 =>
    bif !r2.1 then
      some (((([], ([], ([], []))), ([], 0)), false), ())
    else
      (impl_IsLedger N r2.2).bind fun r3 =>
      bif !r3.1 then
        some (((([], ([], ([], []))), ([], 0)), false), ())
      else
        some ((r2.2, true), ())
def spec_l1In (N : Nat) (x : Int) (a : Int) (b : Int) : Option (Bool × Unit) :=
  bif ile a x then
    some (ile x b, ())
  else
    some (false, ())
def spec_l2Row_K1 (N : Nat) (row2 : List Int) (n2 : Int) : Option (Bool × Unit) :=
  some (ieq (len row2) n2, ())
def spec_l2Row_B1 (N : Nat) (kx : (List Int) → Int → Int → Int → Option (Bool × Unit)) (row1 : List Int) (n1 : Int) (most1 : Int) (i : Int) : Option (Bool × Unit) :=
  bif ilt i (len row1) then
    chk (inB i row1.length) <|
    (spec_l1In N (gd row1 i.toNat 0) 0 most1).bind fun r =>
    bif !r.1 then
      some (false, ())
    else
      kx row1 n1 most1 (iadd .i64 i 1)
  else
    spec_l2Row_K1 N row1 n1
def spec_l2Row_L1 (N fu_ : Nat) (row1 : List Int) (n1 : Int) (most1 : Int) (i : Int) : Option (Bool × Unit) :=
  iterK fu_ (fun kx (v_ : ((List Int) × Int × Int × Int × Unit) × (Unit)) => spec_l2Row_B1 N (fun row1 n1 most1 i => kx ((row1, n1, most1, i, ()), ())) v_.1.1 v_.1.2.1 v_.1.2.2.1 v_.1.2.2.2.1) ((row1, n1, most1, i, ()), ())
theorem spec_l2Row_L1_succ (N fu_ : Nat) (row1 : List Int) (n1 : Int) (most1 : Int) (i : Int) : spec_l2Row_L1 N (fu_ + 1) row1 n1 most1 i = spec_l2Row_B1 N (fun row1 n1 most1 i => spec_l2Row_L1 N fu_ row1 n1 most1 i) row1 n1 most1 i := rfl
theorem spec_l2Row_L1_run (N : Nat) (row1 : Nat → (List Int)) (n1 : Nat → Int) (most1 : Nat → Int) (i : Nat → Int) (n_ : Nat) {res_ : Option (Bool × Unit)} (hstep_ : ∀ j_, j_ < n_ → ∀ kx_, spec_l2Row_B1 N kx_ (row1 j_) (n1 j_) (most1 j_) (i j_) = kx_ (row1 (j_ + 1)) (n1 (j_ + 1)) (most1 (j_ + 1)) (i (j_ + 1))) (hend_ : ∀ kx_, spec_l2Row_B1 N kx_ (row1 n_) (n1 n_) (most1 n_) (i n_) = res_) (fu_ : Nat) (hm_ : n_ < fu_) : spec_l2Row_L1 N fu_ (row1 0) (n1 0) (most1 0) (i 0) = res_ := by
  exact loop_run (L := fun fu_ (x_ : (List Int) × Int × Int × Int) => spec_l2Row_L1 N fu_ x_.1 x_.2.1 x_.2.2.1 x_.2.2.2) (B := fun kx_ x_ => spec_l2Row_B1 N (fun row1 n1 most1 i => kx_ (row1, n1, most1, i)) x_.1 x_.2.1 x_.2.2.1 x_.2.2.2) (fun _ _ => rfl) (fun j_ => (row1 j_, n1 j_, most1 j_, i j_)) n_ (fun j_ hi_ kx_ => hstep_ j_ hi_ _) (fun kx_ => hend_ _) fu_ hm_
def spec_l2Row (N : Nat) (row : List Int) (n : Int) (most : Int) : Option (Bool × Unit) :=
  spec_l2Row_L1 N N row n most 0
def spec_l2Good (N : Nat) (c : (List Int) × (List Int) × (List Int) × (List Int)) : Option (Bool × Unit) :=
  bif ile (len c.1) 8 then
    (spec_l2Row N c.1 (len c.1) 20).bind fun r =>
    bif r.1 then
      (spec_l2Row N c.2.1 (len c.1) 99).bind fun r1 =>
      bif r1.1 then
        (spec_l2Row N c.2.2.1 (len c.1) 9).bind fun r2 =>
        bif r2.1 then
          (spec_l2Row N c.2.2.2 (len c.1) 9).bind fun r3 =>
          some (r3.1, ())
        else
          some (false, ())
      else
        some (false, ())
    else
      some (false, ())
  else
    some (false, ())
def spec_l12Stock_K1 (N : Nat) (sum1 : Int) : Option (Int × Unit) :=
  some (sum1, ())
def spec_l12Stock_B1 (N : Nat) (kx : Int → Int → Int → (((List Int) × (List Int) × (List Int) × (List Int)) × (List Int) × Int) → Option (Int × Unit)) (many1 : Int) (sum : Int) (t : Int) (l1 : ((List Int) × (List Int) × (List Int) × (List Int)) × (List Int) × Int) : Option (Int × Unit) :=
  bif ilt t many1 then
    chk (inB t l1.2.1.length) <|
    chk (inB t l1.1.1.length) <|
    kx many1 (isub .i64 (iadd .i64 sum (gd l1.2.1 t.toNat 0)) (gd l1.1.1 t.toNat 0)) (iadd .i64 t 1) l1
  else
    spec_l12Stock_K1 N sum
def spec_l12Stock_L1 (N fu_ : Nat) (many1 : Int) (sum : Int) (t : Int) (l1 : ((List Int) × (List Int) × (List Int) × (List Int)) × (List Int) × Int) : Option (Int × Unit) :=
  iterK fu_ (fun kx (v_ : (Int × Int × Int × Unit) × ((((List Int) × (List Int) × (List Int) × (List Int)) × (List Int) × Int) × Unit)) => spec_l12Stock_B1 N (fun many1 sum t l1 => kx ((many1, sum, t, ()), (l1, ()))) v_.1.1 v_.1.2.1 v_.1.2.2.1 v_.2.1) ((many1, sum, t, ()), (l1, ()))
theorem spec_l12Stock_L1_succ (N fu_ : Nat) (many1 : Int) (sum : Int) (t : Int) (l1 : ((List Int) × (List Int) × (List Int) × (List Int)) × (List Int) × Int) : spec_l12Stock_L1 N (fu_ + 1) many1 sum t l1 = spec_l12Stock_B1 N (fun many1 sum t l1 => spec_l12Stock_L1 N fu_ many1 sum t l1) many1 sum t l1 := rfl
theorem spec_l12Stock_L1_run (N : Nat) (many1 : Nat → Int) (sum : Nat → Int) (t : Nat → Int) (l1 : Nat → (((List Int) × (List Int) × (List Int) × (List Int)) × (List Int) × Int)) (n_ : Nat) {res_ : Option (Int × Unit)} (hstep_ : ∀ j_, j_ < n_ → ∀ kx_, spec_l12Stock_B1 N kx_ (many1 j_) (sum j_) (t j_) (l1 j_) = kx_ (many1 (j_ + 1)) (sum (j_ + 1)) (t (j_ + 1)) (l1 (j_ + 1))) (hend_ : ∀ kx_, spec_l12Stock_B1 N kx_ (many1 n_) (sum n_) (t n_) (l1 n_) = res_) (fu_ : Nat) (hm_ : n_ < fu_) : spec_l12Stock_L1 N fu_ (many1 0) (sum 0) (t 0) (l1 0) = res_ := by
  exact loop_run (L := fun fu_ (x_ : Int × Int × Int × (((List Int) × (List Int) × (List Int) × (List Int)) × (List Int) × Int)) => spec_l12Stock_L1 N fu_ x_.1 x_.2.1 x_.2.2.1 x_.2.2.2) (B := fun kx_ x_ => spec_l12Stock_B1 N (fun many1 sum t l1 => kx_ (many1, sum, t, l1)) x_.1 x_.2.1 x_.2.2.1 x_.2.2.2) (fun _ _ => rfl) (fun j_ => (many1 j_, sum j_, t j_, l1 j_)) n_ (fun j_ hi_ kx_ => hstep_ j_ hi_ _) (fun kx_ => hend_ _) fu_ hm_
def spec_l12Stock (N : Nat) (l : ((List Int) × (List Int) × (List Int) × (List Int)) × (List Int) × Int) (many : Int) : Option (Int × Unit) :=
  spec_l12Stock_L1 N N many 0 0 l
def spec_l12Good_K1 (N : Nat) : Option (Bool × Unit) :=
  some (true, ())
def spec_l12Good_B1 (N : Nat) (kx : Int → (((List Int) × (List Int) × (List Int) × (List Int)) × (List Int) × Int) → Option (Bool × Unit)) (t : Int) (l1 : ((List Int) × (List Int) × (List Int) × (List Int)) × (List Int) × Int) : Option (Bool × Unit) :=
  bif ile t l1.2.2 then
    (spec_l12Stock N l1 t).bind fun r3 =>
    bif ilt r3.1 0 then
      some (false, ())
    else
      kx (iadd .i64 t 1) l1
  else
    spec_l12Good_K1 N
def spec_l12Good_L1 (N fu_ : Nat) (t : Int) (l1 : ((List Int) × (List Int) × (List Int) × (List Int)) × (List Int) × Int) : Option (Bool × Unit) :=
  iterK fu_ (fun kx (v_ : (Int × Unit) × ((((List Int) × (List Int) × (List Int) × (List Int)) × (List Int) × Int) × Unit)) => spec_l12Good_B1 N (fun t l1 => kx ((t, ()), (l1, ()))) v_.1.1 v_.2.1) ((t, ()), (l1, ()))
theorem spec_l12Good_L1_succ (N fu_ : Nat) (t : Int) (l1 : ((List Int) × (List Int) × (List Int) × (List Int)) × (List Int) × Int) : spec_l12Good_L1 N (fu_ + 1) t l1 = spec_l12Good_B1 N (fun t l1 => spec_l12Good_L1 N fu_ t l1) t l1 := rfl
theorem spec_l12Good_L1_run (N : Nat) (t : Nat → Int) (l1 : Nat → (((List Int) × (List Int) × (List Int) × (List Int)) × (List Int) × Int)) (n_ : Nat) {res_ : Option (Bool × Unit)} (hstep_ : ∀ j_, j_ < n_ → ∀ kx_, spec_l12Good_B1 N kx_ (t j_) (l1 j_) = kx_ (t (j_ + 1)) (l1 (j_ + 1))) (hend_ : ∀ kx_, spec_l12Good_B1 N kx_ (t n_) (l1 n_) = res_) (fu_ : Nat) (hm_ : n_ < fu_) : spec_l12Good_L1 N fu_ (t 0) (l1 0) = res_ := by
  exact loop_run (L := fun fu_ (x_ : Int × (((List Int) × (List Int) × (List Int) × (List Int)) × (List Int) × Int)) => spec_l12Good_L1 N fu_ x_.1 x_.2) (B := fun kx_ x_ => spec_l12Good_B1 N (fun t l1 => kx_ (t, l1)) x_.1 x_.2) (fun _ _ => rfl) (fun j_ => (t j_, l1 j_)) n_ (fun j_ hi_ kx_ => hstep_ j_ hi_ _) (fun kx_ => hend_ _) fu_ hm_
def spec_l12Good (N : Nat) (l : ((List Int) × (List Int) × (List Int) × (List Int)) × (List Int) × Int) : Option (Bool × Unit) :=
  (spec_l2Good N l.1).bind fun r =>
  bif !r.1 then
    some (false, ())
  else
    (spec_l2Row N l.2.1 (len l.1.1) 200).bind fun r1 =>
    bif !r1.1 then
      some (false, ())
    else
      (spec_l1In N l.2.2 0 (len l.1.1)).bind fun r2 =>
      bif !r2.1 then
        some (false, ())
      else
        spec_l12Good_L1 N N 1 l
def spec_IsLedger (N : Nat) (l : ((List Int) × (List Int) × (List Int) × (List Int)) × (List Int) × Int) : Option (Bool × Unit) :=
  (spec_l12Good N l).bind fun r =>
  some (r.1, ())
def impl_Ledger_short_K1 (N : Nat) (out1 : List Int) : Option ((List Int) × Unit) :=
  some (out1, ())
def impl_Ledger_short_B1 (N : Nat) (kx : Int → (((List Int) × (List Int) × (List Int) × (List Int)) × (List Int) × Int) → (List Int) → Option ((List Int) × Unit)) (i : Int) (l1 : ((List Int) × (List Int) × (List Int) × (List Int)) × (List Int) × Int) (out : List Int) : Option ((List Int) × Unit) :=
  bif ilt i (len l1.2.1) then
    (impl_Ledger_stock N l1 (iadd .i64 i 1)).bind fun r =>
    bif ilt r.1 0 then
      chk (fitB (out.length + 1) 8) <|
      kx (iadd .i64 i 1) l1 (out ++ [i])
    else
      kx (iadd .i64 i 1) l1 out
  else
    impl_Ledger_short_K1 N out
def impl_Ledger_short_L1 (N fu_ : Nat) (i : Int) (l1 : ((List Int) × (List Int) × (List Int) × (List Int)) × (List Int) × Int) (out : List Int) : Option ((List Int) × Unit) :=
  iterK fu_ (fun kx (v_ : (Int × Unit) × ((((List Int) × (List Int) × (List Int) × (List Int)) × (List Int) × Int) × (List Int) × Unit)) => impl_Ledger_short_B1 N (fun i l1 out => kx ((i, ()), (l1, out, ()))) v_.1.1 v_.2.1 v_.2.2.1) ((i, ()), (l1, out, ()))
theorem impl_Ledger_short_L1_succ (N fu_ : Nat) (i : Int) (l1 : ((List Int) × (List Int) × (List Int) × (List Int)) × (List Int) × Int) (out : List Int) : impl_Ledger_short_L1 N (fu_ + 1) i l1 out = impl_Ledger_short_B1 N (fun i l1 out => impl_Ledger_short_L1 N fu_ i l1 out) i l1 out := rfl
theorem impl_Ledger_short_L1_run (N : Nat) (i : Nat → Int) (l1 : Nat → (((List Int) × (List Int) × (List Int) × (List Int)) × (List Int) × Int)) (out : Nat → (List Int)) (n_ : Nat) {res_ : Option ((List Int) × Unit)} (hstep_ : ∀ j_, j_ < n_ → ∀ kx_, impl_Ledger_short_B1 N kx_ (i j_) (l1 j_) (out j_) = kx_ (i (j_ + 1)) (l1 (j_ + 1)) (out (j_ + 1))) (hend_ : ∀ kx_, impl_Ledger_short_B1 N kx_ (i n_) (l1 n_) (out n_) = res_) (fu_ : Nat) (hm_ : n_ < fu_) : impl_Ledger_short_L1 N fu_ (i 0) (l1 0) (out 0) = res_ := by
  exact loop_run (L := fun fu_ (x_ : Int × (((List Int) × (List Int) × (List Int) × (List Int)) × (List Int) × Int) × (List Int)) => impl_Ledger_short_L1 N fu_ x_.1 x_.2.1 x_.2.2) (B := fun kx_ x_ => impl_Ledger_short_B1 N (fun i l1 out => kx_ (i, l1, out)) x_.1 x_.2.1 x_.2.2) (fun _ _ => rfl) (fun j_ => (i j_, l1 j_, out j_)) n_ (fun j_ hi_ kx_ => hstep_ j_ hi_ _) (fun kx_ => hend_ _) fu_ hm_
def impl_Ledger_short (N : Nat) (l : ((List Int) × (List Int) × (List Int) × (List Int)) × (List Int) × Int) : Option ((List Int) × Unit) :=
  impl_Ledger_short_L1 N N l.2.2 l []
def impl_Ledger_cost_K1 (N : Nat) (kx : Int → Int → Int → (((List Int) × (List Int) × (List Int) × (List Int)) × (List Int) × Int) → Option (Int × Unit)) (to2 : Int) (sum1 : Int) (i1 : Int) (l2 : ((List Int) × (List Int) × (List Int) × (List Int)) × (List Int) × Int) : Option (Int × Unit) :=
  chk (inB i1 l2.1.2.2.1.length) <|
  chk (inB i1 l2.2.1.length) <|
  chk (inB i1 l2.1.2.2.2.length) <|
  (impl_Ledger_stock N l2 (iadd .i64 i1 1)).bind fun r =>
  kx to2 (iadd .i64 sum1 (iadd .i64 (imul .i64 (gd l2.1.2.2.1 i1.toNat 0) (gd l2.2.1 i1.toNat 0)) (imul .i64 (gd l2.1.2.2.2 i1.toNat 0) r.1))) (iadd .i64 i1 1) l2
def impl_Ledger_cost_K2 (N : Nat) (sum2 : Int) : Option (Int × Unit) :=
  some (sum2, ())
def impl_Ledger_cost_B1 (N : Nat) (kx : Int → Int → Int → (((List Int) × (List Int) × (List Int) × (List Int)) × (List Int) × Int) → Option (Int × Unit)) (to1 : Int) (sum : Int) (i : Int) (l1 : ((List Int) × (List Int) × (List Int) × (List Int)) × (List Int) × Int) : Option (Int × Unit) :=
  bif ilt i to1 then
    chk (inB i l1.2.1.length) <|
    bif ilt 0 (gd l1.2.1 i.toNat 0) then
      chk (inB i l1.1.2.1.length) <|
      impl_Ledger_cost_K1 N kx to1 (iadd .i64 sum (gd l1.1.2.1 i.toNat 0)) i l1
    else
      impl_Ledger_cost_K1 N kx to1 sum i l1
  else
    impl_Ledger_cost_K2 N sum
def impl_Ledger_cost_L1 (N fu_ : Nat) (to1 : Int) (sum : Int) (i : Int) (l1 : ((List Int) × (List Int) × (List Int) × (List Int)) × (List Int) × Int) : Option (Int × Unit) :=
  iterK fu_ (fun kx (v_ : (Int × Int × Int × Unit) × ((((List Int) × (List Int) × (List Int) × (List Int)) × (List Int) × Int) × Unit)) => impl_Ledger_cost_B1 N (fun to1 sum i l1 => kx ((to1, sum, i, ()), (l1, ()))) v_.1.1 v_.1.2.1 v_.1.2.2.1 v_.2.1) ((to1, sum, i, ()), (l1, ()))
theorem impl_Ledger_cost_L1_succ (N fu_ : Nat) (to1 : Int) (sum : Int) (i : Int) (l1 : ((List Int) × (List Int) × (List Int) × (List Int)) × (List Int) × Int) : impl_Ledger_cost_L1 N (fu_ + 1) to1 sum i l1 = impl_Ledger_cost_B1 N (fun to1 sum i l1 => impl_Ledger_cost_L1 N fu_ to1 sum i l1) to1 sum i l1 := rfl
theorem impl_Ledger_cost_L1_run (N : Nat) (to1 : Nat → Int) (sum : Nat → Int) (i : Nat → Int) (l1 : Nat → (((List Int) × (List Int) × (List Int) × (List Int)) × (List Int) × Int)) (n_ : Nat) {res_ : Option (Int × Unit)} (hstep_ : ∀ j_, j_ < n_ → ∀ kx_, impl_Ledger_cost_B1 N kx_ (to1 j_) (sum j_) (i j_) (l1 j_) = kx_ (to1 (j_ + 1)) (sum (j_ + 1)) (i (j_ + 1)) (l1 (j_ + 1))) (hend_ : ∀ kx_, impl_Ledger_cost_B1 N kx_ (to1 n_) (sum n_) (i n_) (l1 n_) = res_) (fu_ : Nat) (hm_ : n_ < fu_) : impl_Ledger_cost_L1 N fu_ (to1 0) (sum 0) (i 0) (l1 0) = res_ := by
  exact loop_run (L := fun fu_ (x_ : Int × Int × Int × (((List Int) × (List Int) × (List Int) × (List Int)) × (List Int) × Int)) => impl_Ledger_cost_L1 N fu_ x_.1 x_.2.1 x_.2.2.1 x_.2.2.2) (B := fun kx_ x_ => impl_Ledger_cost_B1 N (fun to1 sum i l1 => kx_ (to1, sum, i, l1)) x_.1 x_.2.1 x_.2.2.1 x_.2.2.2) (fun _ _ => rfl) (fun j_ => (to1 j_, sum j_, i j_, l1 j_)) n_ (fun j_ hi_ kx_ => hstep_ j_ hi_ _) (fun kx_ => hend_ _) fu_ hm_
def impl_Ledger_cost (N : Nat) (l : ((List Int) × (List Int) × (List Int) × (List Int)) × (List Int) × Int) (fromx : Int) (to : Int) : Option (Int × Unit) :=
  impl_Ledger_cost_L1 N N to 0 fromx l
def impl_CostAhead (N : Nat) (l : ((List Int) × (List Int) × (List Int) × (List Int)) × (List Int) × Int) : Option ((Int × Bool) × Unit) :=
  (impl_IsLedger N l).bind fun r =>
  bif !r.1 then
    some ((0, false), ())
  else
    (impl_Ledger_short N l).bind fun r1 =>
    bif ilt 0 (len r1.1) then
      some ((0, false), ())
    else
      (impl_Ledger_cost N l l.2.2 (len l.2.1)).bind fun r2 =>
      some ((r2.1, true), ())
def impl_ShortPeriods (N : Nat) (l : ((List Int) × (List Int) × (List Int) × (List Int)) × (List Int) × Int) : Option (((List Int) × Bool) × Unit) :=
  (impl_IsLedger N l).bind fun r =>
  bif !r.1 then
    some (([], false), ())
  else
    (impl_Ledger_short N l).bind fun r1 =>
    some ((r1.1, true), ())
def pspec_l1Cur_next_K1 (N : Nat) (b : Int) (c1 : (List Int) × Int × Int) : Option (Int × ((List Int) × Int × Int)) :=
  bif ile (iadd .i64 c1.2.1 1) (len c1.1) then
    some (b, (c1.1, (iadd .i64 c1.2.1 1, iadd .u64 (iadd .u64 (imul .u64 c1.2.2 6364136223846793005) (icv .u64 b)) 462197)))
  else
    chk (ile 0 40) <|
    some (icv .i64 (iand .u64 (ishr .u64 (iadd .u64 (iadd .u64 (imul .u64 c1.2.2 6364136223846793005) (icv .u64 b)) 462197) 40) 255), (c1.1, (iadd .i64 c1.2.1 1, iadd .u64 (iadd .u64 (imul .u64 c1.2.2 6364136223846793005) (icv .u64 b)) 462197)))
def pspec_l1Cur_next (N : Nat) (c : (List Int) × Int × Int) : Option (Int × ((List Int) × Int × Int)) :=
  bif ilt c.2.1 (len c.1) then
    chk (inB c.2.1 c.1.length) <|
    pspec_l1Cur_next_K1 N (icv .i64 (gd c.1 c.2.1.toNat 0)) c
  else
    pspec_l1Cur_next_K1 N 0 c
def pspec_l1Cur_pick (N : Nat) (c : (List Int) × Int × Int) (n : Int) : Option (Int × ((List Int) × Int × Int)) :=
  bif ile n 1 then
    some (0, c)
  else
    (pspec_l1Cur_next N c).bind fun r =>
    bif ilt 200 n then
      (pspec_l1Cur_next N r.2).bind fun r1 =>
      chk (ine n 0) <|
      some (irem (iadd .i64 (imul .i64 r.1 256) r1.1) n, r1.2)
    else
      chk (ine n 0) <|
      some (irem r.1 n, r.2)
def pspec_l1Cur_among (N : Nat) (c : (List Int) × Int × Int) (list : List Int) : Option (Int × ((List Int) × Int × Int)) :=
  (pspec_l1Cur_pick N c (len list)).bind fun r =>
  chk (inB r.1 list.length) <|
  some (gd list r.1.toNat 0, r.2)
def spec_l1Most (N : Nat) (a : Int) (b : Int) : Option (Int × Unit) :=
  bif ilt b a then
    some (a, ())
  else
    some (b, ())
def spec_l1Least (N : Nat) (a : Int) (b : Int) : Option (Int × Unit) :=
  bif ilt a b then
    some (a, ())
  else
    some (b, ())
def pspec_l1Cur_act12_K1 (N : Nat) (app1 : (List Int) × Int × Int) (v4 : Int × Int × Int × Int × Int) (v5 : Int × Int × Int × Int × Int) : Option ((Int × Int × Int × Int × Int) × ((List Int) × Int × Int)) :=
  (pspec_l1Cur_pick N app1 32).bind fun r17 =>
  bif ieq r17.1 0 then
    (pspec_l1Cur_among N r17.2 [(-1), 8, 4611686018427387904]).bind fun r18 =>
    some ((v5.1, (r18.1, v5.2.2)), r18.2)
  else
    bif ieq r17.1 1 then
      (pspec_l1Cur_among N r17.2 [1, (-1), 10]).bind fun r19 =>
      some ((v5.1, (v5.2.1, (v5.2.2.1, (v5.2.2.2.1, r19.1)))), r19.2)
    else
      bif ieq r17.1 2 then
        (pspec_l1Cur_among N r17.2 [0, 7, (-1)]).bind fun r20 =>
        some ((r20.1, v5.2), r20.2)
      else
        some (v5, r17.2)
def pspec_l1Cur_act12 (N : Nat) (app : (List Int) × Int × Int) (v1 : ((List Int) × (List Int) × (List Int) × (List Int)) × (List Int) × Int) : Option ((Int × Int × Int × Int × Int) × ((List Int) × Int × Int)) :=
  (pspec_l1Cur_among N app [1, 2, 3, 3, 3, 4, 4, 4, 5, 5, 6]).bind fun r =>
  (spec_l1Least N (len v1.2.1) 8).bind fun r1 =>
  (spec_l1Most N 1 r1.1).bind fun r2 =>
  bif ieq r.1 1 then
    (pspec_l1Cur_pick N r.2 9).bind fun r3 =>
    (pspec_l1Cur_pick N r3.2 12).bind fun r4 =>
    (pspec_l1Cur_pick N r4.2 4).bind fun r5 =>
    (pspec_l1Cur_pick N r5.2 3).bind fun r6 =>
    pspec_l1Cur_act12_K1 N r6.2 (0, (0, (0, (0, 0)))) (1, (r3.1, (r4.1, (r5.1, r6.1))))
  else
    bif ieq r.1 2 then
      (spec_l1Least N v1.2.2 8).bind fun r7 =>
      (spec_l1Most N 0 r7.1).bind fun r8 =>
      (pspec_l1Cur_pick N r.2 3).bind fun r9 =>
      (spec_l1Least N (isub .i64 r2.1 1) (iadd .i64 r8.1 r9.1)).bind fun r10 =>
      (pspec_l1Cur_among N r9.2 [0, 1, 3, 8, 20, 21]).bind fun r11 =>
      pspec_l1Cur_act12_K1 N r11.2 (0, (0, (0, (0, 0)))) (r.1, (r10.1, (r11.1, (0, 0))))
    else
      bif ieq r.1 3 then
        (spec_l1Least N v1.2.2 8).bind fun r12 =>
        (spec_l1Most N 0 r12.1).bind fun r13 =>
        (pspec_l1Cur_pick N r.2 3).bind fun r14 =>
        (spec_l1Least N (isub .i64 r2.1 1) (iadd .i64 r13.1 r14.1)).bind fun r15 =>
        (pspec_l1Cur_among N r14.2 [5, 8, 3, 0, 20, 200, 201]).bind fun r16 =>
        pspec_l1Cur_act12_K1 N r16.2 (0, (0, (0, (0, 0)))) (r.1, (r15.1, (r16.1, (0, 0))))
      else
        pspec_l1Cur_act12_K1 N r.2 (0, (0, (0, (0, 0)))) (r.1, (0, (0, (0, 0))))
def spec_l12Plain_K1 (N : Nat) (a1 : Int × Int × Int × Int × Int) : Option (Bool × Unit) :=
  (spec_l1In N a1.1 4 6).bind fun r =>
  bif r.1 then
    bif ieq a1.2.1 0 then
      bif ieq a1.2.2.1 0 then
        bif ieq a1.2.2.2.1 0 then
          some (ieq a1.2.2.2.2 0, ())
        else
          some (false, ())
      else
        some (false, ())
    else
      some (false, ())
  else
    some (false, ())
def spec_l12Plain (N : Nat) (a : Int × Int × Int × Int × Int) : Option (Bool × Unit) :=
  bif ieq a.1 1 then
    some (true, ())
  else
    bif ieq a.1 2 then
      bif ieq a.2.2.2.1 0 then
        some (ieq a.2.2.2.2 0, ())
      else
        some (false, ())
    else
      bif ieq a.1 3 then
        bif ieq a.2.2.2.1 0 then
          some (ieq a.2.2.2.2 0, ())
        else
          some (false, ())
      else
        spec_l12Plain_K1 N a
def spec_l12Coming (N : Nat) (l : ((List Int) × (List Int) × (List Int) × (List Int)) × (List Int) × Int) (t : Int) : Option (Bool × Unit) :=
  (spec_l1In N t l.2.2 (isub .i64 (len l.2.1) 1)).bind fun r =>
  some (r.1, ())
def spec_l12May (N : Nat) (l : ((List Int) × (List Int) × (List Int) × (List Int)) × (List Int) × Int) (a : Int × Int × Int × Int × Int) : Option (Bool × Unit) :=
  bif ieq a.1 2 then
    (spec_l12Coming N l a.2.1).bind fun r =>
    some (r.1, ())
  else
    bif ieq a.1 3 then
      (spec_l12Coming N l a.2.1).bind fun r1 =>
      some (r1.1, ())
    else
      bif ieq a.1 4 then
        (spec_l12Coming N l l.2.2).bind fun r2 =>
        some (r2.1, ())
      else
        some (true, ())
def spec_l1Own (N : Nat) (l : List Int) : Option ((List Int) × Unit) :=
  chk (fitB (0 + l.length) 8) <|
  some (l, ())
def spec_l12Own (N : Nat) (l : ((List Int) × (List Int) × (List Int) × (List Int)) × (List Int) × Int) : Option ((((List Int) × (List Int) × (List Int) × (List Int)) × (List Int) × Int) × Unit) :=
  (spec_l1Own N l.1.1).bind fun r =>
  (spec_l1Own N l.1.2.1).bind fun r1 =>
  (spec_l1Own N l.1.2.2.1).bind fun r2 =>
  (spec_l1Own N l.1.2.2.2).bind fun r3 =>
  (spec_l1Own N l.2.1).bind fun r4 =>
  some (((r.1, (r1.1, (r2.1, r3.1))), (r4.1, l.2.2)), ())
def spec_l12Left_K1 (N : Nat) (out1 : List Int) : Option ((List Int) × Unit) :=
  some (out1, ())
def spec_l12Left_B1 (N : Nat) (kx : Int → Int → (((List Int) × (List Int) × (List Int) × (List Int)) × (List Int) × Int) → (List Int) → Option ((List Int) × Unit)) (stock : Int) (t : Int) (l1 : ((List Int) × (List Int) × (List Int) × (List Int)) × (List Int) × Int) (out : List Int) : Option ((List Int) × Unit) :=
  bif ilt t (len l1.2.1) then
    chk (inB t l1.1.1.length) <|
    (spec_l1Least N stock (gd l1.1.1 t.toNat 0)).bind fun r1 =>
    chk (inB t l1.1.1.length) <|
    chk (fitB (out.length + 1) 8) <|
    kx (isub .i64 stock r1.1) (iadd .i64 t 1) l1 (out ++ [isub .i64 (gd l1.1.1 t.toNat 0) r1.1])
  else
    spec_l12Left_K1 N out
def spec_l12Left_L1 (N fu_ : Nat) (stock : Int) (t : Int) (l1 : ((List Int) × (List Int) × (List Int) × (List Int)) × (List Int) × Int) (out : List Int) : Option ((List Int) × Unit) :=
  iterK fu_ (fun kx (v_ : (Int × Int × Unit) × ((((List Int) × (List Int) × (List Int) × (List Int)) × (List Int) × Int) × (List Int) × Unit)) => spec_l12Left_B1 N (fun stock t l1 out => kx ((stock, t, ()), (l1, out, ()))) v_.1.1 v_.1.2.1 v_.2.1 v_.2.2.1) ((stock, t, ()), (l1, out, ()))
theorem spec_l12Left_L1_succ (N fu_ : Nat) (stock : Int) (t : Int) (l1 : ((List Int) × (List Int) × (List Int) × (List Int)) × (List Int) × Int) (out : List Int) : spec_l12Left_L1 N (fu_ + 1) stock t l1 out = spec_l12Left_B1 N (fun stock t l1 out => spec_l12Left_L1 N fu_ stock t l1 out) stock t l1 out := rfl
theorem spec_l12Left_L1_run (N : Nat) (stock : Nat → Int) (t : Nat → Int) (l1 : Nat → (((List Int) × (List Int) × (List Int) × (List Int)) × (List Int) × Int)) (out : Nat → (List Int)) (n_ : Nat) {res_ : Option ((List Int) × Unit)} (hstep_ : ∀ j_, j_ < n_ → ∀ kx_, spec_l12Left_B1 N kx_ (stock j_) (t j_) (l1 j_) (out j_) = kx_ (stock (j_ + 1)) (t (j_ + 1)) (l1 (j_ + 1)) (out (j_ + 1))) (hend_ : ∀ kx_, spec_l12Left_B1 N kx_ (stock n_) (t n_) (l1 n_) (out n_) = res_) (fu_ : Nat) (hm_ : n_ < fu_) : spec_l12Left_L1 N fu_ (stock 0) (t 0) (l1 0) (out 0) = res_ := by
  exact loop_run (L := fun fu_ (x_ : Int × Int × (((List Int) × (List Int) × (List Int) × (List Int)) × (List Int) × Int) × (List Int)) => spec_l12Left_L1 N fu_ x_.1 x_.2.1 x_.2.2.1 x_.2.2.2) (B := fun kx_ x_ => spec_l12Left_B1 N (fun stock t l1 out => kx_ (stock, t, l1, out)) x_.1 x_.2.1 x_.2.2.1 x_.2.2.2) (fun _ _ => rfl) (fun j_ => (stock j_, t j_, l1 j_, out j_)) n_ (fun j_ hi_ kx_ => hstep_ j_ hi_ _) (fun kx_ => hend_ _) fu_ hm_
def spec_l12Left (N : Nat) (l : ((List Int) × (List Int) × (List Int) × (List Int)) × (List Int) × Int) : Option ((List Int) × Unit) :=
  (spec_l12Stock N l l.2.2).bind fun r =>
  spec_l12Left_L1 N N r.1 l.2.2 l []
def spec_l12Ahead (N : Nat) (l : ((List Int) × (List Int) × (List Int) × (List Int)) × (List Int) × Int) : Option (((List Int) × (List Int) × (List Int) × (List Int)) × Unit) :=
  (spec_l12Left N l).bind fun r =>
  chk (cutB l.2.2 (len l.1.2.1) l.1.2.1.length) <|
  (spec_l1Own N (cut l.1.2.1 l.2.2 (len l.1.2.1))).bind fun r1 =>
  chk (cutB l.2.2 (len l.1.2.2.1) l.1.2.2.1.length) <|
  (spec_l1Own N (cut l.1.2.2.1 l.2.2 (len l.1.2.2.1))).bind fun r2 =>
  chk (cutB l.2.2 (len l.1.2.2.2) l.1.2.2.2.length) <|
  (spec_l1Own N (cut l.1.2.2.2 l.2.2 (len l.1.2.2.2))).bind fun r3 =>
  some ((r.1, (r1.1, (r2.1, r3.1))), ())
def spec_l2Sum_K1 (N : Nat) (sum1 : Int) : Option (Int × Unit) :=
  some (sum1, ())
def spec_l2Sum_B1 (N : Nat) (kx : (List Int) → Int → Int → Option (Int × Unit)) (list1 : List Int) (sum : Int) (i : Int) : Option (Int × Unit) :=
  bif ilt i (len list1) then
    chk (inB i list1.length) <|
    kx list1 (iadd .i64 sum (gd list1 i.toNat 0)) (iadd .i64 i 1)
  else
    spec_l2Sum_K1 N sum
def spec_l2Sum_L1 (N fu_ : Nat) (list1 : List Int) (sum : Int) (i : Int) : Option (Int × Unit) :=
  iterK fu_ (fun kx (v_ : ((List Int) × Int × Int × Unit) × (Unit)) => spec_l2Sum_B1 N (fun list1 sum i => kx ((list1, sum, i, ()), ())) v_.1.1 v_.1.2.1 v_.1.2.2.1) ((list1, sum, i, ()), ())
theorem spec_l2Sum_L1_succ (N fu_ : Nat) (list1 : List Int) (sum : Int) (i : Int) : spec_l2Sum_L1 N (fu_ + 1) list1 sum i = spec_l2Sum_B1 N (fun list1 sum i => spec_l2Sum_L1 N fu_ list1 sum i) list1 sum i := rfl
theorem spec_l2Sum_L1_run (N : Nat) (list1 : Nat → (List Int)) (sum : Nat → Int) (i : Nat → Int) (n_ : Nat) {res_ : Option (Int × Unit)} (hstep_ : ∀ j_, j_ < n_ → ∀ kx_, spec_l2Sum_B1 N kx_ (list1 j_) (sum j_) (i j_) = kx_ (list1 (j_ + 1)) (sum (j_ + 1)) (i (j_ + 1))) (hend_ : ∀ kx_, spec_l2Sum_B1 N kx_ (list1 n_) (sum n_) (i n_) = res_) (fu_ : Nat) (hm_ : n_ < fu_) : spec_l2Sum_L1 N fu_ (list1 0) (sum 0) (i 0) = res_ := by
  exact loop_run (L := fun fu_ (x_ : (List Int) × Int × Int) => spec_l2Sum_L1 N fu_ x_.1 x_.2.1 x_.2.2) (B := fun kx_ x_ => spec_l2Sum_B1 N (fun list1 sum i => kx_ (list1, sum, i)) x_.1 x_.2.1 x_.2.2) (fun _ _ => rfl) (fun j_ => (list1 j_, sum j_, i j_)) n_ (fun j_ hi_ kx_ => hstep_ j_ hi_ _) (fun kx_ => hend_ _) fu_ hm_
def spec_l2Sum (N : Nat) (list : List Int) : Option (Int × Unit) :=
  spec_l2Sum_L1 N N list 0 0
def spec_l2From_K1 (N : Nat) (kx : (List Int) → Int → ((List Int) × (List Int) × (List Int) × (List Int)) → (List Int) → Option ((List Int) × Unit)) (periods2 : List Int) (i1 : Int) (to : Int) (c2 : (List Int) × (List Int) × (List Int) × (List Int)) (out1 : List Int) : Option ((List Int) × Unit) :=
  chk (inB i1 periods2.length) <|
  chk (inB i1 periods2.length) <|
  chk (cutB (gd periods2 i1.toNat 0) to c2.1.length) <|
  (spec_l2Sum N (cut c2.1 (gd periods2 i1.toNat 0) to)).bind fun r =>
  chk (inB (gd periods2 i1.toNat 0) out1.length) <|
  kx periods2 (iadd .i64 i1 1) c2 (List.set out1 (gd periods2 i1.toNat 0).toNat r.1)
def spec_l2From_K2 (N : Nat) (out2 : List Int) : Option ((List Int) × Unit) :=
  some (out2, ())
def spec_l2From_B1 (N : Nat) (kx : (List Int) → Int → ((List Int) × (List Int) × (List Int) × (List Int)) → (List Int) → Option ((List Int) × Unit)) (periods1 : List Int) (i : Int) (c1 : (List Int) × (List Int) × (List Int) × (List Int)) (out : List Int) : Option ((List Int) × Unit) :=
  bif ilt i (len periods1) then
    bif ilt (iadd .i64 i 1) (len periods1) then
      chk (inB (iadd .i64 i 1) periods1.length) <|
      spec_l2From_K1 N kx periods1 i (gd periods1 (iadd .i64 i 1).toNat 0) c1 out
    else
      spec_l2From_K1 N kx periods1 i (len c1.1) c1 out
  else
    spec_l2From_K2 N out
def spec_l2From_L1 (N fu_ : Nat) (periods1 : List Int) (i : Int) (c1 : (List Int) × (List Int) × (List Int) × (List Int)) (out : List Int) : Option ((List Int) × Unit) :=
  iterK fu_ (fun kx (v_ : ((List Int) × Int × Unit) × (((List Int) × (List Int) × (List Int) × (List Int)) × (List Int) × Unit)) => spec_l2From_B1 N (fun periods1 i c1 out => kx ((periods1, i, ()), (c1, out, ()))) v_.1.1 v_.1.2.1 v_.2.1 v_.2.2.1) ((periods1, i, ()), (c1, out, ()))
theorem spec_l2From_L1_succ (N fu_ : Nat) (periods1 : List Int) (i : Int) (c1 : (List Int) × (List Int) × (List Int) × (List Int)) (out : List Int) : spec_l2From_L1 N (fu_ + 1) periods1 i c1 out = spec_l2From_B1 N (fun periods1 i c1 out => spec_l2From_L1 N fu_ periods1 i c1 out) periods1 i c1 out := rfl
theorem spec_l2From_L1_run (N : Nat) (periods1 : Nat → (List Int)) (i : Nat → Int) (c1 : Nat → ((List Int) × (List Int) × (List Int) × (List Int))) (out : Nat → (List Int)) (n_ : Nat) {res_ : Option ((List Int) × Unit)} (hstep_ : ∀ j_, j_ < n_ → ∀ kx_, spec_l2From_B1 N kx_ (periods1 j_) (i j_) (c1 j_) (out j_) = kx_ (periods1 (j_ + 1)) (i (j_ + 1)) (c1 (j_ + 1)) (out (j_ + 1))) (hend_ : ∀ kx_, spec_l2From_B1 N kx_ (periods1 n_) (i n_) (c1 n_) (out n_) = res_) (fu_ : Nat) (hm_ : n_ < fu_) : spec_l2From_L1 N fu_ (periods1 0) (i 0) (c1 0) (out 0) = res_ := by
  exact loop_run (L := fun fu_ (x_ : (List Int) × Int × ((List Int) × (List Int) × (List Int) × (List Int)) × (List Int)) => spec_l2From_L1 N fu_ x_.1 x_.2.1 x_.2.2.1 x_.2.2.2) (B := fun kx_ x_ => spec_l2From_B1 N (fun periods1 i c1 out => kx_ (periods1, i, c1, out)) x_.1 x_.2.1 x_.2.2.1 x_.2.2.2) (fun _ _ => rfl) (fun j_ => (periods1 j_, i j_, c1 j_, out j_)) n_ (fun j_ hi_ kx_ => hstep_ j_ hi_ _) (fun kx_ => hend_ _) fu_ hm_
def spec_l2From (N : Nat) (c : (List Int) × (List Int) × (List Int) × (List Int)) (periods : List Int) : Option ((List Int) × Unit) :=
  chk (mkB (len c.1) 8) <|
  spec_l2From_L1 N N periods 0 c (List.replicate (len c.1).toNat 0)
def spec_l2Bits_K1 (N : Nat) (out1 : List Int) : Option ((List Int) × Unit) :=
  some (out1, ())
def spec_l2Bits_B1 (N : Nat) (kx : Int → Int → Int → (List Int) → Option ((List Int) × Unit)) (n1 : Int) (code1 : Int) (x : Int) (out : List Int) : Option ((List Int) × Unit) :=
  bif ilt x n1 then
    chk (ile 0 x) <|
    bif ieq (iand .i64 (ishr .i64 code1 x) 1) 1 then
      chk (fitB (out.length + 1) 8) <|
      kx n1 code1 (iadd .i64 x 1) (out ++ [x])
    else
      kx n1 code1 (iadd .i64 x 1) out
  else
    spec_l2Bits_K1 N out
def spec_l2Bits_L1 (N fu_ : Nat) (n1 : Int) (code1 : Int) (x : Int) (out : List Int) : Option ((List Int) × Unit) :=
  iterK fu_ (fun kx (v_ : (Int × Int × Int × Unit) × ((List Int) × Unit)) => spec_l2Bits_B1 N (fun n1 code1 x out => kx ((n1, code1, x, ()), (out, ()))) v_.1.1 v_.1.2.1 v_.1.2.2.1 v_.2.1) ((n1, code1, x, ()), (out, ()))
theorem spec_l2Bits_L1_succ (N fu_ : Nat) (n1 : Int) (code1 : Int) (x : Int) (out : List Int) : spec_l2Bits_L1 N (fu_ + 1) n1 code1 x out = spec_l2Bits_B1 N (fun n1 code1 x out => spec_l2Bits_L1 N fu_ n1 code1 x out) n1 code1 x out := rfl
theorem spec_l2Bits_L1_run (N : Nat) (n1 : Nat → Int) (code1 : Nat → Int) (x : Nat → Int) (out : Nat → (List Int)) (n_ : Nat) {res_ : Option ((List Int) × Unit)} (hstep_ : ∀ j_, j_ < n_ → ∀ kx_, spec_l2Bits_B1 N kx_ (n1 j_) (code1 j_) (x j_) (out j_) = kx_ (n1 (j_ + 1)) (code1 (j_ + 1)) (x (j_ + 1)) (out (j_ + 1))) (hend_ : ∀ kx_, spec_l2Bits_B1 N kx_ (n1 n_) (code1 n_) (x n_) (out n_) = res_) (fu_ : Nat) (hm_ : n_ < fu_) : spec_l2Bits_L1 N fu_ (n1 0) (code1 0) (x 0) (out 0) = res_ := by
  exact loop_run (L := fun fu_ (x_ : Int × Int × Int × (List Int)) => spec_l2Bits_L1 N fu_ x_.1 x_.2.1 x_.2.2.1 x_.2.2.2) (B := fun kx_ x_ => spec_l2Bits_B1 N (fun n1 code1 x out => kx_ (n1, code1, x, out)) x_.1 x_.2.1 x_.2.2.1 x_.2.2.2) (fun _ _ => rfl) (fun j_ => (n1 j_, code1 j_, x j_, out j_)) n_ (fun j_ hi_ kx_ => hstep_ j_ hi_ _) (fun kx_ => hend_ _) fu_ hm_
def spec_l2Bits (N : Nat) (n : Int) (code : Int) : Option ((List Int) × Unit) :=
  spec_l2Bits_L1 N N n code 0 []
def spec_l2Covers_K1 (N : Nat) : Option (Bool × Unit) :=
  some (true, ())
def spec_l2Covers_B1 (N : Nat) (kx : (List Int) → Int → ((List Int) × (List Int) × (List Int) × (List Int)) → Option (Bool × Unit)) (periods1 : List Int) (t : Int) (c1 : (List Int) × (List Int) × (List Int) × (List Int)) : Option (Bool × Unit) :=
  bif ilt t (len c1.1) then
    bif ilt 0 (len periods1) then
      chk (inB 0 periods1.length) <|
      bif ile (gd periods1 0 0) t then
        some (true, ())
      else
        chk (inB t c1.1.length) <|
        bif ilt 0 (gd c1.1 t.toNat 0) then
          some (false, ())
        else
          kx periods1 (iadd .i64 t 1) c1
    else
      chk (inB t c1.1.length) <|
      bif ilt 0 (gd c1.1 t.toNat 0) then
        some (false, ())
      else
        kx periods1 (iadd .i64 t 1) c1
  else
    spec_l2Covers_K1 N
def spec_l2Covers_L1 (N fu_ : Nat) (periods1 : List Int) (t : Int) (c1 : (List Int) × (List Int) × (List Int) × (List Int)) : Option (Bool × Unit) :=
  iterK fu_ (fun kx (v_ : ((List Int) × Int × Unit) × (((List Int) × (List Int) × (List Int) × (List Int)) × Unit)) => spec_l2Covers_B1 N (fun periods1 t c1 => kx ((periods1, t, ()), (c1, ()))) v_.1.1 v_.1.2.1 v_.2.1) ((periods1, t, ()), (c1, ()))
theorem spec_l2Covers_L1_succ (N fu_ : Nat) (periods1 : List Int) (t : Int) (c1 : (List Int) × (List Int) × (List Int) × (List Int)) : spec_l2Covers_L1 N (fu_ + 1) periods1 t c1 = spec_l2Covers_B1 N (fun periods1 t c1 => spec_l2Covers_L1 N fu_ periods1 t c1) periods1 t c1 := rfl
theorem spec_l2Covers_L1_run (N : Nat) (periods1 : Nat → (List Int)) (t : Nat → Int) (c1 : Nat → ((List Int) × (List Int) × (List Int) × (List Int))) (n_ : Nat) {res_ : Option (Bool × Unit)} (hstep_ : ∀ j_, j_ < n_ → ∀ kx_, spec_l2Covers_B1 N kx_ (periods1 j_) (t j_) (c1 j_) = kx_ (periods1 (j_ + 1)) (t (j_ + 1)) (c1 (j_ + 1))) (hend_ : ∀ kx_, spec_l2Covers_B1 N kx_ (periods1 n_) (t n_) (c1 n_) = res_) (fu_ : Nat) (hm_ : n_ < fu_) : spec_l2Covers_L1 N fu_ (periods1 0) (t 0) (c1 0) = res_ := by
  exact loop_run (L := fun fu_ (x_ : (List Int) × Int × ((List Int) × (List Int) × (List Int) × (List Int))) => spec_l2Covers_L1 N fu_ x_.1 x_.2.1 x_.2.2) (B := fun kx_ x_ => spec_l2Covers_B1 N (fun periods1 t c1 => kx_ (periods1, t, c1)) x_.1 x_.2.1 x_.2.2) (fun _ _ => rfl) (fun j_ => (periods1 j_, t j_, c1 j_)) n_ (fun j_ hi_ kx_ => hstep_ j_ hi_ _) (fun kx_ => hend_ _) fu_ hm_
def spec_l2Covers (N : Nat) (c : (List Int) × (List Int) × (List Int) × (List Int)) (periods : List Int) : Option (Bool × Unit) :=
  spec_l2Covers_L1 N N periods 0 c
def spec_l2Stocks_K1 (N : Nat) (out1 : List Int) : Option ((List Int) × Unit) :=
  some (out1, ())
def spec_l2Stocks_B1 (N : Nat) (kx : (List Int) → Int → Int → ((List Int) × (List Int) × (List Int) × (List Int)) → (List Int) → Option ((List Int) × Unit)) (plan1 : List Int) (now : Int) (t : Int) (c1 : (List Int) × (List Int) × (List Int) × (List Int)) (out : List Int) : Option ((List Int) × Unit) :=
  bif ilt t (len plan1) then
    chk (inB t plan1.length) <|
    chk (inB t c1.1.length) <|
    chk (fitB (out.length + 1) 8) <|
    kx plan1 (isub .i64 (iadd .i64 now (gd plan1 t.toNat 0)) (gd c1.1 t.toNat 0)) (iadd .i64 t 1) c1 (out ++ [isub .i64 (iadd .i64 now (gd plan1 t.toNat 0)) (gd c1.1 t.toNat 0)])
  else
    spec_l2Stocks_K1 N out
def spec_l2Stocks_L1 (N fu_ : Nat) (plan1 : List Int) (now : Int) (t : Int) (c1 : (List Int) × (List Int) × (List Int) × (List Int)) (out : List Int) : Option ((List Int) × Unit) :=
  iterK fu_ (fun kx (v_ : ((List Int) × Int × Int × Unit) × (((List Int) × (List Int) × (List Int) × (List Int)) × (List Int) × Unit)) => spec_l2Stocks_B1 N (fun plan1 now t c1 out => kx ((plan1, now, t, ()), (c1, out, ()))) v_.1.1 v_.1.2.1 v_.1.2.2.1 v_.2.1 v_.2.2.1) ((plan1, now, t, ()), (c1, out, ()))
theorem spec_l2Stocks_L1_succ (N fu_ : Nat) (plan1 : List Int) (now : Int) (t : Int) (c1 : (List Int) × (List Int) × (List Int) × (List Int)) (out : List Int) : spec_l2Stocks_L1 N (fu_ + 1) plan1 now t c1 out = spec_l2Stocks_B1 N (fun plan1 now t c1 out => spec_l2Stocks_L1 N fu_ plan1 now t c1 out) plan1 now t c1 out := rfl
theorem spec_l2Stocks_L1_run (N : Nat) (plan1 : Nat → (List Int)) (now : Nat → Int) (t : Nat → Int) (c1 : Nat → ((List Int) × (List Int) × (List Int) × (List Int))) (out : Nat → (List Int)) (n_ : Nat) {res_ : Option ((List Int) × Unit)} (hstep_ : ∀ j_, j_ < n_ → ∀ kx_, spec_l2Stocks_B1 N kx_ (plan1 j_) (now j_) (t j_) (c1 j_) (out j_) = kx_ (plan1 (j_ + 1)) (now (j_ + 1)) (t (j_ + 1)) (c1 (j_ + 1)) (out (j_ + 1))) (hend_ : ∀ kx_, spec_l2Stocks_B1 N kx_ (plan1 n_) (now n_) (t n_) (c1 n_) (out n_) = res_) (fu_ : Nat) (hm_ : n_ < fu_) : spec_l2Stocks_L1 N fu_ (plan1 0) (now 0) (t 0) (c1 0) (out 0) = res_ := by
  exact loop_run (L := fun fu_ (x_ : (List Int) × Int × Int × ((List Int) × (List Int) × (List Int) × (List Int)) × (List Int)) => spec_l2Stocks_L1 N fu_ x_.1 x_.2.1 x_.2.2.1 x_.2.2.2.1 x_.2.2.2.2) (B := fun kx_ x_ => spec_l2Stocks_B1 N (fun plan1 now t c1 out => kx_ (plan1, now, t, c1, out)) x_.1 x_.2.1 x_.2.2.1 x_.2.2.2.1 x_.2.2.2.2) (fun _ _ => rfl) (fun j_ => (plan1 j_, now j_, t j_, c1 j_, out j_)) n_ (fun j_ hi_ kx_ => hstep_ j_ hi_ _) (fun kx_ => hend_ _) fu_ hm_
def spec_l2Stocks (N : Nat) (c : (List Int) × (List Int) × (List Int) × (List Int)) (plan : List Int) : Option ((List Int) × Unit) :=
  spec_l2Stocks_L1 N N plan 0 0 c []
def spec_l2Parts_K1 (N : Nat) (kx : (List Int) → Int → ((List Int) × (List Int) × (List Int) × (List Int)) → (List Int) → (List Int) → (List Int) → Option ((List Int) × Unit)) (plan2 : List Int) (t1 : Int) (c2 : (List Int) × (List Int) × (List Int) × (List Int)) (v41 : List Int) (out1 : List Int) (stocks1 : List Int) : Option ((List Int) × Unit) :=
  chk (inB 1 3) <|
  chk (inB t1 c2.2.2.1.length) <|
  chk (inB t1 plan2.length) <|
  chk (inB 1 3) <|
  chk (inB 2 3) <|
  chk (inB t1 c2.2.2.2.length) <|
  chk (inB t1 stocks1.length) <|
  chk (inB 2 3) <|
  kx plan2 (iadd .i64 t1 1) c2 v41 (List.set (List.set out1 1 (iadd .i64 (gd out1 1 0) (imul .i64 (gd c2.2.2.1 t1.toNat 0) (gd plan2 t1.toNat 0)))) 2 (iadd .i64 (gd (List.set out1 1 (iadd .i64 (gd out1 1 0) (imul .i64 (gd c2.2.2.1 t1.toNat 0) (gd plan2 t1.toNat 0)))) 2 0) (imul .i64 (gd c2.2.2.2 t1.toNat 0) (gd stocks1 t1.toNat 0)))) stocks1
def spec_l2Parts_K2 (N : Nat) (v42 : List Int) (out2 : List Int) : Option ((List Int) × Unit) :=
  some (out2, ())
def spec_l2Parts_B1 (N : Nat) (kx : (List Int) → Int → ((List Int) × (List Int) × (List Int) × (List Int)) → (List Int) → (List Int) → (List Int) → Option ((List Int) × Unit)) (plan1 : List Int) (t : Int) (c1 : (List Int) × (List Int) × (List Int) × (List Int)) (v4 : List Int) (out : List Int) (stocks : List Int) : Option ((List Int) × Unit) :=
  bif ilt t (len plan1) then
    chk (inB t plan1.length) <|
    bif ilt 0 (gd plan1 t.toNat 0) then
      chk (inB 0 3) <|
      chk (inB t c1.2.1.length) <|
      chk (inB 0 3) <|
      spec_l2Parts_K1 N kx plan1 t c1 v4 (List.set out 0 (iadd .i64 (gd out 0 0) (gd c1.2.1 t.toNat 0))) stocks
    else
      spec_l2Parts_K1 N kx plan1 t c1 v4 out stocks
  else
    spec_l2Parts_K2 N v4 out
def spec_l2Parts_L1 (N fu_ : Nat) (plan1 : List Int) (t : Int) (c1 : (List Int) × (List Int) × (List Int) × (List Int)) (v4 : List Int) (out : List Int) (stocks : List Int) : Option ((List Int) × Unit) :=
  iterK fu_ (fun kx (v_ : ((List Int) × Int × Unit) × (((List Int) × (List Int) × (List Int) × (List Int)) × (List Int) × (List Int) × (List Int) × Unit)) => spec_l2Parts_B1 N (fun plan1 t c1 v4 out stocks => kx ((plan1, t, ()), (c1, v4, out, stocks, ()))) v_.1.1 v_.1.2.1 v_.2.1 v_.2.2.1 v_.2.2.2.1 v_.2.2.2.2.1) ((plan1, t, ()), (c1, v4, out, stocks, ()))
theorem spec_l2Parts_L1_succ (N fu_ : Nat) (plan1 : List Int) (t : Int) (c1 : (List Int) × (List Int) × (List Int) × (List Int)) (v4 : List Int) (out : List Int) (stocks : List Int) : spec_l2Parts_L1 N (fu_ + 1) plan1 t c1 v4 out stocks = spec_l2Parts_B1 N (fun plan1 t c1 v4 out stocks => spec_l2Parts_L1 N fu_ plan1 t c1 v4 out stocks) plan1 t c1 v4 out stocks := rfl
theorem spec_l2Parts_L1_run (N : Nat) (plan1 : Nat → (List Int)) (t : Nat → Int) (c1 : Nat → ((List Int) × (List Int) × (List Int) × (List Int))) (v4 : Nat → (List Int)) (out : Nat → (List Int)) (stocks : Nat → (List Int)) (n_ : Nat) {res_ : Option ((List Int) × Unit)} (hstep_ : ∀ j_, j_ < n_ → ∀ kx_, spec_l2Parts_B1 N kx_ (plan1 j_) (t j_) (c1 j_) (v4 j_) (out j_) (stocks j_) = kx_ (plan1 (j_ + 1)) (t (j_ + 1)) (c1 (j_ + 1)) (v4 (j_ + 1)) (out (j_ + 1)) (stocks (j_ + 1))) (hend_ : ∀ kx_, spec_l2Parts_B1 N kx_ (plan1 n_) (t n_) (c1 n_) (v4 n_) (out n_) (stocks n_) = res_) (fu_ : Nat) (hm_ : n_ < fu_) : spec_l2Parts_L1 N fu_ (plan1 0) (t 0) (c1 0) (v4 0) (out 0) (stocks 0) = res_ := by
  exact loop_run (L := fun fu_ (x_ : (List Int) × Int × ((List Int) × (List Int) × (List Int) × (List Int)) × (List Int) × (List Int) × (List Int)) => spec_l2Parts_L1 N fu_ x_.1 x_.2.1 x_.2.2.1 x_.2.2.2.1 x_.2.2.2.2.1 x_.2.2.2.2.2) (B := fun kx_ x_ => spec_l2Parts_B1 N (fun plan1 t c1 v4 out stocks => kx_ (plan1, t, c1, v4, out, stocks)) x_.1 x_.2.1 x_.2.2.1 x_.2.2.2.1 x_.2.2.2.2.1 x_.2.2.2.2.2) (fun _ _ => rfl) (fun j_ => (plan1 j_, t j_, c1 j_, v4 j_, out j_, stocks j_)) n_ (fun j_ hi_ kx_ => hstep_ j_ hi_ _) (fun kx_ => hend_ _) fu_ hm_
def spec_l2Parts (N : Nat) (c : (List Int) × (List Int) × (List Int) × (List Int)) (plan : List Int) : Option ((List Int) × Unit) :=
  (spec_l2Stocks N c plan).bind fun r =>
  spec_l2Parts_L1 N N plan 0 c (List.replicate 3 0) (List.replicate 3 0) r.1
def spec_l2Cost (N : Nat) (c : (List Int) × (List Int) × (List Int) × (List Int)) (plan : List Int) : Option (Int × Unit) :=
  (spec_l2Parts N c plan).bind fun r =>
  chk (inB 0 3) <|
  chk (inB 1 3) <|
  chk (inB 2 3) <|
  some (iadd .i64 (iadd .i64 (gd r.1 0 0) (gd r.1 1 0)) (gd r.1 2 0), ())
def spec_l2Before_K1 (N : Nat) : Option (Bool × Unit) :=
  some (false, ())
def spec_l2Before_B1 (N : Nat) (kx : (List Int) → (List Int) → Int → Option (Bool × Unit)) (a1 : List Int) (b1 : List Int) (i : Int) : Option (Bool × Unit) :=
  bif ilt i (len a1) then
    chk (inB i a1.length) <|
    chk (inB i b1.length) <|
    bif ine (gd a1 i.toNat 0) (gd b1 i.toNat 0) then
      chk (inB i a1.length) <|
      chk (inB i b1.length) <|
      some (ilt (gd a1 i.toNat 0) (gd b1 i.toNat 0), ())
    else
      kx a1 b1 (iadd .i64 i 1)
  else
    spec_l2Before_K1 N
def spec_l2Before_L1 (N fu_ : Nat) (a1 : List Int) (b1 : List Int) (i : Int) : Option (Bool × Unit) :=
  iterK fu_ (fun kx (v_ : ((List Int) × (List Int) × Int × Unit) × (Unit)) => spec_l2Before_B1 N (fun a1 b1 i => kx ((a1, b1, i, ()), ())) v_.1.1 v_.1.2.1 v_.1.2.2.1) ((a1, b1, i, ()), ())
theorem spec_l2Before_L1_succ (N fu_ : Nat) (a1 : List Int) (b1 : List Int) (i : Int) : spec_l2Before_L1 N (fu_ + 1) a1 b1 i = spec_l2Before_B1 N (fun a1 b1 i => spec_l2Before_L1 N fu_ a1 b1 i) a1 b1 i := rfl
theorem spec_l2Before_L1_run (N : Nat) (a1 : Nat → (List Int)) (b1 : Nat → (List Int)) (i : Nat → Int) (n_ : Nat) {res_ : Option (Bool × Unit)} (hstep_ : ∀ j_, j_ < n_ → ∀ kx_, spec_l2Before_B1 N kx_ (a1 j_) (b1 j_) (i j_) = kx_ (a1 (j_ + 1)) (b1 (j_ + 1)) (i (j_ + 1))) (hend_ : ∀ kx_, spec_l2Before_B1 N kx_ (a1 n_) (b1 n_) (i n_) = res_) (fu_ : Nat) (hm_ : n_ < fu_) : spec_l2Before_L1 N fu_ (a1 0) (b1 0) (i 0) = res_ := by
  exact loop_run (L := fun fu_ (x_ : (List Int) × (List Int) × Int) => spec_l2Before_L1 N fu_ x_.1 x_.2.1 x_.2.2) (B := fun kx_ x_ => spec_l2Before_B1 N (fun a1 b1 i => kx_ (a1, b1, i)) x_.1 x_.2.1 x_.2.2) (fun _ _ => rfl) (fun j_ => (a1 j_, b1 j_, i j_)) n_ (fun j_ hi_ kx_ => hstep_ j_ hi_ _) (fun kx_ => hend_ _) fu_ hm_
def spec_l2Before (N : Nat) (a : List Int) (b : List Int) : Option (Bool × Unit) :=
  bif ine (len a) (len b) then
    some (ilt (len a) (len b), ())
  else
    spec_l2Before_L1 N N a b 0
def spec_l2Best_K1 (N : Nat) (best1 : List Int) : Option ((List Int) × Unit) :=
  some (best1, ())
def spec_l2Best_B1 (N : Nat) (kx : Int → Int → ((List Int) × (List Int) × (List Int) × (List Int)) → (List Int) → Option ((List Int) × Unit)) (least : Int) (code : Int) (c1 : (List Int) × (List Int) × (List Int) × (List Int)) (best : List Int) : Option ((List Int) × Unit) :=
  chk (ile 0 (len c1.1)) <|
  bif ilt code (ishl .i64 1 (len c1.1)) then
    (spec_l2Bits N (len c1.1) code).bind fun r =>
    (spec_l2Covers N c1 r.1).bind fun r1 =>
    bif !r1.1 then
      kx least (iadd .i64 code 1) c1 best
    else
      (spec_l2From N c1 r.1).bind fun r2 =>
      (spec_l2Cost N c1 r2.1).bind fun r3 =>
      bif ilt least 0 then
        kx r3.1 (iadd .i64 code 1) c1 r.1
      else
        bif ilt r3.1 least then
          kx r3.1 (iadd .i64 code 1) c1 r.1
        else
          bif ieq r3.1 least then
            (spec_l2Before N r.1 best).bind fun r4 =>
            bif r4.1 then
              kx r3.1 (iadd .i64 code 1) c1 r.1
            else
              kx least (iadd .i64 code 1) c1 best
          else
            kx least (iadd .i64 code 1) c1 best
  else
    spec_l2Best_K1 N best
def spec_l2Best_L1 (N fu_ : Nat) (least : Int) (code : Int) (c1 : (List Int) × (List Int) × (List Int) × (List Int)) (best : List Int) : Option ((List Int) × Unit) :=
  iterK fu_ (fun kx (v_ : (Int × Int × Unit) × (((List Int) × (List Int) × (List Int) × (List Int)) × (List Int) × Unit)) => spec_l2Best_B1 N (fun least code c1 best => kx ((least, code, ()), (c1, best, ()))) v_.1.1 v_.1.2.1 v_.2.1 v_.2.2.1) ((least, code, ()), (c1, best, ()))
theorem spec_l2Best_L1_succ (N fu_ : Nat) (least : Int) (code : Int) (c1 : (List Int) × (List Int) × (List Int) × (List Int)) (best : List Int) : spec_l2Best_L1 N (fu_ + 1) least code c1 best = spec_l2Best_B1 N (fun least code c1 best => spec_l2Best_L1 N fu_ least code c1 best) least code c1 best := rfl
theorem spec_l2Best_L1_run (N : Nat) (least : Nat → Int) (code : Nat → Int) (c1 : Nat → ((List Int) × (List Int) × (List Int) × (List Int))) (best : Nat → (List Int)) (n_ : Nat) {res_ : Option ((List Int) × Unit)} (hstep_ : ∀ j_, j_ < n_ → ∀ kx_, spec_l2Best_B1 N kx_ (least j_) (code j_) (c1 j_) (best j_) = kx_ (least (j_ + 1)) (code (j_ + 1)) (c1 (j_ + 1)) (best (j_ + 1))) (hend_ : ∀ kx_, spec_l2Best_B1 N kx_ (least n_) (code n_) (c1 n_) (best n_) = res_) (fu_ : Nat) (hm_ : n_ < fu_) : spec_l2Best_L1 N fu_ (least 0) (code 0) (c1 0) (best 0) = res_ := by
  exact loop_run (L := fun fu_ (x_ : Int × Int × ((List Int) × (List Int) × (List Int) × (List Int)) × (List Int)) => spec_l2Best_L1 N fu_ x_.1 x_.2.1 x_.2.2.1 x_.2.2.2) (B := fun kx_ x_ => spec_l2Best_B1 N (fun least code c1 best => kx_ (least, code, c1, best)) x_.1 x_.2.1 x_.2.2.1 x_.2.2.2) (fun _ _ => rfl) (fun j_ => (least j_, code j_, c1 j_, best j_)) n_ (fun j_ hi_ kx_ => hstep_ j_ hi_ _) (fun kx_ => hend_ _) fu_ hm_
def spec_l2Best (N : Nat) (c : (List Int) × (List Int) × (List Int) × (List Int)) : Option ((List Int) × Unit) :=
  spec_l2Best_L1 N N (-1) 0 c []
def spec_l12Make (N : Nat) (app : ((List Int) × (List Int) × (List Int) × (List Int)) × (List Int) × Int) (v1 : Int × Int × Int × Int × Int) : Option ((((List Int) × (List Int) × (List Int) × (List Int)) × (List Int) × Int) × Unit) :=
  (spec_l12Own N app).bind fun r =>
  bif ieq v1.1 1 then
    chk (fitB (r.1.1.1.length + 1) 8) <|
    chk (fitB (r.1.1.2.1.length + 1) 8) <|
    chk (fitB (r.1.1.2.2.1.length + 1) 8) <|
    chk (fitB (r.1.1.2.2.2.length + 1) 8) <|
    chk (fitB (r.1.2.1.length + 1) 8) <|
    some (((r.1.1.1 ++ [v1.2.1], (r.1.1.2.1 ++ [v1.2.2.1], (r.1.1.2.2.1 ++ [v1.2.2.2.1], r.1.1.2.2.2 ++ [v1.2.2.2.2]))), (r.1.2.1 ++ [0], r.1.2.2)), ())
  else
    bif ieq v1.1 2 then
      chk (inB v1.2.1 r.1.1.1.length) <|
      some (((List.set r.1.1.1 v1.2.1.toNat v1.2.2.1, r.1.1.2), r.1.2), ())
    else
      bif ieq v1.1 3 then
        chk (inB v1.2.1 r.1.2.1.length) <|
        some ((r.1.1, (List.set r.1.2.1 v1.2.1.toNat v1.2.2.1, r.1.2.2)), ())
      else
        bif ieq v1.1 4 then
          some ((r.1.1, (r.1.2.1, iadd .i64 app.2.2 1)), ())
        else
          bif ieq v1.1 5 then
            (spec_l12Ahead N app).bind fun r1 =>
            chk (cutB 0 app.2.2 app.2.1.length) <|
            (spec_l1Own N (cut app.2.1 0 app.2.2)).bind fun r2 =>
            (spec_l2Best N r1.1).bind fun r3 =>
            (spec_l2From N r1.1 r3.1).bind fun r4 =>
            chk (fitB (r2.1.length + r4.1.length) 8) <|
            some ((r.1.1, (r2.1 ++ r4.1, r.1.2.2)), ())
          else
            bif ieq v1.1 6 then
              chk (cutB 0 app.2.2 app.2.1.length) <|
              (spec_l1Own N (cut app.2.1 0 app.2.2)).bind fun r5 =>
              chk (mkZ (isub .i64 (len app.2.1) app.2.2) r5.1.length 8) <|
              some ((r.1.1, (r5.1 ++ (List.replicate (isub .i64 (len app.2.1) app.2.2).toNat 0), r.1.2.2)), ())
            else
              some (r.1, ())
def spec_l12Do (N : Nat) (l : ((List Int) × (List Int) × (List Int) × (List Int)) × (List Int) × Int) (a : Int × Int × Int × Int × Int) : Option (((((List Int) × (List Int) × (List Int) × (List Int)) × (List Int) × Int) × Bool) × Unit) :=
  (spec_l12Plain N a).bind fun r =>
  bif !r.1 then
    some (((([], ([], ([], []))), ([], 0)), false), ())
  else
    (spec_l12May N l a).bind fun r1 =>
    bif !r1.1 then
      some (((([], ([], ([], []))), ([], 0)), false), ())
    else
      (spec_l12Make N l a).bind fun r2 =>
      (spec_l12Good N r2.1).bind fun r3 =>
      bif !r3.1 then
        some (((([], ([], ([], []))), ([], 0)), false), ())
      else
        some ((r2.1, true), ())
def pspec_l1Cur_one (N : Nat) (c : (List Int) × Int × Int) (n : Int) : Option (Bool × ((List Int) × Int × Int)) :=
  (pspec_l1Cur_pick N c n).bind fun r =>
  some (ieq r.1 0, r.2)
def pspec_l1Cur_someLots_K1 (N : Nat) (kx : Int → Bool → Int → Int → Int → Int → ((List Int) × Int × Int) → ((List Int) × (List Int) × (List Int) × (List Int)) → ((List Int) × (List Int) × (List Int) × (List Int)) → Option (((List Int) × (List Int) × (List Int) × (List Int)) × ((List Int) × Int × Int))) (v51 : Int) (v71 : Bool) (v81 : Int) (v91 : Int) (v101 : Int) (v111 : Int) (app2 : (List Int) × Int × Int) (v41 : (List Int) × (List Int) × (List Int) × (List Int)) (v61 : (List Int) × (List Int) × (List Int) × (List Int)) : Option (((List Int) × (List Int) × (List Int) × (List Int)) × ((List Int) × Int × Int)) :=
  (pspec_l1Cur_among N app2 [0, 1, 2, 3, 5, 8]).bind fun r9 =>
  chk (fitB (v61.1.length + 1) 8) <|
  chk (fitB (v61.2.1.length + 1) 8) <|
  chk (fitB (v61.2.2.1.length + 1) 8) <|
  chk (fitB (v61.2.2.2.length + 1) 8) <|
  kx v51 v71 v81 v91 v101 (iadd .i64 v111 1) r9.2 v41 (v61.1 ++ [r9.1], (v61.2.1 ++ [v81], (v61.2.2.1 ++ [v91], v61.2.2.2 ++ [v101])))
def pspec_l1Cur_someLots_K2 (N : Nat) (app5 : (List Int) × Int × Int) (v44 : (List Int) × (List Int) × (List Int) × (List Int)) (v64 : (List Int) × (List Int) × (List Int) × (List Int)) : Option (((List Int) × (List Int) × (List Int) × (List Int)) × ((List Int) × Int × Int)) :=
  some (v64, app5)
def pspec_l1Cur_someLots_B1 (N : Nat) (kx1 : ((List Int) × Int × Int) → ((List Int) × (List Int) × (List Int) × (List Int)) → ((List Int) × (List Int) × (List Int) × (List Int)) → Option (((List Int) × (List Int) × (List Int) × (List Int)) × ((List Int) × Int × Int))) (app4 : (List Int) × Int × Int) (v43 : (List Int) × (List Int) × (List Int) × (List Int)) (v63 : (List Int) × (List Int) × (List Int) × (List Int)) : Option (((List Int) × (List Int) × (List Int) × (List Int)) × ((List Int) × Int × Int)) :=
  bif ilt (len v63.1) 9 then
    chk (fitB (v63.1.length + 1) 8) <|
    chk (fitB (v63.2.1.length + 1) 8) <|
    chk (fitB (v63.2.2.1.length + 1) 8) <|
    chk (fitB (v63.2.2.2.length + 1) 8) <|
    kx1 app4 v43 (v63.1 ++ [1], (v63.2.1 ++ [1], (v63.2.2.1 ++ [1], v63.2.2.2 ++ [1])))
  else
    pspec_l1Cur_someLots_K2 N app4 v43 v63
def pspec_l1Cur_someLots_L1 (N fu_ : Nat) (app4 : (List Int) × Int × Int) (v43 : (List Int) × (List Int) × (List Int) × (List Int)) (v63 : (List Int) × (List Int) × (List Int) × (List Int)) : Option (((List Int) × (List Int) × (List Int) × (List Int)) × ((List Int) × Int × Int)) :=
  iterK fu_ (fun kx1 (v_ : (Unit) × (((List Int) × Int × Int) × ((List Int) × (List Int) × (List Int) × (List Int)) × ((List Int) × (List Int) × (List Int) × (List Int)) × Unit)) => pspec_l1Cur_someLots_B1 N (fun app4 v43 v63 => kx1 ((), (app4, v43, v63, ()))) v_.2.1 v_.2.2.1 v_.2.2.2.1) ((), (app4, v43, v63, ()))
theorem pspec_l1Cur_someLots_L1_succ (N fu_ : Nat) (app4 : (List Int) × Int × Int) (v43 : (List Int) × (List Int) × (List Int) × (List Int)) (v63 : (List Int) × (List Int) × (List Int) × (List Int)) : pspec_l1Cur_someLots_L1 N (fu_ + 1) app4 v43 v63 = pspec_l1Cur_someLots_B1 N (fun app4 v43 v63 => pspec_l1Cur_someLots_L1 N fu_ app4 v43 v63) app4 v43 v63 := rfl
theorem pspec_l1Cur_someLots_L1_run (N : Nat) (app4 : Nat → ((List Int) × Int × Int)) (v43 : Nat → ((List Int) × (List Int) × (List Int) × (List Int))) (v63 : Nat → ((List Int) × (List Int) × (List Int) × (List Int))) (n_ : Nat) {res_ : Option (((List Int) × (List Int) × (List Int) × (List Int)) × ((List Int) × Int × Int))} (hstep_ : ∀ j_, j_ < n_ → ∀ kx_, pspec_l1Cur_someLots_B1 N kx_ (app4 j_) (v43 j_) (v63 j_) = kx_ (app4 (j_ + 1)) (v43 (j_ + 1)) (v63 (j_ + 1))) (hend_ : ∀ kx_, pspec_l1Cur_someLots_B1 N kx_ (app4 n_) (v43 n_) (v63 n_) = res_) (fu_ : Nat) (hm_ : n_ < fu_) : pspec_l1Cur_someLots_L1 N fu_ (app4 0) (v43 0) (v63 0) = res_ := by
  exact loop_run (L := fun fu_ (x_ : ((List Int) × Int × Int) × ((List Int) × (List Int) × (List Int) × (List Int)) × ((List Int) × (List Int) × (List Int) × (List Int))) => pspec_l1Cur_someLots_L1 N fu_ x_.1 x_.2.1 x_.2.2) (B := fun kx_ x_ => pspec_l1Cur_someLots_B1 N (fun app4 v43 v63 => kx_ (app4, v43, v63)) x_.1 x_.2.1 x_.2.2) (fun _ _ => rfl) (fun j_ => (app4 j_, v43 j_, v63 j_)) n_ (fun j_ hi_ kx_ => hstep_ j_ hi_ _) (fun kx_ => hend_ _) fu_ hm_
def pspec_l1Cur_someLots_K3 (N : Nat) (v52 : Int) (app3 : (List Int) × Int × Int) (v42 : (List Int) × (List Int) × (List Int) × (List Int)) (v62 : (List Int) × (List Int) × (List Int) × (List Int)) : Option (((List Int) × (List Int) × (List Int) × (List Int)) × ((List Int) × Int × Int)) :=
  bif ilt 0 v52 then
    (pspec_l1Cur_pick N app3 v52).bind fun r10 =>
    (pspec_l1Cur_pick N r10.2 60).bind fun r11 =>
    bif ieq r11.1 0 then
      (pspec_l1Cur_among N r11.2 [(-1), 20, 21, 4611686018427387904]).bind fun r12 =>
      chk (inB r10.1 v62.1.length) <|
      some ((List.set v62.1 r10.1.toNat r12.1, v62.2), r12.2)
    else
      bif ieq r11.1 1 then
        (pspec_l1Cur_among N r11.2 [(-1), 99, 100]).bind fun r13 =>
        chk (inB r10.1 v62.2.1.length) <|
        some ((v62.1, (List.set v62.2.1 r10.1.toNat r13.1, v62.2.2)), r13.2)
      else
        bif ieq r11.1 2 then
          (pspec_l1Cur_among N r11.2 [(-1), 9, 10]).bind fun r14 =>
          chk (inB r10.1 v62.2.2.1.length) <|
          some ((v62.1, (v62.2.1, (List.set v62.2.2.1 r10.1.toNat r14.1, v62.2.2.2))), r14.2)
        else
          bif ieq r11.1 3 then
            (pspec_l1Cur_among N r11.2 [(-1), 9, 10]).bind fun r15 =>
            chk (inB r10.1 v62.2.2.2.length) <|
            some ((v62.1, (v62.2.1, (v62.2.2.1, List.set v62.2.2.2 r10.1.toNat r15.1))), r15.2)
          else
            bif ieq r11.1 4 then
              chk (fitB (v62.2.2.1.length + 1) 8) <|
              some ((v62.1, (v62.2.1, (v62.2.2.1 ++ [1], v62.2.2.2))), r11.2)
            else
              bif ieq r11.1 5 then
                pspec_l1Cur_someLots_L1 N N r11.2 v42 v62
              else
                some (v62, r11.2)
  else
    some (v62, app3)
def pspec_l1Cur_someLots_B2 (N : Nat) (kx : Int → Bool → Int → Int → Int → Int → ((List Int) × Int × Int) → ((List Int) × (List Int) × (List Int) × (List Int)) → ((List Int) × (List Int) × (List Int) × (List Int)) → Option (((List Int) × (List Int) × (List Int) × (List Int)) × ((List Int) × Int × Int))) (v5 : Int) (v7 : Bool) (v8 : Int) (v9 : Int) (v10 : Int) (v11 : Int) (app1 : (List Int) × Int × Int) (v4 : (List Int) × (List Int) × (List Int) × (List Int)) (v6 : (List Int) × (List Int) × (List Int) × (List Int)) : Option (((List Int) × (List Int) × (List Int) × (List Int)) × ((List Int) × Int × Int)) :=
  bif ilt v11 v5 then
    bif !v7 then
      (pspec_l1Cur_among N app1 [0, 2, 5, 9, 14, 30]).bind fun r6 =>
      (pspec_l1Cur_pick N r6.2 5).bind fun r7 =>
      (pspec_l1Cur_pick N r7.2 4).bind fun r8 =>
      pspec_l1Cur_someLots_K1 N kx v5 v7 r6.1 r7.1 r8.1 v11 r8.2 v4 v6
    else
      pspec_l1Cur_someLots_K1 N kx v5 v7 v8 v9 v10 v11 app1 v4 v6
  else
    pspec_l1Cur_someLots_K3 N v5 app1 v4 v6
def pspec_l1Cur_someLots_L2 (N fu_ : Nat) (v5 : Int) (v7 : Bool) (v8 : Int) (v9 : Int) (v10 : Int) (v11 : Int) (app1 : (List Int) × Int × Int) (v4 : (List Int) × (List Int) × (List Int) × (List Int)) (v6 : (List Int) × (List Int) × (List Int) × (List Int)) : Option (((List Int) × (List Int) × (List Int) × (List Int)) × ((List Int) × Int × Int)) :=
  iterK fu_ (fun kx (v_ : (Int × Bool × Int × Int × Int × Int × Unit) × (((List Int) × Int × Int) × ((List Int) × (List Int) × (List Int) × (List Int)) × ((List Int) × (List Int) × (List Int) × (List Int)) × Unit)) => pspec_l1Cur_someLots_B2 N (fun v5 v7 v8 v9 v10 v11 app1 v4 v6 => kx ((v5, v7, v8, v9, v10, v11, ()), (app1, v4, v6, ()))) v_.1.1 v_.1.2.1 v_.1.2.2.1 v_.1.2.2.2.1 v_.1.2.2.2.2.1 v_.1.2.2.2.2.2.1 v_.2.1 v_.2.2.1 v_.2.2.2.1) ((v5, v7, v8, v9, v10, v11, ()), (app1, v4, v6, ()))
theorem pspec_l1Cur_someLots_L2_succ (N fu_ : Nat) (v5 : Int) (v7 : Bool) (v8 : Int) (v9 : Int) (v10 : Int) (v11 : Int) (app1 : (List Int) × Int × Int) (v4 : (List Int) × (List Int) × (List Int) × (List Int)) (v6 : (List Int) × (List Int) × (List Int) × (List Int)) : pspec_l1Cur_someLots_L2 N (fu_ + 1) v5 v7 v8 v9 v10 v11 app1 v4 v6 = pspec_l1Cur_someLots_B2 N (fun v5 v7 v8 v9 v10 v11 app1 v4 v6 => pspec_l1Cur_someLots_L2 N fu_ v5 v7 v8 v9 v10 v11 app1 v4 v6) v5 v7 v8 v9 v10 v11 app1 v4 v6 := rfl
theorem pspec_l1Cur_someLots_L2_run (N : Nat) (v5 : Nat → Int) (v7 : Nat → Bool) (v8 : Nat → Int) (v9 : Nat → Int) (v10 : Nat → Int) (v11 : Nat → Int) (app1 : Nat → ((List Int) × Int × Int)) (v4 : Nat → ((List Int) × (List Int) × (List Int) × (List Int))) (v6 : Nat → ((List Int) × (List Int) × (List Int) × (List Int))) (n_ : Nat) {res_ : Option (((List Int) × (List Int) × (List Int) × (List Int)) × ((List Int) × Int × Int))} (hstep_ : ∀ j_, j_ < n_ → ∀ kx_, pspec_l1Cur_someLots_B2 N kx_ (v5 j_) (v7 j_) (v8 j_) (v9 j_) (v10 j_) (v11 j_) (app1 j_) (v4 j_) (v6 j_) = kx_ (v5 (j_ + 1)) (v7 (j_ + 1)) (v8 (j_ + 1)) (v9 (j_ + 1)) (v10 (j_ + 1)) (v11 (j_ + 1)) (app1 (j_ + 1)) (v4 (j_ + 1)) (v6 (j_ + 1))) (hend_ : ∀ kx_, pspec_l1Cur_someLots_B2 N kx_ (v5 n_) (v7 n_) (v8 n_) (v9 n_) (v10 n_) (v11 n_) (app1 n_) (v4 n_) (v6 n_) = res_) (fu_ : Nat) (hm_ : n_ < fu_) : pspec_l1Cur_someLots_L2 N fu_ (v5 0) (v7 0) (v8 0) (v9 0) (v10 0) (v11 0) (app1 0) (v4 0) (v6 0) = res_ := by
  exact loop_run (L := fun fu_ (x_ : Int × Bool × Int × Int × Int × Int × ((List Int) × Int × Int) × ((List Int) × (List Int) × (List Int) × (List Int)) × ((List Int) × (List Int) × (List Int) × (List Int))) => pspec_l1Cur_someLots_L2 N fu_ x_.1 x_.2.1 x_.2.2.1 x_.2.2.2.1 x_.2.2.2.2.1 x_.2.2.2.2.2.1 x_.2.2.2.2.2.2.1 x_.2.2.2.2.2.2.2.1 x_.2.2.2.2.2.2.2.2) (B := fun kx_ x_ => pspec_l1Cur_someLots_B2 N (fun v5 v7 v8 v9 v10 v11 app1 v4 v6 => kx_ (v5, v7, v8, v9, v10, v11, app1, v4, v6)) x_.1 x_.2.1 x_.2.2.1 x_.2.2.2.1 x_.2.2.2.2.1 x_.2.2.2.2.2.1 x_.2.2.2.2.2.2.1 x_.2.2.2.2.2.2.2.1 x_.2.2.2.2.2.2.2.2) (fun _ _ => rfl) (fun j_ => (v5 j_, v7 j_, v8 j_, v9 j_, v10 j_, v11 j_, app1 j_, v4 j_, v6 j_)) n_ (fun j_ hi_ kx_ => hstep_ j_ hi_ _) (fun kx_ => hend_ _) fu_ hm_
def pspec_l1Cur_someLots (N : Nat) (app : (List Int) × Int × Int) (v1 : Int) : Option (((List Int) × (List Int) × (List Int) × (List Int)) × ((List Int) × Int × Int)) :=
  (pspec_l1Cur_among N app [4, 5, 3, 6, 8, 2, 1, 0]).bind fun r =>
  (spec_l1Least N r.1 v1).bind fun r1 =>
  (pspec_l1Cur_one N r.2 2).bind fun r2 =>
  (pspec_l1Cur_among N r2.2 [0, 3, 5, 8, 12, 20]).bind fun r3 =>
  (pspec_l1Cur_pick N r3.2 3).bind fun r4 =>
  (pspec_l1Cur_pick N r4.2 2).bind fun r5 =>
  pspec_l1Cur_someLots_L2 N N r1.1 r2.1 r3.1 r4.1 (iadd .i64 1 r5.1) 0 r5.2 ([], ([], ([], []))) ([], ([], ([], [])))
def pspec_l1Cur_amounts_K1 (N : Nat) (kx1 : Int → Int → ((List Int) × Int × Int) → ((List Int) × (List Int) × (List Int) × (List Int)) → (List Int) → Option ((List Int) × ((List Int) × Int × Int))) (v62 : Int) (v71 : Int) (v8 : Int) (app3 : (List Int) × Int × Int) (v32 : (List Int) × (List Int) × (List Int) × (List Int)) (v52 : List Int) : Option ((List Int) × ((List Int) × Int × Int)) :=
  (pspec_l1Cur_one N app3 2).bind fun r3 =>
  bif r3.1 then
    (pspec_l1Cur_pick N r3.2 v71).bind fun r4 =>
    chk (inB v8 v52.length) <|
    chk (inB v8 v52.length) <|
    kx1 v62 (isub .i64 v71 (iadd .i64 1 r4.1)) r4.2 v32 (List.set v52 v8.toNat (iadd .i64 (gd v52 v8.toNat 0) (iadd .i64 1 r4.1)))
  else
    chk (inB v8 v52.length) <|
    chk (inB v8 v52.length) <|
    kx1 v62 (isub .i64 v71 v71) r3.2 v32 (List.set v52 v8.toNat (iadd .i64 (gd v52 v8.toNat 0) v71))
def pspec_l1Cur_amounts_K2 (N : Nat) (kx : Int → ((List Int) × Int × Int) → ((List Int) × (List Int) × (List Int) × (List Int)) → (List Int) → Option ((List Int) × ((List Int) × Int × Int))) (v63 : Int) (app4 : (List Int) × Int × Int) (v33 : (List Int) × (List Int) × (List Int) × (List Int)) (v53 : List Int) : Option ((List Int) × ((List Int) × Int × Int)) :=
  kx (iadd .i64 v63 1) app4 v33 v53
def pspec_l1Cur_amounts_B1 (N : Nat) (kx : Int → ((List Int) × Int × Int) → ((List Int) × (List Int) × (List Int) × (List Int)) → (List Int) → Option ((List Int) × ((List Int) × Int × Int))) (kx1 : Int → Int → ((List Int) × Int × Int) → ((List Int) × (List Int) × (List Int) × (List Int)) → (List Int) → Option ((List Int) × ((List Int) × Int × Int))) (v61 : Int) (v7 : Int) (app2 : (List Int) × Int × Int) (v31 : (List Int) × (List Int) × (List Int) × (List Int)) (v51 : List Int) : Option ((List Int) × ((List Int) × Int × Int)) :=
  bif ilt 0 v7 then
    (pspec_l1Cur_one N app2 2).bind fun r1 =>
    bif r1.1 then
      (pspec_l1Cur_pick N r1.2 (iadd .i64 v61 1)).bind fun r2 =>
      pspec_l1Cur_amounts_K1 N kx1 v61 v7 r2.1 r2.2 v31 v51
    else
      pspec_l1Cur_amounts_K1 N kx1 v61 v7 v61 r1.2 v31 v51
  else
    pspec_l1Cur_amounts_K2 N kx v61 app2 v31 v51
def pspec_l1Cur_amounts_L1 (N fu_ : Nat) (kx : Int → ((List Int) × Int × Int) → ((List Int) × (List Int) × (List Int) × (List Int)) → (List Int) → Option ((List Int) × ((List Int) × Int × Int))) (v61 : Int) (v7 : Int) (app2 : (List Int) × Int × Int) (v31 : (List Int) × (List Int) × (List Int) × (List Int)) (v51 : List Int) : Option ((List Int) × ((List Int) × Int × Int)) :=
  iterK fu_ (fun kx1 (v_ : (Int × Int × Unit) × (((List Int) × Int × Int) × ((List Int) × (List Int) × (List Int) × (List Int)) × (List Int) × Unit)) => pspec_l1Cur_amounts_B1 N kx (fun v61 v7 app2 v31 v51 => kx1 ((v61, v7, ()), (app2, v31, v51, ()))) v_.1.1 v_.1.2.1 v_.2.1 v_.2.2.1 v_.2.2.2.1) ((v61, v7, ()), (app2, v31, v51, ()))
theorem pspec_l1Cur_amounts_L1_succ (N fu_ : Nat) (kx : Int → ((List Int) × Int × Int) → ((List Int) × (List Int) × (List Int) × (List Int)) → (List Int) → Option ((List Int) × ((List Int) × Int × Int))) (v61 : Int) (v7 : Int) (app2 : (List Int) × Int × Int) (v31 : (List Int) × (List Int) × (List Int) × (List Int)) (v51 : List Int) : pspec_l1Cur_amounts_L1 N (fu_ + 1) kx v61 v7 app2 v31 v51 = pspec_l1Cur_amounts_B1 N kx (fun v61 v7 app2 v31 v51 => pspec_l1Cur_amounts_L1 N fu_ kx v61 v7 app2 v31 v51) v61 v7 app2 v31 v51 := rfl
theorem pspec_l1Cur_amounts_L1_run (N : Nat) (kx : Int → ((List Int) × Int × Int) → ((List Int) × (List Int) × (List Int) × (List Int)) → (List Int) → Option ((List Int) × ((List Int) × Int × Int))) (v61 : Nat → Int) (v7 : Nat → Int) (app2 : Nat → ((List Int) × Int × Int)) (v31 : Nat → ((List Int) × (List Int) × (List Int) × (List Int))) (v51 : Nat → (List Int)) (n_ : Nat) {res_ : Option ((List Int) × ((List Int) × Int × Int))} (hstep_ : ∀ j_, j_ < n_ → ∀ kx_, pspec_l1Cur_amounts_B1 N kx kx_ (v61 j_) (v7 j_) (app2 j_) (v31 j_) (v51 j_) = kx_ (v61 (j_ + 1)) (v7 (j_ + 1)) (app2 (j_ + 1)) (v31 (j_ + 1)) (v51 (j_ + 1))) (hend_ : ∀ kx_, pspec_l1Cur_amounts_B1 N kx kx_ (v61 n_) (v7 n_) (app2 n_) (v31 n_) (v51 n_) = res_) (fu_ : Nat) (hm_ : n_ < fu_) : pspec_l1Cur_amounts_L1 N fu_ kx (v61 0) (v7 0) (app2 0) (v31 0) (v51 0) = res_ := by
  exact loop_run (L := fun fu_ (x_ : Int × Int × ((List Int) × Int × Int) × ((List Int) × (List Int) × (List Int) × (List Int)) × (List Int)) => pspec_l1Cur_amounts_L1 N fu_ kx x_.1 x_.2.1 x_.2.2.1 x_.2.2.2.1 x_.2.2.2.2) (B := fun kx_ x_ => pspec_l1Cur_amounts_B1 N kx (fun v61 v7 app2 v31 v51 => kx_ (v61, v7, app2, v31, v51)) x_.1 x_.2.1 x_.2.2.1 x_.2.2.2.1 x_.2.2.2.2) (fun _ _ => rfl) (fun j_ => (v61 j_, v7 j_, app2 j_, v31 j_, v51 j_)) n_ (fun j_ hi_ kx_ => hstep_ j_ hi_ _) (fun kx_ => hend_ _) fu_ hm_
def pspec_l1Cur_amounts_K3 (N : Nat) (app5 : (List Int) × Int × Int) (v54 : List Int) : Option ((List Int) × ((List Int) × Int × Int)) :=
  (pspec_l1Cur_pick N app5 30).bind fun r5 =>
  bif ieq r5.1 0 then
    (pspec_l1Cur_among N r5.2 [0, 1]).bind fun r6 =>
    chk (fitB (v54.length + 1) 8) <|
    some (v54 ++ [r6.1], r6.2)
  else
    bif ieq r5.1 1 then
      bif ilt 0 (len v54) then
        (pspec_l1Cur_pick N r5.2 (len v54)).bind fun r7 =>
        chk (inB r7.1 v54.length) <|
        (pspec_l1Cur_among N r7.2 [1, (-1), 4611686018427387904, (-9223372036854775808)]).bind fun r8 =>
        chk (inB r7.1 v54.length) <|
        some (List.set v54 r7.1.toNat (iadd .i64 (gd v54 r7.1.toNat 0) r8.1), r8.2)
      else
        some (v54, r5.2)
    else
      some (v54, r5.2)
def pspec_l1Cur_amounts_B2 (N : Nat) (kx : Int → ((List Int) × Int × Int) → ((List Int) × (List Int) × (List Int) × (List Int)) → (List Int) → Option ((List Int) × ((List Int) × Int × Int))) (v6 : Int) (app1 : (List Int) × Int × Int) (v3 : (List Int) × (List Int) × (List Int) × (List Int)) (v5 : List Int) : Option ((List Int) × ((List Int) × Int × Int)) :=
  bif ilt v6 (len v3.1) then
    chk (inB v6 v3.1.length) <|
    pspec_l1Cur_amounts_L1 N N kx v6 (gd v3.1 v6.toNat 0) app1 v3 v5
  else
    pspec_l1Cur_amounts_K3 N app1 v5
def pspec_l1Cur_amounts_L2 (N fu_ : Nat) (v6 : Int) (app1 : (List Int) × Int × Int) (v3 : (List Int) × (List Int) × (List Int) × (List Int)) (v5 : List Int) : Option ((List Int) × ((List Int) × Int × Int)) :=
  iterK fu_ (fun kx (v_ : (Int × Unit) × (((List Int) × Int × Int) × ((List Int) × (List Int) × (List Int) × (List Int)) × (List Int) × Unit)) => pspec_l1Cur_amounts_B2 N (fun v6 app1 v3 v5 => kx ((v6, ()), (app1, v3, v5, ()))) v_.1.1 v_.2.1 v_.2.2.1 v_.2.2.2.1) ((v6, ()), (app1, v3, v5, ()))
theorem pspec_l1Cur_amounts_L2_succ (N fu_ : Nat) (v6 : Int) (app1 : (List Int) × Int × Int) (v3 : (List Int) × (List Int) × (List Int) × (List Int)) (v5 : List Int) : pspec_l1Cur_amounts_L2 N (fu_ + 1) v6 app1 v3 v5 = pspec_l1Cur_amounts_B2 N (fun v6 app1 v3 v5 => pspec_l1Cur_amounts_L2 N fu_ v6 app1 v3 v5) v6 app1 v3 v5 := rfl
theorem pspec_l1Cur_amounts_L2_run (N : Nat) (v6 : Nat → Int) (app1 : Nat → ((List Int) × Int × Int)) (v3 : Nat → ((List Int) × (List Int) × (List Int) × (List Int))) (v5 : Nat → (List Int)) (n_ : Nat) {res_ : Option ((List Int) × ((List Int) × Int × Int))} (hstep_ : ∀ j_, j_ < n_ → ∀ kx_, pspec_l1Cur_amounts_B2 N kx_ (v6 j_) (app1 j_) (v3 j_) (v5 j_) = kx_ (v6 (j_ + 1)) (app1 (j_ + 1)) (v3 (j_ + 1)) (v5 (j_ + 1))) (hend_ : ∀ kx_, pspec_l1Cur_amounts_B2 N kx_ (v6 n_) (app1 n_) (v3 n_) (v5 n_) = res_) (fu_ : Nat) (hm_ : n_ < fu_) : pspec_l1Cur_amounts_L2 N fu_ (v6 0) (app1 0) (v3 0) (v5 0) = res_ := by
  exact loop_run (L := fun fu_ (x_ : Int × ((List Int) × Int × Int) × ((List Int) × (List Int) × (List Int) × (List Int)) × (List Int)) => pspec_l1Cur_amounts_L2 N fu_ x_.1 x_.2.1 x_.2.2.1 x_.2.2.2) (B := fun kx_ x_ => pspec_l1Cur_amounts_B2 N (fun v6 app1 v3 v5 => kx_ (v6, app1, v3, v5)) x_.1 x_.2.1 x_.2.2.1 x_.2.2.2) (fun _ _ => rfl) (fun j_ => (v6 j_, app1 j_, v3 j_, v5 j_)) n_ (fun j_ hi_ kx_ => hstep_ j_ hi_ _) (fun kx_ => hend_ _) fu_ hm_
def pspec_l1Cur_amounts (N : Nat) (app : (List Int) × Int × Int) (v1 : (List Int) × (List Int) × (List Int) × (List Int)) : Option ((List Int) × ((List Int) × Int × Int)) :=
  chk (mkB (len v1.1) 8) <|
  (spec_l2Good N v1).bind fun r =>
  bif !r.1 then
    some (List.replicate (len v1.1).toNat 0, app)
  else
    pspec_l1Cur_amounts_L2 N N 0 app v1 (List.replicate (len v1.1).toNat 0)
def pspec_l1Cur_ledger_K1 (N : Nat) (app2 : (List Int) × Int × Int) (v21 : ((List Int) × (List Int) × (List Int) × (List Int)) × (List Int) × Int) (v41 : ((List Int) × (List Int) × (List Int) × (List Int)) × (List Int) × Int) : Option ((((List Int) × (List Int) × (List Int) × (List Int)) × (List Int) × Int) × ((List Int) × Int × Int)) :=
  (pspec_l1Cur_pick N app2 48).bind fun r6 =>
  bif ieq r6.1 0 then
    (pspec_l1Cur_among N r6.2 [(-1), 8, 9]).bind fun r7 =>
    some ((v41.1, (v41.2.1, r7.1)), r7.2)
  else
    bif ieq r6.1 1 then
      (pspec_l1Cur_among N r6.2 [0, (-1), 201]).bind fun r8 =>
      chk (fitB (v41.2.1.length + 1) 8) <|
      some ((v41.1, (v41.2.1 ++ [r8.1], v41.2.2)), r8.2)
    else
      bif ieq r6.1 2 then
        bif ilt 0 (len v41.2.1) then
          (pspec_l1Cur_among N r6.2 [0, 200, 201, (-1)]).bind fun r9 =>
          chk (inB 0 v41.2.1.length) <|
          some ((v41.1, (List.set v41.2.1 0 r9.1, v41.2.2)), r9.2)
        else
          some (v41, r6.2)
      else
        some (v41, r6.2)
def pspec_l1Cur_ledger_B1 (N : Nat) (kx : Int → ((List Int) × Int × Int) → (((List Int) × (List Int) × (List Int) × (List Int)) × (List Int) × Int) → (((List Int) × (List Int) × (List Int) × (List Int)) × (List Int) × Int) → Option ((((List Int) × (List Int) × (List Int) × (List Int)) × (List Int) × Int) × ((List Int) × Int × Int))) (v5 : Int) (app1 : (List Int) × Int × Int) (v2 : ((List Int) × (List Int) × (List Int) × (List Int)) × (List Int) × Int) (v4 : ((List Int) × (List Int) × (List Int) × (List Int)) × (List Int) × Int) : Option ((((List Int) × (List Int) × (List Int) × (List Int)) × (List Int) × Int) × ((List Int) × Int × Int)) :=
  bif ilt 0 v5 then
    (spec_l12Good N v4).bind fun r3 =>
    bif r3.1 then
      (pspec_l1Cur_act12 N app1 v4).bind fun r4 =>
      (spec_l12Do N v4 r4.1).bind fun r5 =>
      bif r5.1.2 then
        kx (isub .i64 v5 1) r4.2 v2 r5.1.1
      else
        kx (isub .i64 v5 1) r4.2 v2 v4
    else
      pspec_l1Cur_ledger_K1 N app1 v2 v4
  else
    pspec_l1Cur_ledger_K1 N app1 v2 v4
def pspec_l1Cur_ledger_L1 (N fu_ : Nat) (v5 : Int) (app1 : (List Int) × Int × Int) (v2 : ((List Int) × (List Int) × (List Int) × (List Int)) × (List Int) × Int) (v4 : ((List Int) × (List Int) × (List Int) × (List Int)) × (List Int) × Int) : Option ((((List Int) × (List Int) × (List Int) × (List Int)) × (List Int) × Int) × ((List Int) × Int × Int)) :=
  iterK fu_ (fun kx (v_ : (Int × Unit) × (((List Int) × Int × Int) × (((List Int) × (List Int) × (List Int) × (List Int)) × (List Int) × Int) × (((List Int) × (List Int) × (List Int) × (List Int)) × (List Int) × Int) × Unit)) => pspec_l1Cur_ledger_B1 N (fun v5 app1 v2 v4 => kx ((v5, ()), (app1, v2, v4, ()))) v_.1.1 v_.2.1 v_.2.2.1 v_.2.2.2.1) ((v5, ()), (app1, v2, v4, ()))
theorem pspec_l1Cur_ledger_L1_succ (N fu_ : Nat) (v5 : Int) (app1 : (List Int) × Int × Int) (v2 : ((List Int) × (List Int) × (List Int) × (List Int)) × (List Int) × Int) (v4 : ((List Int) × (List Int) × (List Int) × (List Int)) × (List Int) × Int) : pspec_l1Cur_ledger_L1 N (fu_ + 1) v5 app1 v2 v4 = pspec_l1Cur_ledger_B1 N (fun v5 app1 v2 v4 => pspec_l1Cur_ledger_L1 N fu_ v5 app1 v2 v4) v5 app1 v2 v4 := rfl
theorem pspec_l1Cur_ledger_L1_run (N : Nat) (v5 : Nat → Int) (app1 : Nat → ((List Int) × Int × Int)) (v2 : Nat → (((List Int) × (List Int) × (List Int) × (List Int)) × (List Int) × Int)) (v4 : Nat → (((List Int) × (List Int) × (List Int) × (List Int)) × (List Int) × Int)) (n_ : Nat) {res_ : Option ((((List Int) × (List Int) × (List Int) × (List Int)) × (List Int) × Int) × ((List Int) × Int × Int))} (hstep_ : ∀ j_, j_ < n_ → ∀ kx_, pspec_l1Cur_ledger_B1 N kx_ (v5 j_) (app1 j_) (v2 j_) (v4 j_) = kx_ (v5 (j_ + 1)) (app1 (j_ + 1)) (v2 (j_ + 1)) (v4 (j_ + 1))) (hend_ : ∀ kx_, pspec_l1Cur_ledger_B1 N kx_ (v5 n_) (app1 n_) (v2 n_) (v4 n_) = res_) (fu_ : Nat) (hm_ : n_ < fu_) : pspec_l1Cur_ledger_L1 N fu_ (v5 0) (app1 0) (v2 0) (v4 0) = res_ := by
  exact loop_run (L := fun fu_ (x_ : Int × ((List Int) × Int × Int) × (((List Int) × (List Int) × (List Int) × (List Int)) × (List Int) × Int) × (((List Int) × (List Int) × (List Int) × (List Int)) × (List Int) × Int)) => pspec_l1Cur_ledger_L1 N fu_ x_.1 x_.2.1 x_.2.2.1 x_.2.2.2) (B := fun kx_ x_ => pspec_l1Cur_ledger_B1 N (fun v5 app1 v2 v4 => kx_ (v5, app1, v2, v4)) x_.1 x_.2.1 x_.2.2.1 x_.2.2.2) (fun _ _ => rfl) (fun j_ => (v5 j_, app1 j_, v2 j_, v4 j_)) n_ (fun j_ hi_ kx_ => hstep_ j_ hi_ _) (fun kx_ => hend_ _) fu_ hm_
def pspec_l1Cur_ledger (N : Nat) (app : (List Int) × Int × Int) : Option ((((List Int) × (List Int) × (List Int) × (List Int)) × (List Int) × Int) × ((List Int) × Int × Int)) :=
  (pspec_l1Cur_someLots N app 6).bind fun r =>
  (pspec_l1Cur_amounts N r.2 r.1).bind fun r1 =>
  (pspec_l1Cur_pick N r1.2 6).bind fun r2 =>
  pspec_l1Cur_ledger_L1 N N r2.1 r2.2 (([], ([], ([], []))), ([], 0)) (r.1, (r1.1, 0))
def spec_DrawIsLedger (N : Nat) (code : List Int) : Option ((((List Int) × (List Int) × (List Int) × (List Int)) × (List Int) × Int) × Unit) :=
  (pspec_l1Cur_ledger N (code, (0, 0))).bind fun r =>
  some (r.1, ())
def spec_DrawStockNow (N : Nat) (code : List Int) : Option ((((List Int) × (List Int) × (List Int) × (List Int)) × (List Int) × Int) × Unit) :=
  (spec_DrawIsLedger N code).bind fun r =>
  some (r.1, ())
def impl_StockNow (N : Nat) (l : ((List Int) × (List Int) × (List Int) × (List Int)) × (List Int) × Int) : Option ((Int × Bool) × Unit) :=
  (impl_IsLedger N l).bind fun r =>
  bif !r.1 then
    some ((0, false), ())
  else
    (impl_Ledger_stock N l l.2.2).bind fun r1 =>
    some ((r1.1, true), ())
def spec_StockNow (N : Nat) (l : ((List Int) × (List Int) × (List Int) × (List Int)) × (List Int) × Int) : Option ((Int × Bool) × Unit) :=
  (spec_l12Good N l).bind fun r =>
  bif !r.1 then
    some ((0, false), ())
  else
    (spec_l12Stock N l l.2.2).bind fun r1 =>
    some ((r1.1, true), ())
def impl_CostNow (N : Nat) (l : ((List Int) × (List Int) × (List Int) × (List Int)) × (List Int) × Int) : Option ((Int × Bool) × Unit) :=
  (impl_IsLedger N l).bind fun r =>
  bif !r.1 then
    some ((0, false), ())
  else
    (impl_Ledger_cost N l 0 l.2.2).bind fun r1 =>
    some ((r1.1, true), ())
def spec_l12Cost_K1 (N : Nat) (sum1 : Int) : Option (Int × Unit) :=
  some (sum1, ())
def spec_l12Cost_B1 (N : Nat) (kx : Int → Int → Int → (((List Int) × (List Int) × (List Int) × (List Int)) × (List Int) × Int) → Option (Int × Unit)) (to1 : Int) (sum : Int) (t : Int) (l1 : ((List Int) × (List Int) × (List Int) × (List Int)) × (List Int) × Int) : Option (Int × Unit) :=
  bif ilt t to1 then
    chk (inB t l1.1.2.2.1.length) <|
    chk (inB t l1.2.1.length) <|
    chk (inB t l1.1.2.2.2.length) <|
    (spec_l12Stock N l1 (iadd .i64 t 1)).bind fun r =>
    chk (inB t l1.2.1.length) <|
    bif ilt 0 (gd l1.2.1 t.toNat 0) then
      chk (inB t l1.1.2.1.length) <|
      kx to1 (iadd .i64 (iadd .i64 (iadd .i64 sum (imul .i64 (gd l1.1.2.2.1 t.toNat 0) (gd l1.2.1 t.toNat 0))) (imul .i64 (gd l1.1.2.2.2 t.toNat 0) r.1)) (gd l1.1.2.1 t.toNat 0)) (iadd .i64 t 1) l1
    else
      kx to1 (iadd .i64 (iadd .i64 sum (imul .i64 (gd l1.1.2.2.1 t.toNat 0) (gd l1.2.1 t.toNat 0))) (imul .i64 (gd l1.1.2.2.2 t.toNat 0) r.1)) (iadd .i64 t 1) l1
  else
    spec_l12Cost_K1 N sum
def spec_l12Cost_L1 (N fu_ : Nat) (to1 : Int) (sum : Int) (t : Int) (l1 : ((List Int) × (List Int) × (List Int) × (List Int)) × (List Int) × Int) : Option (Int × Unit) :=
  iterK fu_ (fun kx (v_ : (Int × Int × Int × Unit) × ((((List Int) × (List Int) × (List Int) × (List Int)) × (List Int) × Int) × Unit)) => spec_l12Cost_B1 N (fun to1 sum t l1 => kx ((to1, sum, t, ()), (l1, ()))) v_.1.1 v_.1.2.1 v_.1.2.2.1 v_.2.1) ((to1, sum, t, ()), (l1, ()))
theorem spec_l12Cost_L1_succ (N fu_ : Nat) (to1 : Int) (sum : Int) (t : Int) (l1 : ((List Int) × (List Int) × (List Int) × (List Int)) × (List Int) × Int) : spec_l12Cost_L1 N (fu_ + 1) to1 sum t l1 = spec_l12Cost_B1 N (fun to1 sum t l1 => spec_l12Cost_L1 N fu_ to1 sum t l1) to1 sum t l1 := rfl
theorem spec_l12Cost_L1_run (N : Nat) (to1 : Nat → Int) (sum : Nat → Int) (t : Nat → Int) (l1 : Nat → (((List Int) × (List Int) × (List Int) × (List Int)) × (List Int) × Int)) (n_ : Nat) {res_ : Option (Int × Unit)} (hstep_ : ∀ j_, j_ < n_ → ∀ kx_, spec_l12Cost_B1 N kx_ (to1 j_) (sum j_) (t j_) (l1 j_) = kx_ (to1 (j_ + 1)) (sum (j_ + 1)) (t (j_ + 1)) (l1 (j_ + 1))) (hend_ : ∀ kx_, spec_l12Cost_B1 N kx_ (to1 n_) (sum n_) (t n_) (l1 n_) = res_) (fu_ : Nat) (hm_ : n_ < fu_) : spec_l12Cost_L1 N fu_ (to1 0) (sum 0) (t 0) (l1 0) = res_ := by
  exact loop_run (L := fun fu_ (x_ : Int × Int × Int × (((List Int) × (List Int) × (List Int) × (List Int)) × (List Int) × Int)) => spec_l12Cost_L1 N fu_ x_.1 x_.2.1 x_.2.2.1 x_.2.2.2) (B := fun kx_ x_ => spec_l12Cost_B1 N (fun to1 sum t l1 => kx_ (to1, sum, t, l1)) x_.1 x_.2.1 x_.2.2.1 x_.2.2.2) (fun _ _ => rfl) (fun j_ => (to1 j_, sum j_, t j_, l1 j_)) n_ (fun j_ hi_ kx_ => hstep_ j_ hi_ _) (fun kx_ => hend_ _) fu_ hm_
def spec_l12Cost (N : Nat) (l : ((List Int) × (List Int) × (List Int) × (List Int)) × (List Int) × Int) (fromx : Int) (to : Int) : Option (Int × Unit) :=
  spec_l12Cost_L1 N N to 0 fromx l
def spec_CostNow (N : Nat) (l : ((List Int) × (List Int) × (List Int) × (List Int)) × (List Int) × Int) : Option ((Int × Bool) × Unit) :=
  (spec_l12Good N l).bind fun r =>
  bif !r.1 then
    some ((0, false), ())
  else
    (spec_l12Cost N l 0 l.2.2).bind fun r1 =>
    some ((r1.1, true), ())
def spec_l12Short_K1 (N : Nat) (out1 : List Int) : Option ((List Int) × Unit) :=
  some (out1, ())
def spec_l12Short_B1 (N : Nat) (kx : Int → (((List Int) × (List Int) × (List Int) × (List Int)) × (List Int) × Int) → (List Int) → Option ((List Int) × Unit)) (t : Int) (l1 : ((List Int) × (List Int) × (List Int) × (List Int)) × (List Int) × Int) (out : List Int) : Option ((List Int) × Unit) :=
  bif ilt t (len l1.2.1) then
    (spec_l12Stock N l1 (iadd .i64 t 1)).bind fun r =>
    bif ilt r.1 0 then
      chk (fitB (out.length + 1) 8) <|
      kx (iadd .i64 t 1) l1 (out ++ [t])
    else
      kx (iadd .i64 t 1) l1 out
  else
    spec_l12Short_K1 N out
def spec_l12Short_L1 (N fu_ : Nat) (t : Int) (l1 : ((List Int) × (List Int) × (List Int) × (List Int)) × (List Int) × Int) (out : List Int) : Option ((List Int) × Unit) :=
  iterK fu_ (fun kx (v_ : (Int × Unit) × ((((List Int) × (List Int) × (List Int) × (List Int)) × (List Int) × Int) × (List Int) × Unit)) => spec_l12Short_B1 N (fun t l1 out => kx ((t, ()), (l1, out, ()))) v_.1.1 v_.2.1 v_.2.2.1) ((t, ()), (l1, out, ()))
theorem spec_l12Short_L1_succ (N fu_ : Nat) (t : Int) (l1 : ((List Int) × (List Int) × (List Int) × (List Int)) × (List Int) × Int) (out : List Int) : spec_l12Short_L1 N (fu_ + 1) t l1 out = spec_l12Short_B1 N (fun t l1 out => spec_l12Short_L1 N fu_ t l1 out) t l1 out := rfl
theorem spec_l12Short_L1_run (N : Nat) (t : Nat → Int) (l1 : Nat → (((List Int) × (List Int) × (List Int) × (List Int)) × (List Int) × Int)) (out : Nat → (List Int)) (n_ : Nat) {res_ : Option ((List Int) × Unit)} (hstep_ : ∀ j_, j_ < n_ → ∀ kx_, spec_l12Short_B1 N kx_ (t j_) (l1 j_) (out j_) = kx_ (t (j_ + 1)) (l1 (j_ + 1)) (out (j_ + 1))) (hend_ : ∀ kx_, spec_l12Short_B1 N kx_ (t n_) (l1 n_) (out n_) = res_) (fu_ : Nat) (hm_ : n_ < fu_) : spec_l12Short_L1 N fu_ (t 0) (l1 0) (out 0) = res_ := by
  exact loop_run (L := fun fu_ (x_ : Int × (((List Int) × (List Int) × (List Int) × (List Int)) × (List Int) × Int) × (List Int)) => spec_l12Short_L1 N fu_ x_.1 x_.2.1 x_.2.2) (B := fun kx_ x_ => spec_l12Short_B1 N (fun t l1 out => kx_ (t, l1, out)) x_.1 x_.2.1 x_.2.2) (fun _ _ => rfl) (fun j_ => (t j_, l1 j_, out j_)) n_ (fun j_ hi_ kx_ => hstep_ j_ hi_ _) (fun kx_ => hend_ _) fu_ hm_
def spec_l12Short (N : Nat) (l : ((List Int) × (List Int) × (List Int) × (List Int)) × (List Int) × Int) : Option ((List Int) × Unit) :=
  spec_l12Short_L1 N N l.2.2 l []
def spec_ShortPeriods (N : Nat) (l : ((List Int) × (List Int) × (List Int) × (List Int)) × (List Int) × Int) : Option (((List Int) × Bool) × Unit) :=
  (spec_l12Good N l).bind fun r =>
  bif !r.1 then
    some (([], false), ())
  else
    (spec_l12Short N l).bind fun r1 =>
    some ((r1.1, true), ())
def spec_CostAhead (N : Nat) (l : ((List Int) × (List Int) × (List Int) × (List Int)) × (List Int) × Int) : Option ((Int × Bool) × Unit) :=
  (spec_l12Good N l).bind fun r =>
  bif !r.1 then
    some ((0, false), ())
  else
    (spec_l12Short N l).bind fun r1 =>
    bif ilt 0 (len r1.1) then
      some ((0, false), ())
    else
      (spec_l12Cost N l l.2.2 (len l.2.1)).bind fun r2 =>
      some ((r2.1, true), ())
def impl_NeedsLeft (N : Nat) (l : ((List Int) × (List Int) × (List Int) × (List Int)) × (List Int) × Int) : Option (((List Int) × Bool) × Unit) :=
  (impl_IsLedger N l).bind fun r =>
  bif !r.1 then
    some (([], false), ())
  else
    (impl_Ledger_needsLeft N l).bind fun r1 =>
    some ((r1.1, true), ())
def spec_NeedsLeft (N : Nat) (l : ((List Int) × (List Int) × (List Int) × (List Int)) × (List Int) × Int) : Option (((List Int) × Bool) × Unit) :=
  (spec_l12Good N l).bind fun r =>
  bif !r.1 then
    some (([], false), ())
  else
    (spec_l12Left N l).bind fun r1 =>
    some ((r1.1, true), ())
def laws_vInts_K1 (N : Nat) : Option (Bool × Unit) :=
  some (true, ())
def laws_vInts_B1 (N : Nat) (kx : (List Int) → (List Int) → Int → Option (Bool × Unit)) (a1 : List Int) (b1 : List Int) (i : Int) : Option (Bool × Unit) :=
  bif ilt i (len a1) then
    chk (inB i a1.length) <|
    chk (inB i b1.length) <|
    bif ine (gd a1 i.toNat 0) (gd b1 i.toNat 0) then
      some (false, ())
    else
      kx a1 b1 (iadd .i64 i 1)
  else
    laws_vInts_K1 N
def laws_vInts_L1 (N fu_ : Nat) (a1 : List Int) (b1 : List Int) (i : Int) : Option (Bool × Unit) :=
  iterK fu_ (fun kx (v_ : ((List Int) × (List Int) × Int × Unit) × (Unit)) => laws_vInts_B1 N (fun a1 b1 i => kx ((a1, b1, i, ()), ())) v_.1.1 v_.1.2.1 v_.1.2.2.1) ((a1, b1, i, ()), ())
theorem laws_vInts_L1_succ (N fu_ : Nat) (a1 : List Int) (b1 : List Int) (i : Int) : laws_vInts_L1 N (fu_ + 1) a1 b1 i = laws_vInts_B1 N (fun a1 b1 i => laws_vInts_L1 N fu_ a1 b1 i) a1 b1 i := rfl
theorem laws_vInts_L1_run (N : Nat) (a1 : Nat → (List Int)) (b1 : Nat → (List Int)) (i : Nat → Int) (n_ : Nat) {res_ : Option (Bool × Unit)} (hstep_ : ∀ j_, j_ < n_ → ∀ kx_, laws_vInts_B1 N kx_ (a1 j_) (b1 j_) (i j_) = kx_ (a1 (j_ + 1)) (b1 (j_ + 1)) (i (j_ + 1))) (hend_ : ∀ kx_, laws_vInts_B1 N kx_ (a1 n_) (b1 n_) (i n_) = res_) (fu_ : Nat) (hm_ : n_ < fu_) : laws_vInts_L1 N fu_ (a1 0) (b1 0) (i 0) = res_ := by
  exact loop_run (L := fun fu_ (x_ : (List Int) × (List Int) × Int) => laws_vInts_L1 N fu_ x_.1 x_.2.1 x_.2.2) (B := fun kx_ x_ => laws_vInts_B1 N (fun a1 b1 i => kx_ (a1, b1, i)) x_.1 x_.2.1 x_.2.2) (fun _ _ => rfl) (fun j_ => (a1 j_, b1 j_, i j_)) n_ (fun j_ hi_ kx_ => hstep_ j_ hi_ _) (fun kx_ => hend_ _) fu_ hm_
def laws_vInts (N : Nat) (a : List Int) (b : List Int) : Option (Bool × Unit) :=
  bif ine (len a) (len b) then
    some (false, ())
  else
    laws_vInts_L1 N N a b 0
def laws_vAdd_K1 (N : Nat) (n1 : Int) : Option (Int × Unit) :=
  some (n1, ())
def laws_vAdd_B1 (N : Nat) (kx : (List Int) → Int → Int → Option (Int × Unit)) (list1 : List Int) (n : Int) (i : Int) : Option (Int × Unit) :=
  bif ilt i (len list1) then
    chk (inB i list1.length) <|
    kx list1 (iadd .i64 n (gd list1 i.toNat 0)) (iadd .i64 i 1)
  else
    laws_vAdd_K1 N n
def laws_vAdd_L1 (N fu_ : Nat) (list1 : List Int) (n : Int) (i : Int) : Option (Int × Unit) :=
  iterK fu_ (fun kx (v_ : ((List Int) × Int × Int × Unit) × (Unit)) => laws_vAdd_B1 N (fun list1 n i => kx ((list1, n, i, ()), ())) v_.1.1 v_.1.2.1 v_.1.2.2.1) ((list1, n, i, ()), ())
theorem laws_vAdd_L1_succ (N fu_ : Nat) (list1 : List Int) (n : Int) (i : Int) : laws_vAdd_L1 N (fu_ + 1) list1 n i = laws_vAdd_B1 N (fun list1 n i => laws_vAdd_L1 N fu_ list1 n i) list1 n i := rfl
theorem laws_vAdd_L1_run (N : Nat) (list1 : Nat → (List Int)) (n : Nat → Int) (i : Nat → Int) (n_ : Nat) {res_ : Option (Int × Unit)} (hstep_ : ∀ j_, j_ < n_ → ∀ kx_, laws_vAdd_B1 N kx_ (list1 j_) (n j_) (i j_) = kx_ (list1 (j_ + 1)) (n (j_ + 1)) (i (j_ + 1))) (hend_ : ∀ kx_, laws_vAdd_B1 N kx_ (list1 n_) (n n_) (i n_) = res_) (fu_ : Nat) (hm_ : n_ < fu_) : laws_vAdd_L1 N fu_ (list1 0) (n 0) (i 0) = res_ := by
  exact loop_run (L := fun fu_ (x_ : (List Int) × Int × Int) => laws_vAdd_L1 N fu_ x_.1 x_.2.1 x_.2.2) (B := fun kx_ x_ => laws_vAdd_B1 N (fun list1 n i => kx_ (list1, n, i)) x_.1 x_.2.1 x_.2.2) (fun _ _ => rfl) (fun j_ => (list1 j_, n j_, i j_)) n_ (fun j_ hi_ kx_ => hstep_ j_ hi_ _) (fun kx_ => hend_ _) fu_ hm_
def laws_vAdd (N : Nat) (list : List Int) : Option (Int × Unit) :=
  laws_vAdd_L1 N N list 0 0
def laws_vHas_K1 (N : Nat) : Option (Bool × Unit) :=
  some (false, ())
def laws_vHas_B1 (N : Nat) (kx : (List Int) → Int → Int → Option (Bool × Unit)) (l1 : List Int) (x1 : Int) (i : Int) : Option (Bool × Unit) :=
  bif ilt i (len l1) then
    chk (inB i l1.length) <|
    bif ieq (gd l1 i.toNat 0) x1 then
      some (true, ())
    else
      kx l1 x1 (iadd .i64 i 1)
  else
    laws_vHas_K1 N
def laws_vHas_L1 (N fu_ : Nat) (l1 : List Int) (x1 : Int) (i : Int) : Option (Bool × Unit) :=
  iterK fu_ (fun kx (v_ : ((List Int) × Int × Int × Unit) × (Unit)) => laws_vHas_B1 N (fun l1 x1 i => kx ((l1, x1, i, ()), ())) v_.1.1 v_.1.2.1 v_.1.2.2.1) ((l1, x1, i, ()), ())
theorem laws_vHas_L1_succ (N fu_ : Nat) (l1 : List Int) (x1 : Int) (i : Int) : laws_vHas_L1 N (fu_ + 1) l1 x1 i = laws_vHas_B1 N (fun l1 x1 i => laws_vHas_L1 N fu_ l1 x1 i) l1 x1 i := rfl
theorem laws_vHas_L1_run (N : Nat) (l1 : Nat → (List Int)) (x1 : Nat → Int) (i : Nat → Int) (n_ : Nat) {res_ : Option (Bool × Unit)} (hstep_ : ∀ j_, j_ < n_ → ∀ kx_, laws_vHas_B1 N kx_ (l1 j_) (x1 j_) (i j_) = kx_ (l1 (j_ + 1)) (x1 (j_ + 1)) (i (j_ + 1))) (hend_ : ∀ kx_, laws_vHas_B1 N kx_ (l1 n_) (x1 n_) (i n_) = res_) (fu_ : Nat) (hm_ : n_ < fu_) : laws_vHas_L1 N fu_ (l1 0) (x1 0) (i 0) = res_ := by
  exact loop_run (L := fun fu_ (x_ : (List Int) × Int × Int) => laws_vHas_L1 N fu_ x_.1 x_.2.1 x_.2.2) (B := fun kx_ x_ => laws_vHas_B1 N (fun l1 x1 i => kx_ (l1, x1, i)) x_.1 x_.2.1 x_.2.2) (fun _ _ => rfl) (fun j_ => (l1 j_, x1 j_, i j_)) n_ (fun j_ hi_ kx_ => hstep_ j_ hi_ _) (fun kx_ => hend_ _) fu_ hm_
def laws_vHas (N : Nat) (l : List Int) (x : Int) : Option (Bool × Unit) :=
  laws_vHas_L1 N N l x 0
def laws_FnLedgerCosts_K1 (N : Nat) (v41 : Int) (v81 : Int) (v161 : Int) (v171 : Bool) (v27 : Int) (v29 : Int) (v31 : Int) (v32 : ((List Int) × (List Int) × (List Int) × (List Int)) × (List Int) × Int) (v25 : ((List Int) × (List Int) × (List Int) × (List Int)) × (List Int) × Int) : Option (Bool × Unit) :=
  (impl_CostAhead N v25).bind fun r24 =>
  bif ieq v27 (iadd .i64 v81 v31) then
    chk (inB v32.2.2 v32.2.1.length) <|
    chk (inB v32.2.2 v32.1.1.length) <|
    bif ieq v29 (isub .i64 (iadd .i64 v41 (gd v32.2.1 v32.2.2.toNat 0)) (gd v32.1.1 v32.2.2.toNat 0)) then
      bif Go.Rx.beq r24.1.2 v171 then
        bif !v171 then
          some (true, ())
        else
          some (ieq v161 (iadd .i64 v31 r24.1.1), ())
      else
        some (false, ())
    else
      some (false, ())
  else
    some (false, ())
def laws_FnLedgerCosts_K2 (N : Nat) (v4 : Int) (v8 : Int) (v16 : Int) (v17 : Bool) (v197 : Bool) (v3 : ((List Int) × (List Int) × (List Int) × (List Int)) × (List Int) × Int) (b60 : (List Int) × Bool) : Option (Bool × Unit) :=
  bif v197 then
    some (false, ())
  else
    bif ieq v3.2.2 (len v3.2.1) then
      some (ieq (len b60.1) 0, ())
    else
      (impl_ActLedger N v3 (4, (0, (0, (0, 0))))).bind fun r20 =>
      (laws_vHas N b60.1 v3.2.2).bind fun r21 =>
      bif Go.Rx.beq r20.1.2 r21.1 then
        some (false, ())
      else
        bif !r20.1.2 then
          some (true, ())
        else
          (impl_CostNow N r20.1.1).bind fun r22 =>
          (impl_StockNow N r20.1.1).bind fun r23 =>
          chk (inB v3.2.2 v3.1.2.2.1.length) <|
          chk (inB v3.2.2 v3.2.1.length) <|
          chk (inB v3.2.2 v3.1.2.2.2.length) <|
          chk (inB v3.2.2 v3.2.1.length) <|
          bif ilt 0 (gd v3.2.1 v3.2.2.toNat 0) then
            chk (inB v3.2.2 v3.1.2.1.length) <|
            laws_FnLedgerCosts_K1 N v4 v8 v16 v17 r22.1.1 r23.1.1 (iadd .i64 (iadd .i64 (imul .i64 (gd v3.1.2.2.1 v3.2.2.toNat 0) (gd v3.2.1 v3.2.2.toNat 0)) (imul .i64 (gd v3.1.2.2.2 v3.2.2.toNat 0) r23.1.1)) (gd v3.1.2.1 v3.2.2.toNat 0)) v3 r20.1.1
          else
            laws_FnLedgerCosts_K1 N v4 v8 v16 v17 r22.1.1 r23.1.1 (iadd .i64 (imul .i64 (gd v3.1.2.2.1 v3.2.2.toNat 0) (gd v3.2.1 v3.2.2.toNat 0)) (imul .i64 (gd v3.1.2.2.2 v3.2.2.toNat 0) r23.1.1)) v3 r20.1.1
def laws_FnLedgerCosts (N : Nat) (app : List Int) : Option (Bool × Unit) :=
  (laws_vBig N app).bind fun r =>
  bif r.1 then
    some (true, ())
  else
    (spec_DrawStockNow N app).bind fun r1 =>
    (impl_StockNow N r1.1).bind fun r2 =>
    (spec_StockNow N r1.1).bind fun r3 =>
    (impl_CostNow N r1.1).bind fun r4 =>
    (spec_CostNow N r1.1).bind fun r5 =>
    (impl_ShortPeriods N r1.1).bind fun r6 =>
    (spec_ShortPeriods N r1.1).bind fun r7 =>
    (impl_CostAhead N r1.1).bind fun r8 =>
    (spec_CostAhead N r1.1).bind fun r9 =>
    (impl_NeedsLeft N r1.1).bind fun r10 =>
    (spec_NeedsLeft N r1.1).bind fun r11 =>
    bif ine r2.1.1 r3.1.1 then
      some (false, ())
    else
      bif !(Go.Rx.beq r2.1.2 r3.1.2) then
        some (false, ())
      else
        bif ine r4.1.1 r5.1.1 then
          some (false, ())
        else
          bif !(Go.Rx.beq r4.1.2 r5.1.2) then
            some (false, ())
          else
            bif !(Go.Rx.beq r6.1.2 r7.1.2) then
              some (false, ())
            else
              (laws_vInts N r6.1.1 r7.1.1).bind fun r12 =>
              bif !r12.1 then
                some (false, ())
              else
                bif ine r8.1.1 r9.1.1 then
                  some (false, ())
                else
                  bif !(Go.Rx.beq r8.1.2 r9.1.2) then
                    some (false, ())
                  else
                    bif !(Go.Rx.beq r10.1.2 r11.1.2) then
                      some (false, ())
                    else
                      (laws_vInts N r10.1.1 r11.1.1).bind fun r13 =>
                      bif !r13.1 then
                        some (false, ())
                      else
                        bif !r2.1.2 then
                          (spec_IsLedger N r1.1).bind fun r14 =>
                          some (!r14.1, ())
                        else
                          bif !(Go.Rx.beq r8.1.2 (ieq (len r6.1.1) 0)) then
                            some (false, ())
                          else
                            bif ilt r2.1.1 0 then
                              some (false, ())
                            else
                              bif ine (len r10.1.1) (isub .i64 (len r1.1.2.1) r1.1.2.2) then
                                some (false, ())
                              else
                                (laws_vAdd N r10.1.1).bind fun r15 =>
                                chk (cutB r1.1.2.2 (len r1.1.1.1) r1.1.1.1.length) <|
                                (laws_vAdd N (List.take ((len r1.1.1.1).toNat - r1.1.2.2.toNat) (List.drop r1.1.2.2.toNat r1.1.1.1))).bind fun r16 =>
                                bif ilt r16.1 r15.1 then
                                  some (false, ())
                                else
                                  chk (cutB r1.1.2.2 (len r1.1.1.1) r1.1.1.1.length) <|
                                  (laws_vAdd N (List.take ((len r1.1.1.1).toNat - r1.1.2.2.toNat) (List.drop r1.1.2.2.toNat r1.1.1.1))).bind fun r17 =>
                                  (laws_vAdd N r10.1.1).bind fun r18 =>
                                  bif ilt r2.1.1 (isub .i64 r17.1 r18.1) then
                                    laws_FnLedgerCosts_K2 N r2.1.1 r4.1.1 r8.1.1 r8.1.2 true r1.1 r6.1
                                  else
                                    bif ilt (isub .i64 r17.1 r18.1) r2.1.1 then
                                      (laws_vAdd N r10.1.1).bind fun r19 =>
                                      laws_FnLedgerCosts_K2 N r2.1.1 r4.1.1 r8.1.1 r8.1.2 (ilt 0 r19.1) r1.1 r6.1
                                    else
                                      laws_FnLedgerCosts_K2 N r2.1.1 r4.1.1 r8.1.1 r8.1.2 false r1.1 r6.1
end Px
end Go.Rx
