/- This text defines the plain functions that the Go functions behind FnRegular compute; no condition. -/
import Derived.Test.YtlfmmkekhponbaaRxe
set_option linter.unusedVariables false
set_option linter.unusedSimpArgs false
set_option linter.defProp false
namespace Go.Rx
namespace Px
def laws_rBig (N : Nat) (code : List Int) : Option (Bool × Unit) :=
  some (ilt 65536 (len code), ())
def laws_rInts_K1 (N : Nat) : Option (Bool × Unit) :=
  some (true, ())
def laws_rInts_B1 (N : Nat) (kx : (List Int) → (List Int) → Int → Option (Bool × Unit)) (a1 : List Int) (b1 : List Int) (i : Int) : Option (Bool × Unit) :=
  bif ilt i (len a1) then
    chk (inB i a1.length) <|
    chk (inB i b1.length) <|
    bif ine (gd a1 i.toNat 0) (gd b1 i.toNat 0) then
      some (false, ())
    else
      kx a1 b1 (iadd .i64 i 1)
  else
    laws_rInts_K1 N
def laws_rInts_L1 (N fu_ : Nat) := it_3_0 (laws_rInts_B1 N) fu_
def laws_rInts_L1_run (N : Nat) := run3 (laws_rInts_B1 N) (laws_rInts_L1 N) (fun _ _ _ _ => rfl)
def laws_rInts (N : Nat) (a : List Int) (b : List Int) : Option (Bool × Unit) :=
  bif ine (len a) (len b) then
    some (false, ())
  else
    laws_rInts_L1 N N a b 0
def impl_within (N : Nat) (n : Int) (low : Int) (high : Int) : Option (Bool × Unit) :=
  bif ile low n then
    some (ile n high, ())
  else
    some (false, ())
def impl_allWithin_K1 (N : Nat) : Option (Bool × Unit) :=
  some (true, ())
def impl_allWithin_B1 (N : Nat) (kx : Int → Int → (List Int) → Int → Int → Option (Bool × Unit)) (low1 : Int) (high1 : Int) (v9 : List Int) (v10 : Int) (v11 : Int) : Option (Bool × Unit) :=
  bif ilt v11 v10 then
    chk (inB v11 v9.length) <|
    (impl_within N (gd v9 v11.toNat 0) low1 high1).bind fun r =>
    bif !r.1 then
      some (false, ())
    else
      kx low1 high1 v9 v10 (iadd .i64 v11 1)
  else
    impl_allWithin_K1 N
def impl_allWithin_L1 (N fu_ : Nat) := it_5_0 (impl_allWithin_B1 N) fu_
def impl_allWithin_L1_run (N : Nat) := run5 (impl_allWithin_B1 N) (impl_allWithin_L1 N) (fun _ _ _ _ _ _ => rfl)
def impl_allWithin (N : Nat) (list : List Int) (low : Int) (high : Int) : Option (Bool × Unit) :=
  impl_allWithin_L1 N N low high list (len list) 0
def impl_IsCase (N : Nat) (c : (List Int) × (List Int) × (List Int) × (List Int)) : Option (Bool × Unit) :=
  bif ile (len c.1) 8 then
    bif ieq (len c.2.1) (len c.1) then
      bif ieq (len c.2.2.1) (len c.1) then
        bif ieq (len c.2.2.2) (len c.1) then
          (impl_allWithin N c.1 0 20).bind fun r =>
          bif r.1 then
            (impl_allWithin N c.2.1 0 99).bind fun r1 =>
            bif r1.1 then
              (impl_allWithin N c.2.2.1 0 9).bind fun r2 =>
              bif r2.1 then
                (impl_allWithin N c.2.2.2 0 9).bind fun r3 =>
                some (r3.1, ())
              else
                some (false, ())
            else
              some (false, ())
          else
            some (false, ())
        else
          some (false, ())
      else
        some (false, ())
    else
      some (false, ())
  else
    some (false, ())
def impl_areLimits (N : Nat) (c : (List Int) × (List Int) × (List Int) × (List Int)) (limits : List Int) : Option (Bool × Unit) :=
  (impl_IsCase N c).bind fun r =>
  bif r.1 then
    bif ieq (len limits) (len c.1) then
      (impl_allWithin N limits 0 160).bind fun r1 =>
      some (r1.1, ())
    else
      some (false, ())
  else
    some (false, ())
def impl_total_K1 (N : Nat) (sum1 : Int) : Option (Int × Unit) :=
  some (sum1, ())
def impl_total_B1 (N : Nat) (kx : Int → (List Int) → Int → Int → Option (Int × Unit)) (sum : Int) (v6 : List Int) (v7 : Int) (v8 : Int) : Option (Int × Unit) :=
  bif ilt v8 v7 then
    chk (inB v8 v6.length) <|
    kx (iadd .i64 sum (gd v6 v8.toNat 0)) v6 v7 (iadd .i64 v8 1)
  else
    impl_total_K1 N sum
def impl_total_L1 (N fu_ : Nat) := it_4_0 (impl_total_B1 N) fu_
def impl_total_L1_run (N : Nat) := run4 (impl_total_B1 N) (impl_total_L1 N) (fun _ _ _ _ _ => rfl)
def impl_total (N : Nat) (list : List Int) : Option (Int × Unit) :=
  impl_total_L1 N N 0 list (len list) 0
def impl_Case_firstShort_K1 (N : Nat) : Option ((Int × Int) × Unit) :=
  some (((-1), 0), ())
def impl_Case_firstShort_B1 (N : Nat) (kx : (List Int) → Int → (List Int) → Int → Int → ((List Int) × (List Int) × (List Int) × (List Int)) → Option ((Int × Int) × Unit)) (limits1 : List Int) (sum : Int) (v10 : List Int) (v11 : Int) (v12 : Int) (c1 : (List Int) × (List Int) × (List Int) × (List Int)) : Option ((Int × Int) × Unit) :=
  bif ilt v12 v11 then
    chk (inB v12 v10.length) <|
    chk (inB v12 limits1.length) <|
    chk (cutB 0 (iadd .i64 v12 1) c1.1.length) <|
    (impl_total N (cut c1.1 0 (iadd .i64 v12 1))).bind fun r =>
    chk (cutB 0 (iadd .i64 v12 1) limits1.length) <|
    (impl_total N (cut limits1 0 (iadd .i64 v12 1))).bind fun r1 =>
    bif ilt r1.1 r.1 then
      some ((v12, iadd .i64 sum (isub .i64 (gd v10 v12.toNat 0) (gd limits1 v12.toNat 0))), ())
    else
      kx limits1 (iadd .i64 sum (isub .i64 (gd v10 v12.toNat 0) (gd limits1 v12.toNat 0))) v10 v11 (iadd .i64 v12 1) c1
  else
    impl_Case_firstShort_K1 N
def impl_Case_firstShort_L1 (N fu_ : Nat) := it_5_1 (impl_Case_firstShort_B1 N) fu_
def impl_Case_firstShort_L1_run (N : Nat) := run6 (impl_Case_firstShort_B1 N) (impl_Case_firstShort_L1 N) (fun _ _ _ _ _ _ _ => rfl)
def impl_Case_firstShort (N : Nat) (c : (List Int) × (List Int) × (List Int) × (List Int)) (limits : List Int) : Option ((Int × Int) × Unit) :=
  impl_Case_firstShort_L1 N N limits 0 c.1 (len c.1) 0 c
def impl_CanMeet (N : Nat) (c : (List Int) × (List Int) × (List Int) × (List Int)) (limits : List Int) : Option ((Bool × Bool) × Unit) :=
  (impl_areLimits N c limits).bind fun r =>
  bif !r.1 then
    some ((false, false), ())
  else
    (impl_Case_firstShort N c limits).bind fun r1 =>
    some ((ilt r1.1.1 0, true), ())
def impl_limitedPlan (N : Nat) (c : (List Int) × (List Int) × (List Int) × (List Int)) (limits : List Int) (regular : Bool) : Option (((List Int) × Int × Bool) × Unit) :=
  lmG (impl_CanMeet N) (impl_total N) c limits regular

def impl_LimitedCost (N : Nat) (c : (List Int) × (List Int) × (List Int) × (List Int)) (limits : List Int) : Option ((Int × Bool) × Unit) :=
  (impl_limitedPlan N c limits false).bind fun r =>
  some ((r.1.2.1, r.1.2.2), ())
def impl_Case_stocks_K1 (N : Nat) (stock1 : Int) (out1 : List Int) : Option (((List Int) × Bool) × Unit) :=
  some ((out1, ieq stock1 0), ())
def impl_Case_stocks_B1 (N : Nat) (kx : Int → (List Int) → Int → Int → ((List Int) × (List Int) × (List Int) × (List Int)) → (List Int) → Option (((List Int) × Bool) × Unit)) (stock : Int) (v22 : List Int) (v23 : Int) (v24 : Int) (c1 : (List Int) × (List Int) × (List Int) × (List Int)) (out : List Int) : Option (((List Int) × Bool) × Unit) :=
  bif ilt v24 v23 then
    chk (inB v24 v22.length) <|
    chk (inB v24 c1.1.length) <|
    bif ilt (iadd .i64 stock (isub .i64 (gd v22 v24.toNat 0) (gd c1.1 v24.toNat 0))) 0 then
      some (([], false), ())
    else
      chk (fitB (out.length + 1) 8) <|
      kx (iadd .i64 stock (isub .i64 (gd v22 v24.toNat 0) (gd c1.1 v24.toNat 0))) v22 v23 (iadd .i64 v24 1) c1 (out ++ [iadd .i64 stock (isub .i64 (gd v22 v24.toNat 0) (gd c1.1 v24.toNat 0))])
  else
    impl_Case_stocks_K1 N stock out
def impl_Case_stocks_L1 (N fu_ : Nat) := it_4_2 (impl_Case_stocks_B1 N) fu_
def impl_Case_stocks_L1_run (N : Nat) := run6 (impl_Case_stocks_B1 N) (impl_Case_stocks_L1 N) (fun _ _ _ _ _ _ _ => rfl)
def impl_Case_stocks (N : Nat) (c : (List Int) × (List Int) × (List Int) × (List Int)) (plan : List Int) : Option (((List Int) × Bool) × Unit) :=
  bif ine (len plan) (len c.1) then
    some (([], false), ())
  else
    (impl_allWithin N plan 0 160).bind fun r =>
    bif !r.1 then
      some (([], false), ())
    else
      impl_Case_stocks_L1 N N 0 plan (len plan) 0 c []
def impl_planned (N : Nat) (c : (List Int) × (List Int) × (List Int) × (List Int)) (plan : List Int) : Option (((List Int) × Bool) × Unit) :=
  (impl_IsCase N c).bind fun r =>
  bif !r.1 then
    some (([], false), ())
  else
    (impl_Case_stocks N c plan).bind fun r1 =>
    bif !r1.1.2 then
      some (([], false), ())
    else
      some ((r1.1.1, true), ())
def impl_Case_parts_K1 (N : Nat) (kx : Int → Int → Int → Int → (List Int) → Int → Int → ((List Int) × (List Int) × (List Int) × (List Int)) → Option ((Int × Int × Int) × Unit)) (setups1 : Int) (units1 : Int) (holds1 : Int) (stock1 : Int) (i : Int) (amount : Int) (v131 : List Int) (v141 : Int) (v151 : Int) (c2 : (List Int) × (List Int) × (List Int) × (List Int)) : Option ((Int × Int × Int) × Unit) :=
  chk (inB i c2.2.2.1.length) <|
  chk (inB i c2.2.2.2.length) <|
  kx setups1 (iadd .i64 units1 (imul .i64 (gd c2.2.2.1 i.toNat 0) amount)) (iadd .i64 holds1 (imul .i64 (gd c2.2.2.2 i.toNat 0) stock1)) stock1 v131 v141 (iadd .i64 v151 1) c2
def impl_Case_parts_K2 (N : Nat) (setups2 : Int) (units2 : Int) (holds2 : Int) : Option ((Int × Int × Int) × Unit) :=
  some ((setups2, (units2, holds2)), ())
def impl_Case_parts_B1 (N : Nat) (kx : Int → Int → Int → Int → (List Int) → Int → Int → ((List Int) × (List Int) × (List Int) × (List Int)) → Option ((Int × Int × Int) × Unit)) (setups : Int) (units : Int) (holds : Int) (stock : Int) (v13 : List Int) (v14 : Int) (v15 : Int) (c1 : (List Int) × (List Int) × (List Int) × (List Int)) : Option ((Int × Int × Int) × Unit) :=
  bif ilt v15 v14 then
    chk (inB v15 v13.length) <|
    chk (inB v15 c1.1.length) <|
    bif ilt 0 (gd v13 v15.toNat 0) then
      chk (inB v15 c1.2.1.length) <|
      impl_Case_parts_K1 N kx (iadd .i64 setups (gd c1.2.1 v15.toNat 0)) units holds (iadd .i64 stock (isub .i64 (gd v13 v15.toNat 0) (gd c1.1 v15.toNat 0))) v15 (gd v13 v15.toNat 0) v13 v14 v15 c1
    else
      impl_Case_parts_K1 N kx setups units holds (iadd .i64 stock (isub .i64 (gd v13 v15.toNat 0) (gd c1.1 v15.toNat 0))) v15 (gd v13 v15.toNat 0) v13 v14 v15 c1
  else
    impl_Case_parts_K2 N setups units holds
def impl_Case_parts_L1 (N fu_ : Nat) := it_7_1 (impl_Case_parts_B1 N) fu_
def impl_Case_parts_L1_run (N : Nat) := run8 (impl_Case_parts_B1 N) (impl_Case_parts_L1 N) (fun _ _ _ _ _ _ _ _ _ => rfl)
def impl_Case_parts (N : Nat) (c : (List Int) × (List Int) × (List Int) × (List Int)) (plan : List Int) : Option ((Int × Int × Int) × Unit) :=
  impl_Case_parts_L1 N N 0 0 0 0 plan (len plan) 0 c
def impl_Case_cost (N : Nat) (c : (List Int) × (List Int) × (List Int) × (List Int)) (plan : List Int) : Option (Int × Unit) :=
  (impl_Case_parts N c plan).bind fun r =>
  some (iadd .i64 (iadd .i64 r.1.1 r.1.2.1) r.1.2.2, ())
def impl_PlanCost (N : Nat) (c : (List Int) × (List Int) × (List Int) × (List Int)) (plan : List Int) : Option ((Int × Bool) × Unit) :=
  (impl_planned N c plan).bind fun r =>
  bif !r.1.2 then
    some ((0, false), ())
  else
    (impl_Case_cost N c plan).bind fun r1 =>
    some ((r1.1, true), ())
def impl_keeps_K1 (N : Nat) : Option (Bool × Unit) :=
  some (true, ())
def impl_keeps_B1 (N : Nat) (kx : (List Int) → (List Int) → Int → Int → Option (Bool × Unit)) (limits1 : List Int) (v7 : List Int) (v8 : Int) (v9 : Int) : Option (Bool × Unit) :=
  bif ilt v9 v8 then
    chk (inB v9 v7.length) <|
    chk (inB v9 limits1.length) <|
    bif ilt (gd limits1 v9.toNat 0) (gd v7 v9.toNat 0) then
      some (false, ())
    else
      kx limits1 v7 v8 (iadd .i64 v9 1)
  else
    impl_keeps_K1 N
def impl_keeps_L1 (N fu_ : Nat) := it_4_0 (impl_keeps_B1 N) fu_
def impl_keeps_L1_run (N : Nat) := run4 (impl_keeps_B1 N) (impl_keeps_L1 N) (fun _ _ _ _ _ => rfl)
def impl_keeps (N : Nat) (plan : List Int) (limits : List Int) : Option (Bool × Unit) :=
  impl_keeps_L1 N N limits plan (len plan) 0
def impl_KeepsLimits (N : Nat) (c : (List Int) × (List Int) × (List Int) × (List Int)) (limits : List Int) (plan : List Int) : Option ((Bool × Bool) × Unit) :=
  (impl_planned N c plan).bind fun r =>
  bif !r.1.2 then
    some ((false, false), ())
  else
    (impl_areLimits N c limits).bind fun r1 =>
    bif !r1.1 then
      some ((false, false), ())
    else
      (impl_keeps N plan limits).bind fun r2 =>
      some ((r2.1, true), ())
def spec_l1In (N : Nat) (x : Int) (a : Int) (b : Int) : Option (Bool × Unit) :=
  bif ile a x then
    some (ile x b, ())
  else
    some (false, ())
def spec_l2Row_K1 (N : Nat) (row2 : List Int) (n2 : Int) : Option (Bool × Unit) :=
  some (ieq (len row2) n2, ())
def spec_l2Row_B1 (N : Nat) (kx : (List Int) → Int → Int → Int → Option (Bool × Unit)) (row1 : List Int) (n1 : Int) (most1 : Int) (i : Int) : Option (Bool × Unit) :=
  bif ilt i (len row1) then
    chk (inB i row1.length) <|
    (spec_l1In N (gd row1 i.toNat 0) 0 most1).bind fun r =>
    bif !r.1 then
      some (false, ())
    else
      kx row1 n1 most1 (iadd .i64 i 1)
  else
    spec_l2Row_K1 N row1 n1
def spec_l2Row_L1 (N fu_ : Nat) := it_4_0 (spec_l2Row_B1 N) fu_
def spec_l2Row_L1_run (N : Nat) := run4 (spec_l2Row_B1 N) (spec_l2Row_L1 N) (fun _ _ _ _ _ => rfl)
def spec_l2Row (N : Nat) (row : List Int) (n : Int) (most : Int) : Option (Bool × Unit) :=
  spec_l2Row_L1 N N row n most 0
def spec_l2Good (N : Nat) (c : (List Int) × (List Int) × (List Int) × (List Int)) : Option (Bool × Unit) :=
  bif ile (len c.1) 8 then
    (spec_l2Row N c.1 (len c.1) 20).bind fun r =>
    bif r.1 then
      (spec_l2Row N c.2.1 (len c.1) 99).bind fun r1 =>
      bif r1.1 then
        (spec_l2Row N c.2.2.1 (len c.1) 9).bind fun r2 =>
        bif r2.1 then
          (spec_l2Row N c.2.2.2 (len c.1) 9).bind fun r3 =>
          some (r3.1, ())
        else
          some (false, ())
      else
        some (false, ())
    else
      some (false, ())
  else
    some (false, ())
def spec_l4Limits (N : Nat) (c : (List Int) × (List Int) × (List Int) × (List Int)) (limits : List Int) : Option (Bool × Unit) :=
  (spec_l2Good N c).bind fun r =>
  bif r.1 then
    (spec_l2Row N limits (len c.1) 160).bind fun r1 =>
    some (r1.1, ())
  else
    some (false, ())
def spec_l4Short_K1 (N : Nat) : Option ((Int × Int) × Unit) :=
  some (((-1), 0), ())
def spec_l4Short_B1 (N : Nat) (kx : (List Int) → Int → Int → ((List Int) × (List Int) × (List Int) × (List Int)) → Option ((Int × Int) × Unit)) (limits1 : List Int) (left : Int) (t : Int) (c1 : (List Int) × (List Int) × (List Int) × (List Int)) : Option ((Int × Int) × Unit) :=
  bif ilt t (len limits1) then
    chk (inB t limits1.length) <|
    chk (inB t c1.1.length) <|
    bif ilt (isub .i64 (iadd .i64 left (gd limits1 t.toNat 0)) (gd c1.1 t.toNat 0)) 0 then
      some ((t, isub .i64 0 (isub .i64 (iadd .i64 left (gd limits1 t.toNat 0)) (gd c1.1 t.toNat 0))), ())
    else
      kx limits1 (isub .i64 (iadd .i64 left (gd limits1 t.toNat 0)) (gd c1.1 t.toNat 0)) (iadd .i64 t 1) c1
  else
    spec_l4Short_K1 N
def spec_l4Short_L1 (N fu_ : Nat) := it_3_1 (spec_l4Short_B1 N) fu_
def spec_l4Short_L1_run (N : Nat) := run4 (spec_l4Short_B1 N) (spec_l4Short_L1 N) (fun _ _ _ _ _ => rfl)
def spec_l4Short (N : Nat) (c : (List Int) × (List Int) × (List Int) × (List Int)) (limits : List Int) : Option ((Int × Int) × Unit) :=
  spec_l4Short_L1 N N limits 0 0 c
def spec_CanMeet (N : Nat) (c : (List Int) × (List Int) × (List Int) × (List Int)) (limits : List Int) : Option ((Bool × Bool) × Unit) :=
  (spec_l4Limits N c limits).bind fun r =>
  bif !r.1 then
    some ((false, false), ())
  else
    (spec_l4Short N c limits).bind fun r1 =>
    some ((ilt r1.1.1 0, true), ())
def spec_l4Can (N : Nat) (c : (List Int) × (List Int) × (List Int) × (List Int)) (limits : List Int) : Option (Bool × Unit) :=
  (spec_CanMeet N c limits).bind fun r =>
  bif r.1.1 then
    some (r.1.2, ())
  else
    some (false, ())
def spec_l1Most (N : Nat) (a : Int) (b : Int) : Option (Int × Unit) :=
  bif ilt b a then
    some (a, ())
  else
    some (b, ())
def spec_l4Step (N : Nat) (c : (List Int) × (List Int) × (List Int) × (List Int)) (t : Int) (amount : Int) (stock : Int) : Option (Int × Unit) :=
  chk (inB t c.2.2.1.length) <|
  chk (inB t c.2.2.2.length) <|
  bif ilt 0 amount then
    chk (inB t c.2.1.length) <|
    some (iadd .i64 (iadd .i64 (imul .i64 (gd c.2.2.1 t.toNat 0) amount) (imul .i64 (gd c.2.2.2 t.toNat 0) stock)) (gd c.2.1 t.toNat 0), ())
  else
    some (iadd .i64 (imul .i64 (gd c.2.2.1 t.toNat 0) amount) (imul .i64 (gd c.2.2.2 t.toNat 0) stock), ())
def spec_l4Traced_K1 (N : Nat) (kx : (List (List Int)) → Int → Int → ((List Int) × (List Int) × (List Int) × (List Int)) → (List Int) → Option ((List Int) × Unit)) (table3 : List (List Int)) (s2 : Int) (t2 : Int) (x1 : Int) (v43 : (List Int) × (List Int) × (List Int) × (List Int)) (v44 : Int) (v45 : Int) (v46 : Int) (v47 : Int) (v48 : Int) (v50 : List Int) (v51 : Int) (v53 : Int) (v54 : Int) (v55 : Int) (v56 : List (List Int)) (v57 : Int) (v58 : Int) (v60 : List Int) (v61 : Int) (v62 : Int) (v63 : Int) (v65 : List Int) (v66 : Int) (v68 : Int) (v69 : Int) (v71 : Int) (v72 : Int) (v73 : List (List Int)) (v74 : Int) (v76 : List Int) (v77 : Int) (v79 : Int) (v80 : Bool) (c3 : (List Int) × (List Int) × (List Int) × (List Int)) (out2 : List Int) : Option ((List Int) × Unit) :=
  chk (fitB (out2.length + 1) 8) <|
  chk (inB t2 c3.1.length) <|
  kx table3 (isub .i64 (iadd .i64 s2 x1) (gd c3.1 t2.toNat 0)) (iadd .i64 t2 1) c3 (out2 ++ [x1])
def spec_l4Traced_B1 (N : Nat) (kx : (List (List Int)) → Int → Int → ((List Int) × (List Int) × (List Int) × (List Int)) → (List Int) → Option ((List Int) × Unit)) (kx1 : (List (List Int)) → Int → Int → Int → ((List Int) × (List Int) × (List Int) × (List Int)) → (List Int) → Option ((List Int) × Unit)) (table2 : List (List Int)) (s1 : Int) (t1 : Int) (x : Int) (c2 : (List Int) × (List Int) × (List Int) × (List Int)) (out1 : List Int) : Option ((List Int) × Unit) :=
  chk (inB (iadd .i64 t1 1) table2.length) <|
  chk (inB t1 c2.1.length) <|
  chk (inB (isub .i64 (iadd .i64 s1 x) (gd c2.1 t1.toNat 0)) (gd table2 (iadd .i64 t1 1).toNat []).length) <|
  bif ilt (gd (gd table2 (iadd .i64 t1 1).toNat []) (isub .i64 (iadd .i64 s1 x) (gd c2.1 t1.toNat 0)).toNat 0) 0 then
    kx1 table2 s1 t1 (iadd .i64 x 1) c2 out1
  else
    chk (inB t1 c2.1.length) <|
    (spec_l4Step N c2 t1 x (isub .i64 (iadd .i64 s1 x) (gd c2.1 t1.toNat 0))).bind fun r1 =>
    chk (inB (iadd .i64 t1 1) table2.length) <|
    chk (inB t1 c2.1.length) <|
    chk (inB (isub .i64 (iadd .i64 s1 x) (gd c2.1 t1.toNat 0)) (gd table2 (iadd .i64 t1 1).toNat []).length) <|
    chk (inB t1 table2.length) <|
    chk (inB s1 (gd table2 t1.toNat []).length) <|
    bif ine (iadd .i64 r1.1 (gd (gd table2 (iadd .i64 t1 1).toNat []) (isub .i64 (iadd .i64 s1 x) (gd c2.1 t1.toNat 0)).toNat 0)) (gd (gd table2 t1.toNat []) s1.toNat 0) then
      kx1 table2 s1 t1 (iadd .i64 x 1) c2 out1
    else
      spec_l4Traced_K1 N kx table2 s1 t1 x c2 t1 x s1 x (iadd .i64 s1 x) c2.1 t1 (gd c2.1 t1.toNat 0) (isub .i64 (iadd .i64 s1 x) (gd c2.1 t1.toNat 0)) r1.1 table2 t1 (iadd .i64 t1 1) (gd table2 (iadd .i64 t1 1).toNat []) s1 x (iadd .i64 s1 x) c2.1 t1 (gd c2.1 t1.toNat 0) (isub .i64 (iadd .i64 s1 x) (gd c2.1 t1.toNat 0)) (gd (gd table2 (iadd .i64 t1 1).toNat []) (isub .i64 (iadd .i64 s1 x) (gd c2.1 t1.toNat 0)).toNat 0) (iadd .i64 r1.1 (gd (gd table2 (iadd .i64 t1 1).toNat []) (isub .i64 (iadd .i64 s1 x) (gd c2.1 t1.toNat 0)).toNat 0)) table2 t1 (gd table2 t1.toNat []) s1 (gd (gd table2 t1.toNat []) s1.toNat 0) (ine (iadd .i64 r1.1 (gd (gd table2 (iadd .i64 t1 1).toNat []) (isub .i64 (iadd .i64 s1 x) (gd c2.1 t1.toNat 0)).toNat 0)) (gd (gd table2 t1.toNat []) s1.toNat 0)) c2 out1
def spec_l4Traced_L1 (N fu_ : Nat) (kx : (List (List Int)) → Int → Int → ((List Int) × (List Int) × (List Int) × (List Int)) → (List Int) → Option ((List Int) × Unit)) := it_4_2 (spec_l4Traced_B1 N kx) fu_
def spec_l4Traced_L1_run (N : Nat) (kx : (List (List Int)) → Int → Int → ((List Int) × (List Int) × (List Int) × (List Int)) → (List Int) → Option ((List Int) × Unit)) := run6 (spec_l4Traced_B1 N kx) (fun u_ => spec_l4Traced_L1 N u_ kx) (fun _ _ _ _ _ _ _ => rfl)
def spec_l4Traced_K2 (N : Nat) (out3 : List Int) : Option ((List Int) × Unit) :=
  some (out3, ())
def spec_l4Traced_B2 (N : Nat) (kx : (List (List Int)) → Int → Int → ((List Int) × (List Int) × (List Int) × (List Int)) → (List Int) → Option ((List Int) × Unit)) (table1 : List (List Int)) (s : Int) (t : Int) (c1 : (List Int) × (List Int) × (List Int) × (List Int)) (out : List Int) : Option ((List Int) × Unit) :=
  bif ilt t (len c1.1) then
    chk (inB t c1.1.length) <|
    (spec_l1Most N (isub .i64 (gd c1.1 t.toNat 0) s) 0).bind fun r =>
    spec_l4Traced_L1 N N kx table1 s t r.1 c1 out
  else
    spec_l4Traced_K2 N out
def spec_l4Traced_L2 (N fu_ : Nat) := it_3_2 (spec_l4Traced_B2 N) fu_
theorem spec_l4Traced_L2_succ (N fu_ : Nat) (table1 : List (List Int)) (s : Int) (t : Int) (c1 : (List Int) × (List Int) × (List Int) × (List Int)) (out : List Int) : spec_l4Traced_L2 N (fu_ + 1) table1 s t c1 out = spec_l4Traced_B2 N (fun table1 s t c1 out => spec_l4Traced_L2 N fu_ table1 s t c1 out) table1 s t c1 out := rfl
def spec_l4Traced (N : Nat) (c : (List Int) × (List Int) × (List Int) × (List Int)) (table : List (List Int)) : Option ((List Int) × Unit) :=
  spec_l4Traced_L2 N N table 0 0 c []
def spec_l2Sum_K1 (N : Nat) (sum1 : Int) : Option (Int × Unit) :=
  some (sum1, ())
def spec_l2Sum_B1 (N : Nat) (kx : (List Int) → Int → Int → Option (Int × Unit)) (list1 : List Int) (sum : Int) (i : Int) : Option (Int × Unit) :=
  bif ilt i (len list1) then
    chk (inB i list1.length) <|
    kx list1 (iadd .i64 sum (gd list1 i.toNat 0)) (iadd .i64 i 1)
  else
    spec_l2Sum_K1 N sum
def spec_l2Sum_L1 (N fu_ : Nat) := it_3_0 (spec_l2Sum_B1 N) fu_
def spec_l2Sum_L1_run (N : Nat) := run3 (spec_l2Sum_B1 N) (spec_l2Sum_L1 N) (fun _ _ _ _ => rfl)
def spec_l2Sum (N : Nat) (list : List Int) : Option (Int × Unit) :=
  spec_l2Sum_L1 N N list 0 0
def spec_l4Least (N : Nat) (a : Int) (b : Int) : Option (Int × Unit) :=
  bif ilt a 0 then
    some (b, ())
  else
    bif ile 0 b then
      bif ilt b a then
        some (b, ())
      else
        some (a, ())
    else
      some (a, ())
def spec_l4Future_K1 (N : Nat) (kx2 : (List Int) → Int → Int → Int → ((List Int) × (List Int) × (List Int) × (List Int)) → (List (List Int)) → (List Int) → Option ((List (List Int)) × Unit)) (limits6 : List Int) (total5 : Int) (t3 : Int) (s3 : Int) (best1 : Int) (c6 : (List Int) × (List Int) × (List Int) × (List Int)) (out3 : List (List Int)) (row2 : List Int) : Option ((List (List Int)) × Unit) :=
  chk (fitB (row2.length + 1) 8) <|
  kx2 limits6 total5 t3 (iadd .i64 s3 1) c6 out3 (row2 ++ [best1])
def spec_l4Future_B1 (N : Nat) (kx2 : (List Int) → Int → Int → Int → ((List Int) × (List Int) × (List Int) × (List Int)) → (List (List Int)) → (List Int) → Option ((List (List Int)) × Unit)) (kx3 : (List Int) → Int → Int → Int → Int → Int → ((List Int) × (List Int) × (List Int) × (List Int)) → (List (List Int)) → (List Int) → Option ((List (List Int)) × Unit)) (limits5 : List Int) (total4 : Int) (t2 : Int) (s2 : Int) (best : Int) (x : Int) (c5 : (List Int) × (List Int) × (List Int) × (List Int)) (out2 : List (List Int)) (row1 : List Int) : Option ((List (List Int)) × Unit) :=
  chk (inB t2 limits5.length) <|
  bif ile x (gd limits5 t2.toNat 0) then
    chk (inB t2 c5.1.length) <|
    (spec_l1In N (isub .i64 (iadd .i64 s2 x) (gd c5.1 t2.toNat 0)) 0 total4).bind fun r1 =>
    bif r1.1 then
      chk (inB 0 out2.length) <|
      chk (inB (isub .i64 (iadd .i64 s2 x) (gd c5.1 t2.toNat 0)) (gd out2 0 []).length) <|
      bif ile 0 (gd (gd out2 0 []) (isub .i64 (iadd .i64 s2 x) (gd c5.1 t2.toNat 0)).toNat 0) then
        (spec_l4Step N c5 t2 x (isub .i64 (iadd .i64 s2 x) (gd c5.1 t2.toNat 0))).bind fun r2 =>
        chk (inB 0 out2.length) <|
        chk (inB (isub .i64 (iadd .i64 s2 x) (gd c5.1 t2.toNat 0)) (gd out2 0 []).length) <|
        (spec_l4Least N best (iadd .i64 r2.1 (gd (gd out2 0 []) (isub .i64 (iadd .i64 s2 x) (gd c5.1 t2.toNat 0)).toNat 0))).bind fun r3 =>
        kx3 limits5 total4 t2 s2 r3.1 (iadd .i64 x 1) c5 out2 row1
      else
        kx3 limits5 total4 t2 s2 best (iadd .i64 x 1) c5 out2 row1
    else
      kx3 limits5 total4 t2 s2 best (iadd .i64 x 1) c5 out2 row1
  else
    spec_l4Future_K1 N kx2 limits5 total4 t2 s2 best c5 out2 row1
def spec_l4Future_L1 (N fu_ : Nat) (kx2 : (List Int) → Int → Int → Int → ((List Int) × (List Int) × (List Int) × (List Int)) → (List (List Int)) → (List Int) → Option ((List (List Int)) × Unit)) := it_6_3 (spec_l4Future_B1 N kx2) fu_
def spec_l4Future_L1_run (N : Nat) (kx2 : (List Int) → Int → Int → Int → ((List Int) × (List Int) × (List Int) × (List Int)) → (List (List Int)) → (List Int) → Option ((List (List Int)) × Unit)) := run9 (spec_l4Future_B1 N kx2) (fun u_ => spec_l4Future_L1 N u_ kx2) (fun _ _ _ _ _ _ _ _ _ _ => rfl)
def spec_l4Future_K2 (N : Nat) (kx1 : (List Int) → Int → Int → ((List Int) × (List Int) × (List Int) × (List Int)) → (List (List Int)) → Option ((List (List Int)) × Unit)) (limits7 : List Int) (total6 : Int) (t4 : Int) (c7 : (List Int) × (List Int) × (List Int) × (List Int)) (out4 : List (List Int)) (row3 : List Int) : Option ((List (List Int)) × Unit) :=
  chk (fitB (1 + out4.length) 24) <|
  kx1 limits7 total6 (isub .i64 t4 1) c7 ([row3] ++ out4)
def spec_l4Future_B2 (N : Nat) (kx1 : (List Int) → Int → Int → ((List Int) × (List Int) × (List Int) × (List Int)) → (List (List Int)) → Option ((List (List Int)) × Unit)) (kx2 : (List Int) → Int → Int → Int → ((List Int) × (List Int) × (List Int) × (List Int)) → (List (List Int)) → (List Int) → Option ((List (List Int)) × Unit)) (limits4 : List Int) (total3 : Int) (t1 : Int) (s1 : Int) (c4 : (List Int) × (List Int) × (List Int) × (List Int)) (out1 : List (List Int)) (row : List Int) : Option ((List (List Int)) × Unit) :=
  bif ile s1 total3 then
    spec_l4Future_L1 N N kx2 limits4 total3 t1 s1 (-1) 0 c4 out1 row
  else
    spec_l4Future_K2 N kx1 limits4 total3 t1 c4 out1 row
def spec_l4Future_L2 (N fu_ : Nat) (kx1 : (List Int) → Int → Int → ((List Int) × (List Int) × (List Int) × (List Int)) → (List (List Int)) → Option ((List (List Int)) × Unit)) := it_4_3 (spec_l4Future_B2 N kx1) fu_
def spec_l4Future_L2_run (N : Nat) (kx1 : (List Int) → Int → Int → ((List Int) × (List Int) × (List Int) × (List Int)) → (List (List Int)) → Option ((List (List Int)) × Unit)) := run7 (spec_l4Future_B2 N kx1) (fun u_ => spec_l4Future_L2 N u_ kx1) (fun _ _ _ _ _ _ _ _ => rfl)
def spec_l4Future_K3 (N : Nat) (out5 : List (List Int)) : Option ((List (List Int)) × Unit) :=
  some (out5, ())
def spec_l4Future_B3 (N : Nat) (kx1 : (List Int) → Int → Int → ((List Int) × (List Int) × (List Int) × (List Int)) → (List (List Int)) → Option ((List (List Int)) × Unit)) (limits3 : List Int) (total2 : Int) (t : Int) (c3 : (List Int) × (List Int) × (List Int) × (List Int)) (out : List (List Int)) : Option ((List (List Int)) × Unit) :=
  bif ile 0 t then
    spec_l4Future_L2 N N kx1 limits3 total2 t 0 c3 out []
  else
    spec_l4Future_K3 N out
def spec_l4Future_L3 (N fu_ : Nat) := it_3_2 (spec_l4Future_B3 N) fu_
def spec_l4Future_L3_run (N : Nat) := run5 (spec_l4Future_B3 N) (spec_l4Future_L3 N) (fun _ _ _ _ _ _ => rfl)
def spec_l4Future_K4 (N : Nat) (limits2 : List Int) (total1 : Int) (c2 : (List Int) × (List Int) × (List Int) × (List Int)) (last1 : List Int) : Option ((List (List Int)) × Unit) :=
  spec_l4Future_L3 N N limits2 total1 (isub .i64 (len c2.1) 1) c2 [last1]
def spec_l4Future_B4 (N : Nat) (kx : (List Int) → Int → Int → ((List Int) × (List Int) × (List Int) × (List Int)) → (List Int) → Option ((List (List Int)) × Unit)) (limits1 : List Int) (total : Int) (s : Int) (c1 : (List Int) × (List Int) × (List Int) × (List Int)) (last : List Int) : Option ((List (List Int)) × Unit) :=
  bif ile s total then
    chk (inB s last.length) <|
    kx limits1 total (iadd .i64 s 1) c1 (List.set last s.toNat (-1))
  else
    spec_l4Future_K4 N limits1 total c1 last
def spec_l4Future_L4 (N fu_ : Nat) := it_3_2 (spec_l4Future_B4 N) fu_
def spec_l4Future_L4_run (N : Nat) := run5 (spec_l4Future_B4 N) (spec_l4Future_L4 N) (fun _ _ _ _ _ _ => rfl)
def spec_l4Future (N : Nat) (c : (List Int) × (List Int) × (List Int) × (List Int)) (limits : List Int) : Option ((List (List Int)) × Unit) :=
  (spec_l2Sum N c.1).bind fun r =>
  chk (mkB (iadd .i64 r.1 1) 8) <|
  spec_l4Future_L4 N N limits r.1 1 c (List.replicate (iadd .i64 r.1 1).toNat (0 : Int))
def spec_LimitedPlan (N : Nat) (c : (List Int) × (List Int) × (List Int) × (List Int)) (limits : List Int) : Option (((List Int) × Bool) × Unit) :=
  (spec_l4Can N c limits).bind fun r =>
  bif !r.1 then
    some (([], false), ())
  else
    (spec_l4Future N c limits).bind fun r1 =>
    (spec_l4Traced N c r1.1).bind fun r2 =>
    some ((r2.1, true), ())
def spec_l1Least (N : Nat) (a : Int) (b : Int) : Option (Int × Unit) :=
  bif ilt a b then
    some (a, ())
  else
    some (b, ())
def spec_LatestStart_K1 (N : Nat) (out1 : List Int) : Option (((List Int) × Bool) × Unit) :=
  some ((out1, true), ())
def spec_LatestStart_B1 (N : Nat) (kx : (List Int) → Int → Int → ((List Int) × (List Int) × (List Int) × (List Int)) → (List Int) → Option (((List Int) × Bool) × Unit)) (limits1 : List Int) (left : Int) (t : Int) (c1 : (List Int) × (List Int) × (List Int) × (List Int)) (out : List Int) : Option (((List Int) × Bool) × Unit) :=
  bif ile 0 t then
    chk (inB t c1.1.length) <|
    chk (inB t limits1.length) <|
    (spec_l1Least N (iadd .i64 left (gd c1.1 t.toNat 0)) (gd limits1 t.toNat 0)).bind fun r1 =>
    chk (inB t out.length) <|
    chk (inB t (List.set out t.toNat r1.1).length) <|
    kx limits1 (isub .i64 (iadd .i64 left (gd c1.1 t.toNat 0)) (gd (List.set out t.toNat r1.1) t.toNat 0)) (isub .i64 t 1) c1 (List.set out t.toNat r1.1)
  else
    spec_LatestStart_K1 N out
def spec_LatestStart_L1 (N fu_ : Nat) := it_3_2 (spec_LatestStart_B1 N) fu_
def spec_LatestStart_L1_run (N : Nat) := run5 (spec_LatestStart_B1 N) (spec_LatestStart_L1 N) (fun _ _ _ _ _ _ => rfl)
def spec_LatestStart (N : Nat) (c : (List Int) × (List Int) × (List Int) × (List Int)) (limits : List Int) : Option (((List Int) × Bool) × Unit) :=
  (spec_l4Can N c limits).bind fun r =>
  bif !r.1 then
    some (([], false), ())
  else
    chk (mkB (len limits) 8) <|
    spec_LatestStart_L1 N N limits 0 (isub .i64 (len limits) 1) c (List.replicate (len limits).toNat (0 : Int))
def pspec_l1Cur_next_K1 (N : Nat) (b : Int) (c1 : (List Int) × Int × Int) : Option (Int × ((List Int) × Int × Int)) :=
  bif ile (iadd .i64 c1.2.1 1) (len c1.1) then
    some (b, (c1.1, (iadd .i64 c1.2.1 1, iadd .u64 (iadd .u64 (imul .u64 c1.2.2 6364136223846793005) (icv .u64 b)) 462197)))
  else
    chk (ile 0 40) <|
    some (icv .i64 (iand .u64 (ishr .u64 (iadd .u64 (iadd .u64 (imul .u64 c1.2.2 6364136223846793005) (icv .u64 b)) 462197) 40) 255), (c1.1, (iadd .i64 c1.2.1 1, iadd .u64 (iadd .u64 (imul .u64 c1.2.2 6364136223846793005) (icv .u64 b)) 462197)))
def pspec_l1Cur_next (N : Nat) (c : (List Int) × Int × Int) : Option (Int × ((List Int) × Int × Int)) :=
  bif ilt c.2.1 (len c.1) then
    chk (inB c.2.1 c.1.length) <|
    pspec_l1Cur_next_K1 N (icv .i64 (gd c.1 c.2.1.toNat 0)) c
  else
    pspec_l1Cur_next_K1 N 0 c
def pspec_l1Cur_pick (N : Nat) (c : (List Int) × Int × Int) (n : Int) : Option (Int × ((List Int) × Int × Int)) :=
  bif ile n 1 then
    some (0, c)
  else
    (pspec_l1Cur_next N c).bind fun r =>
    bif ilt 200 n then
      (pspec_l1Cur_next N r.2).bind fun r1 =>
      chk (ine n 0) <|
      some (irem (iadd .i64 (imul .i64 r.1 256) r1.1) n, r1.2)
    else
      chk (ine n 0) <|
      some (irem r.1 n, r.2)
def pspec_l1Cur_one (N : Nat) (c : (List Int) × Int × Int) (n : Int) : Option (Bool × ((List Int) × Int × Int)) :=
  (pspec_l1Cur_pick N c n).bind fun r =>
  some (ieq r.1 0, r.2)
def pspec_l1Cur_among (N : Nat) (c : (List Int) × Int × Int) (list : List Int) : Option (Int × ((List Int) × Int × Int)) :=
  (pspec_l1Cur_pick N c (len list)).bind fun r =>
  chk (inB r.1 list.length) <|
  some (gd list r.1.toNat 0, r.2)
def pspec_l1Cur_limits_K1 (N : Nat) (kx2 : Int → Int → Int → ((List Int) × Int × Int) → ((List Int) × (List Int) × (List Int) × (List Int)) → (List Int) → Option ((List Int) × ((List Int) × Int × Int))) (left1 : Int) (same1 : Int) (t1 : Int) (x : Int) (c2 : (List Int) × Int × Int) (kx3 : (List Int) × (List Int) × (List Int) × (List Int)) (out1 : List Int) : Option ((List Int) × ((List Int) × Int × Int)) :=
  chk (inB t1 kx3.1.length) <|
  bif ilt (isub .i64 (iadd .i64 left1 x) (gd kx3.1 t1.toNat 0)) 0 then
    (pspec_l1Cur_one N c2 12).bind fun r2 =>
    bif !r2.1 then
      (spec_l1Least N (isub .i64 x (isub .i64 (iadd .i64 left1 x) (gd kx3.1 t1.toNat 0))) 160).bind fun r3 =>
      chk (fitB (out1.length + 1) 8) <|
      kx2 0 same1 (iadd .i64 t1 1) r2.2 kx3 (out1 ++ [r3.1])
    else
      (spec_l1Least N x 160).bind fun r4 =>
      chk (fitB (out1.length + 1) 8) <|
      kx2 (isub .i64 (iadd .i64 left1 x) (gd kx3.1 t1.toNat 0)) same1 (iadd .i64 t1 1) r2.2 kx3 (out1 ++ [r4.1])
  else
    (spec_l1Least N x 160).bind fun r5 =>
    chk (fitB (out1.length + 1) 8) <|
    kx2 (isub .i64 (iadd .i64 left1 x) (gd kx3.1 t1.toNat 0)) same1 (iadd .i64 t1 1) c2 kx3 (out1 ++ [r5.1])
def pspec_l1Cur_limits_K2 (N : Nat) (c5 : (List Int) × Int × Int) (out4 : List Int) : Option ((List Int) × ((List Int) × Int × Int)) :=
  some (out4, c5)
def pspec_l1Cur_limits_B1 (N : Nat) (kx4 : Int → ((List Int) × Int × Int) → (List Int) → Option ((List Int) × ((List Int) × Int × Int))) (t2 : Int) (c4 : (List Int) × Int × Int) (out3 : List Int) : Option ((List Int) × ((List Int) × Int × Int)) :=
  bif ilt t2 (len out3) then
    chk (inB t2 out3.length) <|
    kx4 (iadd .i64 t2 1) c4 (List.set out3 t2.toNat 160)
  else
    pspec_l1Cur_limits_K2 N c4 out3
def pspec_l1Cur_limits_L1 (N fu_ : Nat) := it_1_2 (pspec_l1Cur_limits_B1 N) fu_
theorem pspec_l1Cur_limits_L1_succ (N fu_ : Nat) (t2 : Int) (c4 : (List Int) × Int × Int) (out3 : List Int) : pspec_l1Cur_limits_L1 N (fu_ + 1) t2 c4 out3 = pspec_l1Cur_limits_B1 N (fun t2 c4 out3 => pspec_l1Cur_limits_L1 N fu_ t2 c4 out3) t2 c4 out3 := rfl
def pspec_l1Cur_limits_K3 (N : Nat) (c3 : (List Int) × Int × Int) (out2 : List Int) : Option ((List Int) × ((List Int) × Int × Int)) :=
  (pspec_l1Cur_pick N c3 40).bind fun r6 =>
  bif ieq r6.1 0 then
    chk (fitB (out2.length + 1) 8) <|
    some (out2 ++ [3], r6.2)
  else
    bif ieq r6.1 1 then
      bif ilt 0 (len out2) then
        (pspec_l1Cur_pick N r6.2 (len out2)).bind fun r7 =>
        (pspec_l1Cur_among N r7.2 [(-1), 160, 161, 4611686018427387904]).bind fun r8 =>
        chk (inB r7.1 out2.length) <|
        some (List.set out2 r7.1.toNat r8.1, r8.2)
      else
        some (out2, r6.2)
    else
      bif ieq r6.1 2 then
        pspec_l1Cur_limits_L1 N N 0 r6.2 out2
      else
        some (out2, r6.2)
def pspec_l1Cur_limits_B2 (N : Nat) (kx2 : Int → Int → Int → ((List Int) × Int × Int) → ((List Int) × (List Int) × (List Int) × (List Int)) → (List Int) → Option ((List Int) × ((List Int) × Int × Int))) (left : Int) (same : Int) (t : Int) (c1 : (List Int) × Int × Int) (kx1 : (List Int) × (List Int) × (List Int) × (List Int)) (out : List Int) : Option ((List Int) × ((List Int) × Int × Int)) :=
  bif ilt t (len kx1.1) then
    (pspec_l1Cur_among N c1 [0, 2, 4, 6, 10, 16]).bind fun r1 =>
    bif ilt 0 same then
      pspec_l1Cur_limits_K1 N kx2 left same t same r1.2 kx1 out
    else
      pspec_l1Cur_limits_K1 N kx2 left same t r1.1 r1.2 kx1 out
  else
    pspec_l1Cur_limits_K3 N c1 out
def pspec_l1Cur_limits_L2 (N fu_ : Nat) := it_3_3 (pspec_l1Cur_limits_B2 N) fu_
theorem pspec_l1Cur_limits_L2_succ (N fu_ : Nat) (left : Int) (same : Int) (t : Int) (c1 : (List Int) × Int × Int) (kx1 : (List Int) × (List Int) × (List Int) × (List Int)) (out : List Int) : pspec_l1Cur_limits_L2 N (fu_ + 1) left same t c1 kx1 out = pspec_l1Cur_limits_B2 N (fun left same t c1 kx1 out => pspec_l1Cur_limits_L2 N fu_ left same t c1 kx1 out) left same t c1 kx1 out := rfl
def pspec_l1Cur_limits (N : Nat) (c : (List Int) × Int × Int) (kx : (List Int) × (List Int) × (List Int) × (List Int)) : Option ((List Int) × ((List Int) × Int × Int)) :=
  (pspec_l1Cur_among N c [0, 0, 6, 9]).bind fun r =>
  pspec_l1Cur_limits_L2 N N 0 r.1 0 r.2 kx []
def pspec_l1Cur_someLots_K1 (N : Nat) (kx1 : Int → Bool → Int → Int → Int → Int → ((List Int) × Int × Int) → ((List Int) × (List Int) × (List Int) × (List Int)) → ((List Int) × (List Int) × (List Int) × (List Int)) → Option (((List Int) × (List Int) × (List Int) × (List Int)) × ((List Int) × Int × Int))) (n1 : Int) (same1 : Bool) (setup1 : Int) (unit1 : Int) (hold1 : Int) (t1 : Int) (c2 : (List Int) × Int × Int) (v41 : (List Int) × (List Int) × (List Int) × (List Int)) (kx2 : (List Int) × (List Int) × (List Int) × (List Int)) : Option (((List Int) × (List Int) × (List Int) × (List Int)) × ((List Int) × Int × Int)) :=
  (pspec_l1Cur_among N c2 [0, 1, 2, 3, 5, 8]).bind fun r9 =>
  chk (fitB (kx2.1.length + 1) 8) <|
  chk (fitB (kx2.2.1.length + 1) 8) <|
  chk (fitB (kx2.2.2.1.length + 1) 8) <|
  chk (fitB (kx2.2.2.2.length + 1) 8) <|
  kx1 n1 same1 setup1 unit1 hold1 (iadd .i64 t1 1) r9.2 v41 (kx2.1 ++ [r9.1], (kx2.2.1 ++ [setup1], (kx2.2.2.1 ++ [unit1], kx2.2.2.2 ++ [hold1])))
def pspec_l1Cur_someLots_K2 (N : Nat) (c5 : (List Int) × Int × Int) (v44 : (List Int) × (List Int) × (List Int) × (List Int)) (kx6 : (List Int) × (List Int) × (List Int) × (List Int)) : Option (((List Int) × (List Int) × (List Int) × (List Int)) × ((List Int) × Int × Int)) :=
  some (kx6, c5)
def pspec_l1Cur_someLots_B1 (N : Nat) (kx5 : ((List Int) × Int × Int) → ((List Int) × (List Int) × (List Int) × (List Int)) → ((List Int) × (List Int) × (List Int) × (List Int)) → Option (((List Int) × (List Int) × (List Int) × (List Int)) × ((List Int) × Int × Int))) (c4 : (List Int) × Int × Int) (v43 : (List Int) × (List Int) × (List Int) × (List Int)) (kx4 : (List Int) × (List Int) × (List Int) × (List Int)) : Option (((List Int) × (List Int) × (List Int) × (List Int)) × ((List Int) × Int × Int)) :=
  bif ilt (len kx4.1) 9 then
    chk (fitB (kx4.1.length + 1) 8) <|
    chk (fitB (kx4.2.1.length + 1) 8) <|
    chk (fitB (kx4.2.2.1.length + 1) 8) <|
    chk (fitB (kx4.2.2.2.length + 1) 8) <|
    kx5 c4 v43 (kx4.1 ++ [1], (kx4.2.1 ++ [1], (kx4.2.2.1 ++ [1], kx4.2.2.2 ++ [1])))
  else
    pspec_l1Cur_someLots_K2 N c4 v43 kx4
def pspec_l1Cur_someLots_L1 (N fu_ : Nat) := it_0_3 (pspec_l1Cur_someLots_B1 N) fu_
theorem pspec_l1Cur_someLots_L1_succ (N fu_ : Nat) (c4 : (List Int) × Int × Int) (v43 : (List Int) × (List Int) × (List Int) × (List Int)) (kx4 : (List Int) × (List Int) × (List Int) × (List Int)) : pspec_l1Cur_someLots_L1 N (fu_ + 1) c4 v43 kx4 = pspec_l1Cur_someLots_B1 N (fun c4 v43 kx4 => pspec_l1Cur_someLots_L1 N fu_ c4 v43 kx4) c4 v43 kx4 := rfl
def pspec_l1Cur_someLots_K3 (N : Nat) (n2 : Int) (c3 : (List Int) × Int × Int) (v42 : (List Int) × (List Int) × (List Int) × (List Int)) (kx3 : (List Int) × (List Int) × (List Int) × (List Int)) : Option (((List Int) × (List Int) × (List Int) × (List Int)) × ((List Int) × Int × Int)) :=
  bif ilt 0 n2 then
    (pspec_l1Cur_pick N c3 n2).bind fun r10 =>
    (pspec_l1Cur_pick N r10.2 60).bind fun r11 =>
    bif ieq r11.1 0 then
      (pspec_l1Cur_among N r11.2 [(-1), 20, 21, 4611686018427387904]).bind fun r12 =>
      chk (inB r10.1 kx3.1.length) <|
      some ((List.set kx3.1 r10.1.toNat r12.1, kx3.2), r12.2)
    else
      bif ieq r11.1 1 then
        (pspec_l1Cur_among N r11.2 [(-1), 99, 100]).bind fun r13 =>
        chk (inB r10.1 kx3.2.1.length) <|
        some ((kx3.1, (List.set kx3.2.1 r10.1.toNat r13.1, kx3.2.2)), r13.2)
      else
        bif ieq r11.1 2 then
          (pspec_l1Cur_among N r11.2 [(-1), 9, 10]).bind fun r14 =>
          chk (inB r10.1 kx3.2.2.1.length) <|
          some ((kx3.1, (kx3.2.1, (List.set kx3.2.2.1 r10.1.toNat r14.1, kx3.2.2.2))), r14.2)
        else
          bif ieq r11.1 3 then
            (pspec_l1Cur_among N r11.2 [(-1), 9, 10]).bind fun r15 =>
            chk (inB r10.1 kx3.2.2.2.length) <|
            some ((kx3.1, (kx3.2.1, (kx3.2.2.1, List.set kx3.2.2.2 r10.1.toNat r15.1))), r15.2)
          else
            bif ieq r11.1 4 then
              chk (fitB (kx3.2.2.1.length + 1) 8) <|
              some ((kx3.1, (kx3.2.1, (kx3.2.2.1 ++ [1], kx3.2.2.2))), r11.2)
            else
              bif ieq r11.1 5 then
                pspec_l1Cur_someLots_L1 N N r11.2 v42 kx3
              else
                some (kx3, r11.2)
  else
    some (kx3, c3)
def pspec_l1Cur_someLots_B2 (N : Nat) (kx1 : Int → Bool → Int → Int → Int → Int → ((List Int) × Int × Int) → ((List Int) × (List Int) × (List Int) × (List Int)) → ((List Int) × (List Int) × (List Int) × (List Int)) → Option (((List Int) × (List Int) × (List Int) × (List Int)) × ((List Int) × Int × Int))) (n : Int) (same : Bool) (setup : Int) (unit : Int) (hold : Int) (t : Int) (c1 : (List Int) × Int × Int) (v4 : (List Int) × (List Int) × (List Int) × (List Int)) (kx : (List Int) × (List Int) × (List Int) × (List Int)) : Option (((List Int) × (List Int) × (List Int) × (List Int)) × ((List Int) × Int × Int)) :=
  bif ilt t n then
    bif !same then
      (pspec_l1Cur_among N c1 [0, 2, 5, 9, 14, 30]).bind fun r6 =>
      (pspec_l1Cur_pick N r6.2 5).bind fun r7 =>
      (pspec_l1Cur_pick N r7.2 4).bind fun r8 =>
      pspec_l1Cur_someLots_K1 N kx1 n same r6.1 r7.1 r8.1 t r8.2 v4 kx
    else
      pspec_l1Cur_someLots_K1 N kx1 n same setup unit hold t c1 v4 kx
  else
    pspec_l1Cur_someLots_K3 N n c1 v4 kx
def pspec_l1Cur_someLots_L2 (N fu_ : Nat) := it_6_3 (pspec_l1Cur_someLots_B2 N) fu_
theorem pspec_l1Cur_someLots_L2_succ (N fu_ : Nat) (n : Int) (same : Bool) (setup : Int) (unit : Int) (hold : Int) (t : Int) (c1 : (List Int) × Int × Int) (v4 : (List Int) × (List Int) × (List Int) × (List Int)) (kx : (List Int) × (List Int) × (List Int) × (List Int)) : pspec_l1Cur_someLots_L2 N (fu_ + 1) n same setup unit hold t c1 v4 kx = pspec_l1Cur_someLots_B2 N (fun n same setup unit hold t c1 v4 kx => pspec_l1Cur_someLots_L2 N fu_ n same setup unit hold t c1 v4 kx) n same setup unit hold t c1 v4 kx := rfl
def pspec_l1Cur_someLots (N : Nat) (c : (List Int) × Int × Int) (most : Int) : Option (((List Int) × (List Int) × (List Int) × (List Int)) × ((List Int) × Int × Int)) :=
  (pspec_l1Cur_among N c [4, 5, 3, 6, 8, 2, 1, 0]).bind fun r =>
  (spec_l1Least N r.1 most).bind fun r1 =>
  (pspec_l1Cur_one N r.2 2).bind fun r2 =>
  (pspec_l1Cur_among N r2.2 [0, 3, 5, 8, 12, 20]).bind fun r3 =>
  (pspec_l1Cur_pick N r3.2 3).bind fun r4 =>
  (pspec_l1Cur_pick N r4.2 2).bind fun r5 =>
  pspec_l1Cur_someLots_L2 N N r1.1 r2.1 r3.1 r4.1 (iadd .i64 1 r5.1) 0 r5.2 ([], ([], ([], []))) ([], ([], ([], [])))
def pspec_l1Cur_amounts_K1 (N : Nat) (kx4 : Int → Int → ((List Int) × Int × Int) → ((List Int) × (List Int) × (List Int) × (List Int)) → (List Int) → Option ((List Int) × ((List Int) × Int × Int))) (t2 : Int) (left1 : Int) (fromx : Int) (c3 : (List Int) × Int × Int) (kx5 : (List Int) × (List Int) × (List Int) × (List Int)) (out2 : List Int) : Option ((List Int) × ((List Int) × Int × Int)) :=
  (pspec_l1Cur_one N c3 2).bind fun r3 =>
  bif r3.1 then
    (pspec_l1Cur_pick N r3.2 left1).bind fun r4 =>
    chk (inB fromx out2.length) <|
    chk (inB fromx out2.length) <|
    kx4 t2 (isub .i64 left1 (iadd .i64 1 r4.1)) r4.2 kx5 (List.set out2 fromx.toNat (iadd .i64 (gd out2 fromx.toNat 0) (iadd .i64 1 r4.1)))
  else
    chk (inB fromx out2.length) <|
    chk (inB fromx out2.length) <|
    kx4 t2 (isub .i64 left1 left1) r3.2 kx5 (List.set out2 fromx.toNat (iadd .i64 (gd out2 fromx.toNat 0) left1))
def pspec_l1Cur_amounts_K2 (N : Nat) (kx2 : Int → ((List Int) × Int × Int) → ((List Int) × (List Int) × (List Int) × (List Int)) → (List Int) → Option ((List Int) × ((List Int) × Int × Int))) (t3 : Int) (c4 : (List Int) × Int × Int) (kx6 : (List Int) × (List Int) × (List Int) × (List Int)) (out3 : List Int) : Option ((List Int) × ((List Int) × Int × Int)) :=
  kx2 (iadd .i64 t3 1) c4 kx6 out3
def pspec_l1Cur_amounts_B1 (N : Nat) (kx2 : Int → ((List Int) × Int × Int) → ((List Int) × (List Int) × (List Int) × (List Int)) → (List Int) → Option ((List Int) × ((List Int) × Int × Int))) (kx4 : Int → Int → ((List Int) × Int × Int) → ((List Int) × (List Int) × (List Int) × (List Int)) → (List Int) → Option ((List Int) × ((List Int) × Int × Int))) (t1 : Int) (left : Int) (c2 : (List Int) × Int × Int) (kx3 : (List Int) × (List Int) × (List Int) × (List Int)) (out1 : List Int) : Option ((List Int) × ((List Int) × Int × Int)) :=
  bif ilt 0 left then
    (pspec_l1Cur_one N c2 2).bind fun r1 =>
    bif r1.1 then
      (pspec_l1Cur_pick N r1.2 (iadd .i64 t1 1)).bind fun r2 =>
      pspec_l1Cur_amounts_K1 N kx4 t1 left r2.1 r2.2 kx3 out1
    else
      pspec_l1Cur_amounts_K1 N kx4 t1 left t1 r1.2 kx3 out1
  else
    pspec_l1Cur_amounts_K2 N kx2 t1 c2 kx3 out1
def pspec_l1Cur_amounts_L1 (N fu_ : Nat) (kx2 : Int → ((List Int) × Int × Int) → ((List Int) × (List Int) × (List Int) × (List Int)) → (List Int) → Option ((List Int) × ((List Int) × Int × Int))) := it_2_3 (pspec_l1Cur_amounts_B1 N kx2) fu_
theorem pspec_l1Cur_amounts_L1_succ (N fu_ : Nat) (kx2 : Int → ((List Int) × Int × Int) → ((List Int) × (List Int) × (List Int) × (List Int)) → (List Int) → Option ((List Int) × ((List Int) × Int × Int))) (t1 : Int) (left : Int) (c2 : (List Int) × Int × Int) (kx3 : (List Int) × (List Int) × (List Int) × (List Int)) (out1 : List Int) : pspec_l1Cur_amounts_L1 N (fu_ + 1) kx2 t1 left c2 kx3 out1 = pspec_l1Cur_amounts_B1 N kx2 (fun t1 left c2 kx3 out1 => pspec_l1Cur_amounts_L1 N fu_ kx2 t1 left c2 kx3 out1) t1 left c2 kx3 out1 := rfl
def pspec_l1Cur_amounts_K3 (N : Nat) (c5 : (List Int) × Int × Int) (out4 : List Int) : Option ((List Int) × ((List Int) × Int × Int)) :=
  (pspec_l1Cur_pick N c5 30).bind fun r5 =>
  bif ieq r5.1 0 then
    (pspec_l1Cur_among N r5.2 [0, 1]).bind fun r6 =>
    chk (fitB (out4.length + 1) 8) <|
    some (out4 ++ [r6.1], r6.2)
  else
    bif ieq r5.1 1 then
      bif ilt 0 (len out4) then
        (pspec_l1Cur_pick N r5.2 (len out4)).bind fun r7 =>
        chk (inB r7.1 out4.length) <|
        (pspec_l1Cur_among N r7.2 [1, (-1), 4611686018427387904, (-9223372036854775808)]).bind fun r8 =>
        chk (inB r7.1 out4.length) <|
        some (List.set out4 r7.1.toNat (iadd .i64 (gd out4 r7.1.toNat 0) r8.1), r8.2)
      else
        some (out4, r5.2)
    else
      some (out4, r5.2)
def pspec_l1Cur_amounts_B2 (N : Nat) (kx2 : Int → ((List Int) × Int × Int) → ((List Int) × (List Int) × (List Int) × (List Int)) → (List Int) → Option ((List Int) × ((List Int) × Int × Int))) (t : Int) (c1 : (List Int) × Int × Int) (kx1 : (List Int) × (List Int) × (List Int) × (List Int)) (out : List Int) : Option ((List Int) × ((List Int) × Int × Int)) :=
  bif ilt t (len kx1.1) then
    chk (inB t kx1.1.length) <|
    pspec_l1Cur_amounts_L1 N N kx2 t (gd kx1.1 t.toNat 0) c1 kx1 out
  else
    pspec_l1Cur_amounts_K3 N c1 out
def pspec_l1Cur_amounts_L2 (N fu_ : Nat) := it_1_3 (pspec_l1Cur_amounts_B2 N) fu_
theorem pspec_l1Cur_amounts_L2_succ (N fu_ : Nat) (t : Int) (c1 : (List Int) × Int × Int) (kx1 : (List Int) × (List Int) × (List Int) × (List Int)) (out : List Int) : pspec_l1Cur_amounts_L2 N (fu_ + 1) t c1 kx1 out = pspec_l1Cur_amounts_B2 N (fun t c1 kx1 out => pspec_l1Cur_amounts_L2 N fu_ t c1 kx1 out) t c1 kx1 out := rfl
def pspec_l1Cur_amounts (N : Nat) (c : (List Int) × Int × Int) (kx : (List Int) × (List Int) × (List Int) × (List Int)) : Option ((List Int) × ((List Int) × Int × Int)) :=
  chk (mkB (len kx.1) 8) <|
  (spec_l2Good N kx).bind fun r =>
  bif !r.1 then
    some (List.replicate (len kx.1).toNat (0 : Int), c)
  else
    pspec_l1Cur_amounts_L2 N N 0 c kx (List.replicate (len kx.1).toNat (0 : Int))
def pspec_l1Cur_kept_K1 (N : Nat) (c3 : (List Int) × Int × Int) (v22 : (List Int) × (List Int) × (List Int) × (List Int)) (kx3 : (List Int) × (List Int) × (List Int) × (List Int)) (limits2 : List Int) (plan1 : List Int) : Option ((((List Int) × (List Int) × (List Int) × (List Int)) × (List Int) × (List Int)) × ((List Int) × Int × Int)) :=
  some ((kx3, (limits2, plan1)), c3)
def pspec_l1Cur_kept_B1 (N : Nat) (kx2 : Int → ((List Int) × Int × Int) → ((List Int) × (List Int) × (List Int) × (List Int)) → ((List Int) × (List Int) × (List Int) × (List Int)) → (List Int) → (List Int) → Option ((((List Int) × (List Int) × (List Int) × (List Int)) × (List Int) × (List Int)) × ((List Int) × Int × Int))) (t : Int) (c2 : (List Int) × Int × Int) (v21 : (List Int) × (List Int) × (List Int) × (List Int)) (kx1 : (List Int) × (List Int) × (List Int) × (List Int)) (limits1 : List Int) (plan : List Int) : Option ((((List Int) × (List Int) × (List Int) × (List Int)) × (List Int) × (List Int)) × ((List Int) × Int × Int)) :=
  bif ilt t (len limits1) then
    bif ilt t (len plan) then
      (pspec_l1Cur_one N c2 8).bind fun r6 =>
      bif !r6.1 then
        chk (inB t limits1.length) <|
        chk (inB t plan.length) <|
        (spec_l1Most N (gd limits1 t.toNat 0) (gd plan t.toNat 0)).bind fun r7 =>
        (spec_l1Least N r7.1 160).bind fun r8 =>
        chk (inB t limits1.length) <|
        kx2 (iadd .i64 t 1) r6.2 v21 kx1 (List.set limits1 t.toNat r8.1) plan
      else
        pspec_l1Cur_kept_K1 N r6.2 v21 kx1 limits1 plan
    else
      pspec_l1Cur_kept_K1 N c2 v21 kx1 limits1 plan
  else
    pspec_l1Cur_kept_K1 N c2 v21 kx1 limits1 plan
def pspec_l1Cur_kept_L1 (N fu_ : Nat) := it_1_5 (pspec_l1Cur_kept_B1 N) fu_
theorem pspec_l1Cur_kept_L1_succ (N fu_ : Nat) (t : Int) (c2 : (List Int) × Int × Int) (v21 : (List Int) × (List Int) × (List Int) × (List Int)) (kx1 : (List Int) × (List Int) × (List Int) × (List Int)) (limits1 : List Int) (plan : List Int) : pspec_l1Cur_kept_L1 N (fu_ + 1) t c2 v21 kx1 limits1 plan = pspec_l1Cur_kept_B1 N (fun t c2 v21 kx1 limits1 plan => pspec_l1Cur_kept_L1 N fu_ t c2 v21 kx1 limits1 plan) t c2 v21 kx1 limits1 plan := rfl
def pspec_l1Cur_kept_K2 (N : Nat) (c1 : (List Int) × Int × Int) (v2 : (List Int) × (List Int) × (List Int) × (List Int)) (kx : (List Int) × (List Int) × (List Int) × (List Int)) (limits : List Int) : Option ((((List Int) × (List Int) × (List Int) × (List Int)) × (List Int) × (List Int)) × ((List Int) × Int × Int)) :=
  (pspec_l1Cur_amounts N c1 kx).bind fun r5 =>
  pspec_l1Cur_kept_L1 N N 0 r5.2 v2 kx limits r5.1
def pspec_l1Cur_kept (N : Nat) (c : (List Int) × Int × Int) : Option ((((List Int) × (List Int) × (List Int) × (List Int)) × (List Int) × (List Int)) × ((List Int) × Int × Int)) :=
  (pspec_l1Cur_someLots N c 6).bind fun r =>
  (pspec_l1Cur_limits N r.2 r.1).bind fun r1 =>
  (pspec_l1Cur_pick N r1.2 3).bind fun r2 =>
  bif ieq r2.1 0 then
    (spec_LimitedPlan N r.1 r1.1).bind fun r3 =>
    bif r3.1.2 then
      some ((r.1, (r1.1, r3.1.1)), r2.2)
    else
      pspec_l1Cur_kept_K2 N r2.2 ([], ([], ([], []))) r.1 r1.1
  else
    bif ieq r2.1 1 then
      (spec_LatestStart N r.1 r1.1).bind fun r4 =>
      bif r4.1.2 then
        some ((r.1, (r1.1, r4.1.1)), r2.2)
      else
        pspec_l1Cur_kept_K2 N r2.2 ([], ([], ([], []))) r.1 r1.1
    else
      pspec_l1Cur_kept_K2 N r2.2 ([], ([], ([], []))) r.1 r1.1
def spec_DrawKeepsLimits (N : Nat) (code : List Int) : Option ((((List Int) × (List Int) × (List Int) × (List Int)) × (List Int) × (List Int)) × Unit) :=
  (pspec_l1Cur_kept N (code, (0, 0))).bind fun r =>
  some ((r.1.1, (r.1.2.1, r.1.2.2)), ())
def spec_DrawIsRegular (N : Nat) (code : List Int) : Option ((((List Int) × (List Int) × (List Int) × (List Int)) × (List Int) × (List Int)) × Unit) :=
  (spec_DrawKeepsLimits N code).bind fun r =>
  some ((r.1.1, (r.1.2.1, r.1.2.2)), ())
def impl_kept (N : Nat) (c : (List Int) × (List Int) × (List Int) × (List Int)) (limits : List Int) (plan : List Int) : Option (((List Int) × Bool) × Unit) :=
  (impl_planned N c plan).bind fun r =>
  bif !r.1.2 then
    some (([], false), ())
  else
    (impl_areLimits N c limits).bind fun r1 =>
    bif !r1.1 then
      some (([], false), ())
    else
      (impl_keeps N plan limits).bind fun r2 =>
      bif !r2.1 then
        some (([], false), ())
      else
        some ((r.1.1, true), ())
def impl_partials_K1 (N : Nat) (out1 : List Int) : Option ((List Int) × Unit) :=
  some (out1, ())
def impl_partials_B1 (N : Nat) (kx : (List Int) → (List Int) → Int → Int → (List Int) → Option ((List Int) × Unit)) (limits1 : List Int) (v9 : List Int) (v10 : Int) (v11 : Int) (out : List Int) : Option ((List Int) × Unit) :=
  bif ilt v11 v10 then
    chk (inB v11 v9.length) <|
    bif ilt 0 (gd v9 v11.toNat 0) then
      chk (inB v11 limits1.length) <|
      bif ilt (gd v9 v11.toNat 0) (gd limits1 v11.toNat 0) then
        chk (fitB (out.length + 1) 8) <|
        kx limits1 v9 v10 (iadd .i64 v11 1) (out ++ [v11])
      else
        kx limits1 v9 v10 (iadd .i64 v11 1) out
    else
      kx limits1 v9 v10 (iadd .i64 v11 1) out
  else
    impl_partials_K1 N out
def impl_partials_L1 (N fu_ : Nat) := it_4_1 (impl_partials_B1 N) fu_
def impl_partials_L1_run (N : Nat) := run5 (impl_partials_B1 N) (impl_partials_L1 N) (fun _ _ _ _ _ _ => rfl)
def impl_partials (N : Nat) (limits : List Int) (plan : List Int) : Option ((List Int) × Unit) :=
  impl_partials_L1 N N limits plan (len plan) 0 []
def impl_IsRegular_K1 (N : Nat) (kx1 : (List Int) → Int → (List Int) → Option ((Bool × Bool) × Unit)) (stocks2 : List Int) (kx4 : Int) (empty1 : Bool) (list2 : List Int) : Option ((Bool × Bool) × Unit) :=
  bif !empty1 then
    some ((false, true), ())
  else
    kx1 stocks2 (iadd .i64 kx4 1) list2
def impl_IsRegular_B1 (N : Nat) (kx1 : (List Int) → Int → (List Int) → Option ((Bool × Bool) × Unit)) (kx3 : (List Int) → Int → Bool → (List Int) → Int → Int → (List Int) → Option ((Bool × Bool) × Unit)) (stocks1 : List Int) (kx2 : Int) (empty : Bool) (v43 : List Int) (v44 : Int) (v45 : Int) (list1 : List Int) : Option ((Bool × Bool) × Unit) :=
  bif ilt v45 v44 then
    chk (inB v45 v43.length) <|
    bif empty then
      kx3 stocks1 kx2 true v43 v44 (iadd .i64 v45 1) list1
    else
      kx3 stocks1 kx2 (ieq (gd v43 v45.toNat 0) 0) v43 v44 (iadd .i64 v45 1) list1
  else
    impl_IsRegular_K1 N kx1 stocks1 kx2 empty list1
def impl_IsRegular_L1 (N fu_ : Nat) (kx1 : (List Int) → Int → (List Int) → Option ((Bool × Bool) × Unit)) := it_6_1 (impl_IsRegular_B1 N kx1) fu_
def impl_IsRegular_L1_run (N : Nat) (kx1 : (List Int) → Int → (List Int) → Option ((Bool × Bool) × Unit)) := run7 (impl_IsRegular_B1 N kx1) (fun u_ => impl_IsRegular_L1 N u_ kx1) (fun _ _ _ _ _ _ _ _ => rfl)
def impl_IsRegular_K2 (N : Nat) : Option ((Bool × Bool) × Unit) :=
  some ((true, true), ())
def impl_IsRegular_B2 (N : Nat) (kx1 : (List Int) → Int → (List Int) → Option ((Bool × Bool) × Unit)) (stocks : List Int) (kx : Int) (list : List Int) : Option ((Bool × Bool) × Unit) :=
  bif ilt kx (len list) then
    chk (inB (isub .i64 kx 1) list.length) <|
    chk (inB kx list.length) <|
    chk (cutB (gd list (isub .i64 kx 1).toNat 0) (gd list kx.toNat 0) stocks.length) <|
    impl_IsRegular_L1 N N kx1 stocks kx false (cut stocks (gd list (isub .i64 kx 1).toNat 0) (gd list kx.toNat 0)) (len (cut stocks (gd list (isub .i64 kx 1).toNat 0) (gd list kx.toNat 0))) 0 list
  else
    impl_IsRegular_K2 N
def impl_IsRegular_L2 (N fu_ : Nat) := it_2_1 (impl_IsRegular_B2 N) fu_
def impl_IsRegular_L2_run (N : Nat) := run3 (impl_IsRegular_B2 N) (impl_IsRegular_L2 N) (fun _ _ _ _ => rfl)
def impl_IsRegular (N : Nat) (c : (List Int) × (List Int) × (List Int) × (List Int)) (limits : List Int) (plan : List Int) : Option ((Bool × Bool) × Unit) :=
  (impl_kept N c limits plan).bind fun r =>
  bif !r.1.2 then
    some ((false, false), ())
  else
    (impl_partials N limits plan).bind fun r1 =>
    impl_IsRegular_L2 N N r.1.1 1 r1.1
def spec_l2Stocks_K1 (N : Nat) (out1 : List Int) : Option ((List Int) × Unit) :=
  some (out1, ())
def spec_l2Stocks_B1 (N : Nat) (kx : (List Int) → Int → Int → ((List Int) × (List Int) × (List Int) × (List Int)) → (List Int) → Option ((List Int) × Unit)) (plan1 : List Int) (now : Int) (t : Int) (c1 : (List Int) × (List Int) × (List Int) × (List Int)) (out : List Int) : Option ((List Int) × Unit) :=
  bif ilt t (len plan1) then
    chk (inB t plan1.length) <|
    chk (inB t c1.1.length) <|
    chk (fitB (out.length + 1) 8) <|
    kx plan1 (isub .i64 (iadd .i64 now (gd plan1 t.toNat 0)) (gd c1.1 t.toNat 0)) (iadd .i64 t 1) c1 (out ++ [isub .i64 (iadd .i64 now (gd plan1 t.toNat 0)) (gd c1.1 t.toNat 0)])
  else
    spec_l2Stocks_K1 N out
def spec_l2Stocks_L1 (N fu_ : Nat) := it_3_2 (spec_l2Stocks_B1 N) fu_
def spec_l2Stocks_L1_run (N : Nat) := run5 (spec_l2Stocks_B1 N) (spec_l2Stocks_L1 N) (fun _ _ _ _ _ _ => rfl)
def spec_l2Stocks (N : Nat) (c : (List Int) × (List Int) × (List Int) × (List Int)) (plan : List Int) : Option ((List Int) × Unit) :=
  spec_l2Stocks_L1 N N plan 0 0 c []
def spec_l2Plan_K1 (N : Nat) (stocks1 : List Int) : Option (Bool × Unit) :=
  bif ieq (len stocks1) 0 then
    some (true, ())
  else
    chk (inB (isub .i64 (len stocks1) 1) stocks1.length) <|
    some (ieq (gd stocks1 (isub .i64 (len stocks1) 1).toNat 0) 0, ())
def spec_l2Plan_B1 (N : Nat) (kx : Int → (List Int) → Option (Bool × Unit)) (t : Int) (stocks : List Int) : Option (Bool × Unit) :=
  bif ilt t (len stocks) then
    chk (inB t stocks.length) <|
    bif ilt (gd stocks t.toNat 0) 0 then
      some (false, ())
    else
      kx (iadd .i64 t 1) stocks
  else
    spec_l2Plan_K1 N stocks
def spec_l2Plan_L1 (N fu_ : Nat) := it_1_1 (spec_l2Plan_B1 N) fu_
def spec_l2Plan_L1_run (N : Nat) := run2 (spec_l2Plan_B1 N) (spec_l2Plan_L1 N) (fun _ _ _ => rfl)
def spec_l2Plan (N : Nat) (c : (List Int) × (List Int) × (List Int) × (List Int)) (plan : List Int) : Option (Bool × Unit) :=
  (spec_l2Row N plan (len c.1) 160).bind fun r =>
  bif !r.1 then
    some (false, ())
  else
    (spec_l2Stocks N c plan).bind fun r1 =>
    spec_l2Plan_L1 N N 0 r1.1
def spec_l4Keeps_K1 (N : Nat) : Option (Bool × Unit) :=
  some (true, ())
def spec_l4Keeps_B1 (N : Nat) (kx : (List Int) → (List Int) → Int → Option (Bool × Unit)) (limits1 : List Int) (plan1 : List Int) (t : Int) : Option (Bool × Unit) :=
  bif ilt t (len plan1) then
    chk (inB t plan1.length) <|
    chk (inB t limits1.length) <|
    bif ilt (gd limits1 t.toNat 0) (gd plan1 t.toNat 0) then
      some (false, ())
    else
      kx limits1 plan1 (iadd .i64 t 1)
  else
    spec_l4Keeps_K1 N
def spec_l4Keeps_L1 (N fu_ : Nat) := it_3_0 (spec_l4Keeps_B1 N) fu_
def spec_l4Keeps_L1_run (N : Nat) := run3 (spec_l4Keeps_B1 N) (spec_l4Keeps_L1 N) (fun _ _ _ _ => rfl)
def spec_l4Keeps (N : Nat) (limits : List Int) (plan : List Int) : Option (Bool × Unit) :=
  spec_l4Keeps_L1 N N limits plan 0
def spec_KeepsLimits (N : Nat) (c : (List Int) × (List Int) × (List Int) × (List Int)) (limits : List Int) (plan : List Int) : Option ((Bool × Bool) × Unit) :=
  (spec_l4Limits N c limits).bind fun r =>
  bif !r.1 then
    some ((false, false), ())
  else
    (spec_l2Plan N c plan).bind fun r1 =>
    bif !r1.1 then
      some ((false, false), ())
    else
      (spec_l4Keeps N limits plan).bind fun r2 =>
      some ((r2.1, true), ())
def spec_l4Kept (N : Nat) (c : (List Int) × (List Int) × (List Int) × (List Int)) (limits : List Int) (plan : List Int) : Option (Bool × Unit) :=
  (spec_KeepsLimits N c limits plan).bind fun r =>
  bif r.1.1 then
    some (r.1.2, ())
  else
    some (false, ())
def spec_l4Partial_K1 (N : Nat) (out1 : List Int) : Option ((List Int) × Unit) :=
  some (out1, ())
def spec_l4Partial_B1 (N : Nat) (kx : (List Int) → (List Int) → Int → (List Int) → Option ((List Int) × Unit)) (limits1 : List Int) (plan1 : List Int) (t : Int) (out : List Int) : Option ((List Int) × Unit) :=
  bif ilt t (len plan1) then
    chk (inB t plan1.length) <|
    bif ilt 0 (gd plan1 t.toNat 0) then
      chk (inB t plan1.length) <|
      chk (inB t limits1.length) <|
      bif ilt (gd plan1 t.toNat 0) (gd limits1 t.toNat 0) then
        chk (fitB (out.length + 1) 8) <|
        kx limits1 plan1 (iadd .i64 t 1) (out ++ [t])
      else
        kx limits1 plan1 (iadd .i64 t 1) out
    else
      kx limits1 plan1 (iadd .i64 t 1) out
  else
    spec_l4Partial_K1 N out
def spec_l4Partial_L1 (N fu_ : Nat) := it_3_1 (spec_l4Partial_B1 N) fu_
def spec_l4Partial_L1_run (N : Nat) := run4 (spec_l4Partial_B1 N) (spec_l4Partial_L1 N) (fun _ _ _ _ _ => rfl)
def spec_l4Partial (N : Nat) (limits : List Int) (plan : List Int) : Option ((List Int) × Unit) :=
  spec_l4Partial_L1 N N limits plan 0 []
def spec_l4Regular_K1 (N : Nat) (kx : Int → (List Int) → (List Int) → Option (Bool × Unit)) (i2 : Int) (empty1 : Bool) (list2 : List Int) (stocks2 : List Int) : Option (Bool × Unit) :=
  bif !empty1 then
    some (false, ())
  else
    kx (iadd .i64 i2 1) list2 stocks2
def spec_l4Regular_B1 (N : Nat) (kx : Int → (List Int) → (List Int) → Option (Bool × Unit)) (kx1 : Int → Bool → Int → (List Int) → (List Int) → Option (Bool × Unit)) (i1 : Int) (empty : Bool) (t : Int) (list1 : List Int) (stocks1 : List Int) : Option (Bool × Unit) :=
  chk (inB i1 list1.length) <|
  bif ilt t (gd list1 i1.toNat 0) then
    bif empty then
      kx1 i1 true (iadd .i64 t 1) list1 stocks1
    else
      chk (inB t stocks1.length) <|
      kx1 i1 (ieq (gd stocks1 t.toNat 0) 0) (iadd .i64 t 1) list1 stocks1
  else
    spec_l4Regular_K1 N kx i1 empty list1 stocks1
def spec_l4Regular_L1 (N fu_ : Nat) (kx : Int → (List Int) → (List Int) → Option (Bool × Unit)) := it_3_2 (spec_l4Regular_B1 N kx) fu_
def spec_l4Regular_L1_run (N : Nat) (kx : Int → (List Int) → (List Int) → Option (Bool × Unit)) := run5 (spec_l4Regular_B1 N kx) (fun u_ => spec_l4Regular_L1 N u_ kx) (fun _ _ _ _ _ _ => rfl)
def spec_l4Regular_K2 (N : Nat) : Option (Bool × Unit) :=
  some (true, ())
def spec_l4Regular_B2 (N : Nat) (kx : Int → (List Int) → (List Int) → Option (Bool × Unit)) (i : Int) (list : List Int) (stocks : List Int) : Option (Bool × Unit) :=
  bif ilt i (len list) then
    chk (inB (isub .i64 i 1) list.length) <|
    spec_l4Regular_L1 N N kx i false (gd list (isub .i64 i 1).toNat 0) list stocks
  else
    spec_l4Regular_K2 N
def spec_l4Regular_L2 (N fu_ : Nat) := it_1_2 (spec_l4Regular_B2 N) fu_
def spec_l4Regular_L2_run (N : Nat) := run3 (spec_l4Regular_B2 N) (spec_l4Regular_L2 N) (fun _ _ _ _ => rfl)
def spec_l4Regular (N : Nat) (c : (List Int) × (List Int) × (List Int) × (List Int)) (limits : List Int) (plan : List Int) : Option (Bool × Unit) :=
  (spec_l4Partial N limits plan).bind fun r =>
  (spec_l2Stocks N c plan).bind fun r1 =>
  spec_l4Regular_L2 N N 1 r.1 r1.1
def spec_IsRegular (N : Nat) (c : (List Int) × (List Int) × (List Int) × (List Int)) (limits : List Int) (plan : List Int) : Option ((Bool × Bool) × Unit) :=
  (spec_l4Kept N c limits plan).bind fun r =>
  bif !r.1 then
    some ((false, false), ())
  else
    (spec_l4Regular N c limits plan).bind fun r1 =>
    some ((r1.1, true), ())
def impl_PartialPeriods (N : Nat) (c : (List Int) × (List Int) × (List Int) × (List Int)) (limits : List Int) (plan : List Int) : Option (((List Int) × Bool) × Unit) :=
  (impl_kept N c limits plan).bind fun r =>
  bif !r.1.2 then
    some (([], false), ())
  else
    (impl_partials N limits plan).bind fun r1 =>
    some ((r1.1, true), ())
def spec_PartialPeriods (N : Nat) (c : (List Int) × (List Int) × (List Int) × (List Int)) (limits : List Int) (plan : List Int) : Option (((List Int) × Bool) × Unit) :=
  (spec_l4Kept N c limits plan).bind fun r =>
  bif !r.1 then
    some (([], false), ())
  else
    (spec_l4Partial N limits plan).bind fun r1 =>
    some ((r1.1, true), ())
def pspec_l1Cur_lots (N : Nat) (c : (List Int) × Int × Int) : Option (((List Int) × (List Int) × (List Int) × (List Int)) × ((List Int) × Int × Int)) :=
  (pspec_l1Cur_someLots N c 8).bind fun r =>
  some (r.1, r.2)
def spec_DrawCanMeet (N : Nat) (code : List Int) : Option ((((List Int) × (List Int) × (List Int) × (List Int)) × (List Int)) × Unit) :=
  (pspec_l1Cur_lots N (code, (0, 0))).bind fun r =>
  (pspec_l1Cur_limits N r.2 r.1).bind fun r1 =>
  some ((r.1, r1.1), ())
def spec_DrawRegularPlan (N : Nat) (code : List Int) : Option ((((List Int) × (List Int) × (List Int) × (List Int)) × (List Int)) × Unit) :=
  (spec_DrawCanMeet N code).bind fun r =>
  some ((r.1.1, r.1.2), ())
def impl_RegularPlan (N : Nat) (c : (List Int) × (List Int) × (List Int) × (List Int)) (limits : List Int) : Option (((List Int) × Bool) × Unit) :=
  (impl_limitedPlan N c limits true).bind fun r =>
  some ((r.1.1, r.1.2.2), ())
def spec_l4Cost (N : Nat) (p : Int × Int) (used : Bool) : Option (Int × Unit) :=
  bif used then
    some (p.2, ())
  else
    some (p.1, ())
def spec_l4Now_K1 (N : Nat) (rows2 : List (Int × Int)) (left2 : Int) (used2 : Bool) (partialx1 : Bool) (v27 : Bool) : Option (Int × Unit) :=
  bif v27 then
    some ((-1), ())
  else
    chk (inB left2 rows2.length) <|
    bif ilt 0 left2 then
      bif used2 then
        (spec_l4Cost N (gd rows2 left2.toNat (0, 0)) true).bind fun r =>
        some (r.1, ())
      else
        (spec_l4Cost N (gd rows2 left2.toNat (0, 0)) partialx1).bind fun r1 =>
        some (r1.1, ())
    else
      (spec_l4Cost N (gd rows2 left2.toNat (0, 0)) false).bind fun r2 =>
      some (r2.1, ())
def spec_l4Now_K2 (N : Nat) (rows1 : List (Int × Int)) (left1 : Int) (used1 : Bool) (partialx : Bool) : Option (Int × Unit) :=
  bif partialx then
    spec_l4Now_K1 N rows1 left1 used1 partialx used1
  else
    spec_l4Now_K1 N rows1 left1 used1 partialx false
def spec_l4Now (N : Nat) (limits : List Int) (rows : List (Int × Int)) (t : Int) (amount : Int) (left : Int) (used : Bool) : Option (Int × Unit) :=
  bif ilt 0 amount then
    chk (inB t limits.length) <|
    spec_l4Now_K2 N rows left used (ilt amount (gd limits t.toNat 0))
  else
    spec_l4Now_K2 N rows left used false
def spec_l4Rest_K1 (N : Nat) (best1 : Int) : Option (Int × Unit) :=
  some (best1, ())
def spec_l4Rest_B1 (N : Nat) (kx : (List Int) → (List (Int × Int)) → Int → Int → Bool → Int → Int → ((List Int) × (List Int) × (List Int) × (List Int)) → Option (Int × Unit)) (limits1 : List Int) (rows1 : List (Int × Int)) (t1 : Int) (s1 : Int) (used1 : Bool) (best : Int) (x : Int) (c1 : (List Int) × (List Int) × (List Int) × (List Int)) : Option (Int × Unit) :=
  chk (inB t1 limits1.length) <|
  bif ile x (gd limits1 t1.toNat 0) then
    chk (inB t1 c1.1.length) <|
    (spec_l1In N (isub .i64 (iadd .i64 s1 x) (gd c1.1 t1.toNat 0)) 0 (isub .i64 (len rows1) 1)).bind fun r =>
    bif !r.1 then
      kx limits1 rows1 t1 s1 used1 best (iadd .i64 x 1) c1
    else
      (spec_l4Now N limits1 rows1 t1 x (isub .i64 (iadd .i64 s1 x) (gd c1.1 t1.toNat 0)) used1).bind fun r1 =>
      bif ile 0 r1.1 then
        (spec_l4Step N c1 t1 x (isub .i64 (iadd .i64 s1 x) (gd c1.1 t1.toNat 0))).bind fun r2 =>
        (spec_l4Least N best (iadd .i64 r2.1 r1.1)).bind fun r3 =>
        kx limits1 rows1 t1 s1 used1 r3.1 (iadd .i64 x 1) c1
      else
        kx limits1 rows1 t1 s1 used1 best (iadd .i64 x 1) c1
  else
    spec_l4Rest_K1 N best
def spec_l4Rest_L1 (N fu_ : Nat) := it_7_1 (spec_l4Rest_B1 N) fu_
def spec_l4Rest_L1_run (N : Nat) := run8 (spec_l4Rest_B1 N) (spec_l4Rest_L1 N) (fun _ _ _ _ _ _ _ _ _ => rfl)
def spec_l4Rest (N : Nat) (c : (List Int) × (List Int) × (List Int) × (List Int)) (limits : List Int) (rows : List (Int × Int)) (t : Int) (s : Int) (used : Bool) : Option (Int × Unit) :=
  spec_l4Rest_L1 N N limits rows t s used (-1) 0 c
def spec_l4Pairs_K1 (N : Nat) (kx1 : (List Int) → Int → Int → ((List Int) × (List Int) × (List Int) × (List Int)) → (List (List (Int × Int))) → Option ((List (List (Int × Int))) × Unit)) (limits5 : List Int) (total4 : Int) (t2 : Int) (c5 : (List Int) × (List Int) × (List Int) × (List Int)) (out2 : List (List (Int × Int))) (row1 : List (Int × Int)) : Option ((List (List (Int × Int))) × Unit) :=
  chk (fitB (1 + out2.length) 24) <|
  kx1 limits5 total4 (isub .i64 t2 1) c5 ([row1] ++ out2)
def spec_l4Pairs_B1 (N : Nat) (kx1 : (List Int) → Int → Int → ((List Int) × (List Int) × (List Int) × (List Int)) → (List (List (Int × Int))) → Option ((List (List (Int × Int))) × Unit)) (kx2 : (List Int) → Int → Int → Int → ((List Int) × (List Int) × (List Int) × (List Int)) → (List (List (Int × Int))) → (List (Int × Int)) → Option ((List (List (Int × Int))) × Unit)) (limits4 : List Int) (total3 : Int) (t1 : Int) (s1 : Int) (c4 : (List Int) × (List Int) × (List Int) × (List Int)) (out1 : List (List (Int × Int))) (row : List (Int × Int)) : Option ((List (List (Int × Int))) × Unit) :=
  bif ile s1 total3 then
    chk (inB 0 out1.length) <|
    (spec_l4Rest N c4 limits4 (gd out1 0 []) t1 s1 false).bind fun r1 =>
    chk (inB 0 out1.length) <|
    (spec_l4Rest N c4 limits4 (gd out1 0 []) t1 s1 true).bind fun r2 =>
    chk (fitB (row.length + 1) 16) <|
    kx2 limits4 total3 t1 (iadd .i64 s1 1) c4 out1 (row ++ [(r1.1, r2.1)])
  else
    spec_l4Pairs_K1 N kx1 limits4 total3 t1 c4 out1 row
def spec_l4Pairs_L1 (N fu_ : Nat) (kx1 : (List Int) → Int → Int → ((List Int) × (List Int) × (List Int) × (List Int)) → (List (List (Int × Int))) → Option ((List (List (Int × Int))) × Unit)) := it_4_3 (spec_l4Pairs_B1 N kx1) fu_
def spec_l4Pairs_L1_run (N : Nat) (kx1 : (List Int) → Int → Int → ((List Int) × (List Int) × (List Int) × (List Int)) → (List (List (Int × Int))) → Option ((List (List (Int × Int))) × Unit)) := run7 (spec_l4Pairs_B1 N kx1) (fun u_ => spec_l4Pairs_L1 N u_ kx1) (fun _ _ _ _ _ _ _ _ => rfl)
def spec_l4Pairs_K2 (N : Nat) (out3 : List (List (Int × Int))) : Option ((List (List (Int × Int))) × Unit) :=
  some (out3, ())
def spec_l4Pairs_B2 (N : Nat) (kx1 : (List Int) → Int → Int → ((List Int) × (List Int) × (List Int) × (List Int)) → (List (List (Int × Int))) → Option ((List (List (Int × Int))) × Unit)) (limits3 : List Int) (total2 : Int) (t : Int) (c3 : (List Int) × (List Int) × (List Int) × (List Int)) (out : List (List (Int × Int))) : Option ((List (List (Int × Int))) × Unit) :=
  bif ile 0 t then
    spec_l4Pairs_L1 N N kx1 limits3 total2 t 0 c3 out []
  else
    spec_l4Pairs_K2 N out
def spec_l4Pairs_L2 (N fu_ : Nat) := it_3_2 (spec_l4Pairs_B2 N) fu_
def spec_l4Pairs_L2_run (N : Nat) := run5 (spec_l4Pairs_B2 N) (spec_l4Pairs_L2 N) (fun _ _ _ _ _ _ => rfl)
def spec_l4Pairs_K3 (N : Nat) (limits2 : List Int) (total1 : Int) (c2 : (List Int) × (List Int) × (List Int) × (List Int)) (last1 : List (Int × Int)) : Option ((List (List (Int × Int))) × Unit) :=
  spec_l4Pairs_L2 N N limits2 total1 (isub .i64 (len c2.1) 1) c2 [last1]
def spec_l4Pairs_B3 (N : Nat) (kx : (List Int) → Int → Int → ((List Int) × (List Int) × (List Int) × (List Int)) → (List (Int × Int)) → Option ((List (List (Int × Int))) × Unit)) (limits1 : List Int) (total : Int) (s : Int) (c1 : (List Int) × (List Int) × (List Int) × (List Int)) (last : List (Int × Int)) : Option ((List (List (Int × Int))) × Unit) :=
  bif ile s total then
    chk (fitB (last.length + 1) 16) <|
    kx limits1 total (iadd .i64 s 1) c1 (last ++ [((-1), (-1))])
  else
    spec_l4Pairs_K3 N limits1 total c1 last
def spec_l4Pairs_L3 (N fu_ : Nat) := it_3_2 (spec_l4Pairs_B3 N) fu_
def spec_l4Pairs_L3_run (N : Nat) := run5 (spec_l4Pairs_B3 N) (spec_l4Pairs_L3 N) (fun _ _ _ _ _ _ => rfl)
def spec_l4Pairs (N : Nat) (c : (List Int) × (List Int) × (List Int) × (List Int)) (limits : List Int) : Option ((List (List (Int × Int))) × Unit) :=
  (spec_l2Sum N c.1).bind fun r =>
  spec_l4Pairs_L3 N N limits r.1 1 c [(0, 0)]
def spec_RegularPlan_K1 (N : Nat) (kx : (List Int) → Int → Bool → Int → ((List Int) × (List Int) × (List Int) × (List Int)) → (List Int) → (List (List (Int × Int))) → Option (((List Int) × Bool) × Unit)) (limits3 : List Int) (s2 : Int) (used2 : Bool) (t2 : Int) (x1 : Int) (v61 : (List Int) × (List Int) × (List Int) × (List Int)) (v62 : Int) (v63 : Int) (v64 : Int) (v65 : Int) (v66 : Int) (v67 : Int) (v69 : Int) (v71i : Nat) (v72 : Int) (v74 : Int × Int) (v75 : Bool) (v76 : Int) (v77 : Bool) (c3 : (List Int) × (List Int) × (List Int) × (List Int)) (out2 : List Int) (v68 : List (List (Int × Int))) : Option (((List Int) × Bool) × Unit) :=
  chk (inB t2 c3.1.length) <|
  bif ilt 0 (isub .i64 (iadd .i64 s2 x1) (gd c3.1 t2.toNat 0)) then
    bif used2 then
      chk (fitB (out2.length + 1) 8) <|
      kx limits3 (isub .i64 (iadd .i64 s2 x1) (gd c3.1 t2.toNat 0)) true (iadd .i64 t2 1) c3 (out2 ++ [x1]) v68
    else
      bif ilt 0 x1 then
        chk (inB t2 limits3.length) <|
        chk (fitB (out2.length + 1) 8) <|
        kx limits3 (isub .i64 (iadd .i64 s2 x1) (gd c3.1 t2.toNat 0)) (ilt x1 (gd limits3 t2.toNat 0)) (iadd .i64 t2 1) c3 (out2 ++ [x1]) v68
      else
        chk (fitB (out2.length + 1) 8) <|
        kx limits3 (isub .i64 (iadd .i64 s2 x1) (gd c3.1 t2.toNat 0)) false (iadd .i64 t2 1) c3 (out2 ++ [x1]) v68
  else
    chk (fitB (out2.length + 1) 8) <|
    kx limits3 (isub .i64 (iadd .i64 s2 x1) (gd c3.1 t2.toNat 0)) false (iadd .i64 t2 1) c3 (out2 ++ [x1]) v68
def spec_RegularPlan_B1 (N : Nat) (kx : (List Int) → Int → Bool → Int → ((List Int) × (List Int) × (List Int) × (List Int)) → (List Int) → (List (List (Int × Int))) → Option (((List Int) × Bool) × Unit)) (kx1 : (List Int) → Int → Bool → Int → Int → ((List Int) × (List Int) × (List Int) × (List Int)) → (List Int) → (List (List (Int × Int))) → Option (((List Int) × Bool) × Unit)) (limits2 : List Int) (s1 : Int) (used1 : Bool) (t1 : Int) (x : Int) (c2 : (List Int) × (List Int) × (List Int) × (List Int)) (out1 : List Int) (table1 : List (List (Int × Int))) : Option (((List Int) × Bool) × Unit) :=
  chk (inB t1 c2.1.length) <|
  chk (inB (iadd .i64 t1 1) table1.length) <|
  (spec_l4Now N limits2 (gd table1 (iadd .i64 t1 1).toNat []) t1 x (isub .i64 (iadd .i64 s1 x) (gd c2.1 t1.toNat 0)) used1).bind fun r3 =>
  bif ile 0 r3.1 then
    (spec_l4Step N c2 t1 x (isub .i64 (iadd .i64 s1 x) (gd c2.1 t1.toNat 0))).bind fun r4 =>
    chk (inB t1 table1.length) <|
    chk (inB s1 (gd table1 t1.toNat []).length) <|
    (spec_l4Cost N (gd (gd table1 t1.toNat []) s1.toNat (0, 0)) used1).bind fun r5 =>
    bif ieq (iadd .i64 r4.1 r3.1) r5.1 then
      spec_RegularPlan_K1 N kx limits2 s1 used1 t1 x c2 t1 x (isub .i64 (iadd .i64 s1 x) (gd c2.1 t1.toNat 0)) r4.1 r3.1 (iadd .i64 r4.1 r3.1) t1 t1.toNat s1 (gd (gd table1 t1.toNat []) s1.toNat (0, 0)) used1 r5.1 (ieq (iadd .i64 r4.1 r3.1) r5.1) c2 out1 table1
    else
      kx1 limits2 s1 used1 t1 (iadd .i64 x 1) c2 out1 table1
  else
    kx1 limits2 s1 used1 t1 (iadd .i64 x 1) c2 out1 table1
def spec_RegularPlan_L1 (N fu_ : Nat) (kx : (List Int) → Int → Bool → Int → ((List Int) × (List Int) × (List Int) × (List Int)) → (List Int) → (List (List (Int × Int))) → Option (((List Int) × Bool) × Unit)) := it_5_3 (spec_RegularPlan_B1 N kx) fu_
def spec_RegularPlan_L1_run (N : Nat) (kx : (List Int) → Int → Bool → Int → ((List Int) × (List Int) × (List Int) × (List Int)) → (List Int) → (List (List (Int × Int))) → Option (((List Int) × Bool) × Unit)) := run8 (spec_RegularPlan_B1 N kx) (fun u_ => spec_RegularPlan_L1 N u_ kx) (fun _ _ _ _ _ _ _ _ _ => rfl)
def spec_RegularPlan_K2 (N : Nat) (out3 : List Int) : Option (((List Int) × Bool) × Unit) :=
  some ((out3, true), ())
def spec_RegularPlan_B2 (N : Nat) (kx : (List Int) → Int → Bool → Int → ((List Int) × (List Int) × (List Int) × (List Int)) → (List Int) → (List (List (Int × Int))) → Option (((List Int) × Bool) × Unit)) (limits1 : List Int) (s : Int) (used : Bool) (t : Int) (c1 : (List Int) × (List Int) × (List Int) × (List Int)) (out : List Int) (table : List (List (Int × Int))) : Option (((List Int) × Bool) × Unit) :=
  bif ilt t (len c1.1) then
    chk (inB t c1.1.length) <|
    (spec_l1Most N (isub .i64 (gd c1.1 t.toNat 0) s) 0).bind fun r2 =>
    spec_RegularPlan_L1 N N kx limits1 s used t r2.1 c1 out table
  else
    spec_RegularPlan_K2 N out
def spec_RegularPlan_L2 (N fu_ : Nat) := it_4_3 (spec_RegularPlan_B2 N) fu_
theorem spec_RegularPlan_L2_succ (N fu_ : Nat) (limits1 : List Int) (s : Int) (used : Bool) (t : Int) (c1 : (List Int) × (List Int) × (List Int) × (List Int)) (out : List Int) (table : List (List (Int × Int))) : spec_RegularPlan_L2 N (fu_ + 1) limits1 s used t c1 out table = spec_RegularPlan_B2 N (fun limits1 s used t c1 out table => spec_RegularPlan_L2 N fu_ limits1 s used t c1 out table) limits1 s used t c1 out table := rfl
def spec_RegularPlan (N : Nat) (c : (List Int) × (List Int) × (List Int) × (List Int)) (limits : List Int) : Option (((List Int) × Bool) × Unit) :=
  (spec_l4Can N c limits).bind fun r =>
  bif !r.1 then
    some (([], false), ())
  else
    (spec_l4Pairs N c limits).bind fun r1 =>
    spec_RegularPlan_L2 N N limits 0 false 0 c [] r1.1
def laws_FnRegular_K1 (N : Nat) (three : Bool) (g : (List Int) × (List Int) × (List Int) × (List Int)) (b134 : ((List Int) × (List Int) × (List Int) × (List Int)) × (List Int)) (b140 : (List Int) × Bool) : Option (Bool × Unit) :=
  bif !three then
    some (true, ())
  else
    (impl_IsRegular N g b134.2 b140.1).bind fun r15 =>
    (impl_PlanCost N g b140.1).bind fun r16 =>
    (impl_LimitedCost N g b134.2).bind fun r17 =>
    bif r15.1.2 then
      bif r16.1.2 then
        bif r17.1.2 then
          bif r15.1.1 then
            some (ieq r16.1.1 r17.1.1, ())
          else
            some (false, ())
        else
          some (false, ())
      else
        some (false, ())
    else
      some (false, ())
def laws_FnRegular_K2 (N : Nat) (code2 : List Int) (ok1 : Bool) (v131 : Bool) (c1 : (List Int) × (List Int) × (List Int) × (List Int)) (b381 : ((List Int) × (List Int) × (List Int) × (List Int)) × (List Int) × (List Int)) : Option (Bool × Unit) :=
  bif v131 then
    some (false, ())
  else
    (spec_DrawRegularPlan N code2).bind fun r9 =>
    (impl_RegularPlan N r9.1.1 r9.1.2).bind fun r10 =>
    (spec_RegularPlan N r9.1.1 r9.1.2).bind fun r11 =>
    bif !(Go.Rx.beq r10.1.2 r11.1.2) then
      some (false, ())
    else
      (laws_rInts N r10.1.1 r11.1.1).bind fun r12 =>
      bif !r12.1 then
        some (false, ())
      else
        bif ok1 then
          (impl_PlanCost N c1 b381.2.2).bind fun r13 =>
          (impl_LimitedCost N c1 b381.2.1).bind fun r14 =>
          bif !r13.1.2 then
            some (false, ())
          else
            bif !r14.1.2 then
              some (false, ())
            else
              bif ilt r13.1.1 r14.1.1 then
                some (false, ())
              else
                laws_FnRegular_K1 N r10.1.2 r9.1.1 (r9.1.1, r9.1.2) r10.1
        else
          laws_FnRegular_K1 N r10.1.2 r9.1.1 (r9.1.1, r9.1.2) r10.1
def laws_FnRegular_K3 (N : Nat) (code1 : List Int) (isx : Bool) (ok : Bool) (v93 : Bool) (c : (List Int) × (List Int) × (List Int) × (List Int)) (b38 : ((List Int) × (List Int) × (List Int) × (List Int)) × (List Int) × (List Int)) : Option (Bool × Unit) :=
  bif v93 then
    some (false, ())
  else
    (impl_PartialPeriods N c b38.2.1 b38.2.2).bind fun r6 =>
    (spec_PartialPeriods N c b38.2.1 b38.2.2).bind fun r7 =>
    bif !(Go.Rx.beq r6.1.2 r7.1.2) then
      some (false, ())
    else
      bif !(Go.Rx.beq r6.1.2 ok) then
        some (false, ())
      else
        (laws_rInts N r6.1.1 r7.1.1).bind fun r8 =>
        bif !r8.1 then
          some (false, ())
        else
          bif ok then
            bif ilt (len r6.1.1) 2 then
              laws_FnRegular_K2 N code1 ok (!isx) c b38
            else
              laws_FnRegular_K2 N code1 ok false c b38
          else
            laws_FnRegular_K2 N code1 ok false c b38
def laws_FnRegular (N : Nat) (code : List Int) : Option (Bool × Unit) :=
  (laws_rBig N code).bind fun r =>
  bif r.1 then
    some (true, ())
  else
    (spec_DrawIsRegular N code).bind fun r1 =>
    (impl_IsRegular N r1.1.1 r1.1.2.1 r1.1.2.2).bind fun r2 =>
    (spec_IsRegular N r1.1.1 r1.1.2.1 r1.1.2.2).bind fun r3 =>
    bif !(Go.Rx.beq r2.1.1 r3.1.1) then
      some (false, ())
    else
      bif !(Go.Rx.beq r2.1.2 r3.1.2) then
        some (false, ())
      else
        (impl_KeepsLimits N r1.1.1 r1.1.2.1 r1.1.2.2).bind fun r4 =>
        (spec_KeepsLimits N r1.1.1 r1.1.2.1 r1.1.2.2).bind fun r5 =>
        bif !(Go.Rx.beq r4.1.1 r5.1.1) then
          laws_FnRegular_K3 N code r2.1.1 r2.1.2 true r1.1.1 (r1.1.1, r1.1.2)
        else
          bif !(Go.Rx.beq r4.1.2 r5.1.2) then
            laws_FnRegular_K3 N code r2.1.1 r2.1.2 true r1.1.1 (r1.1.1, r1.1.2)
          else
            bif r4.1.2 then
              laws_FnRegular_K3 N code r2.1.1 r2.1.2 (!(Go.Rx.beq r2.1.2 r4.1.1)) r1.1.1 (r1.1.1, r1.1.2)
            else
              laws_FnRegular_K3 N code r2.1.1 r2.1.2 (!(Go.Rx.beq r2.1.2 false)) r1.1.1 (r1.1.1, r1.1.2)
end Px
end Go.Rx
