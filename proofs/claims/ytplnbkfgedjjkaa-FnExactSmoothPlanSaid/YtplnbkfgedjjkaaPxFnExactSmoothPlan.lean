/- This text defines the plain functions that the Go functions behind FnExactSmoothPlan compute; no condition. -/
import Derived.Test.YtplnbkfgedjjkaaRxc
set_option linter.unusedVariables false
set_option linter.unusedSimpArgs false
namespace Go.Rx
namespace Px
def laws_szIntS (N : Nat) (a : List Int) (left : Int) : Option (Int × Unit) :=
  bif ilt (isub .i64 left (len a)) 0 then
    some ((-1), ())
  else
    some (isub .i64 left (len a), ())
def laws_szCase (N : Nat) (a : (List Int) × (List Int) × (List Int) × (List Int)) (left : Int) : Option (Int × Unit) :=
  (laws_szIntS N a.1 left).bind fun r =>
  bif ilt r.1 0 then
    some ((-1), ())
  else
    (laws_szIntS N a.2.1 r.1).bind fun r1 =>
    bif ilt r1.1 0 then
      some ((-1), ())
    else
      (laws_szIntS N a.2.2.1 r1.1).bind fun r2 =>
      bif ilt r2.1 0 then
        some ((-1), ())
      else
        (laws_szIntS N a.2.2.2 r2.1).bind fun r3 =>
        bif ilt r3.1 0 then
          some ((-1), ())
        else
          some (r3.1, ())
def spec_l1In (N : Nat) (x : Int) (a : Int) (b : Int) : Option (Bool × Unit) :=
  bif ile a x then
    some (ile x b, ())
  else
    some (false, ())
def spec_l2Row_K1 (N : Nat) (row2 : List Int) (n2 : Int) : Option (Bool × Unit) :=
  some (ieq (len row2) n2, ())
def spec_l2Row_B1 (N : Nat) (kx : (List Int) → Int → Int → Int → Option (Bool × Unit)) (row1 : List Int) (n1 : Int) (most1 : Int) (i : Int) : Option (Bool × Unit) :=
  bif ilt i (len row1) then
    chk (inB i row1.length) <|
    (spec_l1In N (gd row1 i.toNat 0) 0 most1).bind fun r =>
    bif !r.1 then
      some (false, ())
    else
      kx row1 n1 most1 (iadd .i64 i 1)
  else
    spec_l2Row_K1 N row1 n1
def spec_l2Row_L1 (N fu_ : Nat) (row1 : List Int) (n1 : Int) (most1 : Int) (i : Int) : Option (Bool × Unit) :=
  iterK fu_ (fun kx (v_ : ((List Int) × Int × Int × Int × Unit) × (Unit)) => spec_l2Row_B1 N (fun row1 n1 most1 i => kx ((row1, n1, most1, i, ()), ())) v_.1.1 v_.1.2.1 v_.1.2.2.1 v_.1.2.2.2.1) ((row1, n1, most1, i, ()), ())
theorem spec_l2Row_L1_succ (N fu_ : Nat) (row1 : List Int) (n1 : Int) (most1 : Int) (i : Int) : spec_l2Row_L1 N (fu_ + 1) row1 n1 most1 i = spec_l2Row_B1 N (fun row1 n1 most1 i => spec_l2Row_L1 N fu_ row1 n1 most1 i) row1 n1 most1 i := rfl
theorem spec_l2Row_L1_run (N : Nat) (row1 : Nat → (List Int)) (n1 : Nat → Int) (most1 : Nat → Int) (i : Nat → Int) (n_ : Nat) {res_ : Option (Bool × Unit)} (hstep_ : ∀ j_, j_ < n_ → ∀ kx_, spec_l2Row_B1 N kx_ (row1 j_) (n1 j_) (most1 j_) (i j_) = kx_ (row1 (j_ + 1)) (n1 (j_ + 1)) (most1 (j_ + 1)) (i (j_ + 1))) (hend_ : ∀ kx_, spec_l2Row_B1 N kx_ (row1 n_) (n1 n_) (most1 n_) (i n_) = res_) (fu_ : Nat) (hm_ : n_ < fu_) : spec_l2Row_L1 N fu_ (row1 0) (n1 0) (most1 0) (i 0) = res_ := by
  exact loop_run (L := fun fu_ (x_ : (List Int) × Int × Int × Int) => spec_l2Row_L1 N fu_ x_.1 x_.2.1 x_.2.2.1 x_.2.2.2) (B := fun kx_ x_ => spec_l2Row_B1 N (fun row1 n1 most1 i => kx_ (row1, n1, most1, i)) x_.1 x_.2.1 x_.2.2.1 x_.2.2.2) (fun _ _ => rfl) (fun j_ => (row1 j_, n1 j_, most1 j_, i j_)) n_ (fun j_ hi_ kx_ => hstep_ j_ hi_ _) (fun kx_ => hend_ _) fu_ hm_
def spec_l2Row (N : Nat) (row : List Int) (n : Int) (most : Int) : Option (Bool × Unit) :=
  spec_l2Row_L1 N N row n most 0
def spec_l2Good (N : Nat) (c : (List Int) × (List Int) × (List Int) × (List Int)) : Option (Bool × Unit) :=
  bif ile (len c.1) 8 then
    (spec_l2Row N c.1 (len c.1) 20).bind fun r =>
    bif r.1 then
      (spec_l2Row N c.2.1 (len c.1) 99).bind fun r1 =>
      bif r1.1 then
        (spec_l2Row N c.2.2.1 (len c.1) 9).bind fun r2 =>
        bif r2.1 then
          (spec_l2Row N c.2.2.2 (len c.1) 9).bind fun r3 =>
          some (r3.1, ())
        else
          some (false, ())
      else
        some (false, ())
    else
      some (false, ())
  else
    some (false, ())
def spec_l2Stocks_K1 (N : Nat) (out1 : List Int) : Option ((List Int) × Unit) :=
  some (out1, ())
def spec_l2Stocks_B1 (N : Nat) (kx : (List Int) → Int → Int → ((List Int) × (List Int) × (List Int) × (List Int)) → (List Int) → Option ((List Int) × Unit)) (plan1 : List Int) (now : Int) (t : Int) (c1 : (List Int) × (List Int) × (List Int) × (List Int)) (out : List Int) : Option ((List Int) × Unit) :=
  bif ilt t (len plan1) then
    chk (inB t plan1.length) <|
    chk (inB t c1.1.length) <|
    chk (fitB (out.length + 1) 8) <|
    kx plan1 (isub .i64 (iadd .i64 now (gd plan1 t.toNat 0)) (gd c1.1 t.toNat 0)) (iadd .i64 t 1) c1 (out ++ [isub .i64 (iadd .i64 now (gd plan1 t.toNat 0)) (gd c1.1 t.toNat 0)])
  else
    spec_l2Stocks_K1 N out
def spec_l2Stocks_L1 (N fu_ : Nat) (plan1 : List Int) (now : Int) (t : Int) (c1 : (List Int) × (List Int) × (List Int) × (List Int)) (out : List Int) : Option ((List Int) × Unit) :=
  iterK fu_ (fun kx (v_ : ((List Int) × Int × Int × Unit) × (((List Int) × (List Int) × (List Int) × (List Int)) × (List Int) × Unit)) => spec_l2Stocks_B1 N (fun plan1 now t c1 out => kx ((plan1, now, t, ()), (c1, out, ()))) v_.1.1 v_.1.2.1 v_.1.2.2.1 v_.2.1 v_.2.2.1) ((plan1, now, t, ()), (c1, out, ()))
theorem spec_l2Stocks_L1_succ (N fu_ : Nat) (plan1 : List Int) (now : Int) (t : Int) (c1 : (List Int) × (List Int) × (List Int) × (List Int)) (out : List Int) : spec_l2Stocks_L1 N (fu_ + 1) plan1 now t c1 out = spec_l2Stocks_B1 N (fun plan1 now t c1 out => spec_l2Stocks_L1 N fu_ plan1 now t c1 out) plan1 now t c1 out := rfl
theorem spec_l2Stocks_L1_run (N : Nat) (plan1 : Nat → (List Int)) (now : Nat → Int) (t : Nat → Int) (c1 : Nat → ((List Int) × (List Int) × (List Int) × (List Int))) (out : Nat → (List Int)) (n_ : Nat) {res_ : Option ((List Int) × Unit)} (hstep_ : ∀ j_, j_ < n_ → ∀ kx_, spec_l2Stocks_B1 N kx_ (plan1 j_) (now j_) (t j_) (c1 j_) (out j_) = kx_ (plan1 (j_ + 1)) (now (j_ + 1)) (t (j_ + 1)) (c1 (j_ + 1)) (out (j_ + 1))) (hend_ : ∀ kx_, spec_l2Stocks_B1 N kx_ (plan1 n_) (now n_) (t n_) (c1 n_) (out n_) = res_) (fu_ : Nat) (hm_ : n_ < fu_) : spec_l2Stocks_L1 N fu_ (plan1 0) (now 0) (t 0) (c1 0) (out 0) = res_ := by
  exact loop_run (L := fun fu_ (x_ : (List Int) × Int × Int × ((List Int) × (List Int) × (List Int) × (List Int)) × (List Int)) => spec_l2Stocks_L1 N fu_ x_.1 x_.2.1 x_.2.2.1 x_.2.2.2.1 x_.2.2.2.2) (B := fun kx_ x_ => spec_l2Stocks_B1 N (fun plan1 now t c1 out => kx_ (plan1, now, t, c1, out)) x_.1 x_.2.1 x_.2.2.1 x_.2.2.2.1 x_.2.2.2.2) (fun _ _ => rfl) (fun j_ => (plan1 j_, now j_, t j_, c1 j_, out j_)) n_ (fun j_ hi_ kx_ => hstep_ j_ hi_ _) (fun kx_ => hend_ _) fu_ hm_
def spec_l2Stocks (N : Nat) (c : (List Int) × (List Int) × (List Int) × (List Int)) (plan : List Int) : Option ((List Int) × Unit) :=
  spec_l2Stocks_L1 N N plan 0 0 c []
def spec_l2Plan_K1 (N : Nat) (stocks1 : List Int) : Option (Bool × Unit) :=
  bif ieq (len stocks1) 0 then
    some (true, ())
  else
    chk (inB (isub .i64 (len stocks1) 1) stocks1.length) <|
    some (ieq (gd stocks1 (isub .i64 (len stocks1) 1).toNat 0) 0, ())
def spec_l2Plan_B1 (N : Nat) (kx : Int → (List Int) → Option (Bool × Unit)) (t : Int) (stocks : List Int) : Option (Bool × Unit) :=
  bif ilt t (len stocks) then
    chk (inB t stocks.length) <|
    bif ilt (gd stocks t.toNat 0) 0 then
      some (false, ())
    else
      kx (iadd .i64 t 1) stocks
  else
    spec_l2Plan_K1 N stocks
def spec_l2Plan_L1 (N fu_ : Nat) (t : Int) (stocks : List Int) : Option (Bool × Unit) :=
  iterK fu_ (fun kx (v_ : (Int × Unit) × ((List Int) × Unit)) => spec_l2Plan_B1 N (fun t stocks => kx ((t, ()), (stocks, ()))) v_.1.1 v_.2.1) ((t, ()), (stocks, ()))
theorem spec_l2Plan_L1_succ (N fu_ : Nat) (t : Int) (stocks : List Int) : spec_l2Plan_L1 N (fu_ + 1) t stocks = spec_l2Plan_B1 N (fun t stocks => spec_l2Plan_L1 N fu_ t stocks) t stocks := rfl
theorem spec_l2Plan_L1_run (N : Nat) (t : Nat → Int) (stocks : Nat → (List Int)) (n_ : Nat) {res_ : Option (Bool × Unit)} (hstep_ : ∀ j_, j_ < n_ → ∀ kx_, spec_l2Plan_B1 N kx_ (t j_) (stocks j_) = kx_ (t (j_ + 1)) (stocks (j_ + 1))) (hend_ : ∀ kx_, spec_l2Plan_B1 N kx_ (t n_) (stocks n_) = res_) (fu_ : Nat) (hm_ : n_ < fu_) : spec_l2Plan_L1 N fu_ (t 0) (stocks 0) = res_ := by
  exact loop_run (L := fun fu_ (x_ : Int × (List Int)) => spec_l2Plan_L1 N fu_ x_.1 x_.2) (B := fun kx_ x_ => spec_l2Plan_B1 N (fun t stocks => kx_ (t, stocks)) x_.1 x_.2) (fun _ _ => rfl) (fun j_ => (t j_, stocks j_)) n_ (fun j_ hi_ kx_ => hstep_ j_ hi_ _) (fun kx_ => hend_ _) fu_ hm_
def spec_l2Plan (N : Nat) (c : (List Int) × (List Int) × (List Int) × (List Int)) (plan : List Int) : Option (Bool × Unit) :=
  (spec_l2Row N plan (len c.1) 160).bind fun r =>
  bif !r.1 then
    some (false, ())
  else
    (spec_l2Stocks N c plan).bind fun r1 =>
    spec_l2Plan_L1 N N 0 r1.1
def spec_l2Two (N : Nat) (c : (List Int) × (List Int) × (List Int) × (List Int)) (plan : List Int) : Option (Bool × Unit) :=
  (spec_l2Good N c).bind fun r =>
  bif r.1 then
    (spec_l2Plan N c plan).bind fun r1 =>
    some (r1.1, ())
  else
    some (false, ())
def spec_l1Own (N : Nat) (l : List Int) : Option ((List Int) × Unit) :=
  chk (fitB (0 + l.length) 8) <|
  some (l, ())
def spec_l2Early_K1 (N : Nat) : Option (Int × Unit) :=
  some ((-1), ())
def spec_l2Early_B1 (N : Nat) (kx : (List Int) → Int → (List Int) → Option (Int × Unit)) (plan1 : List Int) (t : Int) (stocks : List Int) : Option (Int × Unit) :=
  bif ilt t (len plan1) then
    chk (inB t plan1.length) <|
    bif ilt 0 (gd plan1 t.toNat 0) then
      chk (inB (isub .i64 t 1) stocks.length) <|
      bif ilt 0 (gd stocks (isub .i64 t 1).toNat 0) then
        some (t, ())
      else
        kx plan1 (iadd .i64 t 1) stocks
    else
      kx plan1 (iadd .i64 t 1) stocks
  else
    spec_l2Early_K1 N
def spec_l2Early_L1 (N fu_ : Nat) (plan1 : List Int) (t : Int) (stocks : List Int) : Option (Int × Unit) :=
  iterK fu_ (fun kx (v_ : ((List Int) × Int × Unit) × ((List Int) × Unit)) => spec_l2Early_B1 N (fun plan1 t stocks => kx ((plan1, t, ()), (stocks, ()))) v_.1.1 v_.1.2.1 v_.2.1) ((plan1, t, ()), (stocks, ()))
theorem spec_l2Early_L1_succ (N fu_ : Nat) (plan1 : List Int) (t : Int) (stocks : List Int) : spec_l2Early_L1 N (fu_ + 1) plan1 t stocks = spec_l2Early_B1 N (fun plan1 t stocks => spec_l2Early_L1 N fu_ plan1 t stocks) plan1 t stocks := rfl
theorem spec_l2Early_L1_run (N : Nat) (plan1 : Nat → (List Int)) (t : Nat → Int) (stocks : Nat → (List Int)) (n_ : Nat) {res_ : Option (Int × Unit)} (hstep_ : ∀ j_, j_ < n_ → ∀ kx_, spec_l2Early_B1 N kx_ (plan1 j_) (t j_) (stocks j_) = kx_ (plan1 (j_ + 1)) (t (j_ + 1)) (stocks (j_ + 1))) (hend_ : ∀ kx_, spec_l2Early_B1 N kx_ (plan1 n_) (t n_) (stocks n_) = res_) (fu_ : Nat) (hm_ : n_ < fu_) : spec_l2Early_L1 N fu_ (plan1 0) (t 0) (stocks 0) = res_ := by
  exact loop_run (L := fun fu_ (x_ : (List Int) × Int × (List Int)) => spec_l2Early_L1 N fu_ x_.1 x_.2.1 x_.2.2) (B := fun kx_ x_ => spec_l2Early_B1 N (fun plan1 t stocks => kx_ (plan1, t, stocks)) x_.1 x_.2.1 x_.2.2) (fun _ _ => rfl) (fun j_ => (plan1 j_, t j_, stocks j_)) n_ (fun j_ hi_ kx_ => hstep_ j_ hi_ _) (fun kx_ => hend_ _) fu_ hm_
def spec_l2Early (N : Nat) (c : (List Int) × (List Int) × (List Int) × (List Int)) (plan : List Int) : Option (Int × Unit) :=
  (spec_l2Stocks N c plan).bind fun r =>
  spec_l2Early_L1 N N plan 1 r.1
def spec_l2Parts_K1 (N : Nat) (kx : (List Int) → Int → ((List Int) × (List Int) × (List Int) × (List Int)) → (List Int) → (List Int) → (List Int) → Option ((List Int) × Unit)) (plan2 : List Int) (t1 : Int) (c2 : (List Int) × (List Int) × (List Int) × (List Int)) (v41 : List Int) (out1 : List Int) (stocks1 : List Int) : Option ((List Int) × Unit) :=
  chk (inB 1 3) <|
  chk (inB t1 c2.2.2.1.length) <|
  chk (inB t1 plan2.length) <|
  chk (inB 1 3) <|
  chk (inB 2 3) <|
  chk (inB t1 c2.2.2.2.length) <|
  chk (inB t1 stocks1.length) <|
  chk (inB 2 3) <|
  kx plan2 (iadd .i64 t1 1) c2 v41 (List.set (List.set out1 1 (iadd .i64 (gd out1 1 0) (imul .i64 (gd c2.2.2.1 t1.toNat 0) (gd plan2 t1.toNat 0)))) 2 (iadd .i64 (gd (List.set out1 1 (iadd .i64 (gd out1 1 0) (imul .i64 (gd c2.2.2.1 t1.toNat 0) (gd plan2 t1.toNat 0)))) 2 0) (imul .i64 (gd c2.2.2.2 t1.toNat 0) (gd stocks1 t1.toNat 0)))) stocks1
def spec_l2Parts_K2 (N : Nat) (v42 : List Int) (out2 : List Int) : Option ((List Int) × Unit) :=
  some (out2, ())
def spec_l2Parts_B1 (N : Nat) (kx : (List Int) → Int → ((List Int) × (List Int) × (List Int) × (List Int)) → (List Int) → (List Int) → (List Int) → Option ((List Int) × Unit)) (plan1 : List Int) (t : Int) (c1 : (List Int) × (List Int) × (List Int) × (List Int)) (v4 : List Int) (out : List Int) (stocks : List Int) : Option ((List Int) × Unit) :=
  bif ilt t (len plan1) then
    chk (inB t plan1.length) <|
    bif ilt 0 (gd plan1 t.toNat 0) then
      chk (inB 0 3) <|
      chk (inB t c1.2.1.length) <|
      chk (inB 0 3) <|
      spec_l2Parts_K1 N kx plan1 t c1 v4 (List.set out 0 (iadd .i64 (gd out 0 0) (gd c1.2.1 t.toNat 0))) stocks
    else
      spec_l2Parts_K1 N kx plan1 t c1 v4 out stocks
  else
    spec_l2Parts_K2 N v4 out
def spec_l2Parts_L1 (N fu_ : Nat) (plan1 : List Int) (t : Int) (c1 : (List Int) × (List Int) × (List Int) × (List Int)) (v4 : List Int) (out : List Int) (stocks : List Int) : Option ((List Int) × Unit) :=
  iterK fu_ (fun kx (v_ : ((List Int) × Int × Unit) × (((List Int) × (List Int) × (List Int) × (List Int)) × (List Int) × (List Int) × (List Int) × Unit)) => spec_l2Parts_B1 N (fun plan1 t c1 v4 out stocks => kx ((plan1, t, ()), (c1, v4, out, stocks, ()))) v_.1.1 v_.1.2.1 v_.2.1 v_.2.2.1 v_.2.2.2.1 v_.2.2.2.2.1) ((plan1, t, ()), (c1, v4, out, stocks, ()))
theorem spec_l2Parts_L1_succ (N fu_ : Nat) (plan1 : List Int) (t : Int) (c1 : (List Int) × (List Int) × (List Int) × (List Int)) (v4 : List Int) (out : List Int) (stocks : List Int) : spec_l2Parts_L1 N (fu_ + 1) plan1 t c1 v4 out stocks = spec_l2Parts_B1 N (fun plan1 t c1 v4 out stocks => spec_l2Parts_L1 N fu_ plan1 t c1 v4 out stocks) plan1 t c1 v4 out stocks := rfl
theorem spec_l2Parts_L1_run (N : Nat) (plan1 : Nat → (List Int)) (t : Nat → Int) (c1 : Nat → ((List Int) × (List Int) × (List Int) × (List Int))) (v4 : Nat → (List Int)) (out : Nat → (List Int)) (stocks : Nat → (List Int)) (n_ : Nat) {res_ : Option ((List Int) × Unit)} (hstep_ : ∀ j_, j_ < n_ → ∀ kx_, spec_l2Parts_B1 N kx_ (plan1 j_) (t j_) (c1 j_) (v4 j_) (out j_) (stocks j_) = kx_ (plan1 (j_ + 1)) (t (j_ + 1)) (c1 (j_ + 1)) (v4 (j_ + 1)) (out (j_ + 1)) (stocks (j_ + 1))) (hend_ : ∀ kx_, spec_l2Parts_B1 N kx_ (plan1 n_) (t n_) (c1 n_) (v4 n_) (out n_) (stocks n_) = res_) (fu_ : Nat) (hm_ : n_ < fu_) : spec_l2Parts_L1 N fu_ (plan1 0) (t 0) (c1 0) (v4 0) (out 0) (stocks 0) = res_ := by
  exact loop_run (L := fun fu_ (x_ : (List Int) × Int × ((List Int) × (List Int) × (List Int) × (List Int)) × (List Int) × (List Int) × (List Int)) => spec_l2Parts_L1 N fu_ x_.1 x_.2.1 x_.2.2.1 x_.2.2.2.1 x_.2.2.2.2.1 x_.2.2.2.2.2) (B := fun kx_ x_ => spec_l2Parts_B1 N (fun plan1 t c1 v4 out stocks => kx_ (plan1, t, c1, v4, out, stocks)) x_.1 x_.2.1 x_.2.2.1 x_.2.2.2.1 x_.2.2.2.2.1 x_.2.2.2.2.2) (fun _ _ => rfl) (fun j_ => (plan1 j_, t j_, c1 j_, v4 j_, out j_, stocks j_)) n_ (fun j_ hi_ kx_ => hstep_ j_ hi_ _) (fun kx_ => hend_ _) fu_ hm_
def spec_l2Parts (N : Nat) (c : (List Int) × (List Int) × (List Int) × (List Int)) (plan : List Int) : Option ((List Int) × Unit) :=
  (spec_l2Stocks N c plan).bind fun r =>
  spec_l2Parts_L1 N N plan 0 c (List.replicate 3 0) (List.replicate 3 0) r.1
def spec_l2Cost (N : Nat) (c : (List Int) × (List Int) × (List Int) × (List Int)) (plan : List Int) : Option (Int × Unit) :=
  (spec_l2Parts N c plan).bind fun r =>
  chk (inB 0 3) <|
  chk (inB 1 3) <|
  chk (inB 2 3) <|
  some (iadd .i64 (iadd .i64 (gd r.1 0 0) (gd r.1 1 0)) (gd r.1 2 0), ())
def spec_l2Smoother_K1 (N : Nat) (v12 : List Int) (v22 : Int) (v81 : Int) (v31 : (List Int) × (List Int) × (List Int) × (List Int)) (v71 : List Int) : Option ((List Int) × Unit) :=
  (spec_l1Own N v12).bind fun r1 =>
  (spec_l1Own N v12).bind fun r2 =>
  chk (inB v81 r1.1.length) <|
  chk (inB (isub .i64 v22 1) v71.length) <|
  chk (inB v81 r1.1.length) <|
  chk (inB v22 (List.set r1.1 v81.toNat (isub .i64 (gd r1.1 v81.toNat 0) (gd v71 (isub .i64 v22 1).toNat 0))).length) <|
  chk (inB (isub .i64 v22 1) v71.length) <|
  chk (inB v22 (List.set r1.1 v81.toNat (isub .i64 (gd r1.1 v81.toNat 0) (gd v71 (isub .i64 v22 1).toNat 0))).length) <|
  chk (inB v81 r2.1.length) <|
  chk (inB v22 r2.1.length) <|
  chk (inB v81 r2.1.length) <|
  chk (inB v22 (List.set r2.1 v81.toNat (iadd .i64 (gd r2.1 v81.toNat 0) (gd r2.1 v22.toNat 0))).length) <|
  (spec_l2Cost N v31 (List.set (List.set r1.1 v81.toNat (isub .i64 (gd r1.1 v81.toNat 0) (gd v71 (isub .i64 v22 1).toNat 0))) v22.toNat (iadd .i64 (gd (List.set r1.1 v81.toNat (isub .i64 (gd r1.1 v81.toNat 0) (gd v71 (isub .i64 v22 1).toNat 0))) v22.toNat 0) (gd v71 (isub .i64 v22 1).toNat 0)))).bind fun r3 =>
  (spec_l2Cost N v31 v12).bind fun r4 =>
  bif ilt r4.1 r3.1 then
    some (List.set (List.set r2.1 v81.toNat (iadd .i64 (gd r2.1 v81.toNat 0) (gd r2.1 v22.toNat 0))) v22.toNat 0, ())
  else
    some (List.set (List.set r1.1 v81.toNat (isub .i64 (gd r1.1 v81.toNat 0) (gd v71 (isub .i64 v22 1).toNat 0))) v22.toNat (iadd .i64 (gd (List.set r1.1 v81.toNat (isub .i64 (gd r1.1 v81.toNat 0) (gd v71 (isub .i64 v22 1).toNat 0))) v22.toNat 0) (gd v71 (isub .i64 v22 1).toNat 0)), ())
def spec_l2Smoother_B1 (N : Nat) (kx : (List Int) → Int → Int → ((List Int) × (List Int) × (List Int) × (List Int)) → (List Int) → Option ((List Int) × Unit)) (v11 : List Int) (v21 : Int) (v8 : Int) (v3 : (List Int) × (List Int) × (List Int) × (List Int)) (v7 : List Int) : Option ((List Int) × Unit) :=
  chk (inB v8 v11.length) <|
  bif ieq (gd v11 v8.toNat 0) 0 then
    kx v11 v21 (isub .i64 v8 1) v3 v7
  else
    spec_l2Smoother_K1 N v11 v21 v8 v3 v7
def spec_l2Smoother_L1 (N fu_ : Nat) (v11 : List Int) (v21 : Int) (v8 : Int) (v3 : (List Int) × (List Int) × (List Int) × (List Int)) (v7 : List Int) : Option ((List Int) × Unit) :=
  iterK fu_ (fun kx (v_ : ((List Int) × Int × Int × Unit) × (((List Int) × (List Int) × (List Int) × (List Int)) × (List Int) × Unit)) => spec_l2Smoother_B1 N (fun v11 v21 v8 v3 v7 => kx ((v11, v21, v8, ()), (v3, v7, ()))) v_.1.1 v_.1.2.1 v_.1.2.2.1 v_.2.1 v_.2.2.1) ((v11, v21, v8, ()), (v3, v7, ()))
theorem spec_l2Smoother_L1_succ (N fu_ : Nat) (v11 : List Int) (v21 : Int) (v8 : Int) (v3 : (List Int) × (List Int) × (List Int) × (List Int)) (v7 : List Int) : spec_l2Smoother_L1 N (fu_ + 1) v11 v21 v8 v3 v7 = spec_l2Smoother_B1 N (fun v11 v21 v8 v3 v7 => spec_l2Smoother_L1 N fu_ v11 v21 v8 v3 v7) v11 v21 v8 v3 v7 := rfl
theorem spec_l2Smoother_L1_run (N : Nat) (v11 : Nat → (List Int)) (v21 : Nat → Int) (v8 : Nat → Int) (v3 : Nat → ((List Int) × (List Int) × (List Int) × (List Int))) (v7 : Nat → (List Int)) (n_ : Nat) {res_ : Option ((List Int) × Unit)} (hstep_ : ∀ j_, j_ < n_ → ∀ kx_, spec_l2Smoother_B1 N kx_ (v11 j_) (v21 j_) (v8 j_) (v3 j_) (v7 j_) = kx_ (v11 (j_ + 1)) (v21 (j_ + 1)) (v8 (j_ + 1)) (v3 (j_ + 1)) (v7 (j_ + 1))) (hend_ : ∀ kx_, spec_l2Smoother_B1 N kx_ (v11 n_) (v21 n_) (v8 n_) (v3 n_) (v7 n_) = res_) (fu_ : Nat) (hm_ : n_ < fu_) : spec_l2Smoother_L1 N fu_ (v11 0) (v21 0) (v8 0) (v3 0) (v7 0) = res_ := by
  exact loop_run (L := fun fu_ (x_ : (List Int) × Int × Int × ((List Int) × (List Int) × (List Int) × (List Int)) × (List Int)) => spec_l2Smoother_L1 N fu_ x_.1 x_.2.1 x_.2.2.1 x_.2.2.2.1 x_.2.2.2.2) (B := fun kx_ x_ => spec_l2Smoother_B1 N (fun v11 v21 v8 v3 v7 => kx_ (v11, v21, v8, v3, v7)) x_.1 x_.2.1 x_.2.2.1 x_.2.2.2.1 x_.2.2.2.2) (fun _ _ => rfl) (fun j_ => (v11 j_, v21 j_, v8 j_, v3 j_, v7 j_)) n_ (fun j_ hi_ kx_ => hstep_ j_ hi_ _) (fun kx_ => hend_ _) fu_ hm_
def spec_l2Smoother (N : Nat) (app : (List Int) × (List Int) × (List Int) × (List Int)) (v1 : List Int) (v2 : Int) : Option ((List Int) × Unit) :=
  (spec_l2Stocks N app v1).bind fun r =>
  spec_l2Smoother_L1 N N v1 v2 (isub .i64 v2 1) app r.1
def spec_SmoothPlan_K1 (N : Nat) (out1 : List Int) : Option (((List Int) × Bool) × Unit) :=
  some ((out1, true), ())
def spec_SmoothPlan_B1 (N : Nat) (kx : Int → ((List Int) × (List Int) × (List Int) × (List Int)) → (List Int) → Option (((List Int) × Bool) × Unit)) (p : Int) (c1 : (List Int) × (List Int) × (List Int) × (List Int)) (out : List Int) : Option (((List Int) × Bool) × Unit) :=
  bif ile 0 p then
    (spec_l2Smoother N c1 out p).bind fun r3 =>
    (spec_l2Early N c1 r3.1).bind fun r4 =>
    kx r4.1 c1 r3.1
  else
    spec_SmoothPlan_K1 N out
def spec_SmoothPlan_L1 (N fu_ : Nat) (p : Int) (c1 : (List Int) × (List Int) × (List Int) × (List Int)) (out : List Int) : Option (((List Int) × Bool) × Unit) :=
  iterK fu_ (fun kx (v_ : (Int × Unit) × (((List Int) × (List Int) × (List Int) × (List Int)) × (List Int) × Unit)) => spec_SmoothPlan_B1 N (fun p c1 out => kx ((p, ()), (c1, out, ()))) v_.1.1 v_.2.1 v_.2.2.1) ((p, ()), (c1, out, ()))
theorem spec_SmoothPlan_L1_succ (N fu_ : Nat) (p : Int) (c1 : (List Int) × (List Int) × (List Int) × (List Int)) (out : List Int) : spec_SmoothPlan_L1 N (fu_ + 1) p c1 out = spec_SmoothPlan_B1 N (fun p c1 out => spec_SmoothPlan_L1 N fu_ p c1 out) p c1 out := rfl
theorem spec_SmoothPlan_L1_run (N : Nat) (p : Nat → Int) (c1 : Nat → ((List Int) × (List Int) × (List Int) × (List Int))) (out : Nat → (List Int)) (n_ : Nat) {res_ : Option (((List Int) × Bool) × Unit)} (hstep_ : ∀ j_, j_ < n_ → ∀ kx_, spec_SmoothPlan_B1 N kx_ (p j_) (c1 j_) (out j_) = kx_ (p (j_ + 1)) (c1 (j_ + 1)) (out (j_ + 1))) (hend_ : ∀ kx_, spec_SmoothPlan_B1 N kx_ (p n_) (c1 n_) (out n_) = res_) (fu_ : Nat) (hm_ : n_ < fu_) : spec_SmoothPlan_L1 N fu_ (p 0) (c1 0) (out 0) = res_ := by
  exact loop_run (L := fun fu_ (x_ : Int × ((List Int) × (List Int) × (List Int) × (List Int)) × (List Int)) => spec_SmoothPlan_L1 N fu_ x_.1 x_.2.1 x_.2.2) (B := fun kx_ x_ => spec_SmoothPlan_B1 N (fun p c1 out => kx_ (p, c1, out)) x_.1 x_.2.1 x_.2.2) (fun _ _ => rfl) (fun j_ => (p j_, c1 j_, out j_)) n_ (fun j_ hi_ kx_ => hstep_ j_ hi_ _) (fun kx_ => hend_ _) fu_ hm_
def spec_SmoothPlan (N : Nat) (c : (List Int) × (List Int) × (List Int) × (List Int)) (plan : List Int) : Option (((List Int) × Bool) × Unit) :=
  (spec_l2Two N c plan).bind fun r =>
  bif !r.1 then
    some (([], false), ())
  else
    (spec_l1Own N plan).bind fun r1 =>
    (spec_l2Early N c r1.1).bind fun r2 =>
    spec_SmoothPlan_L1 N N r2.1 c r1.1
def laws_toIntS_K1 (N : Nat) (out1 : List Int) : Option ((List Int) × Unit) :=
  some (out1, ())
def laws_toIntS_B1 (N : Nat) (kx : (List Int) → Int → (List Int) → Option ((List Int) × Unit)) (a1 : List Int) (i : Int) (out : List Int) : Option ((List Int) × Unit) :=
  bif ilt i (len a1) then
    chk (inB i a1.length) <|
    chk (inB i out.length) <|
    kx a1 (iadd .i64 i 1) (List.set out i.toNat (gd a1 i.toNat 0))
  else
    laws_toIntS_K1 N out
def laws_toIntS_L1 (N fu_ : Nat) (a1 : List Int) (i : Int) (out : List Int) : Option ((List Int) × Unit) :=
  iterK fu_ (fun kx (v_ : ((List Int) × Int × Unit) × ((List Int) × Unit)) => laws_toIntS_B1 N (fun a1 i out => kx ((a1, i, ()), (out, ()))) v_.1.1 v_.1.2.1 v_.2.1) ((a1, i, ()), (out, ()))
theorem laws_toIntS_L1_succ (N fu_ : Nat) (a1 : List Int) (i : Int) (out : List Int) : laws_toIntS_L1 N (fu_ + 1) a1 i out = laws_toIntS_B1 N (fun a1 i out => laws_toIntS_L1 N fu_ a1 i out) a1 i out := rfl
theorem laws_toIntS_L1_run (N : Nat) (a1 : Nat → (List Int)) (i : Nat → Int) (out : Nat → (List Int)) (n_ : Nat) {res_ : Option ((List Int) × Unit)} (hstep_ : ∀ j_, j_ < n_ → ∀ kx_, laws_toIntS_B1 N kx_ (a1 j_) (i j_) (out j_) = kx_ (a1 (j_ + 1)) (i (j_ + 1)) (out (j_ + 1))) (hend_ : ∀ kx_, laws_toIntS_B1 N kx_ (a1 n_) (i n_) (out n_) = res_) (fu_ : Nat) (hm_ : n_ < fu_) : laws_toIntS_L1 N fu_ (a1 0) (i 0) (out 0) = res_ := by
  exact loop_run (L := fun fu_ (x_ : (List Int) × Int × (List Int)) => laws_toIntS_L1 N fu_ x_.1 x_.2.1 x_.2.2) (B := fun kx_ x_ => laws_toIntS_B1 N (fun a1 i out => kx_ (a1, i, out)) x_.1 x_.2.1 x_.2.2) (fun _ _ => rfl) (fun j_ => (a1 j_, i j_, out j_)) n_ (fun j_ hi_ kx_ => hstep_ j_ hi_ _) (fun kx_ => hend_ _) fu_ hm_
def laws_toIntS (N : Nat) (a : List Int) : Option ((List Int) × Unit) :=
  chk (mkB (len a) 8) <|
  laws_toIntS_L1 N N a 0 (List.replicate (len a).toNat 0)
def laws_toCase (N : Nat) (a : (List Int) × (List Int) × (List Int) × (List Int)) : Option (((List Int) × (List Int) × (List Int) × (List Int)) × Unit) :=
  (laws_toIntS N a.1).bind fun r =>
  (laws_toIntS N a.2.1).bind fun r1 =>
  (laws_toIntS N a.2.2.1).bind fun r2 =>
  (laws_toIntS N a.2.2.2).bind fun r3 =>
  some ((r.1, (r1.1, (r2.1, r3.1))), ())
def impl_within (N : Nat) (n : Int) (low : Int) (high : Int) : Option (Bool × Unit) :=
  bif ile low n then
    some (ile n high, ())
  else
    some (false, ())
def impl_allWithin_K1 (N : Nat) : Option (Bool × Unit) :=
  some (true, ())
def impl_allWithin_B1 (N : Nat) (kx : Int → Int → (List Int) → Int → Int → Option (Bool × Unit)) (low1 : Int) (high1 : Int) (v9 : List Int) (v10 : Int) (v11 : Int) : Option (Bool × Unit) :=
  bif ilt v11 v10 then
    chk (inB v11 v9.length) <|
    (impl_within N (gd v9 v11.toNat 0) low1 high1).bind fun r =>
    bif !r.1 then
      some (false, ())
    else
      kx low1 high1 v9 v10 (iadd .i64 v11 1)
  else
    impl_allWithin_K1 N
def impl_allWithin_L1 (N fu_ : Nat) (low1 : Int) (high1 : Int) (v9 : List Int) (v10 : Int) (v11 : Int) : Option (Bool × Unit) :=
  iterK fu_ (fun kx (v_ : (Int × Int × (List Int) × Int × Int × Unit) × (Unit)) => impl_allWithin_B1 N (fun low1 high1 v9 v10 v11 => kx ((low1, high1, v9, v10, v11, ()), ())) v_.1.1 v_.1.2.1 v_.1.2.2.1 v_.1.2.2.2.1 v_.1.2.2.2.2.1) ((low1, high1, v9, v10, v11, ()), ())
theorem impl_allWithin_L1_succ (N fu_ : Nat) (low1 : Int) (high1 : Int) (v9 : List Int) (v10 : Int) (v11 : Int) : impl_allWithin_L1 N (fu_ + 1) low1 high1 v9 v10 v11 = impl_allWithin_B1 N (fun low1 high1 v9 v10 v11 => impl_allWithin_L1 N fu_ low1 high1 v9 v10 v11) low1 high1 v9 v10 v11 := rfl
theorem impl_allWithin_L1_run (N : Nat) (low1 : Nat → Int) (high1 : Nat → Int) (v9 : Nat → (List Int)) (v10 : Nat → Int) (v11 : Nat → Int) (n_ : Nat) {res_ : Option (Bool × Unit)} (hstep_ : ∀ j_, j_ < n_ → ∀ kx_, impl_allWithin_B1 N kx_ (low1 j_) (high1 j_) (v9 j_) (v10 j_) (v11 j_) = kx_ (low1 (j_ + 1)) (high1 (j_ + 1)) (v9 (j_ + 1)) (v10 (j_ + 1)) (v11 (j_ + 1))) (hend_ : ∀ kx_, impl_allWithin_B1 N kx_ (low1 n_) (high1 n_) (v9 n_) (v10 n_) (v11 n_) = res_) (fu_ : Nat) (hm_ : n_ < fu_) : impl_allWithin_L1 N fu_ (low1 0) (high1 0) (v9 0) (v10 0) (v11 0) = res_ := by
  exact loop_run (L := fun fu_ (x_ : Int × Int × (List Int) × Int × Int) => impl_allWithin_L1 N fu_ x_.1 x_.2.1 x_.2.2.1 x_.2.2.2.1 x_.2.2.2.2) (B := fun kx_ x_ => impl_allWithin_B1 N (fun low1 high1 v9 v10 v11 => kx_ (low1, high1, v9, v10, v11)) x_.1 x_.2.1 x_.2.2.1 x_.2.2.2.1 x_.2.2.2.2) (fun _ _ => rfl) (fun j_ => (low1 j_, high1 j_, v9 j_, v10 j_, v11 j_)) n_ (fun j_ hi_ kx_ => hstep_ j_ hi_ _) (fun kx_ => hend_ _) fu_ hm_
def impl_allWithin (N : Nat) (list : List Int) (low : Int) (high : Int) : Option (Bool × Unit) :=
  impl_allWithin_L1 N N low high list (len list) 0
def impl_IsCase (N : Nat) (c : (List Int) × (List Int) × (List Int) × (List Int)) : Option (Bool × Unit) :=
  bif ile (len c.1) 8 then
    bif ieq (len c.2.1) (len c.1) then
      bif ieq (len c.2.2.1) (len c.1) then
        bif ieq (len c.2.2.2) (len c.1) then
          (impl_allWithin N c.1 0 20).bind fun r =>
          bif r.1 then
            (impl_allWithin N c.2.1 0 99).bind fun r1 =>
            bif r1.1 then
              (impl_allWithin N c.2.2.1 0 9).bind fun r2 =>
              bif r2.1 then
                (impl_allWithin N c.2.2.2 0 9).bind fun r3 =>
                some (r3.1, ())
              else
                some (false, ())
            else
              some (false, ())
          else
            some (false, ())
        else
          some (false, ())
      else
        some (false, ())
    else
      some (false, ())
  else
    some (false, ())
def impl_Case_stocks_K1 (N : Nat) (stock1 : Int) (out1 : List Int) : Option (((List Int) × Bool) × Unit) :=
  some ((out1, ieq stock1 0), ())
def impl_Case_stocks_B1 (N : Nat) (kx : Int → (List Int) → Int → Int → ((List Int) × (List Int) × (List Int) × (List Int)) → (List Int) → Option (((List Int) × Bool) × Unit)) (stock : Int) (v22 : List Int) (v23 : Int) (v24 : Int) (c1 : (List Int) × (List Int) × (List Int) × (List Int)) (out : List Int) : Option (((List Int) × Bool) × Unit) :=
  bif ilt v24 v23 then
    chk (inB v24 v22.length) <|
    chk (inB v24 c1.1.length) <|
    bif ilt (iadd .i64 stock (isub .i64 (gd v22 v24.toNat 0) (gd c1.1 v24.toNat 0))) 0 then
      some (([], false), ())
    else
      chk (fitB (out.length + 1) 8) <|
      kx (iadd .i64 stock (isub .i64 (gd v22 v24.toNat 0) (gd c1.1 v24.toNat 0))) v22 v23 (iadd .i64 v24 1) c1 (out ++ [iadd .i64 stock (isub .i64 (gd v22 v24.toNat 0) (gd c1.1 v24.toNat 0))])
  else
    impl_Case_stocks_K1 N stock out
def impl_Case_stocks_L1 (N fu_ : Nat) (stock : Int) (v22 : List Int) (v23 : Int) (v24 : Int) (c1 : (List Int) × (List Int) × (List Int) × (List Int)) (out : List Int) : Option (((List Int) × Bool) × Unit) :=
  iterK fu_ (fun kx (v_ : (Int × (List Int) × Int × Int × Unit) × (((List Int) × (List Int) × (List Int) × (List Int)) × (List Int) × Unit)) => impl_Case_stocks_B1 N (fun stock v22 v23 v24 c1 out => kx ((stock, v22, v23, v24, ()), (c1, out, ()))) v_.1.1 v_.1.2.1 v_.1.2.2.1 v_.1.2.2.2.1 v_.2.1 v_.2.2.1) ((stock, v22, v23, v24, ()), (c1, out, ()))
theorem impl_Case_stocks_L1_succ (N fu_ : Nat) (stock : Int) (v22 : List Int) (v23 : Int) (v24 : Int) (c1 : (List Int) × (List Int) × (List Int) × (List Int)) (out : List Int) : impl_Case_stocks_L1 N (fu_ + 1) stock v22 v23 v24 c1 out = impl_Case_stocks_B1 N (fun stock v22 v23 v24 c1 out => impl_Case_stocks_L1 N fu_ stock v22 v23 v24 c1 out) stock v22 v23 v24 c1 out := rfl
theorem impl_Case_stocks_L1_run (N : Nat) (stock : Nat → Int) (v22 : Nat → (List Int)) (v23 : Nat → Int) (v24 : Nat → Int) (c1 : Nat → ((List Int) × (List Int) × (List Int) × (List Int))) (out : Nat → (List Int)) (n_ : Nat) {res_ : Option (((List Int) × Bool) × Unit)} (hstep_ : ∀ j_, j_ < n_ → ∀ kx_, impl_Case_stocks_B1 N kx_ (stock j_) (v22 j_) (v23 j_) (v24 j_) (c1 j_) (out j_) = kx_ (stock (j_ + 1)) (v22 (j_ + 1)) (v23 (j_ + 1)) (v24 (j_ + 1)) (c1 (j_ + 1)) (out (j_ + 1))) (hend_ : ∀ kx_, impl_Case_stocks_B1 N kx_ (stock n_) (v22 n_) (v23 n_) (v24 n_) (c1 n_) (out n_) = res_) (fu_ : Nat) (hm_ : n_ < fu_) : impl_Case_stocks_L1 N fu_ (stock 0) (v22 0) (v23 0) (v24 0) (c1 0) (out 0) = res_ := by
  exact loop_run (L := fun fu_ (x_ : Int × (List Int) × Int × Int × ((List Int) × (List Int) × (List Int) × (List Int)) × (List Int)) => impl_Case_stocks_L1 N fu_ x_.1 x_.2.1 x_.2.2.1 x_.2.2.2.1 x_.2.2.2.2.1 x_.2.2.2.2.2) (B := fun kx_ x_ => impl_Case_stocks_B1 N (fun stock v22 v23 v24 c1 out => kx_ (stock, v22, v23, v24, c1, out)) x_.1 x_.2.1 x_.2.2.1 x_.2.2.2.1 x_.2.2.2.2.1 x_.2.2.2.2.2) (fun _ _ => rfl) (fun j_ => (stock j_, v22 j_, v23 j_, v24 j_, c1 j_, out j_)) n_ (fun j_ hi_ kx_ => hstep_ j_ hi_ _) (fun kx_ => hend_ _) fu_ hm_
def impl_Case_stocks (N : Nat) (c : (List Int) × (List Int) × (List Int) × (List Int)) (plan : List Int) : Option (((List Int) × Bool) × Unit) :=
  bif ine (len plan) (len c.1) then
    some (([], false), ())
  else
    (impl_allWithin N plan 0 160).bind fun r =>
    bif !r.1 then
      some (([], false), ())
    else
      impl_Case_stocks_L1 N N 0 plan (len plan) 0 c []
def impl_planned (N : Nat) (c : (List Int) × (List Int) × (List Int) × (List Int)) (plan : List Int) : Option (((List Int) × Bool) × Unit) :=
  (impl_IsCase N c).bind fun r =>
  bif !r.1 then
    some (([], false), ())
  else
    (impl_Case_stocks N c plan).bind fun r1 =>
    bif !r1.1.2 then
      some (([], false), ())
    else
      some ((r1.1.1, true), ())
def impl_Case_parts_K1 (N : Nat) (kx : Int → Int → Int → Int → (List Int) → Int → Int → ((List Int) × (List Int) × (List Int) × (List Int)) → Option ((Int × Int × Int) × Unit)) (setups1 : Int) (units1 : Int) (holds1 : Int) (stock1 : Int) (i : Int) (amount : Int) (v131 : List Int) (v141 : Int) (v151 : Int) (c2 : (List Int) × (List Int) × (List Int) × (List Int)) : Option ((Int × Int × Int) × Unit) :=
  chk (inB i c2.2.2.1.length) <|
  chk (inB i c2.2.2.2.length) <|
  kx setups1 (iadd .i64 units1 (imul .i64 (gd c2.2.2.1 i.toNat 0) amount)) (iadd .i64 holds1 (imul .i64 (gd c2.2.2.2 i.toNat 0) stock1)) stock1 v131 v141 (iadd .i64 v151 1) c2
def impl_Case_parts_K2 (N : Nat) (setups2 : Int) (units2 : Int) (holds2 : Int) : Option ((Int × Int × Int) × Unit) :=
  some ((setups2, (units2, holds2)), ())
def impl_Case_parts_B1 (N : Nat) (kx : Int → Int → Int → Int → (List Int) → Int → Int → ((List Int) × (List Int) × (List Int) × (List Int)) → Option ((Int × Int × Int) × Unit)) (setups : Int) (units : Int) (holds : Int) (stock : Int) (v13 : List Int) (v14 : Int) (v15 : Int) (c1 : (List Int) × (List Int) × (List Int) × (List Int)) : Option ((Int × Int × Int) × Unit) :=
  bif ilt v15 v14 then
    chk (inB v15 v13.length) <|
    chk (inB v15 c1.1.length) <|
    bif ilt 0 (gd v13 v15.toNat 0) then
      chk (inB v15 c1.2.1.length) <|
      impl_Case_parts_K1 N kx (iadd .i64 setups (gd c1.2.1 v15.toNat 0)) units holds (iadd .i64 stock (isub .i64 (gd v13 v15.toNat 0) (gd c1.1 v15.toNat 0))) v15 (gd v13 v15.toNat 0) v13 v14 v15 c1
    else
      impl_Case_parts_K1 N kx setups units holds (iadd .i64 stock (isub .i64 (gd v13 v15.toNat 0) (gd c1.1 v15.toNat 0))) v15 (gd v13 v15.toNat 0) v13 v14 v15 c1
  else
    impl_Case_parts_K2 N setups units holds
def impl_Case_parts_L1 (N fu_ : Nat) (setups : Int) (units : Int) (holds : Int) (stock : Int) (v13 : List Int) (v14 : Int) (v15 : Int) (c1 : (List Int) × (List Int) × (List Int) × (List Int)) : Option ((Int × Int × Int) × Unit) :=
  iterK fu_ (fun kx (v_ : (Int × Int × Int × Int × (List Int) × Int × Int × Unit) × (((List Int) × (List Int) × (List Int) × (List Int)) × Unit)) => impl_Case_parts_B1 N (fun setups units holds stock v13 v14 v15 c1 => kx ((setups, units, holds, stock, v13, v14, v15, ()), (c1, ()))) v_.1.1 v_.1.2.1 v_.1.2.2.1 v_.1.2.2.2.1 v_.1.2.2.2.2.1 v_.1.2.2.2.2.2.1 v_.1.2.2.2.2.2.2.1 v_.2.1) ((setups, units, holds, stock, v13, v14, v15, ()), (c1, ()))
theorem impl_Case_parts_L1_succ (N fu_ : Nat) (setups : Int) (units : Int) (holds : Int) (stock : Int) (v13 : List Int) (v14 : Int) (v15 : Int) (c1 : (List Int) × (List Int) × (List Int) × (List Int)) : impl_Case_parts_L1 N (fu_ + 1) setups units holds stock v13 v14 v15 c1 = impl_Case_parts_B1 N (fun setups units holds stock v13 v14 v15 c1 => impl_Case_parts_L1 N fu_ setups units holds stock v13 v14 v15 c1) setups units holds stock v13 v14 v15 c1 := rfl
theorem impl_Case_parts_L1_run (N : Nat) (setups : Nat → Int) (units : Nat → Int) (holds : Nat → Int) (stock : Nat → Int) (v13 : Nat → (List Int)) (v14 : Nat → Int) (v15 : Nat → Int) (c1 : Nat → ((List Int) × (List Int) × (List Int) × (List Int))) (n_ : Nat) {res_ : Option ((Int × Int × Int) × Unit)} (hstep_ : ∀ j_, j_ < n_ → ∀ kx_, impl_Case_parts_B1 N kx_ (setups j_) (units j_) (holds j_) (stock j_) (v13 j_) (v14 j_) (v15 j_) (c1 j_) = kx_ (setups (j_ + 1)) (units (j_ + 1)) (holds (j_ + 1)) (stock (j_ + 1)) (v13 (j_ + 1)) (v14 (j_ + 1)) (v15 (j_ + 1)) (c1 (j_ + 1))) (hend_ : ∀ kx_, impl_Case_parts_B1 N kx_ (setups n_) (units n_) (holds n_) (stock n_) (v13 n_) (v14 n_) (v15 n_) (c1 n_) = res_) (fu_ : Nat) (hm_ : n_ < fu_) : impl_Case_parts_L1 N fu_ (setups 0) (units 0) (holds 0) (stock 0) (v13 0) (v14 0) (v15 0) (c1 0) = res_ := by
  exact loop_run (L := fun fu_ (x_ : Int × Int × Int × Int × (List Int) × Int × Int × ((List Int) × (List Int) × (List Int) × (List Int))) => impl_Case_parts_L1 N fu_ x_.1 x_.2.1 x_.2.2.1 x_.2.2.2.1 x_.2.2.2.2.1 x_.2.2.2.2.2.1 x_.2.2.2.2.2.2.1 x_.2.2.2.2.2.2.2) (B := fun kx_ x_ => impl_Case_parts_B1 N (fun setups units holds stock v13 v14 v15 c1 => kx_ (setups, units, holds, stock, v13, v14, v15, c1)) x_.1 x_.2.1 x_.2.2.1 x_.2.2.2.1 x_.2.2.2.2.1 x_.2.2.2.2.2.1 x_.2.2.2.2.2.2.1 x_.2.2.2.2.2.2.2) (fun _ _ => rfl) (fun j_ => (setups j_, units j_, holds j_, stock j_, v13 j_, v14 j_, v15 j_, c1 j_)) n_ (fun j_ hi_ kx_ => hstep_ j_ hi_ _) (fun kx_ => hend_ _) fu_ hm_
def impl_Case_parts (N : Nat) (c : (List Int) × (List Int) × (List Int) × (List Int)) (plan : List Int) : Option ((Int × Int × Int) × Unit) :=
  impl_Case_parts_L1 N N 0 0 0 0 plan (len plan) 0 c
def impl_Case_cost (N : Nat) (c : (List Int) × (List Int) × (List Int) × (List Int)) (plan : List Int) : Option (Int × Unit) :=
  (impl_Case_parts N c plan).bind fun r =>
  some (iadd .i64 (iadd .i64 r.1.1 r.1.2.1) r.1.2.2, ())
def impl_copied (N : Nat) (list : List Int) : Option ((List Int) × Unit) :=
  chk (fitB (0 + list.length) 8) <|
  some (list, ())
def impl_Case_early_K1 (N : Nat) : Option ((Int × Int × Bool) × Unit) :=
  some ((0, (0, false)), ())
def impl_Case_early_B1 (N : Nat) (kx : Int → (List Int) → Int → Int → ((List Int) × (List Int) × (List Int) × (List Int)) → Option ((Int × Int × Bool) × Unit)) (stock : Int) (v10 : List Int) (v11 : Int) (v12 : Int) (c1 : (List Int) × (List Int) × (List Int) × (List Int)) : Option ((Int × Int × Bool) × Unit) :=
  bif ilt v12 v11 then
    chk (inB v12 v10.length) <|
    bif ilt 0 (gd v10 v12.toNat 0) then
      bif ilt 0 stock then
        some ((v12, (stock, true)), ())
      else
        chk (inB v12 c1.1.length) <|
        kx (iadd .i64 stock (isub .i64 (gd v10 v12.toNat 0) (gd c1.1 v12.toNat 0))) v10 v11 (iadd .i64 v12 1) c1
    else
      chk (inB v12 c1.1.length) <|
      kx (iadd .i64 stock (isub .i64 (gd v10 v12.toNat 0) (gd c1.1 v12.toNat 0))) v10 v11 (iadd .i64 v12 1) c1
  else
    impl_Case_early_K1 N
def impl_Case_early_L1 (N fu_ : Nat) (stock : Int) (v10 : List Int) (v11 : Int) (v12 : Int) (c1 : (List Int) × (List Int) × (List Int) × (List Int)) : Option ((Int × Int × Bool) × Unit) :=
  iterK fu_ (fun kx (v_ : (Int × (List Int) × Int × Int × Unit) × (((List Int) × (List Int) × (List Int) × (List Int)) × Unit)) => impl_Case_early_B1 N (fun stock v10 v11 v12 c1 => kx ((stock, v10, v11, v12, ()), (c1, ()))) v_.1.1 v_.1.2.1 v_.1.2.2.1 v_.1.2.2.2.1 v_.2.1) ((stock, v10, v11, v12, ()), (c1, ()))
theorem impl_Case_early_L1_succ (N fu_ : Nat) (stock : Int) (v10 : List Int) (v11 : Int) (v12 : Int) (c1 : (List Int) × (List Int) × (List Int) × (List Int)) : impl_Case_early_L1 N (fu_ + 1) stock v10 v11 v12 c1 = impl_Case_early_B1 N (fun stock v10 v11 v12 c1 => impl_Case_early_L1 N fu_ stock v10 v11 v12 c1) stock v10 v11 v12 c1 := rfl
theorem impl_Case_early_L1_run (N : Nat) (stock : Nat → Int) (v10 : Nat → (List Int)) (v11 : Nat → Int) (v12 : Nat → Int) (c1 : Nat → ((List Int) × (List Int) × (List Int) × (List Int))) (n_ : Nat) {res_ : Option ((Int × Int × Bool) × Unit)} (hstep_ : ∀ j_, j_ < n_ → ∀ kx_, impl_Case_early_B1 N kx_ (stock j_) (v10 j_) (v11 j_) (v12 j_) (c1 j_) = kx_ (stock (j_ + 1)) (v10 (j_ + 1)) (v11 (j_ + 1)) (v12 (j_ + 1)) (c1 (j_ + 1))) (hend_ : ∀ kx_, impl_Case_early_B1 N kx_ (stock n_) (v10 n_) (v11 n_) (v12 n_) (c1 n_) = res_) (fu_ : Nat) (hm_ : n_ < fu_) : impl_Case_early_L1 N fu_ (stock 0) (v10 0) (v11 0) (v12 0) (c1 0) = res_ := by
  exact loop_run (L := fun fu_ (x_ : Int × (List Int) × Int × Int × ((List Int) × (List Int) × (List Int) × (List Int))) => impl_Case_early_L1 N fu_ x_.1 x_.2.1 x_.2.2.1 x_.2.2.2.1 x_.2.2.2.2) (B := fun kx_ x_ => impl_Case_early_B1 N (fun stock v10 v11 v12 c1 => kx_ (stock, v10, v11, v12, c1)) x_.1 x_.2.1 x_.2.2.1 x_.2.2.2.1 x_.2.2.2.2) (fun _ _ => rfl) (fun j_ => (stock j_, v10 j_, v11 j_, v12 j_, c1 j_)) n_ (fun j_ hi_ kx_ => hstep_ j_ hi_ _) (fun kx_ => hend_ _) fu_ hm_
def impl_Case_early (N : Nat) (c : (List Int) × (List Int) × (List Int) × (List Int)) (plan : List Int) : Option ((Int × Int × Bool) × Unit) :=
  impl_Case_early_L1 N N 0 plan (len plan) 0 c
def impl_SmoothPlan_K1 (N : Nat) (kx : (List Int) → ((List Int) × (List Int) × (List Int) × (List Int)) → Option (((List Int) × Bool) × Unit)) (v81 : Int) (v91 : Int) (v112 : Int) (v13 : List Int) (v22 : (List Int) × (List Int) × (List Int) × (List Int)) : Option (((List Int) × Bool) × Unit) :=
  (impl_copied N v13).bind fun r3 =>
  chk (inB v112 r3.1.length) <|
  chk (inB v112 r3.1.length) <|
  chk (inB v81 (List.set r3.1 v112.toNat (isub .i64 (gd r3.1 v112.toNat 0) v91)).length) <|
  chk (inB v81 (List.set r3.1 v112.toNat (isub .i64 (gd r3.1 v112.toNat 0) v91)).length) <|
  (impl_Case_cost N v22 (List.set (List.set r3.1 v112.toNat (isub .i64 (gd r3.1 v112.toNat 0) v91)) v81.toNat (iadd .i64 (gd (List.set r3.1 v112.toNat (isub .i64 (gd r3.1 v112.toNat 0) v91)) v81.toNat 0) v91))).bind fun r4 =>
  (impl_Case_cost N v22 v13).bind fun r5 =>
  bif ilt r5.1 r4.1 then
    chk (inB v112 v13.length) <|
    chk (inB v81 v13.length) <|
    chk (inB v112 v13.length) <|
    chk (inB v81 (List.set v13 v112.toNat (iadd .i64 (gd v13 v112.toNat 0) (gd v13 v81.toNat 0))).length) <|
    kx (List.set (List.set v13 v112.toNat (iadd .i64 (gd v13 v112.toNat 0) (gd v13 v81.toNat 0))) v81.toNat 0) v22
  else
    kx (List.set (List.set r3.1 v112.toNat (isub .i64 (gd r3.1 v112.toNat 0) v91)) v81.toNat (iadd .i64 (gd (List.set r3.1 v112.toNat (isub .i64 (gd r3.1 v112.toNat 0) v91)) v81.toNat 0) v91)) v22
def impl_SmoothPlan_B1 (N : Nat) (kx : (List Int) → ((List Int) × (List Int) × (List Int) × (List Int)) → Option (((List Int) × Bool) × Unit)) (kx1 : Int → Int → Int → (List Int) → ((List Int) × (List Int) × (List Int) × (List Int)) → Option (((List Int) × Bool) × Unit)) (v8 : Int) (v9 : Int) (v111 : Int) (v12 : List Int) (v21 : (List Int) × (List Int) × (List Int) × (List Int)) : Option (((List Int) × Bool) × Unit) :=
  chk (inB v111 v12.length) <|
  bif ieq (gd v12 v111.toNat 0) 0 then
    kx1 v8 v9 (isub .i64 v111 1) v12 v21
  else
    impl_SmoothPlan_K1 N kx v8 v9 v111 v12 v21
def impl_SmoothPlan_L1 (N fu_ : Nat) (kx : (List Int) → ((List Int) × (List Int) × (List Int) × (List Int)) → Option (((List Int) × Bool) × Unit)) (v8 : Int) (v9 : Int) (v111 : Int) (v12 : List Int) (v21 : (List Int) × (List Int) × (List Int) × (List Int)) : Option (((List Int) × Bool) × Unit) :=
  iterK fu_ (fun kx1 (v_ : (Int × Int × Int × Unit) × ((List Int) × ((List Int) × (List Int) × (List Int) × (List Int)) × Unit)) => impl_SmoothPlan_B1 N kx (fun v8 v9 v111 v12 v21 => kx1 ((v8, v9, v111, ()), (v12, v21, ()))) v_.1.1 v_.1.2.1 v_.1.2.2.1 v_.2.1 v_.2.2.1) ((v8, v9, v111, ()), (v12, v21, ()))
theorem impl_SmoothPlan_L1_succ (N fu_ : Nat) (kx : (List Int) → ((List Int) × (List Int) × (List Int) × (List Int)) → Option (((List Int) × Bool) × Unit)) (v8 : Int) (v9 : Int) (v111 : Int) (v12 : List Int) (v21 : (List Int) × (List Int) × (List Int) × (List Int)) : impl_SmoothPlan_L1 N (fu_ + 1) kx v8 v9 v111 v12 v21 = impl_SmoothPlan_B1 N kx (fun v8 v9 v111 v12 v21 => impl_SmoothPlan_L1 N fu_ kx v8 v9 v111 v12 v21) v8 v9 v111 v12 v21 := rfl
theorem impl_SmoothPlan_L1_run (N : Nat) (kx : (List Int) → ((List Int) × (List Int) × (List Int) × (List Int)) → Option (((List Int) × Bool) × Unit)) (v8 : Nat → Int) (v9 : Nat → Int) (v111 : Nat → Int) (v12 : Nat → (List Int)) (v21 : Nat → ((List Int) × (List Int) × (List Int) × (List Int))) (n_ : Nat) {res_ : Option (((List Int) × Bool) × Unit)} (hstep_ : ∀ j_, j_ < n_ → ∀ kx_, impl_SmoothPlan_B1 N kx kx_ (v8 j_) (v9 j_) (v111 j_) (v12 j_) (v21 j_) = kx_ (v8 (j_ + 1)) (v9 (j_ + 1)) (v111 (j_ + 1)) (v12 (j_ + 1)) (v21 (j_ + 1))) (hend_ : ∀ kx_, impl_SmoothPlan_B1 N kx kx_ (v8 n_) (v9 n_) (v111 n_) (v12 n_) (v21 n_) = res_) (fu_ : Nat) (hm_ : n_ < fu_) : impl_SmoothPlan_L1 N fu_ kx (v8 0) (v9 0) (v111 0) (v12 0) (v21 0) = res_ := by
  exact loop_run (L := fun fu_ (x_ : Int × Int × Int × (List Int) × ((List Int) × (List Int) × (List Int) × (List Int))) => impl_SmoothPlan_L1 N fu_ kx x_.1 x_.2.1 x_.2.2.1 x_.2.2.2.1 x_.2.2.2.2) (B := fun kx_ x_ => impl_SmoothPlan_B1 N kx (fun v8 v9 v111 v12 v21 => kx_ (v8, v9, v111, v12, v21)) x_.1 x_.2.1 x_.2.2.1 x_.2.2.2.1 x_.2.2.2.2) (fun _ _ => rfl) (fun j_ => (v8 j_, v9 j_, v111 j_, v12 j_, v21 j_)) n_ (fun j_ hi_ kx_ => hstep_ j_ hi_ _) (fun kx_ => hend_ _) fu_ hm_
def impl_SmoothPlan_B2 (N : Nat) (kx : (List Int) → ((List Int) × (List Int) × (List Int) × (List Int)) → Option (((List Int) × Bool) × Unit)) (v11 : List Int) (v2 : (List Int) × (List Int) × (List Int) × (List Int)) : Option (((List Int) × Bool) × Unit) :=
  (impl_Case_early N v2 v11).bind fun r2 =>
  bif !r2.1.2.2 then
    some ((v11, true), ())
  else
    impl_SmoothPlan_L1 N N kx r2.1.1 r2.1.2.1 (isub .i64 r2.1.1 1) v11 v2
def impl_SmoothPlan_L2 (N fu_ : Nat) (v11 : List Int) (v2 : (List Int) × (List Int) × (List Int) × (List Int)) : Option (((List Int) × Bool) × Unit) :=
  iterK fu_ (fun kx (v_ : (Unit) × ((List Int) × ((List Int) × (List Int) × (List Int) × (List Int)) × Unit)) => impl_SmoothPlan_B2 N (fun v11 v2 => kx ((), (v11, v2, ()))) v_.2.1 v_.2.2.1) ((), (v11, v2, ()))
theorem impl_SmoothPlan_L2_succ (N fu_ : Nat) (v11 : List Int) (v2 : (List Int) × (List Int) × (List Int) × (List Int)) : impl_SmoothPlan_L2 N (fu_ + 1) v11 v2 = impl_SmoothPlan_B2 N (fun v11 v2 => impl_SmoothPlan_L2 N fu_ v11 v2) v11 v2 := rfl
theorem impl_SmoothPlan_L2_run (N : Nat) (v11 : Nat → (List Int)) (v2 : Nat → ((List Int) × (List Int) × (List Int) × (List Int))) (n_ : Nat) {res_ : Option (((List Int) × Bool) × Unit)} (hstep_ : ∀ j_, j_ < n_ → ∀ kx_, impl_SmoothPlan_B2 N kx_ (v11 j_) (v2 j_) = kx_ (v11 (j_ + 1)) (v2 (j_ + 1))) (hend_ : ∀ kx_, impl_SmoothPlan_B2 N kx_ (v11 n_) (v2 n_) = res_) (fu_ : Nat) (hm_ : n_ < fu_) : impl_SmoothPlan_L2 N fu_ (v11 0) (v2 0) = res_ := by
  exact loop_run (L := fun fu_ (x_ : (List Int) × ((List Int) × (List Int) × (List Int) × (List Int))) => impl_SmoothPlan_L2 N fu_ x_.1 x_.2) (B := fun kx_ x_ => impl_SmoothPlan_B2 N (fun v11 v2 => kx_ (v11, v2)) x_.1 x_.2) (fun _ _ => rfl) (fun j_ => (v11 j_, v2 j_)) n_ (fun j_ hi_ kx_ => hstep_ j_ hi_ _) (fun kx_ => hend_ _) fu_ hm_
def impl_SmoothPlan (N : Nat) (app : (List Int) × (List Int) × (List Int) × (List Int)) (v1 : List Int) : Option (((List Int) × Bool) × Unit) :=
  (impl_planned N app v1).bind fun r =>
  bif !r.1.2 then
    some (([], false), ())
  else
    (impl_copied N v1).bind fun r1 =>
    impl_SmoothPlan_L2 N N r1.1 app
def laws_eqIntS_K1 (N : Nat) : Option (Bool × Unit) :=
  some (true, ())
def laws_eqIntS_B1 (N : Nat) (kx : (List Int) → (List Int) → Int → Option (Bool × Unit)) (a1 : List Int) (b1 : List Int) (i : Int) : Option (Bool × Unit) :=
  bif ilt i (len a1) then
    chk (inB i a1.length) <|
    chk (inB i b1.length) <|
    bif ine (gd a1 i.toNat 0) (gd b1 i.toNat 0) then
      some (false, ())
    else
      kx a1 b1 (iadd .i64 i 1)
  else
    laws_eqIntS_K1 N
def laws_eqIntS_L1 (N fu_ : Nat) (a1 : List Int) (b1 : List Int) (i : Int) : Option (Bool × Unit) :=
  iterK fu_ (fun kx (v_ : ((List Int) × (List Int) × Int × Unit) × (Unit)) => laws_eqIntS_B1 N (fun a1 b1 i => kx ((a1, b1, i, ()), ())) v_.1.1 v_.1.2.1 v_.1.2.2.1) ((a1, b1, i, ()), ())
theorem laws_eqIntS_L1_succ (N fu_ : Nat) (a1 : List Int) (b1 : List Int) (i : Int) : laws_eqIntS_L1 N (fu_ + 1) a1 b1 i = laws_eqIntS_B1 N (fun a1 b1 i => laws_eqIntS_L1 N fu_ a1 b1 i) a1 b1 i := rfl
theorem laws_eqIntS_L1_run (N : Nat) (a1 : Nat → (List Int)) (b1 : Nat → (List Int)) (i : Nat → Int) (n_ : Nat) {res_ : Option (Bool × Unit)} (hstep_ : ∀ j_, j_ < n_ → ∀ kx_, laws_eqIntS_B1 N kx_ (a1 j_) (b1 j_) (i j_) = kx_ (a1 (j_ + 1)) (b1 (j_ + 1)) (i (j_ + 1))) (hend_ : ∀ kx_, laws_eqIntS_B1 N kx_ (a1 n_) (b1 n_) (i n_) = res_) (fu_ : Nat) (hm_ : n_ < fu_) : laws_eqIntS_L1 N fu_ (a1 0) (b1 0) (i 0) = res_ := by
  exact loop_run (L := fun fu_ (x_ : (List Int) × (List Int) × Int) => laws_eqIntS_L1 N fu_ x_.1 x_.2.1 x_.2.2) (B := fun kx_ x_ => laws_eqIntS_B1 N (fun a1 b1 i => kx_ (a1, b1, i)) x_.1 x_.2.1 x_.2.2) (fun _ _ => rfl) (fun j_ => (a1 j_, b1 j_, i j_)) n_ (fun j_ hi_ kx_ => hstep_ j_ hi_ _) (fun kx_ => hend_ _) fu_ hm_
def laws_eqIntS (N : Nat) (a : List Int) (b : List Int) : Option (Bool × Unit) :=
  bif ine (len a) (len b) then
    some (false, ())
  else
    laws_eqIntS_L1 N N a b 0
def laws_eqCase (N : Nat) (a : (List Int) × (List Int) × (List Int) × (List Int)) (b : (List Int) × (List Int) × (List Int) × (List Int)) : Option (Bool × Unit) :=
  (laws_eqIntS N a.1 b.1).bind fun r =>
  bif !r.1 then
    some (false, ())
  else
    (laws_eqIntS N a.2.1 b.2.1).bind fun r1 =>
    bif !r1.1 then
      some (false, ())
    else
      (laws_eqIntS N a.2.2.1 b.2.2.1).bind fun r2 =>
      bif !r2.1 then
        some (false, ())
      else
        (laws_eqIntS N a.2.2.2 b.2.2.2).bind fun r3 =>
        bif !r3.1 then
          some (false, ())
        else
          some (true, ())
def laws_markIntS_K1 (N : Nat) (kx3 : Int) (a2 : List Int) : Option (Int × (List Int)) :=
  some (kx3, a2)
def laws_markIntS_B1 (N : Nat) (kx2 : Int → Int → (List Int) → Option (Int × (List Int))) (kx1 : Int) (i : Int) (a1 : List Int) : Option (Int × (List Int)) :=
  bif ilt i (len a1) then
    chk (inB i a1.length) <|
    kx2 (iadd .i64 kx1 1) (iadd .i64 i 1) (List.set a1 i.toNat kx1)
  else
    laws_markIntS_K1 N kx1 a1
def laws_markIntS_L1 (N fu_ : Nat) (kx1 : Int) (i : Int) (a1 : List Int) : Option (Int × (List Int)) :=
  iterK fu_ (fun kx2 (v_ : (Int × Int × Unit) × ((List Int) × Unit)) => laws_markIntS_B1 N (fun kx1 i a1 => kx2 ((kx1, i, ()), (a1, ()))) v_.1.1 v_.1.2.1 v_.2.1) ((kx1, i, ()), (a1, ()))
theorem laws_markIntS_L1_succ (N fu_ : Nat) (kx1 : Int) (i : Int) (a1 : List Int) : laws_markIntS_L1 N (fu_ + 1) kx1 i a1 = laws_markIntS_B1 N (fun kx1 i a1 => laws_markIntS_L1 N fu_ kx1 i a1) kx1 i a1 := rfl
theorem laws_markIntS_L1_run (N : Nat) (kx1 : Nat → Int) (i : Nat → Int) (a1 : Nat → (List Int)) (n_ : Nat) {res_ : Option (Int × (List Int))} (hstep_ : ∀ j_, j_ < n_ → ∀ kx_, laws_markIntS_B1 N kx_ (kx1 j_) (i j_) (a1 j_) = kx_ (kx1 (j_ + 1)) (i (j_ + 1)) (a1 (j_ + 1))) (hend_ : ∀ kx_, laws_markIntS_B1 N kx_ (kx1 n_) (i n_) (a1 n_) = res_) (fu_ : Nat) (hm_ : n_ < fu_) : laws_markIntS_L1 N fu_ (kx1 0) (i 0) (a1 0) = res_ := by
  exact loop_run (L := fun fu_ (x_ : Int × Int × (List Int)) => laws_markIntS_L1 N fu_ x_.1 x_.2.1 x_.2.2) (B := fun kx_ x_ => laws_markIntS_B1 N (fun kx1 i a1 => kx_ (kx1, i, a1)) x_.1 x_.2.1 x_.2.2) (fun _ _ => rfl) (fun j_ => (kx1 j_, i j_, a1 j_)) n_ (fun j_ hi_ kx_ => hstep_ j_ hi_ _) (fun kx_ => hend_ _) fu_ hm_
def laws_markIntS (N : Nat) (a : List Int) (kx : Int) : Option (Int × (List Int)) :=
  laws_markIntS_L1 N N kx 0 a
def laws_markCase (N : Nat) (a : (List Int) × (List Int) × (List Int) × (List Int)) (kx : Int) : Option (Int × ((List Int) × (List Int) × (List Int) × (List Int))) :=
  (laws_markIntS N a.1 kx).bind fun r =>
  (laws_markIntS N a.2.1 r.1).bind fun r1 =>
  (laws_markIntS N a.2.2.1 r1.1).bind fun r2 =>
  (laws_markIntS N a.2.2.2 r2.1).bind fun r3 =>
  some (r3.1, (r.2, (r1.2, (r2.2, r3.2))))
def laws_heldIntS_K1 (N : Nat) (kx3 : Int) : Option (Int × Unit) :=
  some (kx3, ())
def laws_heldIntS_B1 (N : Nat) (kx2 : (List Int) → Int → Int → Option (Int × Unit)) (a1 : List Int) (kx1 : Int) (i : Int) : Option (Int × Unit) :=
  bif ilt i (len a1) then
    chk (inB i a1.length) <|
    bif ine (gd a1 i.toNat 0) kx1 then
      some ((-1), ())
    else
      kx2 a1 (iadd .i64 kx1 1) (iadd .i64 i 1)
  else
    laws_heldIntS_K1 N kx1
def laws_heldIntS_L1 (N fu_ : Nat) (a1 : List Int) (kx1 : Int) (i : Int) : Option (Int × Unit) :=
  iterK fu_ (fun kx2 (v_ : ((List Int) × Int × Int × Unit) × (Unit)) => laws_heldIntS_B1 N (fun a1 kx1 i => kx2 ((a1, kx1, i, ()), ())) v_.1.1 v_.1.2.1 v_.1.2.2.1) ((a1, kx1, i, ()), ())
theorem laws_heldIntS_L1_succ (N fu_ : Nat) (a1 : List Int) (kx1 : Int) (i : Int) : laws_heldIntS_L1 N (fu_ + 1) a1 kx1 i = laws_heldIntS_B1 N (fun a1 kx1 i => laws_heldIntS_L1 N fu_ a1 kx1 i) a1 kx1 i := rfl
theorem laws_heldIntS_L1_run (N : Nat) (a1 : Nat → (List Int)) (kx1 : Nat → Int) (i : Nat → Int) (n_ : Nat) {res_ : Option (Int × Unit)} (hstep_ : ∀ j_, j_ < n_ → ∀ kx_, laws_heldIntS_B1 N kx_ (a1 j_) (kx1 j_) (i j_) = kx_ (a1 (j_ + 1)) (kx1 (j_ + 1)) (i (j_ + 1))) (hend_ : ∀ kx_, laws_heldIntS_B1 N kx_ (a1 n_) (kx1 n_) (i n_) = res_) (fu_ : Nat) (hm_ : n_ < fu_) : laws_heldIntS_L1 N fu_ (a1 0) (kx1 0) (i 0) = res_ := by
  exact loop_run (L := fun fu_ (x_ : (List Int) × Int × Int) => laws_heldIntS_L1 N fu_ x_.1 x_.2.1 x_.2.2) (B := fun kx_ x_ => laws_heldIntS_B1 N (fun a1 kx1 i => kx_ (a1, kx1, i)) x_.1 x_.2.1 x_.2.2) (fun _ _ => rfl) (fun j_ => (a1 j_, kx1 j_, i j_)) n_ (fun j_ hi_ kx_ => hstep_ j_ hi_ _) (fun kx_ => hend_ _) fu_ hm_
def laws_heldIntS (N : Nat) (a : List Int) (kx : Int) : Option (Int × Unit) :=
  laws_heldIntS_L1 N N a kx 0
def laws_FnExactSmoothPlan (N : Nat) (app : (List Int) × (List Int) × (List Int) × (List Int)) (v1 : List Int) : Option (Bool × Unit) :=
  bif ilt 1048576 (len v1) then
    some (true, ())
  else
    (laws_szCase N app 1048576).bind fun r =>
    bif ilt r.1 0 then
      some (true, ())
    else
      (laws_toCase N app).bind fun r1 =>
      (laws_toIntS N v1).bind fun r2 =>
      (spec_SmoothPlan N r1.1 r2.1).bind fun r3 =>
      (laws_toCase N app).bind fun r4 =>
      (laws_toIntS N v1).bind fun r5 =>
      (impl_SmoothPlan N r4.1 r5.1).bind fun r6 =>
      (laws_eqIntS N r6.1.1 r3.1.1).bind fun r7 =>
      bif !r7.1 then
        some (false, ())
      else
        bif !(Go.Rx.beq r6.1.2 r3.1.2) then
          some (false, ())
        else
          (laws_toCase N app).bind fun r8 =>
          (laws_eqCase N r4.1 r8.1).bind fun r9 =>
          bif !r9.1 then
            some (false, ())
          else
            (laws_toIntS N v1).bind fun r10 =>
            (laws_eqIntS N r5.1 r10.1).bind fun r11 =>
            bif !r11.1 then
              some (false, ())
            else
              (laws_markCase N r4.1 1).bind fun r12 =>
              (laws_markIntS N r5.1 r12.1).bind fun r13 =>
              bif ilt r13.1 0 then
                some (false, ())
              else
                (laws_eqIntS N r6.1.1 r3.1.1).bind fun r14 =>
                bif !r14.1 then
                  some (false, ())
                else
                  bif !(Go.Rx.beq r6.1.2 r3.1.2) then
                    some (false, ())
                  else
                    (laws_markIntS N r6.1.1 1).bind fun r15 =>
                    (laws_heldIntS N r15.2 1).bind fun r16 =>
                    bif ilt r16.1 0 then
                      some (false, ())
                    else
                      bif ine r16.1 r15.1 then
                        some (false, ())
                      else
                        (laws_toCase N app).bind fun r17 =>
                        (laws_toIntS N v1).bind fun r18 =>
                        (impl_SmoothPlan N r17.1 r18.1).bind fun r19 =>
                        (laws_eqIntS N r19.1.1 r3.1.1).bind fun r20 =>
                        bif !r20.1 then
                          some (false, ())
                        else
                          bif !(Go.Rx.beq r19.1.2 r3.1.2) then
                            some (false, ())
                          else
                            (laws_heldIntS N r15.2 1).bind fun r21 =>
                            bif ilt r21.1 0 then
                              some (false, ())
                            else
                              bif ine r21.1 r15.1 then
                                some (false, ())
                              else
                                some (true, ())
end Px
end Go.Rx
