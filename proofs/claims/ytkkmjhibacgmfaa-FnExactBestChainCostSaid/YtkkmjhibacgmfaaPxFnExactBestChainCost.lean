/- This text defines the plain functions that the Go functions behind FnExactBestChainCost compute; no condition. -/
import Derived.Test.YtkkmjhibacgmfaaRxd
set_option linter.unusedVariables false
set_option linter.unusedSimpArgs false
namespace Go.Rx
namespace Px
def laws_szIntS (N : Nat) (a : List Int) (left : Int) : Option (Int × Unit) :=
  bif ilt (isub .i64 left (len a)) 0 then
    some ((-1), ())
  else
    some (isub .i64 left (len a), ())
def laws_szChain (N : Nat) (a : (List Int) × (List Int) × (List Int)) (left : Int) : Option (Int × Unit) :=
  (laws_szIntS N a.1 left).bind fun r =>
  bif ilt r.1 0 then
    some ((-1), ())
  else
    (laws_szIntS N a.2.1 r.1).bind fun r1 =>
    bif ilt r1.1 0 then
      some ((-1), ())
    else
      (laws_szIntS N a.2.2 r1.1).bind fun r2 =>
      bif ilt r2.1 0 then
        some ((-1), ())
      else
        some (r2.1, ())
def spec_l1In (N : Nat) (x : Int) (a : Int) (b : Int) : Option (Bool × Unit) :=
  bif ile a x then
    some (ile x b, ())
  else
    some (false, ())
def spec_l2Row_K1 (N : Nat) (row2 : List Int) (n2 : Int) : Option (Bool × Unit) :=
  some (ieq (len row2) n2, ())
def spec_l2Row_B1 (N : Nat) (kx : (List Int) → Int → Int → Int → Option (Bool × Unit)) (row1 : List Int) (n1 : Int) (most1 : Int) (i : Int) : Option (Bool × Unit) :=
  bif ilt i (len row1) then
    chk (inB i row1.length) <|
    (spec_l1In N (gd row1 i.toNat 0) 0 most1).bind fun r =>
    bif !r.1 then
      some (false, ())
    else
      kx row1 n1 most1 (iadd .i64 i 1)
  else
    spec_l2Row_K1 N row1 n1
def spec_l2Row_L1 (N fu_ : Nat) (row1 : List Int) (n1 : Int) (most1 : Int) (i : Int) : Option (Bool × Unit) :=
  iterK fu_ (fun kx (v_ : ((List Int) × Int × Int × Int × Unit) × (Unit)) => spec_l2Row_B1 N (fun row1 n1 most1 i => kx ((row1, n1, most1, i, ()), ())) v_.1.1 v_.1.2.1 v_.1.2.2.1 v_.1.2.2.2.1) ((row1, n1, most1, i, ()), ())
theorem spec_l2Row_L1_succ (N fu_ : Nat) (row1 : List Int) (n1 : Int) (most1 : Int) (i : Int) : spec_l2Row_L1 N (fu_ + 1) row1 n1 most1 i = spec_l2Row_B1 N (fun row1 n1 most1 i => spec_l2Row_L1 N fu_ row1 n1 most1 i) row1 n1 most1 i := rfl
theorem spec_l2Row_L1_run (N : Nat) (row1 : Nat → (List Int)) (n1 : Nat → Int) (most1 : Nat → Int) (i : Nat → Int) (n_ : Nat) {res_ : Option (Bool × Unit)} (hstep_ : ∀ j_, j_ < n_ → ∀ kx_, spec_l2Row_B1 N kx_ (row1 j_) (n1 j_) (most1 j_) (i j_) = kx_ (row1 (j_ + 1)) (n1 (j_ + 1)) (most1 (j_ + 1)) (i (j_ + 1))) (hend_ : ∀ kx_, spec_l2Row_B1 N kx_ (row1 n_) (n1 n_) (most1 n_) (i n_) = res_) (fu_ : Nat) (hm_ : n_ < fu_) : spec_l2Row_L1 N fu_ (row1 0) (n1 0) (most1 0) (i 0) = res_ := by
  exact loop_run (L := fun fu_ (x_ : (List Int) × Int × Int × Int) => spec_l2Row_L1 N fu_ x_.1 x_.2.1 x_.2.2.1 x_.2.2.2) (B := fun kx_ x_ => spec_l2Row_B1 N (fun row1 n1 most1 i => kx_ (row1, n1, most1, i)) x_.1 x_.2.1 x_.2.2.1 x_.2.2.2) (fun _ _ => rfl) (fun j_ => (row1 j_, n1 j_, most1 j_, i j_)) n_ (fun j_ hi_ kx_ => hstep_ j_ hi_ _) (fun kx_ => hend_ _) fu_ hm_
def spec_l2Row (N : Nat) (row : List Int) (n : Int) (most : Int) : Option (Bool × Unit) :=
  spec_l2Row_L1 N N row n most 0
def spec_l7Good_K1 (N : Nat) : Option (Bool × Unit) :=
  some (true, ())
def spec_l7Good_B1 (N : Nat) (kx : Int → ((List Int) × (List Int) × (List Int)) → Option (Bool × Unit)) (s : Int) (c1 : (List Int) × (List Int) × (List Int)) : Option (Bool × Unit) :=
  bif ilt s (len c1.2.2) then
    chk (inB s c1.2.2.length) <|
    chk (inB (isub .i64 s 1) c1.2.2.length) <|
    bif ilt (gd c1.2.2 s.toNat 0) (gd c1.2.2 (isub .i64 s 1).toNat 0) then
      some (false, ())
    else
      kx (iadd .i64 s 1) c1
  else
    spec_l7Good_K1 N
def spec_l7Good_L1 (N fu_ : Nat) (s : Int) (c1 : (List Int) × (List Int) × (List Int)) : Option (Bool × Unit) :=
  iterK fu_ (fun kx (v_ : (Int × Unit) × (((List Int) × (List Int) × (List Int)) × Unit)) => spec_l7Good_B1 N (fun s c1 => kx ((s, ()), (c1, ()))) v_.1.1 v_.2.1) ((s, ()), (c1, ()))
theorem spec_l7Good_L1_succ (N fu_ : Nat) (s : Int) (c1 : (List Int) × (List Int) × (List Int)) : spec_l7Good_L1 N (fu_ + 1) s c1 = spec_l7Good_B1 N (fun s c1 => spec_l7Good_L1 N fu_ s c1) s c1 := rfl
theorem spec_l7Good_L1_run (N : Nat) (s : Nat → Int) (c1 : Nat → ((List Int) × (List Int) × (List Int))) (n_ : Nat) {res_ : Option (Bool × Unit)} (hstep_ : ∀ j_, j_ < n_ → ∀ kx_, spec_l7Good_B1 N kx_ (s j_) (c1 j_) = kx_ (s (j_ + 1)) (c1 (j_ + 1))) (hend_ : ∀ kx_, spec_l7Good_B1 N kx_ (s n_) (c1 n_) = res_) (fu_ : Nat) (hm_ : n_ < fu_) : spec_l7Good_L1 N fu_ (s 0) (c1 0) = res_ := by
  exact loop_run (L := fun fu_ (x_ : Int × ((List Int) × (List Int) × (List Int))) => spec_l7Good_L1 N fu_ x_.1 x_.2) (B := fun kx_ x_ => spec_l7Good_B1 N (fun s c1 => kx_ (s, c1)) x_.1 x_.2) (fun _ _ => rfl) (fun j_ => (s j_, c1 j_)) n_ (fun j_ hi_ kx_ => hstep_ j_ hi_ _) (fun kx_ => hend_ _) fu_ hm_
def spec_l7Good (N : Nat) (c : (List Int) × (List Int) × (List Int)) : Option (Bool × Unit) :=
  bif ilt 6 (len c.1) then
    some (false, ())
  else
    (spec_l2Row N c.1 (len c.1) 20).bind fun r =>
    bif !r.1 then
      some (false, ())
    else
      (spec_l1In N (len c.2.1) 1 3).bind fun r1 =>
      bif !r1.1 then
        some (false, ())
      else
        (spec_l2Row N c.2.1 (len c.2.1) 99).bind fun r2 =>
        bif !r2.1 then
          some (false, ())
        else
          (spec_l2Row N c.2.2 (len c.2.1) 9).bind fun r3 =>
          bif !r3.1 then
            some (false, ())
          else
            spec_l7Good_L1 N N 1 c
def spec_l2Sum_K1 (N : Nat) (sum1 : Int) : Option (Int × Unit) :=
  some (sum1, ())
def spec_l2Sum_B1 (N : Nat) (kx : (List Int) → Int → Int → Option (Int × Unit)) (list1 : List Int) (sum : Int) (i : Int) : Option (Int × Unit) :=
  bif ilt i (len list1) then
    chk (inB i list1.length) <|
    kx list1 (iadd .i64 sum (gd list1 i.toNat 0)) (iadd .i64 i 1)
  else
    spec_l2Sum_K1 N sum
def spec_l2Sum_L1 (N fu_ : Nat) (list1 : List Int) (sum : Int) (i : Int) : Option (Int × Unit) :=
  iterK fu_ (fun kx (v_ : ((List Int) × Int × Int × Unit) × (Unit)) => spec_l2Sum_B1 N (fun list1 sum i => kx ((list1, sum, i, ()), ())) v_.1.1 v_.1.2.1 v_.1.2.2.1) ((list1, sum, i, ()), ())
theorem spec_l2Sum_L1_succ (N fu_ : Nat) (list1 : List Int) (sum : Int) (i : Int) : spec_l2Sum_L1 N (fu_ + 1) list1 sum i = spec_l2Sum_B1 N (fun list1 sum i => spec_l2Sum_L1 N fu_ list1 sum i) list1 sum i := rfl
theorem spec_l2Sum_L1_run (N : Nat) (list1 : Nat → (List Int)) (sum : Nat → Int) (i : Nat → Int) (n_ : Nat) {res_ : Option (Int × Unit)} (hstep_ : ∀ j_, j_ < n_ → ∀ kx_, spec_l2Sum_B1 N kx_ (list1 j_) (sum j_) (i j_) = kx_ (list1 (j_ + 1)) (sum (j_ + 1)) (i (j_ + 1))) (hend_ : ∀ kx_, spec_l2Sum_B1 N kx_ (list1 n_) (sum n_) (i n_) = res_) (fu_ : Nat) (hm_ : n_ < fu_) : spec_l2Sum_L1 N fu_ (list1 0) (sum 0) (i 0) = res_ := by
  exact loop_run (L := fun fu_ (x_ : (List Int) × Int × Int) => spec_l2Sum_L1 N fu_ x_.1 x_.2.1 x_.2.2) (B := fun kx_ x_ => spec_l2Sum_B1 N (fun list1 sum i => kx_ (list1, sum, i)) x_.1 x_.2.1 x_.2.2) (fun _ _ => rfl) (fun j_ => (list1 j_, sum j_, i j_)) n_ (fun j_ hi_ kx_ => hstep_ j_ hi_ _) (fun kx_ => hend_ _) fu_ hm_
def spec_l2Sum (N : Nat) (list : List Int) : Option (Int × Unit) :=
  spec_l2Sum_L1 N N list 0 0
def spec_l7Give_K1 (N : Nat) (kr_ : ((List Int) × (List Int) × (List Int)) → Int → Int → Int → Int → Option (Int × Unit)) (kx : Int → Int → Int → Int → Int → Int → ((List Int) × (List Int) × (List Int)) → Option (Int × Unit)) (stage3 : Int) (t3 : Int) (a3 : Int) (b3 : Int) (best2 : Int) (split2 : Int) (cost1 : Int) (c3 : (List Int) × (List Int) × (List Int)) : Option (Int × Unit) :=
  bif ilt best2 0 then
    kx stage3 t3 a3 b3 cost1 (iadd .i64 split2 1) c3
  else
    bif ilt cost1 best2 then
      kx stage3 t3 a3 b3 cost1 (iadd .i64 split2 1) c3
    else
      kx stage3 t3 a3 b3 best2 (iadd .i64 split2 1) c3
def spec_l7Give_K2 (N : Nat) (kr_ : ((List Int) × (List Int) × (List Int)) → Int → Int → Int → Int → Option (Int × Unit)) (kx : Int → Int → Int → Int → Int → Int → ((List Int) × (List Int) × (List Int)) → Option (Int × Unit)) (stage2 : Int) (t2 : Int) (a2 : Int) (b2 : Int) (best1 : Int) (split1 : Int) (cost : Int) (c2 : (List Int) × (List Int) × (List Int)) : Option (Int × Unit) :=
  chk (cutB split1 b2 c2.1.length) <|
  (spec_l2Sum N (cut c2.1 split1 b2)).bind fun r3 =>
  bif ilt 0 r3.1 then
    bif ilt split1 (iadd .i64 t2 1) then
      kx stage2 t2 a2 b2 best1 (iadd .i64 split1 1) c2
    else
      chk (inB stage2 c2.2.2.length) <|
      (kr_ c2 stage2 (iadd .i64 t2 1) split1 b2).bind fun r4 =>
      spec_l7Give_K1 N kr_ kx stage2 t2 a2 b2 best1 split1 (iadd .i64 (iadd .i64 cost (imul .i64 (gd c2.2.2 stage2.toNat 0) r3.1)) r4.1) c2
  else
    spec_l7Give_K1 N kr_ kx stage2 t2 a2 b2 best1 split1 cost c2
def spec_l7Give_K3 (N : Nat) (kr_ : ((List Int) × (List Int) × (List Int)) → Int → Int → Int → Int → Option (Int × Unit)) (best3 : Int) : Option (Int × Unit) :=
  some (best3, ())
def spec_l7Give_B1 (N : Nat) (kr_ : ((List Int) × (List Int) × (List Int)) → Int → Int → Int → Int → Option (Int × Unit)) (kx : Int → Int → Int → Int → Int → Int → ((List Int) × (List Int) × (List Int)) → Option (Int × Unit)) (stage1 : Int) (t1 : Int) (a1 : Int) (b1 : Int) (best : Int) (split : Int) (c1 : (List Int) × (List Int) × (List Int)) : Option (Int × Unit) :=
  bif ile split b1 then
    bif ilt (iadd .i64 stage1 1) (len c1.2.1) then
      chk (cutB a1 split c1.1.length) <|
      (spec_l2Sum N (cut c1.1 a1 split)).bind fun r1 =>
      bif ilt 0 r1.1 then
        chk (inB (iadd .i64 stage1 1) c1.2.1.length) <|
        (kr_ c1 (iadd .i64 stage1 1) t1 a1 split).bind fun r2 =>
        spec_l7Give_K2 N kr_ kx stage1 t1 a1 b1 best split (iadd .i64 (gd c1.2.1 (iadd .i64 stage1 1).toNat 0) r2.1) c1
      else
        spec_l7Give_K2 N kr_ kx stage1 t1 a1 b1 best split 0 c1
    else
      bif ilt (iadd .i64 a1 1) split then
        kx stage1 t1 a1 b1 best (iadd .i64 split 1) c1
      else
        bif ilt a1 split then
          bif ilt t1 a1 then
            kx stage1 t1 a1 b1 best (iadd .i64 split 1) c1
          else
            bif ieq split a1 then
              bif ieq a1 t1 then
                kx stage1 t1 a1 b1 best (iadd .i64 split 1) c1
              else
                spec_l7Give_K2 N kr_ kx stage1 t1 a1 b1 best split 0 c1
            else
              spec_l7Give_K2 N kr_ kx stage1 t1 a1 b1 best split 0 c1
        else
          bif ieq split a1 then
            bif ieq a1 t1 then
              kx stage1 t1 a1 b1 best (iadd .i64 split 1) c1
            else
              spec_l7Give_K2 N kr_ kx stage1 t1 a1 b1 best split 0 c1
          else
            spec_l7Give_K2 N kr_ kx stage1 t1 a1 b1 best split 0 c1
  else
    spec_l7Give_K3 N kr_ best
def spec_l7Give_L1 (N : Nat) (kr_ : ((List Int) × (List Int) × (List Int)) → Int → Int → Int → Int → Option (Int × Unit)) (fu_ : Nat) (stage1 : Int) (t1 : Int) (a1 : Int) (b1 : Int) (best : Int) (split : Int) (c1 : (List Int) × (List Int) × (List Int)) : Option (Int × Unit) :=
  iterK fu_ (fun kx (v_ : (Int × Int × Int × Int × Int × Int × Unit) × (((List Int) × (List Int) × (List Int)) × Unit)) => spec_l7Give_B1 N kr_ (fun stage1 t1 a1 b1 best split c1 => kx ((stage1, t1, a1, b1, best, split, ()), (c1, ()))) v_.1.1 v_.1.2.1 v_.1.2.2.1 v_.1.2.2.2.1 v_.1.2.2.2.2.1 v_.1.2.2.2.2.2.1 v_.2.1) ((stage1, t1, a1, b1, best, split, ()), (c1, ()))
theorem spec_l7Give_L1_succ (N : Nat) (kr_ : ((List Int) × (List Int) × (List Int)) → Int → Int → Int → Int → Option (Int × Unit)) (fu_ : Nat) (stage1 : Int) (t1 : Int) (a1 : Int) (b1 : Int) (best : Int) (split : Int) (c1 : (List Int) × (List Int) × (List Int)) : spec_l7Give_L1 N kr_ (fu_ + 1) stage1 t1 a1 b1 best split c1 = spec_l7Give_B1 N kr_ (fun stage1 t1 a1 b1 best split c1 => spec_l7Give_L1 N kr_ fu_ stage1 t1 a1 b1 best split c1) stage1 t1 a1 b1 best split c1 := rfl
theorem spec_l7Give_L1_run (N : Nat) (kr_ : ((List Int) × (List Int) × (List Int)) → Int → Int → Int → Int → Option (Int × Unit)) (stage1 : Nat → Int) (t1 : Nat → Int) (a1 : Nat → Int) (b1 : Nat → Int) (best : Nat → Int) (split : Nat → Int) (c1 : Nat → ((List Int) × (List Int) × (List Int))) (n_ : Nat) {res_ : Option (Int × Unit)} (hstep_ : ∀ j_, j_ < n_ → ∀ kx_, spec_l7Give_B1 N kr_ kx_ (stage1 j_) (t1 j_) (a1 j_) (b1 j_) (best j_) (split j_) (c1 j_) = kx_ (stage1 (j_ + 1)) (t1 (j_ + 1)) (a1 (j_ + 1)) (b1 (j_ + 1)) (best (j_ + 1)) (split (j_ + 1)) (c1 (j_ + 1))) (hend_ : ∀ kx_, spec_l7Give_B1 N kr_ kx_ (stage1 n_) (t1 n_) (a1 n_) (b1 n_) (best n_) (split n_) (c1 n_) = res_) (fu_ : Nat) (hm_ : n_ < fu_) : spec_l7Give_L1 N kr_ fu_ (stage1 0) (t1 0) (a1 0) (b1 0) (best 0) (split 0) (c1 0) = res_ := by
  exact loop_run (L := fun fu_ (x_ : Int × Int × Int × Int × Int × Int × ((List Int) × (List Int) × (List Int))) => spec_l7Give_L1 N kr_ fu_ x_.1 x_.2.1 x_.2.2.1 x_.2.2.2.1 x_.2.2.2.2.1 x_.2.2.2.2.2.1 x_.2.2.2.2.2.2) (B := fun kx_ x_ => spec_l7Give_B1 N kr_ (fun stage1 t1 a1 b1 best split c1 => kx_ (stage1, t1, a1, b1, best, split, c1)) x_.1 x_.2.1 x_.2.2.1 x_.2.2.2.1 x_.2.2.2.2.1 x_.2.2.2.2.2.1 x_.2.2.2.2.2.2) (fun _ _ => rfl) (fun j_ => (stage1 j_, t1 j_, a1 j_, b1 j_, best j_, split j_, c1 j_)) n_ (fun j_ hi_ kx_ => hstep_ j_ hi_ _) (fun kx_ => hend_ _) fu_ hm_
def spec_l7Give_F (N : Nat) (kr_ : ((List Int) × (List Int) × (List Int)) → Int → Int → Int → Int → Option (Int × Unit)) (c : (List Int) × (List Int) × (List Int)) (stage : Int) (t : Int) (a : Int) (b : Int) : Option (Int × Unit) :=
  chk (cutB a b c.1.length) <|
  (spec_l2Sum N (cut c.1 a b)).bind fun r =>
  bif ieq r.1 0 then
    some (0, ())
  else
    spec_l7Give_L1 N kr_ N stage t a b (-1) a c
def spec_l7Give_R (N : Nat) : Nat → ((List Int) × (List Int) × (List Int)) → Int → Int → Int → Int → Option (Int × Unit)
  | 0 => fun _ _ _ _ _ => none
  | k_ + 1 => spec_l7Give_F N (spec_l7Give_R N k_)
theorem spec_l7Give_R_succ (N k_ : Nat) (c : (List Int) × (List Int) × (List Int)) (stage : Int) (t : Int) (a : Int) (b : Int) : spec_l7Give_R N (k_ + 1) c stage t a b = spec_l7Give_F N (spec_l7Give_R N k_) c stage t a b := rfl
def spec_l7Give (N : Nat) (c : (List Int) × (List Int) × (List Int)) (stage : Int) (t : Int) (a : Int) (b : Int) : Option (Int × Unit) := spec_l7Give_R N N c stage t a b
def spec_l7Best_K1 (N : Nat) (kx : Int → Int → ((List Int) × (List Int) × (List Int)) → (List Int) → Option (Int × Unit)) (n2 : Int) (a2 : Int) (c3 : (List Int) × (List Int) × (List Int)) (out2 : List Int) : Option (Int × Unit) :=
  kx n2 (isub .i64 a2 1) c3 out2
def spec_l7Best_B1 (N : Nat) (kx : Int → Int → ((List Int) × (List Int) × (List Int)) → (List Int) → Option (Int × Unit)) (kx1 : Int → Int → Int → ((List Int) × (List Int) × (List Int)) → (List Int) → Option (Int × Unit)) (n1 : Int) (a1 : Int) (b : Int) (c2 : (List Int) × (List Int) × (List Int)) (out1 : List Int) : Option (Int × Unit) :=
  bif ile b n1 then
    chk (inB 0 c2.2.1.length) <|
    (spec_l7Give N c2 0 a1 a1 b).bind fun r =>
    chk (inB b out1.length) <|
    chk (inB a1 out1.length) <|
    bif ilt (gd out1 a1.toNat 0) 0 then
      chk (inB a1 out1.length) <|
      kx1 n1 a1 (iadd .i64 b 1) c2 (List.set out1 a1.toNat (iadd .i64 (iadd .i64 (gd c2.2.1 0 0) r.1) (gd out1 b.toNat 0)))
    else
      chk (inB a1 out1.length) <|
      bif ilt (iadd .i64 (iadd .i64 (gd c2.2.1 0 0) r.1) (gd out1 b.toNat 0)) (gd out1 a1.toNat 0) then
        chk (inB a1 out1.length) <|
        kx1 n1 a1 (iadd .i64 b 1) c2 (List.set out1 a1.toNat (iadd .i64 (iadd .i64 (gd c2.2.1 0 0) r.1) (gd out1 b.toNat 0)))
      else
        kx1 n1 a1 (iadd .i64 b 1) c2 out1
  else
    spec_l7Best_K1 N kx n1 a1 c2 out1
def spec_l7Best_L1 (N fu_ : Nat) (kx : Int → Int → ((List Int) × (List Int) × (List Int)) → (List Int) → Option (Int × Unit)) (n1 : Int) (a1 : Int) (b : Int) (c2 : (List Int) × (List Int) × (List Int)) (out1 : List Int) : Option (Int × Unit) :=
  iterK fu_ (fun kx1 (v_ : (Int × Int × Int × Unit) × (((List Int) × (List Int) × (List Int)) × (List Int) × Unit)) => spec_l7Best_B1 N kx (fun n1 a1 b c2 out1 => kx1 ((n1, a1, b, ()), (c2, out1, ()))) v_.1.1 v_.1.2.1 v_.1.2.2.1 v_.2.1 v_.2.2.1) ((n1, a1, b, ()), (c2, out1, ()))
theorem spec_l7Best_L1_succ (N fu_ : Nat) (kx : Int → Int → ((List Int) × (List Int) × (List Int)) → (List Int) → Option (Int × Unit)) (n1 : Int) (a1 : Int) (b : Int) (c2 : (List Int) × (List Int) × (List Int)) (out1 : List Int) : spec_l7Best_L1 N (fu_ + 1) kx n1 a1 b c2 out1 = spec_l7Best_B1 N kx (fun n1 a1 b c2 out1 => spec_l7Best_L1 N fu_ kx n1 a1 b c2 out1) n1 a1 b c2 out1 := rfl
theorem spec_l7Best_L1_run (N : Nat) (kx : Int → Int → ((List Int) × (List Int) × (List Int)) → (List Int) → Option (Int × Unit)) (n1 : Nat → Int) (a1 : Nat → Int) (b : Nat → Int) (c2 : Nat → ((List Int) × (List Int) × (List Int))) (out1 : Nat → (List Int)) (n_ : Nat) {res_ : Option (Int × Unit)} (hstep_ : ∀ j_, j_ < n_ → ∀ kx_, spec_l7Best_B1 N kx kx_ (n1 j_) (a1 j_) (b j_) (c2 j_) (out1 j_) = kx_ (n1 (j_ + 1)) (a1 (j_ + 1)) (b (j_ + 1)) (c2 (j_ + 1)) (out1 (j_ + 1))) (hend_ : ∀ kx_, spec_l7Best_B1 N kx kx_ (n1 n_) (a1 n_) (b n_) (c2 n_) (out1 n_) = res_) (fu_ : Nat) (hm_ : n_ < fu_) : spec_l7Best_L1 N fu_ kx (n1 0) (a1 0) (b 0) (c2 0) (out1 0) = res_ := by
  exact loop_run (L := fun fu_ (x_ : Int × Int × Int × ((List Int) × (List Int) × (List Int)) × (List Int)) => spec_l7Best_L1 N fu_ kx x_.1 x_.2.1 x_.2.2.1 x_.2.2.2.1 x_.2.2.2.2) (B := fun kx_ x_ => spec_l7Best_B1 N kx (fun n1 a1 b c2 out1 => kx_ (n1, a1, b, c2, out1)) x_.1 x_.2.1 x_.2.2.1 x_.2.2.2.1 x_.2.2.2.2) (fun _ _ => rfl) (fun j_ => (n1 j_, a1 j_, b j_, c2 j_, out1 j_)) n_ (fun j_ hi_ kx_ => hstep_ j_ hi_ _) (fun kx_ => hend_ _) fu_ hm_
def spec_l7Best_K2 (N : Nat) (out3 : List Int) : Option (Int × Unit) :=
  chk (inB 0 out3.length) <|
  some (gd out3 0 0, ())
def spec_l7Best_B2 (N : Nat) (kx : Int → Int → ((List Int) × (List Int) × (List Int)) → (List Int) → Option (Int × Unit)) (n : Int) (a : Int) (c1 : (List Int) × (List Int) × (List Int)) (out : List Int) : Option (Int × Unit) :=
  bif ile 0 a then
    chk (inB a c1.1.length) <|
    bif ieq (gd c1.1 a.toNat 0) 0 then
      chk (inB (iadd .i64 a 1) out.length) <|
      chk (inB a out.length) <|
      kx n (isub .i64 a 1) c1 (List.set out a.toNat (gd out (iadd .i64 a 1).toNat 0))
    else
      chk (inB a out.length) <|
      spec_l7Best_L1 N N kx n a (iadd .i64 a 1) c1 (List.set out a.toNat (-1))
  else
    spec_l7Best_K2 N out
def spec_l7Best_L2 (N fu_ : Nat) (n : Int) (a : Int) (c1 : (List Int) × (List Int) × (List Int)) (out : List Int) : Option (Int × Unit) :=
  iterK fu_ (fun kx (v_ : (Int × Int × Unit) × (((List Int) × (List Int) × (List Int)) × (List Int) × Unit)) => spec_l7Best_B2 N (fun n a c1 out => kx ((n, a, ()), (c1, out, ()))) v_.1.1 v_.1.2.1 v_.2.1 v_.2.2.1) ((n, a, ()), (c1, out, ()))
theorem spec_l7Best_L2_succ (N fu_ : Nat) (n : Int) (a : Int) (c1 : (List Int) × (List Int) × (List Int)) (out : List Int) : spec_l7Best_L2 N (fu_ + 1) n a c1 out = spec_l7Best_B2 N (fun n a c1 out => spec_l7Best_L2 N fu_ n a c1 out) n a c1 out := rfl
theorem spec_l7Best_L2_run (N : Nat) (n : Nat → Int) (a : Nat → Int) (c1 : Nat → ((List Int) × (List Int) × (List Int))) (out : Nat → (List Int)) (n_ : Nat) {res_ : Option (Int × Unit)} (hstep_ : ∀ j_, j_ < n_ → ∀ kx_, spec_l7Best_B2 N kx_ (n j_) (a j_) (c1 j_) (out j_) = kx_ (n (j_ + 1)) (a (j_ + 1)) (c1 (j_ + 1)) (out (j_ + 1))) (hend_ : ∀ kx_, spec_l7Best_B2 N kx_ (n n_) (a n_) (c1 n_) (out n_) = res_) (fu_ : Nat) (hm_ : n_ < fu_) : spec_l7Best_L2 N fu_ (n 0) (a 0) (c1 0) (out 0) = res_ := by
  exact loop_run (L := fun fu_ (x_ : Int × Int × ((List Int) × (List Int) × (List Int)) × (List Int)) => spec_l7Best_L2 N fu_ x_.1 x_.2.1 x_.2.2.1 x_.2.2.2) (B := fun kx_ x_ => spec_l7Best_B2 N (fun n a c1 out => kx_ (n, a, c1, out)) x_.1 x_.2.1 x_.2.2.1 x_.2.2.2) (fun _ _ => rfl) (fun j_ => (n j_, a j_, c1 j_, out j_)) n_ (fun j_ hi_ kx_ => hstep_ j_ hi_ _) (fun kx_ => hend_ _) fu_ hm_
def spec_l7Best (N : Nat) (c : (List Int) × (List Int) × (List Int)) : Option (Int × Unit) :=
  chk (mkB (iadd .i64 (len c.1) 1) 8) <|
  spec_l7Best_L2 N N (len c.1) (isub .i64 (len c.1) 1) c (List.replicate (iadd .i64 (len c.1) 1).toNat 0)
def spec_BestChainCost (N : Nat) (c : (List Int) × (List Int) × (List Int)) : Option ((Int × Bool) × Unit) :=
  (spec_l7Good N c).bind fun r =>
  bif !r.1 then
    some ((0, false), ())
  else
    (spec_l7Best N c).bind fun r1 =>
    some ((r1.1, true), ())
def laws_toIntS_K1 (N : Nat) (out1 : List Int) : Option ((List Int) × Unit) :=
  some (out1, ())
def laws_toIntS_B1 (N : Nat) (kx : (List Int) → Int → (List Int) → Option ((List Int) × Unit)) (a1 : List Int) (i : Int) (out : List Int) : Option ((List Int) × Unit) :=
  bif ilt i (len a1) then
    chk (inB i a1.length) <|
    chk (inB i out.length) <|
    kx a1 (iadd .i64 i 1) (List.set out i.toNat (gd a1 i.toNat 0))
  else
    laws_toIntS_K1 N out
def laws_toIntS_L1 (N fu_ : Nat) (a1 : List Int) (i : Int) (out : List Int) : Option ((List Int) × Unit) :=
  iterK fu_ (fun kx (v_ : ((List Int) × Int × Unit) × ((List Int) × Unit)) => laws_toIntS_B1 N (fun a1 i out => kx ((a1, i, ()), (out, ()))) v_.1.1 v_.1.2.1 v_.2.1) ((a1, i, ()), (out, ()))
theorem laws_toIntS_L1_succ (N fu_ : Nat) (a1 : List Int) (i : Int) (out : List Int) : laws_toIntS_L1 N (fu_ + 1) a1 i out = laws_toIntS_B1 N (fun a1 i out => laws_toIntS_L1 N fu_ a1 i out) a1 i out := rfl
theorem laws_toIntS_L1_run (N : Nat) (a1 : Nat → (List Int)) (i : Nat → Int) (out : Nat → (List Int)) (n_ : Nat) {res_ : Option ((List Int) × Unit)} (hstep_ : ∀ j_, j_ < n_ → ∀ kx_, laws_toIntS_B1 N kx_ (a1 j_) (i j_) (out j_) = kx_ (a1 (j_ + 1)) (i (j_ + 1)) (out (j_ + 1))) (hend_ : ∀ kx_, laws_toIntS_B1 N kx_ (a1 n_) (i n_) (out n_) = res_) (fu_ : Nat) (hm_ : n_ < fu_) : laws_toIntS_L1 N fu_ (a1 0) (i 0) (out 0) = res_ := by
  exact loop_run (L := fun fu_ (x_ : (List Int) × Int × (List Int)) => laws_toIntS_L1 N fu_ x_.1 x_.2.1 x_.2.2) (B := fun kx_ x_ => laws_toIntS_B1 N (fun a1 i out => kx_ (a1, i, out)) x_.1 x_.2.1 x_.2.2) (fun _ _ => rfl) (fun j_ => (a1 j_, i j_, out j_)) n_ (fun j_ hi_ kx_ => hstep_ j_ hi_ _) (fun kx_ => hend_ _) fu_ hm_
def laws_toIntS (N : Nat) (a : List Int) : Option ((List Int) × Unit) :=
  chk (mkB (len a) 8) <|
  laws_toIntS_L1 N N a 0 (List.replicate (len a).toNat 0)
def laws_toChain (N : Nat) (a : (List Int) × (List Int) × (List Int)) : Option (((List Int) × (List Int) × (List Int)) × Unit) :=
  (laws_toIntS N a.1).bind fun r =>
  (laws_toIntS N a.2.1).bind fun r1 =>
  (laws_toIntS N a.2.2).bind fun r2 =>
  some ((r.1, (r1.1, r2.1)), ())
def impl_within (N : Nat) (n : Int) (low : Int) (high : Int) : Option (Bool × Unit) :=
  bif ile low n then
    some (ile n high, ())
  else
    some (false, ())
def impl_allWithin_K1 (N : Nat) : Option (Bool × Unit) :=
  some (true, ())
def impl_allWithin_B1 (N : Nat) (kx : Int → Int → (List Int) → Int → Int → Option (Bool × Unit)) (low1 : Int) (high1 : Int) (v9 : List Int) (v10 : Int) (v11 : Int) : Option (Bool × Unit) :=
  bif ilt v11 v10 then
    chk (inB v11 v9.length) <|
    (impl_within N (gd v9 v11.toNat 0) low1 high1).bind fun r =>
    bif !r.1 then
      some (false, ())
    else
      kx low1 high1 v9 v10 (iadd .i64 v11 1)
  else
    impl_allWithin_K1 N
def impl_allWithin_L1 (N fu_ : Nat) (low1 : Int) (high1 : Int) (v9 : List Int) (v10 : Int) (v11 : Int) : Option (Bool × Unit) :=
  iterK fu_ (fun kx (v_ : (Int × Int × (List Int) × Int × Int × Unit) × (Unit)) => impl_allWithin_B1 N (fun low1 high1 v9 v10 v11 => kx ((low1, high1, v9, v10, v11, ()), ())) v_.1.1 v_.1.2.1 v_.1.2.2.1 v_.1.2.2.2.1 v_.1.2.2.2.2.1) ((low1, high1, v9, v10, v11, ()), ())
theorem impl_allWithin_L1_succ (N fu_ : Nat) (low1 : Int) (high1 : Int) (v9 : List Int) (v10 : Int) (v11 : Int) : impl_allWithin_L1 N (fu_ + 1) low1 high1 v9 v10 v11 = impl_allWithin_B1 N (fun low1 high1 v9 v10 v11 => impl_allWithin_L1 N fu_ low1 high1 v9 v10 v11) low1 high1 v9 v10 v11 := rfl
theorem impl_allWithin_L1_run (N : Nat) (low1 : Nat → Int) (high1 : Nat → Int) (v9 : Nat → (List Int)) (v10 : Nat → Int) (v11 : Nat → Int) (n_ : Nat) {res_ : Option (Bool × Unit)} (hstep_ : ∀ j_, j_ < n_ → ∀ kx_, impl_allWithin_B1 N kx_ (low1 j_) (high1 j_) (v9 j_) (v10 j_) (v11 j_) = kx_ (low1 (j_ + 1)) (high1 (j_ + 1)) (v9 (j_ + 1)) (v10 (j_ + 1)) (v11 (j_ + 1))) (hend_ : ∀ kx_, impl_allWithin_B1 N kx_ (low1 n_) (high1 n_) (v9 n_) (v10 n_) (v11 n_) = res_) (fu_ : Nat) (hm_ : n_ < fu_) : impl_allWithin_L1 N fu_ (low1 0) (high1 0) (v9 0) (v10 0) (v11 0) = res_ := by
  exact loop_run (L := fun fu_ (x_ : Int × Int × (List Int) × Int × Int) => impl_allWithin_L1 N fu_ x_.1 x_.2.1 x_.2.2.1 x_.2.2.2.1 x_.2.2.2.2) (B := fun kx_ x_ => impl_allWithin_B1 N (fun low1 high1 v9 v10 v11 => kx_ (low1, high1, v9, v10, v11)) x_.1 x_.2.1 x_.2.2.1 x_.2.2.2.1 x_.2.2.2.2) (fun _ _ => rfl) (fun j_ => (low1 j_, high1 j_, v9 j_, v10 j_, v11 j_)) n_ (fun j_ hi_ kx_ => hstep_ j_ hi_ _) (fun kx_ => hend_ _) fu_ hm_
def impl_allWithin (N : Nat) (list : List Int) (low : Int) (high : Int) : Option (Bool × Unit) :=
  impl_allWithin_L1 N N low high list (len list) 0
def cmp_isNaN_int (N : Nat) (x : Int) : Option (Bool × Unit) :=
  some (ine x x, ())
def cmp_Less_int (N : Nat) (x : Int) (y : Int) : Option (Bool × Unit) :=
  (cmp_isNaN_int N x).bind fun r =>
  bif r.1 then
    (cmp_isNaN_int N y).bind fun r1 =>
    bif !r1.1 then
      some (true, ())
    else
      some (ilt x y, ())
  else
    some (ilt x y, ())
def slices_IsSorted_int_int_K1 (N : Nat) : Option (Bool × Unit) :=
  some (true, ())
def slices_IsSorted_int_int_B1 (N : Nat) (kx : (List Int) → Int → Option (Bool × Unit)) (x1 : List Int) (i : Int) : Option (Bool × Unit) :=
  bif ilt 0 i then
    chk (inB i x1.length) <|
    chk (inB (isub .i64 i 1) x1.length) <|
    (cmp_Less_int N (gd x1 i.toNat 0) (gd x1 (isub .i64 i 1).toNat 0)).bind fun r =>
    bif r.1 then
      some (false, ())
    else
      kx x1 (isub .i64 i 1)
  else
    slices_IsSorted_int_int_K1 N
def slices_IsSorted_int_int_L1 (N fu_ : Nat) (x1 : List Int) (i : Int) : Option (Bool × Unit) :=
  iterK fu_ (fun kx (v_ : ((List Int) × Int × Unit) × (Unit)) => slices_IsSorted_int_int_B1 N (fun x1 i => kx ((x1, i, ()), ())) v_.1.1 v_.1.2.1) ((x1, i, ()), ())
theorem slices_IsSorted_int_int_L1_succ (N fu_ : Nat) (x1 : List Int) (i : Int) : slices_IsSorted_int_int_L1 N (fu_ + 1) x1 i = slices_IsSorted_int_int_B1 N (fun x1 i => slices_IsSorted_int_int_L1 N fu_ x1 i) x1 i := rfl
theorem slices_IsSorted_int_int_L1_run (N : Nat) (x1 : Nat → (List Int)) (i : Nat → Int) (n_ : Nat) {res_ : Option (Bool × Unit)} (hstep_ : ∀ j_, j_ < n_ → ∀ kx_, slices_IsSorted_int_int_B1 N kx_ (x1 j_) (i j_) = kx_ (x1 (j_ + 1)) (i (j_ + 1))) (hend_ : ∀ kx_, slices_IsSorted_int_int_B1 N kx_ (x1 n_) (i n_) = res_) (fu_ : Nat) (hm_ : n_ < fu_) : slices_IsSorted_int_int_L1 N fu_ (x1 0) (i 0) = res_ := by
  exact loop_run (L := fun fu_ (x_ : (List Int) × Int) => slices_IsSorted_int_int_L1 N fu_ x_.1 x_.2) (B := fun kx_ x_ => slices_IsSorted_int_int_B1 N (fun x1 i => kx_ (x1, i)) x_.1 x_.2) (fun _ _ => rfl) (fun j_ => (x1 j_, i j_)) n_ (fun j_ hi_ kx_ => hstep_ j_ hi_ _) (fun kx_ => hend_ _) fu_ hm_
def slices_IsSorted_int_int (N : Nat) (x : List Int) : Option (Bool × Unit) :=
  slices_IsSorted_int_int_L1 N N x (isub .i64 (len x) 1)
def impl_IsChain (N : Nat) (c : (List Int) × (List Int) × (List Int)) : Option (Bool × Unit) :=
  bif ile (len c.1) 6 then
    (impl_allWithin N c.1 0 20).bind fun r =>
    bif r.1 then
      (impl_within N (len c.2.1) 1 3).bind fun r1 =>
      bif r1.1 then
        bif ieq (len c.2.2) (len c.2.1) then
          (impl_allWithin N c.2.1 0 99).bind fun r2 =>
          bif r2.1 then
            (impl_allWithin N c.2.2 0 9).bind fun r3 =>
            bif r3.1 then
              (slices_IsSorted_int_int N c.2.2).bind fun r4 =>
              some (r4.1, ())
            else
              some (false, ())
          else
            some (false, ())
        else
          some (false, ())
      else
        some (false, ())
    else
      some (false, ())
  else
    some (false, ())
def impl_Chain_stocks_K1 (N : Nat) (kx : (List (List Int)) → (List (List Int)) → Int → Int → ((List Int) × (List Int) × (List Int)) → (List (List Int)) → Option (((List (List Int)) × Bool) × Unit)) (plan4 : List (List Int)) (stock1 : Int) (v213 : List (List Int)) (v223 : Int) (v233 : Int) (v471 : List Int) (v481 : Int) (v501 : List Int) (v511 : Int) (v521 : Bool) (v551 : List Int) (v561 : Bool) (v571 : Bool) (v601 : List Int) (v611 : Bool) (v621 : Bool) (c4 : (List Int) × (List Int) × (List Int)) (out3 : List (List Int)) (row1 : List Int) : Option (((List (List Int)) × Bool) × Unit) :=
  bif ine stock1 0 then
    some (([], false), ())
  else
    chk (fitB (out3.length + 1) 24) <|
    kx plan4 v213 v223 (iadd .i64 v233 1) c4 (out3 ++ [row1])
def impl_Chain_stocks_B1 (N : Nat) (kx : (List (List Int)) → (List (List Int)) → Int → Int → ((List Int) × (List Int) × (List Int)) → (List (List Int)) → Option (((List (List Int)) × Bool) × Unit)) (kx1 : (List (List Int)) → (List Int) → Int → (List (List Int)) → Int → Int → (List Int) → Int → (List Int) → Int → Bool → (List Int) → Bool → Bool → (List Int) → Bool → Bool → (List Int) → Int → Int → ((List Int) × (List Int) × (List Int)) → (List (List Int)) → (List Int) → Option (((List (List Int)) × Bool) × Unit)) (plan3 : List (List Int)) (taken1 : List Int) (stock : Int) (v212 : List (List Int)) (v222 : Int) (v232 : Int) (v47 : List Int) (v48 : Int) (v50 : List Int) (v51 : Int) (v52 : Bool) (v55 : List Int) (v56 : Bool) (v57 : Bool) (v60 : List Int) (v61 : Bool) (v62 : Bool) (v65 : List Int) (v66 : Int) (v67 : Int) (c3 : (List Int) × (List Int) × (List Int)) (out2 : List (List Int)) (row : List Int) : Option (((List (List Int)) × Bool) × Unit) :=
  bif ilt v67 v66 then
    chk (inB v67 v65.length) <|
    chk (inB v67 taken1.length) <|
    bif ilt (iadd .i64 stock (isub .i64 (gd v65 v67.toNat 0) (gd taken1 v67.toNat 0))) 0 then
      some (([], false), ())
    else
      chk (fitB (row.length + 1) 8) <|
      kx1 plan3 taken1 (iadd .i64 stock (isub .i64 (gd v65 v67.toNat 0) (gd taken1 v67.toNat 0))) v212 v222 v232 v47 v48 v50 v51 v52 v55 v56 v57 v60 v61 v62 v65 v66 (iadd .i64 v67 1) c3 out2 (row ++ [iadd .i64 stock (isub .i64 (gd v65 v67.toNat 0) (gd taken1 v67.toNat 0))])
  else
    impl_Chain_stocks_K1 N kx plan3 stock v212 v222 v232 v47 v48 v50 v51 v52 v55 v56 v57 v60 v61 v62 c3 out2 row
def impl_Chain_stocks_L1 (N fu_ : Nat) (kx : (List (List Int)) → (List (List Int)) → Int → Int → ((List Int) × (List Int) × (List Int)) → (List (List Int)) → Option (((List (List Int)) × Bool) × Unit)) (plan3 : List (List Int)) (taken1 : List Int) (stock : Int) (v212 : List (List Int)) (v222 : Int) (v232 : Int) (v47 : List Int) (v48 : Int) (v50 : List Int) (v51 : Int) (v52 : Bool) (v55 : List Int) (v56 : Bool) (v57 : Bool) (v60 : List Int) (v61 : Bool) (v62 : Bool) (v65 : List Int) (v66 : Int) (v67 : Int) (c3 : (List Int) × (List Int) × (List Int)) (out2 : List (List Int)) (row : List Int) : Option (((List (List Int)) × Bool) × Unit) :=
  iterK fu_ (fun kx1 (v_ : ((List (List Int)) × (List Int) × Int × (List (List Int)) × Int × Int × (List Int) × Int × (List Int) × Int × Bool × (List Int) × Bool × Bool × (List Int) × Bool × Bool × (List Int) × Int × Int × Unit) × (((List Int) × (List Int) × (List Int)) × (List (List Int)) × (List Int) × Unit)) => impl_Chain_stocks_B1 N kx (fun plan3 taken1 stock v212 v222 v232 v47 v48 v50 v51 v52 v55 v56 v57 v60 v61 v62 v65 v66 v67 c3 out2 row => kx1 ((plan3, taken1, stock, v212, v222, v232, v47, v48, v50, v51, v52, v55, v56, v57, v60, v61, v62, v65, v66, v67, ()), (c3, out2, row, ()))) v_.1.1 v_.1.2.1 v_.1.2.2.1 v_.1.2.2.2.1 v_.1.2.2.2.2.1 v_.1.2.2.2.2.2.1 v_.1.2.2.2.2.2.2.1 v_.1.2.2.2.2.2.2.2.1 v_.1.2.2.2.2.2.2.2.2.1 v_.1.2.2.2.2.2.2.2.2.2.1 v_.1.2.2.2.2.2.2.2.2.2.2.1 v_.1.2.2.2.2.2.2.2.2.2.2.2.1 v_.1.2.2.2.2.2.2.2.2.2.2.2.2.1 v_.1.2.2.2.2.2.2.2.2.2.2.2.2.2.1 v_.1.2.2.2.2.2.2.2.2.2.2.2.2.2.2.1 v_.1.2.2.2.2.2.2.2.2.2.2.2.2.2.2.2.1 v_.1.2.2.2.2.2.2.2.2.2.2.2.2.2.2.2.2.1 v_.1.2.2.2.2.2.2.2.2.2.2.2.2.2.2.2.2.2.1 v_.1.2.2.2.2.2.2.2.2.2.2.2.2.2.2.2.2.2.2.1 v_.1.2.2.2.2.2.2.2.2.2.2.2.2.2.2.2.2.2.2.2.1 v_.2.1 v_.2.2.1 v_.2.2.2.1) ((plan3, taken1, stock, v212, v222, v232, v47, v48, v50, v51, v52, v55, v56, v57, v60, v61, v62, v65, v66, v67, ()), (c3, out2, row, ()))
theorem impl_Chain_stocks_L1_succ (N fu_ : Nat) (kx : (List (List Int)) → (List (List Int)) → Int → Int → ((List Int) × (List Int) × (List Int)) → (List (List Int)) → Option (((List (List Int)) × Bool) × Unit)) (plan3 : List (List Int)) (taken1 : List Int) (stock : Int) (v212 : List (List Int)) (v222 : Int) (v232 : Int) (v47 : List Int) (v48 : Int) (v50 : List Int) (v51 : Int) (v52 : Bool) (v55 : List Int) (v56 : Bool) (v57 : Bool) (v60 : List Int) (v61 : Bool) (v62 : Bool) (v65 : List Int) (v66 : Int) (v67 : Int) (c3 : (List Int) × (List Int) × (List Int)) (out2 : List (List Int)) (row : List Int) : impl_Chain_stocks_L1 N (fu_ + 1) kx plan3 taken1 stock v212 v222 v232 v47 v48 v50 v51 v52 v55 v56 v57 v60 v61 v62 v65 v66 v67 c3 out2 row = impl_Chain_stocks_B1 N kx (fun plan3 taken1 stock v212 v222 v232 v47 v48 v50 v51 v52 v55 v56 v57 v60 v61 v62 v65 v66 v67 c3 out2 row => impl_Chain_stocks_L1 N fu_ kx plan3 taken1 stock v212 v222 v232 v47 v48 v50 v51 v52 v55 v56 v57 v60 v61 v62 v65 v66 v67 c3 out2 row) plan3 taken1 stock v212 v222 v232 v47 v48 v50 v51 v52 v55 v56 v57 v60 v61 v62 v65 v66 v67 c3 out2 row := rfl
theorem impl_Chain_stocks_L1_run (N : Nat) (kx : (List (List Int)) → (List (List Int)) → Int → Int → ((List Int) × (List Int) × (List Int)) → (List (List Int)) → Option (((List (List Int)) × Bool) × Unit)) (plan3 : Nat → (List (List Int))) (taken1 : Nat → (List Int)) (stock : Nat → Int) (v212 : Nat → (List (List Int))) (v222 : Nat → Int) (v232 : Nat → Int) (v47 : Nat → (List Int)) (v48 : Nat → Int) (v50 : Nat → (List Int)) (v51 : Nat → Int) (v52 : Nat → Bool) (v55 : Nat → (List Int)) (v56 : Nat → Bool) (v57 : Nat → Bool) (v60 : Nat → (List Int)) (v61 : Nat → Bool) (v62 : Nat → Bool) (v65 : Nat → (List Int)) (v66 : Nat → Int) (v67 : Nat → Int) (c3 : Nat → ((List Int) × (List Int) × (List Int))) (out2 : Nat → (List (List Int))) (row : Nat → (List Int)) (n_ : Nat) {res_ : Option (((List (List Int)) × Bool) × Unit)} (hstep_ : ∀ j_, j_ < n_ → ∀ kx_, impl_Chain_stocks_B1 N kx kx_ (plan3 j_) (taken1 j_) (stock j_) (v212 j_) (v222 j_) (v232 j_) (v47 j_) (v48 j_) (v50 j_) (v51 j_) (v52 j_) (v55 j_) (v56 j_) (v57 j_) (v60 j_) (v61 j_) (v62 j_) (v65 j_) (v66 j_) (v67 j_) (c3 j_) (out2 j_) (row j_) = kx_ (plan3 (j_ + 1)) (taken1 (j_ + 1)) (stock (j_ + 1)) (v212 (j_ + 1)) (v222 (j_ + 1)) (v232 (j_ + 1)) (v47 (j_ + 1)) (v48 (j_ + 1)) (v50 (j_ + 1)) (v51 (j_ + 1)) (v52 (j_ + 1)) (v55 (j_ + 1)) (v56 (j_ + 1)) (v57 (j_ + 1)) (v60 (j_ + 1)) (v61 (j_ + 1)) (v62 (j_ + 1)) (v65 (j_ + 1)) (v66 (j_ + 1)) (v67 (j_ + 1)) (c3 (j_ + 1)) (out2 (j_ + 1)) (row (j_ + 1))) (hend_ : ∀ kx_, impl_Chain_stocks_B1 N kx kx_ (plan3 n_) (taken1 n_) (stock n_) (v212 n_) (v222 n_) (v232 n_) (v47 n_) (v48 n_) (v50 n_) (v51 n_) (v52 n_) (v55 n_) (v56 n_) (v57 n_) (v60 n_) (v61 n_) (v62 n_) (v65 n_) (v66 n_) (v67 n_) (c3 n_) (out2 n_) (row n_) = res_) (fu_ : Nat) (hm_ : n_ < fu_) : impl_Chain_stocks_L1 N fu_ kx (plan3 0) (taken1 0) (stock 0) (v212 0) (v222 0) (v232 0) (v47 0) (v48 0) (v50 0) (v51 0) (v52 0) (v55 0) (v56 0) (v57 0) (v60 0) (v61 0) (v62 0) (v65 0) (v66 0) (v67 0) (c3 0) (out2 0) (row 0) = res_ := by
  exact loop_run (L := fun fu_ (x_ : (List (List Int)) × (List Int) × Int × (List (List Int)) × Int × Int × (List Int) × Int × (List Int) × Int × Bool × (List Int) × Bool × Bool × (List Int) × Bool × Bool × (List Int) × Int × Int × ((List Int) × (List Int) × (List Int)) × (List (List Int)) × (List Int)) => impl_Chain_stocks_L1 N fu_ kx x_.1 x_.2.1 x_.2.2.1 x_.2.2.2.1 x_.2.2.2.2.1 x_.2.2.2.2.2.1 x_.2.2.2.2.2.2.1 x_.2.2.2.2.2.2.2.1 x_.2.2.2.2.2.2.2.2.1 x_.2.2.2.2.2.2.2.2.2.1 x_.2.2.2.2.2.2.2.2.2.2.1 x_.2.2.2.2.2.2.2.2.2.2.2.1 x_.2.2.2.2.2.2.2.2.2.2.2.2.1 x_.2.2.2.2.2.2.2.2.2.2.2.2.2.1 x_.2.2.2.2.2.2.2.2.2.2.2.2.2.2.1 x_.2.2.2.2.2.2.2.2.2.2.2.2.2.2.2.1 x_.2.2.2.2.2.2.2.2.2.2.2.2.2.2.2.2.1 x_.2.2.2.2.2.2.2.2.2.2.2.2.2.2.2.2.2.1 x_.2.2.2.2.2.2.2.2.2.2.2.2.2.2.2.2.2.2.1 x_.2.2.2.2.2.2.2.2.2.2.2.2.2.2.2.2.2.2.2.1 x_.2.2.2.2.2.2.2.2.2.2.2.2.2.2.2.2.2.2.2.2.1 x_.2.2.2.2.2.2.2.2.2.2.2.2.2.2.2.2.2.2.2.2.2.1 x_.2.2.2.2.2.2.2.2.2.2.2.2.2.2.2.2.2.2.2.2.2.2) (B := fun kx_ x_ => impl_Chain_stocks_B1 N kx (fun plan3 taken1 stock v212 v222 v232 v47 v48 v50 v51 v52 v55 v56 v57 v60 v61 v62 v65 v66 v67 c3 out2 row => kx_ (plan3, taken1, stock, v212, v222, v232, v47, v48, v50, v51, v52, v55, v56, v57, v60, v61, v62, v65, v66, v67, c3, out2, row)) x_.1 x_.2.1 x_.2.2.1 x_.2.2.2.1 x_.2.2.2.2.1 x_.2.2.2.2.2.1 x_.2.2.2.2.2.2.1 x_.2.2.2.2.2.2.2.1 x_.2.2.2.2.2.2.2.2.1 x_.2.2.2.2.2.2.2.2.2.1 x_.2.2.2.2.2.2.2.2.2.2.1 x_.2.2.2.2.2.2.2.2.2.2.2.1 x_.2.2.2.2.2.2.2.2.2.2.2.2.1 x_.2.2.2.2.2.2.2.2.2.2.2.2.2.1 x_.2.2.2.2.2.2.2.2.2.2.2.2.2.2.1 x_.2.2.2.2.2.2.2.2.2.2.2.2.2.2.2.1 x_.2.2.2.2.2.2.2.2.2.2.2.2.2.2.2.2.1 x_.2.2.2.2.2.2.2.2.2.2.2.2.2.2.2.2.2.1 x_.2.2.2.2.2.2.2.2.2.2.2.2.2.2.2.2.2.2.1 x_.2.2.2.2.2.2.2.2.2.2.2.2.2.2.2.2.2.2.2.1 x_.2.2.2.2.2.2.2.2.2.2.2.2.2.2.2.2.2.2.2.2.1 x_.2.2.2.2.2.2.2.2.2.2.2.2.2.2.2.2.2.2.2.2.2.1 x_.2.2.2.2.2.2.2.2.2.2.2.2.2.2.2.2.2.2.2.2.2.2) (fun _ _ => rfl) (fun j_ => (plan3 j_, taken1 j_, stock j_, v212 j_, v222 j_, v232 j_, v47 j_, v48 j_, v50 j_, v51 j_, v52 j_, v55 j_, v56 j_, v57 j_, v60 j_, v61 j_, v62 j_, v65 j_, v66 j_, v67 j_, c3 j_, out2 j_, row j_)) n_ (fun j_ hi_ kx_ => hstep_ j_ hi_ _) (fun kx_ => hend_ _) fu_ hm_
def impl_Chain_stocks_K2 (N : Nat) (kx : (List (List Int)) → (List (List Int)) → Int → Int → ((List Int) × (List Int) × (List Int)) → (List (List Int)) → Option (((List (List Int)) × Bool) × Unit)) (plan2 : List (List Int)) (list : List Int) (taken : List Int) (v211 : List (List Int)) (v221 : Int) (v231 : Int) (c2 : (List Int) × (List Int) × (List Int)) (out1 : List (List Int)) : Option (((List (List Int)) × Bool) × Unit) :=
  bif ine (len list) (len c2.1) then
    some (([], false), ())
  else
    bif ine (len taken) (len c2.1) then
      some (([], false), ())
    else
      (impl_allWithin N list 0 120).bind fun r =>
      bif !r.1 then
        some (([], false), ())
      else
        (impl_allWithin N taken 0 120).bind fun r1 =>
        bif !r1.1 then
          some (([], false), ())
        else
          impl_Chain_stocks_L1 N N kx plan2 taken 0 v211 v221 v231 taken (len taken) c2.1 (len c2.1) (ine (len taken) (len c2.1)) list r.1 (!r.1) taken r1.1 (!r1.1) list (len list) 0 c2 out1 []
def impl_Chain_stocks_K3 (N : Nat) (out4 : List (List Int)) : Option (((List (List Int)) × Bool) × Unit) :=
  some ((out4, true), ())
def impl_Chain_stocks_B2 (N : Nat) (kx : (List (List Int)) → (List (List Int)) → Int → Int → ((List Int) × (List Int) × (List Int)) → (List (List Int)) → Option (((List (List Int)) × Bool) × Unit)) (plan1 : List (List Int)) (v21 : List (List Int)) (v22 : Int) (v23 : Int) (c1 : (List Int) × (List Int) × (List Int)) (out : List (List Int)) : Option (((List (List Int)) × Bool) × Unit) :=
  bif ilt v23 v22 then
    chk (inB v23 v21.length) <|
    bif ilt (iadd .i64 v23 1) (len plan1) then
      chk (inB (iadd .i64 v23 1) plan1.length) <|
      impl_Chain_stocks_K2 N kx plan1 (gd v21 v23.toNat []) (gd plan1 (iadd .i64 v23 1).toNat []) v21 v22 v23 c1 out
    else
      impl_Chain_stocks_K2 N kx plan1 (gd v21 v23.toNat []) c1.1 v21 v22 v23 c1 out
  else
    impl_Chain_stocks_K3 N out
def impl_Chain_stocks_L2 (N fu_ : Nat) (plan1 : List (List Int)) (v21 : List (List Int)) (v22 : Int) (v23 : Int) (c1 : (List Int) × (List Int) × (List Int)) (out : List (List Int)) : Option (((List (List Int)) × Bool) × Unit) :=
  iterK fu_ (fun kx (v_ : ((List (List Int)) × (List (List Int)) × Int × Int × Unit) × (((List Int) × (List Int) × (List Int)) × (List (List Int)) × Unit)) => impl_Chain_stocks_B2 N (fun plan1 v21 v22 v23 c1 out => kx ((plan1, v21, v22, v23, ()), (c1, out, ()))) v_.1.1 v_.1.2.1 v_.1.2.2.1 v_.1.2.2.2.1 v_.2.1 v_.2.2.1) ((plan1, v21, v22, v23, ()), (c1, out, ()))
theorem impl_Chain_stocks_L2_succ (N fu_ : Nat) (plan1 : List (List Int)) (v21 : List (List Int)) (v22 : Int) (v23 : Int) (c1 : (List Int) × (List Int) × (List Int)) (out : List (List Int)) : impl_Chain_stocks_L2 N (fu_ + 1) plan1 v21 v22 v23 c1 out = impl_Chain_stocks_B2 N (fun plan1 v21 v22 v23 c1 out => impl_Chain_stocks_L2 N fu_ plan1 v21 v22 v23 c1 out) plan1 v21 v22 v23 c1 out := rfl
theorem impl_Chain_stocks_L2_run (N : Nat) (plan1 : Nat → (List (List Int))) (v21 : Nat → (List (List Int))) (v22 : Nat → Int) (v23 : Nat → Int) (c1 : Nat → ((List Int) × (List Int) × (List Int))) (out : Nat → (List (List Int))) (n_ : Nat) {res_ : Option (((List (List Int)) × Bool) × Unit)} (hstep_ : ∀ j_, j_ < n_ → ∀ kx_, impl_Chain_stocks_B2 N kx_ (plan1 j_) (v21 j_) (v22 j_) (v23 j_) (c1 j_) (out j_) = kx_ (plan1 (j_ + 1)) (v21 (j_ + 1)) (v22 (j_ + 1)) (v23 (j_ + 1)) (c1 (j_ + 1)) (out (j_ + 1))) (hend_ : ∀ kx_, impl_Chain_stocks_B2 N kx_ (plan1 n_) (v21 n_) (v22 n_) (v23 n_) (c1 n_) (out n_) = res_) (fu_ : Nat) (hm_ : n_ < fu_) : impl_Chain_stocks_L2 N fu_ (plan1 0) (v21 0) (v22 0) (v23 0) (c1 0) (out 0) = res_ := by
  exact loop_run (L := fun fu_ (x_ : (List (List Int)) × (List (List Int)) × Int × Int × ((List Int) × (List Int) × (List Int)) × (List (List Int))) => impl_Chain_stocks_L2 N fu_ x_.1 x_.2.1 x_.2.2.1 x_.2.2.2.1 x_.2.2.2.2.1 x_.2.2.2.2.2) (B := fun kx_ x_ => impl_Chain_stocks_B2 N (fun plan1 v21 v22 v23 c1 out => kx_ (plan1, v21, v22, v23, c1, out)) x_.1 x_.2.1 x_.2.2.1 x_.2.2.2.1 x_.2.2.2.2.1 x_.2.2.2.2.2) (fun _ _ => rfl) (fun j_ => (plan1 j_, v21 j_, v22 j_, v23 j_, c1 j_, out j_)) n_ (fun j_ hi_ kx_ => hstep_ j_ hi_ _) (fun kx_ => hend_ _) fu_ hm_
def impl_Chain_stocks (N : Nat) (c : (List Int) × (List Int) × (List Int)) (plan : List (List Int)) : Option (((List (List Int)) × Bool) × Unit) :=
  bif ine (len plan) (len c.2.1) then
    some (([], false), ())
  else
    impl_Chain_stocks_L2 N N plan plan (len plan) 0 c []
def impl_Chain_cost_K1 (N : Nat) (kx1 : Int → Int → (List (List Int)) → Int → Int → (List Int) → Int → Int → ((List Int) × (List Int) × (List Int)) → ((List (List Int)) × Bool) → Option (Int × Unit)) (sum2 : Int) (stage1 : Int) (i : Int) (v182 : List (List Int)) (v192 : Int) (v202 : Int) (v251 : List Int) (v261 : Int) (v271 : Int) (c3 : (List Int) × (List Int) × (List Int)) (b152 : (List (List Int)) × Bool) : Option (Int × Unit) :=
  chk (inB stage1 c3.2.2.length) <|
  chk (inB stage1 b152.1.length) <|
  chk (inB i (gd b152.1 stage1.toNat []).length) <|
  kx1 (iadd .i64 sum2 (imul .i64 (gd c3.2.2 stage1.toNat 0) (gd (gd b152.1 stage1.toNat []) i.toNat 0))) stage1 v182 v192 v202 v251 v261 (iadd .i64 v271 1) c3 b152
def impl_Chain_cost_K2 (N : Nat) (kx : Int → (List (List Int)) → Int → Int → ((List Int) × (List Int) × (List Int)) → ((List (List Int)) × Bool) → Option (Int × Unit)) (sum3 : Int) (v183 : List (List Int)) (v193 : Int) (v203 : Int) (c4 : (List Int) × (List Int) × (List Int)) (b153 : (List (List Int)) × Bool) : Option (Int × Unit) :=
  kx sum3 v183 v193 (iadd .i64 v203 1) c4 b153
def impl_Chain_cost_B1 (N : Nat) (kx : Int → (List (List Int)) → Int → Int → ((List Int) × (List Int) × (List Int)) → ((List (List Int)) × Bool) → Option (Int × Unit)) (kx1 : Int → Int → (List (List Int)) → Int → Int → (List Int) → Int → Int → ((List Int) × (List Int) × (List Int)) → ((List (List Int)) × Bool) → Option (Int × Unit)) (sum1 : Int) (stage : Int) (v181 : List (List Int)) (v191 : Int) (v201 : Int) (v25 : List Int) (v26 : Int) (v27 : Int) (c2 : (List Int) × (List Int) × (List Int)) (b151 : (List (List Int)) × Bool) : Option (Int × Unit) :=
  bif ilt v27 v26 then
    chk (inB v27 v25.length) <|
    bif ilt 0 (gd v25 v27.toNat 0) then
      chk (inB stage c2.2.1.length) <|
      impl_Chain_cost_K1 N kx1 (iadd .i64 sum1 (gd c2.2.1 stage.toNat 0)) stage v27 v181 v191 v201 v25 v26 v27 c2 b151
    else
      impl_Chain_cost_K1 N kx1 sum1 stage v27 v181 v191 v201 v25 v26 v27 c2 b151
  else
    impl_Chain_cost_K2 N kx sum1 v181 v191 v201 c2 b151
def impl_Chain_cost_L1 (N fu_ : Nat) (kx : Int → (List (List Int)) → Int → Int → ((List Int) × (List Int) × (List Int)) → ((List (List Int)) × Bool) → Option (Int × Unit)) (sum1 : Int) (stage : Int) (v181 : List (List Int)) (v191 : Int) (v201 : Int) (v25 : List Int) (v26 : Int) (v27 : Int) (c2 : (List Int) × (List Int) × (List Int)) (b151 : (List (List Int)) × Bool) : Option (Int × Unit) :=
  iterK fu_ (fun kx1 (v_ : (Int × Int × (List (List Int)) × Int × Int × (List Int) × Int × Int × Unit) × (((List Int) × (List Int) × (List Int)) × ((List (List Int)) × Bool) × Unit)) => impl_Chain_cost_B1 N kx (fun sum1 stage v181 v191 v201 v25 v26 v27 c2 b151 => kx1 ((sum1, stage, v181, v191, v201, v25, v26, v27, ()), (c2, b151, ()))) v_.1.1 v_.1.2.1 v_.1.2.2.1 v_.1.2.2.2.1 v_.1.2.2.2.2.1 v_.1.2.2.2.2.2.1 v_.1.2.2.2.2.2.2.1 v_.1.2.2.2.2.2.2.2.1 v_.2.1 v_.2.2.1) ((sum1, stage, v181, v191, v201, v25, v26, v27, ()), (c2, b151, ()))
theorem impl_Chain_cost_L1_succ (N fu_ : Nat) (kx : Int → (List (List Int)) → Int → Int → ((List Int) × (List Int) × (List Int)) → ((List (List Int)) × Bool) → Option (Int × Unit)) (sum1 : Int) (stage : Int) (v181 : List (List Int)) (v191 : Int) (v201 : Int) (v25 : List Int) (v26 : Int) (v27 : Int) (c2 : (List Int) × (List Int) × (List Int)) (b151 : (List (List Int)) × Bool) : impl_Chain_cost_L1 N (fu_ + 1) kx sum1 stage v181 v191 v201 v25 v26 v27 c2 b151 = impl_Chain_cost_B1 N kx (fun sum1 stage v181 v191 v201 v25 v26 v27 c2 b151 => impl_Chain_cost_L1 N fu_ kx sum1 stage v181 v191 v201 v25 v26 v27 c2 b151) sum1 stage v181 v191 v201 v25 v26 v27 c2 b151 := rfl
theorem impl_Chain_cost_L1_run (N : Nat) (kx : Int → (List (List Int)) → Int → Int → ((List Int) × (List Int) × (List Int)) → ((List (List Int)) × Bool) → Option (Int × Unit)) (sum1 : Nat → Int) (stage : Nat → Int) (v181 : Nat → (List (List Int))) (v191 : Nat → Int) (v201 : Nat → Int) (v25 : Nat → (List Int)) (v26 : Nat → Int) (v27 : Nat → Int) (c2 : Nat → ((List Int) × (List Int) × (List Int))) (b151 : Nat → ((List (List Int)) × Bool)) (n_ : Nat) {res_ : Option (Int × Unit)} (hstep_ : ∀ j_, j_ < n_ → ∀ kx_, impl_Chain_cost_B1 N kx kx_ (sum1 j_) (stage j_) (v181 j_) (v191 j_) (v201 j_) (v25 j_) (v26 j_) (v27 j_) (c2 j_) (b151 j_) = kx_ (sum1 (j_ + 1)) (stage (j_ + 1)) (v181 (j_ + 1)) (v191 (j_ + 1)) (v201 (j_ + 1)) (v25 (j_ + 1)) (v26 (j_ + 1)) (v27 (j_ + 1)) (c2 (j_ + 1)) (b151 (j_ + 1))) (hend_ : ∀ kx_, impl_Chain_cost_B1 N kx kx_ (sum1 n_) (stage n_) (v181 n_) (v191 n_) (v201 n_) (v25 n_) (v26 n_) (v27 n_) (c2 n_) (b151 n_) = res_) (fu_ : Nat) (hm_ : n_ < fu_) : impl_Chain_cost_L1 N fu_ kx (sum1 0) (stage 0) (v181 0) (v191 0) (v201 0) (v25 0) (v26 0) (v27 0) (c2 0) (b151 0) = res_ := by
  exact loop_run (L := fun fu_ (x_ : Int × Int × (List (List Int)) × Int × Int × (List Int) × Int × Int × ((List Int) × (List Int) × (List Int)) × ((List (List Int)) × Bool)) => impl_Chain_cost_L1 N fu_ kx x_.1 x_.2.1 x_.2.2.1 x_.2.2.2.1 x_.2.2.2.2.1 x_.2.2.2.2.2.1 x_.2.2.2.2.2.2.1 x_.2.2.2.2.2.2.2.1 x_.2.2.2.2.2.2.2.2.1 x_.2.2.2.2.2.2.2.2.2) (B := fun kx_ x_ => impl_Chain_cost_B1 N kx (fun sum1 stage v181 v191 v201 v25 v26 v27 c2 b151 => kx_ (sum1, stage, v181, v191, v201, v25, v26, v27, c2, b151)) x_.1 x_.2.1 x_.2.2.1 x_.2.2.2.1 x_.2.2.2.2.1 x_.2.2.2.2.2.1 x_.2.2.2.2.2.2.1 x_.2.2.2.2.2.2.2.1 x_.2.2.2.2.2.2.2.2.1 x_.2.2.2.2.2.2.2.2.2) (fun _ _ => rfl) (fun j_ => (sum1 j_, stage j_, v181 j_, v191 j_, v201 j_, v25 j_, v26 j_, v27 j_, c2 j_, b151 j_)) n_ (fun j_ hi_ kx_ => hstep_ j_ hi_ _) (fun kx_ => hend_ _) fu_ hm_
def impl_Chain_cost_K3 (N : Nat) (sum4 : Int) : Option (Int × Unit) :=
  some (sum4, ())
def impl_Chain_cost_B2 (N : Nat) (kx : Int → (List (List Int)) → Int → Int → ((List Int) × (List Int) × (List Int)) → ((List (List Int)) × Bool) → Option (Int × Unit)) (sum : Int) (v18 : List (List Int)) (v19 : Int) (v20 : Int) (c1 : (List Int) × (List Int) × (List Int)) (b15 : (List (List Int)) × Bool) : Option (Int × Unit) :=
  bif ilt v20 v19 then
    chk (inB v20 v18.length) <|
    impl_Chain_cost_L1 N N kx sum v20 v18 v19 v20 (gd v18 v20.toNat []) (len (gd v18 v20.toNat [])) 0 c1 b15
  else
    impl_Chain_cost_K3 N sum
def impl_Chain_cost_L2 (N fu_ : Nat) (sum : Int) (v18 : List (List Int)) (v19 : Int) (v20 : Int) (c1 : (List Int) × (List Int) × (List Int)) (b15 : (List (List Int)) × Bool) : Option (Int × Unit) :=
  iterK fu_ (fun kx (v_ : (Int × (List (List Int)) × Int × Int × Unit) × (((List Int) × (List Int) × (List Int)) × ((List (List Int)) × Bool) × Unit)) => impl_Chain_cost_B2 N (fun sum v18 v19 v20 c1 b15 => kx ((sum, v18, v19, v20, ()), (c1, b15, ()))) v_.1.1 v_.1.2.1 v_.1.2.2.1 v_.1.2.2.2.1 v_.2.1 v_.2.2.1) ((sum, v18, v19, v20, ()), (c1, b15, ()))
theorem impl_Chain_cost_L2_succ (N fu_ : Nat) (sum : Int) (v18 : List (List Int)) (v19 : Int) (v20 : Int) (c1 : (List Int) × (List Int) × (List Int)) (b15 : (List (List Int)) × Bool) : impl_Chain_cost_L2 N (fu_ + 1) sum v18 v19 v20 c1 b15 = impl_Chain_cost_B2 N (fun sum v18 v19 v20 c1 b15 => impl_Chain_cost_L2 N fu_ sum v18 v19 v20 c1 b15) sum v18 v19 v20 c1 b15 := rfl
theorem impl_Chain_cost_L2_run (N : Nat) (sum : Nat → Int) (v18 : Nat → (List (List Int))) (v19 : Nat → Int) (v20 : Nat → Int) (c1 : Nat → ((List Int) × (List Int) × (List Int))) (b15 : Nat → ((List (List Int)) × Bool)) (n_ : Nat) {res_ : Option (Int × Unit)} (hstep_ : ∀ j_, j_ < n_ → ∀ kx_, impl_Chain_cost_B2 N kx_ (sum j_) (v18 j_) (v19 j_) (v20 j_) (c1 j_) (b15 j_) = kx_ (sum (j_ + 1)) (v18 (j_ + 1)) (v19 (j_ + 1)) (v20 (j_ + 1)) (c1 (j_ + 1)) (b15 (j_ + 1))) (hend_ : ∀ kx_, impl_Chain_cost_B2 N kx_ (sum n_) (v18 n_) (v19 n_) (v20 n_) (c1 n_) (b15 n_) = res_) (fu_ : Nat) (hm_ : n_ < fu_) : impl_Chain_cost_L2 N fu_ (sum 0) (v18 0) (v19 0) (v20 0) (c1 0) (b15 0) = res_ := by
  exact loop_run (L := fun fu_ (x_ : Int × (List (List Int)) × Int × Int × ((List Int) × (List Int) × (List Int)) × ((List (List Int)) × Bool)) => impl_Chain_cost_L2 N fu_ x_.1 x_.2.1 x_.2.2.1 x_.2.2.2.1 x_.2.2.2.2.1 x_.2.2.2.2.2) (B := fun kx_ x_ => impl_Chain_cost_B2 N (fun sum v18 v19 v20 c1 b15 => kx_ (sum, v18, v19, v20, c1, b15)) x_.1 x_.2.1 x_.2.2.1 x_.2.2.2.1 x_.2.2.2.2.1 x_.2.2.2.2.2) (fun _ _ => rfl) (fun j_ => (sum j_, v18 j_, v19 j_, v20 j_, c1 j_, b15 j_)) n_ (fun j_ hi_ kx_ => hstep_ j_ hi_ _) (fun kx_ => hend_ _) fu_ hm_
def impl_Chain_cost (N : Nat) (c : (List Int) × (List Int) × (List Int)) (plan : List (List Int)) : Option (Int × Unit) :=
  (impl_Chain_stocks N c plan).bind fun r =>
  impl_Chain_cost_L2 N N 0 plan (len plan) 0 c r.1
def impl_power_K1 (N : Nat) (out1 : Int) : Option (Int × Unit) :=
  some (out1, ())
def impl_power_B1 (N : Nat) (kx : Int → Int → Int → Int → Option (Int × Unit)) (a1 : Int) (out : Int) (v6 : Int) (v7 : Int) : Option (Int × Unit) :=
  bif ilt v7 v6 then
    kx a1 (imul .i64 out a1) v6 (iadd .i64 v7 1)
  else
    impl_power_K1 N out
def impl_power_L1 (N fu_ : Nat) (a1 : Int) (out : Int) (v6 : Int) (v7 : Int) : Option (Int × Unit) :=
  iterK fu_ (fun kx (v_ : (Int × Int × Int × Int × Unit) × (Unit)) => impl_power_B1 N (fun a1 out v6 v7 => kx ((a1, out, v6, v7, ()), ())) v_.1.1 v_.1.2.1 v_.1.2.2.1 v_.1.2.2.2.1) ((a1, out, v6, v7, ()), ())
theorem impl_power_L1_succ (N fu_ : Nat) (a1 : Int) (out : Int) (v6 : Int) (v7 : Int) : impl_power_L1 N (fu_ + 1) a1 out v6 v7 = impl_power_B1 N (fun a1 out v6 v7 => impl_power_L1 N fu_ a1 out v6 v7) a1 out v6 v7 := rfl
theorem impl_power_L1_run (N : Nat) (a1 : Nat → Int) (out : Nat → Int) (v6 : Nat → Int) (v7 : Nat → Int) (n_ : Nat) {res_ : Option (Int × Unit)} (hstep_ : ∀ j_, j_ < n_ → ∀ kx_, impl_power_B1 N kx_ (a1 j_) (out j_) (v6 j_) (v7 j_) = kx_ (a1 (j_ + 1)) (out (j_ + 1)) (v6 (j_ + 1)) (v7 (j_ + 1))) (hend_ : ∀ kx_, impl_power_B1 N kx_ (a1 n_) (out n_) (v6 n_) (v7 n_) = res_) (fu_ : Nat) (hm_ : n_ < fu_) : impl_power_L1 N fu_ (a1 0) (out 0) (v6 0) (v7 0) = res_ := by
  exact loop_run (L := fun fu_ (x_ : Int × Int × Int × Int) => impl_power_L1 N fu_ x_.1 x_.2.1 x_.2.2.1 x_.2.2.2) (B := fun kx_ x_ => impl_power_B1 N (fun a1 out v6 v7 => kx_ (a1, out, v6, v7)) x_.1 x_.2.1 x_.2.2.1 x_.2.2.2) (fun _ _ => rfl) (fun j_ => (a1 j_, out j_, v6 j_, v7 j_)) n_ (fun j_ hi_ kx_ => hstep_ j_ hi_ _) (fun kx_ => hend_ _) fu_ hm_
def impl_power (N : Nat) (a : Int) (n : Int) : Option (Int × Unit) :=
  impl_power_L1 N N a 1 n 0
def impl_copied (N : Nat) (list : List Int) : Option ((List Int) × Unit) :=
  chk (fitB (0 + list.length) 8) <|
  some (list, ())
def impl_evenCase_K1 (N : Nat) (v61 : (List Int) × (List Int) × (List Int) × (List Int)) (c1 : (List Int) × (List Int) × (List Int) × (List Int)) : Option (((List Int) × (List Int) × (List Int) × (List Int)) × Unit) :=
  some (c1, ())
def impl_evenCase_B1 (N : Nat) (kx : Int → Int → Int → Int → ((List Int) × (List Int) × (List Int) × (List Int)) → ((List Int) × (List Int) × (List Int) × (List Int)) → Option (((List Int) × (List Int) × (List Int) × (List Int)) × Unit)) (setup1 : Int) (hold1 : Int) (v15 : Int) (v16 : Int) (v6 : (List Int) × (List Int) × (List Int) × (List Int)) (c : (List Int) × (List Int) × (List Int) × (List Int)) : Option (((List Int) × (List Int) × (List Int) × (List Int)) × Unit) :=
  bif ilt v16 v15 then
    chk (fitB (c.2.1.length + 1) 8) <|
    chk (fitB (c.2.2.2.length + 1) 8) <|
    kx setup1 hold1 v15 (iadd .i64 v16 1) v6 (c.1, (c.2.1 ++ [setup1], (c.2.2.1, c.2.2.2 ++ [hold1])))
  else
    impl_evenCase_K1 N v6 c
def impl_evenCase_L1 (N fu_ : Nat) (setup1 : Int) (hold1 : Int) (v15 : Int) (v16 : Int) (v6 : (List Int) × (List Int) × (List Int) × (List Int)) (c : (List Int) × (List Int) × (List Int) × (List Int)) : Option (((List Int) × (List Int) × (List Int) × (List Int)) × Unit) :=
  iterK fu_ (fun kx (v_ : (Int × Int × Int × Int × Unit) × (((List Int) × (List Int) × (List Int) × (List Int)) × ((List Int) × (List Int) × (List Int) × (List Int)) × Unit)) => impl_evenCase_B1 N (fun setup1 hold1 v15 v16 v6 c => kx ((setup1, hold1, v15, v16, ()), (v6, c, ()))) v_.1.1 v_.1.2.1 v_.1.2.2.1 v_.1.2.2.2.1 v_.2.1 v_.2.2.1) ((setup1, hold1, v15, v16, ()), (v6, c, ()))
theorem impl_evenCase_L1_succ (N fu_ : Nat) (setup1 : Int) (hold1 : Int) (v15 : Int) (v16 : Int) (v6 : (List Int) × (List Int) × (List Int) × (List Int)) (c : (List Int) × (List Int) × (List Int) × (List Int)) : impl_evenCase_L1 N (fu_ + 1) setup1 hold1 v15 v16 v6 c = impl_evenCase_B1 N (fun setup1 hold1 v15 v16 v6 c => impl_evenCase_L1 N fu_ setup1 hold1 v15 v16 v6 c) setup1 hold1 v15 v16 v6 c := rfl
theorem impl_evenCase_L1_run (N : Nat) (setup1 : Nat → Int) (hold1 : Nat → Int) (v15 : Nat → Int) (v16 : Nat → Int) (v6 : Nat → ((List Int) × (List Int) × (List Int) × (List Int))) (c : Nat → ((List Int) × (List Int) × (List Int) × (List Int))) (n_ : Nat) {res_ : Option (((List Int) × (List Int) × (List Int) × (List Int)) × Unit)} (hstep_ : ∀ j_, j_ < n_ → ∀ kx_, impl_evenCase_B1 N kx_ (setup1 j_) (hold1 j_) (v15 j_) (v16 j_) (v6 j_) (c j_) = kx_ (setup1 (j_ + 1)) (hold1 (j_ + 1)) (v15 (j_ + 1)) (v16 (j_ + 1)) (v6 (j_ + 1)) (c (j_ + 1))) (hend_ : ∀ kx_, impl_evenCase_B1 N kx_ (setup1 n_) (hold1 n_) (v15 n_) (v16 n_) (v6 n_) (c n_) = res_) (fu_ : Nat) (hm_ : n_ < fu_) : impl_evenCase_L1 N fu_ (setup1 0) (hold1 0) (v15 0) (v16 0) (v6 0) (c 0) = res_ := by
  exact loop_run (L := fun fu_ (x_ : Int × Int × Int × Int × ((List Int) × (List Int) × (List Int) × (List Int)) × ((List Int) × (List Int) × (List Int) × (List Int))) => impl_evenCase_L1 N fu_ x_.1 x_.2.1 x_.2.2.1 x_.2.2.2.1 x_.2.2.2.2.1 x_.2.2.2.2.2) (B := fun kx_ x_ => impl_evenCase_B1 N (fun setup1 hold1 v15 v16 v6 c => kx_ (setup1, hold1, v15, v16, v6, c)) x_.1 x_.2.1 x_.2.2.1 x_.2.2.2.1 x_.2.2.2.2.1 x_.2.2.2.2.2) (fun _ _ => rfl) (fun j_ => (setup1 j_, hold1 j_, v15 j_, v16 j_, v6 j_, c j_)) n_ (fun j_ hi_ kx_ => hstep_ j_ hi_ _) (fun kx_ => hend_ _) fu_ hm_
def impl_evenCase (N : Nat) (need : List Int) (setup : Int) (hold : Int) : Option (((List Int) × (List Int) × (List Int) × (List Int)) × Unit) :=
  (impl_copied N need).bind fun r =>
  chk (mkB (len need) 8) <|
  impl_evenCase_L1 N N setup hold (len need) 0 ([], ([], ([], []))) (r.1, ([], (List.replicate (len need).toNat 0, [])))
def impl_Case_planFrom_K1 (N : Nat) (kx : (List Int) → Int → (List Int) → Int → Int → (List Int) → Option (((List Int) × Bool) × Unit)) (periods3 : List Int) (next2 : Int) (need1 : Int) (v152 : List Int) (v162 : Int) (v172 : Int) (plan2 : List Int) : Option (((List Int) × Bool) × Unit) :=
  bif ieq next2 0 then
    bif ilt 0 need1 then
      some (([], false), ())
    else
      kx periods3 next2 v152 v162 (iadd .i64 v172 1) plan2
  else
    chk (inB (isub .i64 next2 1) periods3.length) <|
    chk (inB (gd periods3 (isub .i64 next2 1).toNat 0) plan2.length) <|
    chk (inB (gd periods3 (isub .i64 next2 1).toNat 0) plan2.length) <|
    kx periods3 next2 v152 v162 (iadd .i64 v172 1) (List.set plan2 (gd periods3 (isub .i64 next2 1).toNat 0).toNat (iadd .i64 (gd plan2 (gd periods3 (isub .i64 next2 1).toNat 0).toNat 0) need1))
def impl_Case_planFrom_K2 (N : Nat) (kx : (List Int) → Int → (List Int) → Int → Int → (List Int) → Option (((List Int) × Bool) × Unit)) (periods2 : List Int) (next1 : Int) (need : Int) (v151 : List Int) (v161 : Int) (v171 : Int) (v33 : Bool) (plan1 : List Int) : Option (((List Int) × Bool) × Unit) :=
  bif v33 then
    impl_Case_planFrom_K1 N kx periods2 (iadd .i64 next1 1) need v151 v161 v171 plan1
  else
    impl_Case_planFrom_K1 N kx periods2 next1 need v151 v161 v171 plan1
def impl_Case_planFrom_K3 (N : Nat) (plan3 : List Int) : Option (((List Int) × Bool) × Unit) :=
  some ((plan3, true), ())
def impl_Case_planFrom_B1 (N : Nat) (kx : (List Int) → Int → (List Int) → Int → Int → (List Int) → Option (((List Int) × Bool) × Unit)) (periods1 : List Int) (next : Int) (v15 : List Int) (v16 : Int) (v17 : Int) (plan : List Int) : Option (((List Int) × Bool) × Unit) :=
  bif ilt v17 v16 then
    chk (inB v17 v15.length) <|
    bif ilt next (len periods1) then
      chk (inB next periods1.length) <|
      impl_Case_planFrom_K2 N kx periods1 next (gd v15 v17.toNat 0) v15 v16 v17 (ieq (gd periods1 next.toNat 0) v17) plan
    else
      impl_Case_planFrom_K2 N kx periods1 next (gd v15 v17.toNat 0) v15 v16 v17 false plan
  else
    impl_Case_planFrom_K3 N plan
def impl_Case_planFrom_L1 (N fu_ : Nat) (periods1 : List Int) (next : Int) (v15 : List Int) (v16 : Int) (v17 : Int) (plan : List Int) : Option (((List Int) × Bool) × Unit) :=
  iterK fu_ (fun kx (v_ : ((List Int) × Int × (List Int) × Int × Int × Unit) × ((List Int) × Unit)) => impl_Case_planFrom_B1 N (fun periods1 next v15 v16 v17 plan => kx ((periods1, next, v15, v16, v17, ()), (plan, ()))) v_.1.1 v_.1.2.1 v_.1.2.2.1 v_.1.2.2.2.1 v_.1.2.2.2.2.1 v_.2.1) ((periods1, next, v15, v16, v17, ()), (plan, ()))
theorem impl_Case_planFrom_L1_succ (N fu_ : Nat) (periods1 : List Int) (next : Int) (v15 : List Int) (v16 : Int) (v17 : Int) (plan : List Int) : impl_Case_planFrom_L1 N (fu_ + 1) periods1 next v15 v16 v17 plan = impl_Case_planFrom_B1 N (fun periods1 next v15 v16 v17 plan => impl_Case_planFrom_L1 N fu_ periods1 next v15 v16 v17 plan) periods1 next v15 v16 v17 plan := rfl
theorem impl_Case_planFrom_L1_run (N : Nat) (periods1 : Nat → (List Int)) (next : Nat → Int) (v15 : Nat → (List Int)) (v16 : Nat → Int) (v17 : Nat → Int) (plan : Nat → (List Int)) (n_ : Nat) {res_ : Option (((List Int) × Bool) × Unit)} (hstep_ : ∀ j_, j_ < n_ → ∀ kx_, impl_Case_planFrom_B1 N kx_ (periods1 j_) (next j_) (v15 j_) (v16 j_) (v17 j_) (plan j_) = kx_ (periods1 (j_ + 1)) (next (j_ + 1)) (v15 (j_ + 1)) (v16 (j_ + 1)) (v17 (j_ + 1)) (plan (j_ + 1))) (hend_ : ∀ kx_, impl_Case_planFrom_B1 N kx_ (periods1 n_) (next n_) (v15 n_) (v16 n_) (v17 n_) (plan n_) = res_) (fu_ : Nat) (hm_ : n_ < fu_) : impl_Case_planFrom_L1 N fu_ (periods1 0) (next 0) (v15 0) (v16 0) (v17 0) (plan 0) = res_ := by
  exact loop_run (L := fun fu_ (x_ : (List Int) × Int × (List Int) × Int × Int × (List Int)) => impl_Case_planFrom_L1 N fu_ x_.1 x_.2.1 x_.2.2.1 x_.2.2.2.1 x_.2.2.2.2.1 x_.2.2.2.2.2) (B := fun kx_ x_ => impl_Case_planFrom_B1 N (fun periods1 next v15 v16 v17 plan => kx_ (periods1, next, v15, v16, v17, plan)) x_.1 x_.2.1 x_.2.2.1 x_.2.2.2.1 x_.2.2.2.2.1 x_.2.2.2.2.2) (fun _ _ => rfl) (fun j_ => (periods1 j_, next j_, v15 j_, v16 j_, v17 j_, plan j_)) n_ (fun j_ hi_ kx_ => hstep_ j_ hi_ _) (fun kx_ => hend_ _) fu_ hm_
def impl_Case_planFrom (N : Nat) (c : (List Int) × (List Int) × (List Int) × (List Int)) (periods : List Int) : Option (((List Int) × Bool) × Unit) :=
  chk (mkB (len c.1) 8) <|
  impl_Case_planFrom_L1 N N periods 0 c.1 (len c.1) 0 (List.replicate (len c.1).toNat 0)
def impl_Chain_nested_K1 (N : Nat) (out1 : List (List Int)) : Option (((List (List Int)) × Bool) × Unit) :=
  some ((out1, true), ())
def impl_Chain_nested_B1 (N : Nat) (kx : (List (List Int)) → Int → Int → ((List Int) × (List Int) × (List Int)) → (List (List Int)) → Option (((List (List Int)) × Bool) × Unit)) (v12 : List (List Int)) (v13 : Int) (v14 : Int) (c1 : (List Int) × (List Int) × (List Int)) (out : List (List Int)) : Option (((List (List Int)) × Bool) × Unit) :=
  bif ilt v14 v13 then
    chk (inB v14 v12.length) <|
    (impl_evenCase N c1.1 0 0).bind fun r =>
    (impl_Case_planFrom N r.1 (gd v12 v14.toNat [])).bind fun r1 =>
    bif !r1.1.2 then
      some (([], false), ())
    else
      chk (fitB (out.length + 1) 24) <|
      kx v12 v13 (iadd .i64 v14 1) c1 (out ++ [r1.1.1])
  else
    impl_Chain_nested_K1 N out
def impl_Chain_nested_L1 (N fu_ : Nat) (v12 : List (List Int)) (v13 : Int) (v14 : Int) (c1 : (List Int) × (List Int) × (List Int)) (out : List (List Int)) : Option (((List (List Int)) × Bool) × Unit) :=
  iterK fu_ (fun kx (v_ : ((List (List Int)) × Int × Int × Unit) × (((List Int) × (List Int) × (List Int)) × (List (List Int)) × Unit)) => impl_Chain_nested_B1 N (fun v12 v13 v14 c1 out => kx ((v12, v13, v14, ()), (c1, out, ()))) v_.1.1 v_.1.2.1 v_.1.2.2.1 v_.2.1 v_.2.2.1) ((v12, v13, v14, ()), (c1, out, ()))
theorem impl_Chain_nested_L1_succ (N fu_ : Nat) (v12 : List (List Int)) (v13 : Int) (v14 : Int) (c1 : (List Int) × (List Int) × (List Int)) (out : List (List Int)) : impl_Chain_nested_L1 N (fu_ + 1) v12 v13 v14 c1 out = impl_Chain_nested_B1 N (fun v12 v13 v14 c1 out => impl_Chain_nested_L1 N fu_ v12 v13 v14 c1 out) v12 v13 v14 c1 out := rfl
theorem impl_Chain_nested_L1_run (N : Nat) (v12 : Nat → (List (List Int))) (v13 : Nat → Int) (v14 : Nat → Int) (c1 : Nat → ((List Int) × (List Int) × (List Int))) (out : Nat → (List (List Int))) (n_ : Nat) {res_ : Option (((List (List Int)) × Bool) × Unit)} (hstep_ : ∀ j_, j_ < n_ → ∀ kx_, impl_Chain_nested_B1 N kx_ (v12 j_) (v13 j_) (v14 j_) (c1 j_) (out j_) = kx_ (v12 (j_ + 1)) (v13 (j_ + 1)) (v14 (j_ + 1)) (c1 (j_ + 1)) (out (j_ + 1))) (hend_ : ∀ kx_, impl_Chain_nested_B1 N kx_ (v12 n_) (v13 n_) (v14 n_) (c1 n_) (out n_) = res_) (fu_ : Nat) (hm_ : n_ < fu_) : impl_Chain_nested_L1 N fu_ (v12 0) (v13 0) (v14 0) (c1 0) (out 0) = res_ := by
  exact loop_run (L := fun fu_ (x_ : (List (List Int)) × Int × Int × ((List Int) × (List Int) × (List Int)) × (List (List Int))) => impl_Chain_nested_L1 N fu_ x_.1 x_.2.1 x_.2.2.1 x_.2.2.2.1 x_.2.2.2.2) (B := fun kx_ x_ => impl_Chain_nested_B1 N (fun v12 v13 v14 c1 out => kx_ (v12, v13, v14, c1, out)) x_.1 x_.2.1 x_.2.2.1 x_.2.2.2.1 x_.2.2.2.2) (fun _ _ => rfl) (fun j_ => (v12 j_, v13 j_, v14 j_, c1 j_, out j_)) n_ (fun j_ hi_ kx_ => hstep_ j_ hi_ _) (fun kx_ => hend_ _) fu_ hm_
def impl_Chain_nested (N : Nat) (c : (List Int) × (List Int) × (List Int)) (periods : List (List Int)) : Option (((List (List Int)) × Bool) × Unit) :=
  impl_Chain_nested_L1 N N periods (len periods) 0 c []
def cmp_Compare_int (N : Nat) (x : Int) (y : Int) : Option (Int × Unit) :=
  (cmp_isNaN_int N x).bind fun r =>
  (cmp_isNaN_int N y).bind fun r1 =>
  bif r.1 then
    bif r1.1 then
      some (0, ())
    else
      some ((-1), ())
  else
    bif r1.1 then
      some (1, ())
    else
      bif ilt x y then
        some ((-1), ())
      else
        bif ilt y x then
          some (1, ())
        else
          some (0, ())
def slices_Compare_int_int_K1 (N : Nat) (s12 : List Int) (s22 : List Int) : Option (Int × Unit) :=
  bif ilt (len s12) (len s22) then
    some ((-1), ())
  else
    some (0, ())
def slices_Compare_int_int_B1 (N : Nat) (kx : (List Int) → (List Int) → (List Int) → Int → Int → Option (Int × Unit)) (s11 : List Int) (s21 : List Int) (v9 : List Int) (v10 : Int) (v11 : Int) : Option (Int × Unit) :=
  bif ilt v11 v10 then
    chk (inB v11 v9.length) <|
    bif ile (len s21) v11 then
      some (1, ())
    else
      chk (inB v11 s21.length) <|
      (cmp_Compare_int N (gd v9 v11.toNat 0) (gd s21 v11.toNat 0)).bind fun r =>
      bif ine r.1 0 then
        some (r.1, ())
      else
        kx s11 s21 v9 v10 (iadd .i64 v11 1)
  else
    slices_Compare_int_int_K1 N s11 s21
def slices_Compare_int_int_L1 (N fu_ : Nat) (s11 : List Int) (s21 : List Int) (v9 : List Int) (v10 : Int) (v11 : Int) : Option (Int × Unit) :=
  iterK fu_ (fun kx (v_ : ((List Int) × (List Int) × (List Int) × Int × Int × Unit) × (Unit)) => slices_Compare_int_int_B1 N (fun s11 s21 v9 v10 v11 => kx ((s11, s21, v9, v10, v11, ()), ())) v_.1.1 v_.1.2.1 v_.1.2.2.1 v_.1.2.2.2.1 v_.1.2.2.2.2.1) ((s11, s21, v9, v10, v11, ()), ())
theorem slices_Compare_int_int_L1_succ (N fu_ : Nat) (s11 : List Int) (s21 : List Int) (v9 : List Int) (v10 : Int) (v11 : Int) : slices_Compare_int_int_L1 N (fu_ + 1) s11 s21 v9 v10 v11 = slices_Compare_int_int_B1 N (fun s11 s21 v9 v10 v11 => slices_Compare_int_int_L1 N fu_ s11 s21 v9 v10 v11) s11 s21 v9 v10 v11 := rfl
theorem slices_Compare_int_int_L1_run (N : Nat) (s11 : Nat → (List Int)) (s21 : Nat → (List Int)) (v9 : Nat → (List Int)) (v10 : Nat → Int) (v11 : Nat → Int) (n_ : Nat) {res_ : Option (Int × Unit)} (hstep_ : ∀ j_, j_ < n_ → ∀ kx_, slices_Compare_int_int_B1 N kx_ (s11 j_) (s21 j_) (v9 j_) (v10 j_) (v11 j_) = kx_ (s11 (j_ + 1)) (s21 (j_ + 1)) (v9 (j_ + 1)) (v10 (j_ + 1)) (v11 (j_ + 1))) (hend_ : ∀ kx_, slices_Compare_int_int_B1 N kx_ (s11 n_) (s21 n_) (v9 n_) (v10 n_) (v11 n_) = res_) (fu_ : Nat) (hm_ : n_ < fu_) : slices_Compare_int_int_L1 N fu_ (s11 0) (s21 0) (v9 0) (v10 0) (v11 0) = res_ := by
  exact loop_run (L := fun fu_ (x_ : (List Int) × (List Int) × (List Int) × Int × Int) => slices_Compare_int_int_L1 N fu_ x_.1 x_.2.1 x_.2.2.1 x_.2.2.2.1 x_.2.2.2.2) (B := fun kx_ x_ => slices_Compare_int_int_B1 N (fun s11 s21 v9 v10 v11 => kx_ (s11, s21, v9, v10, v11)) x_.1 x_.2.1 x_.2.2.1 x_.2.2.2.1 x_.2.2.2.2) (fun _ _ => rfl) (fun j_ => (s11 j_, s21 j_, v9 j_, v10 j_, v11 j_)) n_ (fun j_ hi_ kx_ => hstep_ j_ hi_ _) (fun kx_ => hend_ _) fu_ hm_
def slices_Compare_int_int (N : Nat) (s1 : List Int) (s2 : List Int) : Option (Int × Unit) :=
  slices_Compare_int_int_L1 N N s1 s2 s1 (len s1) 0
def impl_Chain_bestNested_1 (N : Nat) (a : List Int) (b : List Int) : Option (Int × Unit) :=
  (slices_Compare_int_int N a b).bind fun r =>
  some (r.1, ())
def slices_CompareFunc_int_int_int_int__impl_Chain_bestNested_1_K1 (N : Nat) (s12 : List (List Int)) (s22 : List (List Int)) : Option (Int × Unit) :=
  bif ilt (len s12) (len s22) then
    some ((-1), ())
  else
    some (0, ())
def slices_CompareFunc_int_int_int_int__impl_Chain_bestNested_1_B1 (N : Nat) (kx : (List (List Int)) → (List (List Int)) → (List (List Int)) → Int → Int → Option (Int × Unit)) (s11 : List (List Int)) (s21 : List (List Int)) (v11 : List (List Int)) (v12 : Int) (v13 : Int) : Option (Int × Unit) :=
  bif ilt v13 v12 then
    chk (inB v13 v11.length) <|
    bif ile (len s21) v13 then
      some (1, ())
    else
      chk (inB v13 s21.length) <|
      (impl_Chain_bestNested_1 N (gd v11 v13.toNat []) (gd s21 v13.toNat [])).bind fun r =>
      bif ine r.1 0 then
        some (r.1, ())
      else
        kx s11 s21 v11 v12 (iadd .i64 v13 1)
  else
    slices_CompareFunc_int_int_int_int__impl_Chain_bestNested_1_K1 N s11 s21
def slices_CompareFunc_int_int_int_int__impl_Chain_bestNested_1_L1 (N fu_ : Nat) (s11 : List (List Int)) (s21 : List (List Int)) (v11 : List (List Int)) (v12 : Int) (v13 : Int) : Option (Int × Unit) :=
  iterK fu_ (fun kx (v_ : ((List (List Int)) × (List (List Int)) × (List (List Int)) × Int × Int × Unit) × (Unit)) => slices_CompareFunc_int_int_int_int__impl_Chain_bestNested_1_B1 N (fun s11 s21 v11 v12 v13 => kx ((s11, s21, v11, v12, v13, ()), ())) v_.1.1 v_.1.2.1 v_.1.2.2.1 v_.1.2.2.2.1 v_.1.2.2.2.2.1) ((s11, s21, v11, v12, v13, ()), ())
theorem slices_CompareFunc_int_int_int_int__impl_Chain_bestNested_1_L1_succ (N fu_ : Nat) (s11 : List (List Int)) (s21 : List (List Int)) (v11 : List (List Int)) (v12 : Int) (v13 : Int) : slices_CompareFunc_int_int_int_int__impl_Chain_bestNested_1_L1 N (fu_ + 1) s11 s21 v11 v12 v13 = slices_CompareFunc_int_int_int_int__impl_Chain_bestNested_1_B1 N (fun s11 s21 v11 v12 v13 => slices_CompareFunc_int_int_int_int__impl_Chain_bestNested_1_L1 N fu_ s11 s21 v11 v12 v13) s11 s21 v11 v12 v13 := rfl
theorem slices_CompareFunc_int_int_int_int__impl_Chain_bestNested_1_L1_run (N : Nat) (s11 : Nat → (List (List Int))) (s21 : Nat → (List (List Int))) (v11 : Nat → (List (List Int))) (v12 : Nat → Int) (v13 : Nat → Int) (n_ : Nat) {res_ : Option (Int × Unit)} (hstep_ : ∀ j_, j_ < n_ → ∀ kx_, slices_CompareFunc_int_int_int_int__impl_Chain_bestNested_1_B1 N kx_ (s11 j_) (s21 j_) (v11 j_) (v12 j_) (v13 j_) = kx_ (s11 (j_ + 1)) (s21 (j_ + 1)) (v11 (j_ + 1)) (v12 (j_ + 1)) (v13 (j_ + 1))) (hend_ : ∀ kx_, slices_CompareFunc_int_int_int_int__impl_Chain_bestNested_1_B1 N kx_ (s11 n_) (s21 n_) (v11 n_) (v12 n_) (v13 n_) = res_) (fu_ : Nat) (hm_ : n_ < fu_) : slices_CompareFunc_int_int_int_int__impl_Chain_bestNested_1_L1 N fu_ (s11 0) (s21 0) (v11 0) (v12 0) (v13 0) = res_ := by
  exact loop_run (L := fun fu_ (x_ : (List (List Int)) × (List (List Int)) × (List (List Int)) × Int × Int) => slices_CompareFunc_int_int_int_int__impl_Chain_bestNested_1_L1 N fu_ x_.1 x_.2.1 x_.2.2.1 x_.2.2.2.1 x_.2.2.2.2) (B := fun kx_ x_ => slices_CompareFunc_int_int_int_int__impl_Chain_bestNested_1_B1 N (fun s11 s21 v11 v12 v13 => kx_ (s11, s21, v11, v12, v13)) x_.1 x_.2.1 x_.2.2.1 x_.2.2.2.1 x_.2.2.2.2) (fun _ _ => rfl) (fun j_ => (s11 j_, s21 j_, v11 j_, v12 j_, v13 j_)) n_ (fun j_ hi_ kx_ => hstep_ j_ hi_ _) (fun kx_ => hend_ _) fu_ hm_
def slices_CompareFunc_int_int_int_int__impl_Chain_bestNested_1 (N : Nat) (s1 : List (List Int)) (s2 : List (List Int)) : Option (Int × Unit) :=
  slices_CompareFunc_int_int_int_int__impl_Chain_bestNested_1_L1 N N s1 s2 s1 (len s1) 0
def impl_Chain_bestNested_K1 (N : Nat) (kx1 : Int → Int → Int → Int → Int → Int → Int → Int → Int → Int → ((List Int) × (List Int) × (List Int)) → (List (List Int)) → (List (List Int)) → Option (((List (List Int)) × Int) × Unit)) (n3 : Int) (stages3 : Int) (least3 : Int) (length3 : Int) (code2 : Int) (sum2 : Int) (digit1 : Int) (v283 : Int) (v293 : Int) (v342 : Int) (v352 : Int) (c4 : (List Int) × (List Int) × (List Int)) (best3 : List (List Int)) (periods2 : List (List Int)) : Option (((List (List Int)) × Int) × Unit) :=
  kx1 n3 stages3 least3 length3 code2 (iadd .i64 sum2 digit1) v283 v293 v342 (iadd .i64 v352 1) c4 best3 periods2
def impl_Chain_bestNested_B1 (N : Nat) (kx1 : Int → Int → Int → Int → Int → Int → Int → Int → Int → Int → ((List Int) × (List Int) × (List Int)) → (List (List Int)) → (List (List Int)) → Option (((List (List Int)) × Int) × Unit)) (kx2 : Int → Int → Int → Int → Int → Int → Int → Int → Int → Int → Int → Int → Int → ((List Int) × (List Int) × (List Int)) → (List (List Int)) → (List (List Int)) → Option (((List (List Int)) × Int) × Unit)) (n2 : Int) (stages2 : Int) (least2 : Int) (length2 : Int) (code1 : Int) (sum1 : Int) (i : Int) (digit : Int) (stage : Int) (v282 : Int) (v292 : Int) (v341 : Int) (v351 : Int) (c3 : (List Int) × (List Int) × (List Int)) (best2 : List (List Int)) (periods1 : List (List Int)) : Option (((List (List Int)) × Int) × Unit) :=
  bif ilt stage stages2 then
    chk (inB stage periods1.length) <|
    chk (fitB ((gd periods1 stage.toNat []).length + 1) 8) <|
    chk (inB stage periods1.length) <|
    chk (natEq stage.toNat stage.toNat) <|
    kx2 n2 stages2 least2 length2 code1 sum1 i digit (iadd .i64 stage 1) v282 v292 v341 v351 c3 best2 (List.set periods1 stage.toNat ((gd periods1 stage.toNat []) ++ [i]))
  else
    impl_Chain_bestNested_K1 N kx1 n2 stages2 least2 length2 code1 sum1 digit v282 v292 v341 v351 c3 best2 periods1
def impl_Chain_bestNested_L1 (N fu_ : Nat) (kx1 : Int → Int → Int → Int → Int → Int → Int → Int → Int → Int → ((List Int) × (List Int) × (List Int)) → (List (List Int)) → (List (List Int)) → Option (((List (List Int)) × Int) × Unit)) (n2 : Int) (stages2 : Int) (least2 : Int) (length2 : Int) (code1 : Int) (sum1 : Int) (i : Int) (digit : Int) (stage : Int) (v282 : Int) (v292 : Int) (v341 : Int) (v351 : Int) (c3 : (List Int) × (List Int) × (List Int)) (best2 : List (List Int)) (periods1 : List (List Int)) : Option (((List (List Int)) × Int) × Unit) :=
  iterK fu_ (fun kx2 (v_ : (Int × Int × Int × Int × Int × Int × Int × Int × Int × Int × Int × Int × Int × Unit) × (((List Int) × (List Int) × (List Int)) × (List (List Int)) × (List (List Int)) × Unit)) => impl_Chain_bestNested_B1 N kx1 (fun n2 stages2 least2 length2 code1 sum1 i digit stage v282 v292 v341 v351 c3 best2 periods1 => kx2 ((n2, stages2, least2, length2, code1, sum1, i, digit, stage, v282, v292, v341, v351, ()), (c3, best2, periods1, ()))) v_.1.1 v_.1.2.1 v_.1.2.2.1 v_.1.2.2.2.1 v_.1.2.2.2.2.1 v_.1.2.2.2.2.2.1 v_.1.2.2.2.2.2.2.1 v_.1.2.2.2.2.2.2.2.1 v_.1.2.2.2.2.2.2.2.2.1 v_.1.2.2.2.2.2.2.2.2.2.1 v_.1.2.2.2.2.2.2.2.2.2.2.1 v_.1.2.2.2.2.2.2.2.2.2.2.2.1 v_.1.2.2.2.2.2.2.2.2.2.2.2.2.1 v_.2.1 v_.2.2.1 v_.2.2.2.1) ((n2, stages2, least2, length2, code1, sum1, i, digit, stage, v282, v292, v341, v351, ()), (c3, best2, periods1, ()))
theorem impl_Chain_bestNested_L1_succ (N fu_ : Nat) (kx1 : Int → Int → Int → Int → Int → Int → Int → Int → Int → Int → ((List Int) × (List Int) × (List Int)) → (List (List Int)) → (List (List Int)) → Option (((List (List Int)) × Int) × Unit)) (n2 : Int) (stages2 : Int) (least2 : Int) (length2 : Int) (code1 : Int) (sum1 : Int) (i : Int) (digit : Int) (stage : Int) (v282 : Int) (v292 : Int) (v341 : Int) (v351 : Int) (c3 : (List Int) × (List Int) × (List Int)) (best2 : List (List Int)) (periods1 : List (List Int)) : impl_Chain_bestNested_L1 N (fu_ + 1) kx1 n2 stages2 least2 length2 code1 sum1 i digit stage v282 v292 v341 v351 c3 best2 periods1 = impl_Chain_bestNested_B1 N kx1 (fun n2 stages2 least2 length2 code1 sum1 i digit stage v282 v292 v341 v351 c3 best2 periods1 => impl_Chain_bestNested_L1 N fu_ kx1 n2 stages2 least2 length2 code1 sum1 i digit stage v282 v292 v341 v351 c3 best2 periods1) n2 stages2 least2 length2 code1 sum1 i digit stage v282 v292 v341 v351 c3 best2 periods1 := rfl
theorem impl_Chain_bestNested_L1_run (N : Nat) (kx1 : Int → Int → Int → Int → Int → Int → Int → Int → Int → Int → ((List Int) × (List Int) × (List Int)) → (List (List Int)) → (List (List Int)) → Option (((List (List Int)) × Int) × Unit)) (n2 : Nat → Int) (stages2 : Nat → Int) (least2 : Nat → Int) (length2 : Nat → Int) (code1 : Nat → Int) (sum1 : Nat → Int) (i : Nat → Int) (digit : Nat → Int) (stage : Nat → Int) (v282 : Nat → Int) (v292 : Nat → Int) (v341 : Nat → Int) (v351 : Nat → Int) (c3 : Nat → ((List Int) × (List Int) × (List Int))) (best2 : Nat → (List (List Int))) (periods1 : Nat → (List (List Int))) (n_ : Nat) {res_ : Option (((List (List Int)) × Int) × Unit)} (hstep_ : ∀ j_, j_ < n_ → ∀ kx_, impl_Chain_bestNested_B1 N kx1 kx_ (n2 j_) (stages2 j_) (least2 j_) (length2 j_) (code1 j_) (sum1 j_) (i j_) (digit j_) (stage j_) (v282 j_) (v292 j_) (v341 j_) (v351 j_) (c3 j_) (best2 j_) (periods1 j_) = kx_ (n2 (j_ + 1)) (stages2 (j_ + 1)) (least2 (j_ + 1)) (length2 (j_ + 1)) (code1 (j_ + 1)) (sum1 (j_ + 1)) (i (j_ + 1)) (digit (j_ + 1)) (stage (j_ + 1)) (v282 (j_ + 1)) (v292 (j_ + 1)) (v341 (j_ + 1)) (v351 (j_ + 1)) (c3 (j_ + 1)) (best2 (j_ + 1)) (periods1 (j_ + 1))) (hend_ : ∀ kx_, impl_Chain_bestNested_B1 N kx1 kx_ (n2 n_) (stages2 n_) (least2 n_) (length2 n_) (code1 n_) (sum1 n_) (i n_) (digit n_) (stage n_) (v282 n_) (v292 n_) (v341 n_) (v351 n_) (c3 n_) (best2 n_) (periods1 n_) = res_) (fu_ : Nat) (hm_ : n_ < fu_) : impl_Chain_bestNested_L1 N fu_ kx1 (n2 0) (stages2 0) (least2 0) (length2 0) (code1 0) (sum1 0) (i 0) (digit 0) (stage 0) (v282 0) (v292 0) (v341 0) (v351 0) (c3 0) (best2 0) (periods1 0) = res_ := by
  exact loop_run (L := fun fu_ (x_ : Int × Int × Int × Int × Int × Int × Int × Int × Int × Int × Int × Int × Int × ((List Int) × (List Int) × (List Int)) × (List (List Int)) × (List (List Int))) => impl_Chain_bestNested_L1 N fu_ kx1 x_.1 x_.2.1 x_.2.2.1 x_.2.2.2.1 x_.2.2.2.2.1 x_.2.2.2.2.2.1 x_.2.2.2.2.2.2.1 x_.2.2.2.2.2.2.2.1 x_.2.2.2.2.2.2.2.2.1 x_.2.2.2.2.2.2.2.2.2.1 x_.2.2.2.2.2.2.2.2.2.2.1 x_.2.2.2.2.2.2.2.2.2.2.2.1 x_.2.2.2.2.2.2.2.2.2.2.2.2.1 x_.2.2.2.2.2.2.2.2.2.2.2.2.2.1 x_.2.2.2.2.2.2.2.2.2.2.2.2.2.2.1 x_.2.2.2.2.2.2.2.2.2.2.2.2.2.2.2) (B := fun kx_ x_ => impl_Chain_bestNested_B1 N kx1 (fun n2 stages2 least2 length2 code1 sum1 i digit stage v282 v292 v341 v351 c3 best2 periods1 => kx_ (n2, stages2, least2, length2, code1, sum1, i, digit, stage, v282, v292, v341, v351, c3, best2, periods1)) x_.1 x_.2.1 x_.2.2.1 x_.2.2.2.1 x_.2.2.2.2.1 x_.2.2.2.2.2.1 x_.2.2.2.2.2.2.1 x_.2.2.2.2.2.2.2.1 x_.2.2.2.2.2.2.2.2.1 x_.2.2.2.2.2.2.2.2.2.1 x_.2.2.2.2.2.2.2.2.2.2.1 x_.2.2.2.2.2.2.2.2.2.2.2.1 x_.2.2.2.2.2.2.2.2.2.2.2.2.1 x_.2.2.2.2.2.2.2.2.2.2.2.2.2.1 x_.2.2.2.2.2.2.2.2.2.2.2.2.2.2.1 x_.2.2.2.2.2.2.2.2.2.2.2.2.2.2.2) (fun _ _ => rfl) (fun j_ => (n2 j_, stages2 j_, least2 j_, length2 j_, code1 j_, sum1 j_, i j_, digit j_, stage j_, v282 j_, v292 j_, v341 j_, v351 j_, c3 j_, best2 j_, periods1 j_)) n_ (fun j_ hi_ kx_ => hstep_ j_ hi_ _) (fun kx_ => hend_ _) fu_ hm_
def impl_Chain_bestNested_K2 (N : Nat) (kx : Int → Int → Int → Int → Int → Int → ((List Int) × (List Int) × (List Int)) → (List (List Int)) → Option (((List (List Int)) × Int) × Unit)) (n5 : Int) (stages5 : Int) (least5 : Int) (length5 : Int) (sum4 : Int) (cost : Int) (before : Bool) (v285 : Int) (v295 : Int) (c6 : (List Int) × (List Int) × (List Int)) (best5 : List (List Int)) (periods4 : List (List Int)) : Option (((List (List Int)) × Int) × Unit) :=
  bif ilt cost least5 then
    kx n5 stages5 cost sum4 v285 (iadd .i64 v295 1) c6 periods4
  else
    bif ieq cost least5 then
      bif before then
        kx n5 stages5 cost sum4 v285 (iadd .i64 v295 1) c6 periods4
      else
        kx n5 stages5 least5 length5 v285 (iadd .i64 v295 1) c6 best5
    else
      kx n5 stages5 least5 length5 v285 (iadd .i64 v295 1) c6 best5
def impl_Chain_bestNested_K3 (N : Nat) (kx : Int → Int → Int → Int → Int → Int → ((List Int) × (List Int) × (List Int)) → (List (List Int)) → Option (((List (List Int)) × Int) × Unit)) (n4 : Int) (stages4 : Int) (least4 : Int) (length4 : Int) (sum3 : Int) (v284 : Int) (v294 : Int) (c5 : (List Int) × (List Int) × (List Int)) (best4 : List (List Int)) (periods3 : List (List Int)) : Option (((List (List Int)) × Int) × Unit) :=
  (impl_Chain_nested N c5 periods3).bind fun r2 =>
  bif !r2.1.2 then
    kx n4 stages4 least4 length4 v284 (iadd .i64 v294 1) c5 best4
  else
    (impl_Chain_cost N c5 r2.1.1).bind fun r3 =>
    bif ilt sum3 length4 then
      impl_Chain_bestNested_K2 N kx n4 stages4 least4 length4 sum3 r3.1 true v284 v294 c5 best4 periods3
    else
      bif ieq sum3 length4 then
        (slices_CompareFunc_int_int_int_int__impl_Chain_bestNested_1 N periods3 best4).bind fun r4 =>
        impl_Chain_bestNested_K2 N kx n4 stages4 least4 length4 sum3 r3.1 (ilt r4.1 0) v284 v294 c5 best4 periods3
      else
        impl_Chain_bestNested_K2 N kx n4 stages4 least4 length4 sum3 r3.1 false v284 v294 c5 best4 periods3
def impl_Chain_bestNested_B2 (N : Nat) (kx : Int → Int → Int → Int → Int → Int → ((List Int) × (List Int) × (List Int)) → (List (List Int)) → Option (((List (List Int)) × Int) × Unit)) (kx1 : Int → Int → Int → Int → Int → Int → Int → Int → Int → Int → ((List Int) × (List Int) × (List Int)) → (List (List Int)) → (List (List Int)) → Option (((List (List Int)) × Int) × Unit)) (n1 : Int) (stages1 : Int) (least1 : Int) (length1 : Int) (code : Int) (sum : Int) (v281 : Int) (v291 : Int) (v34 : Int) (v35 : Int) (c2 : (List Int) × (List Int) × (List Int)) (best1 : List (List Int)) (periods : List (List Int)) : Option (((List (List Int)) × Int) × Unit) :=
  bif ilt v35 v34 then
    (impl_power N (iadd .i64 stages1 1) v35).bind fun r1 =>
    chk (ine r1.1 0) <|
    chk (ine (iadd .i64 stages1 1) 0) <|
    impl_Chain_bestNested_L1 N N kx1 n1 stages1 least1 length1 code sum v35 (irem (iquo .i64 code r1.1) (iadd .i64 stages1 1)) (isub .i64 stages1 (irem (iquo .i64 code r1.1) (iadd .i64 stages1 1))) v281 v291 v34 v35 c2 best1 periods
  else
    impl_Chain_bestNested_K3 N kx n1 stages1 least1 length1 sum v281 v291 c2 best1 periods
def impl_Chain_bestNested_L2 (N fu_ : Nat) (kx : Int → Int → Int → Int → Int → Int → ((List Int) × (List Int) × (List Int)) → (List (List Int)) → Option (((List (List Int)) × Int) × Unit)) (n1 : Int) (stages1 : Int) (least1 : Int) (length1 : Int) (code : Int) (sum : Int) (v281 : Int) (v291 : Int) (v34 : Int) (v35 : Int) (c2 : (List Int) × (List Int) × (List Int)) (best1 : List (List Int)) (periods : List (List Int)) : Option (((List (List Int)) × Int) × Unit) :=
  iterK fu_ (fun kx1 (v_ : (Int × Int × Int × Int × Int × Int × Int × Int × Int × Int × Unit) × (((List Int) × (List Int) × (List Int)) × (List (List Int)) × (List (List Int)) × Unit)) => impl_Chain_bestNested_B2 N kx (fun n1 stages1 least1 length1 code sum v281 v291 v34 v35 c2 best1 periods => kx1 ((n1, stages1, least1, length1, code, sum, v281, v291, v34, v35, ()), (c2, best1, periods, ()))) v_.1.1 v_.1.2.1 v_.1.2.2.1 v_.1.2.2.2.1 v_.1.2.2.2.2.1 v_.1.2.2.2.2.2.1 v_.1.2.2.2.2.2.2.1 v_.1.2.2.2.2.2.2.2.1 v_.1.2.2.2.2.2.2.2.2.1 v_.1.2.2.2.2.2.2.2.2.2.1 v_.2.1 v_.2.2.1 v_.2.2.2.1) ((n1, stages1, least1, length1, code, sum, v281, v291, v34, v35, ()), (c2, best1, periods, ()))
theorem impl_Chain_bestNested_L2_succ (N fu_ : Nat) (kx : Int → Int → Int → Int → Int → Int → ((List Int) × (List Int) × (List Int)) → (List (List Int)) → Option (((List (List Int)) × Int) × Unit)) (n1 : Int) (stages1 : Int) (least1 : Int) (length1 : Int) (code : Int) (sum : Int) (v281 : Int) (v291 : Int) (v34 : Int) (v35 : Int) (c2 : (List Int) × (List Int) × (List Int)) (best1 : List (List Int)) (periods : List (List Int)) : impl_Chain_bestNested_L2 N (fu_ + 1) kx n1 stages1 least1 length1 code sum v281 v291 v34 v35 c2 best1 periods = impl_Chain_bestNested_B2 N kx (fun n1 stages1 least1 length1 code sum v281 v291 v34 v35 c2 best1 periods => impl_Chain_bestNested_L2 N fu_ kx n1 stages1 least1 length1 code sum v281 v291 v34 v35 c2 best1 periods) n1 stages1 least1 length1 code sum v281 v291 v34 v35 c2 best1 periods := rfl
theorem impl_Chain_bestNested_L2_run (N : Nat) (kx : Int → Int → Int → Int → Int → Int → ((List Int) × (List Int) × (List Int)) → (List (List Int)) → Option (((List (List Int)) × Int) × Unit)) (n1 : Nat → Int) (stages1 : Nat → Int) (least1 : Nat → Int) (length1 : Nat → Int) (code : Nat → Int) (sum : Nat → Int) (v281 : Nat → Int) (v291 : Nat → Int) (v34 : Nat → Int) (v35 : Nat → Int) (c2 : Nat → ((List Int) × (List Int) × (List Int))) (best1 : Nat → (List (List Int))) (periods : Nat → (List (List Int))) (n_ : Nat) {res_ : Option (((List (List Int)) × Int) × Unit)} (hstep_ : ∀ j_, j_ < n_ → ∀ kx_, impl_Chain_bestNested_B2 N kx kx_ (n1 j_) (stages1 j_) (least1 j_) (length1 j_) (code j_) (sum j_) (v281 j_) (v291 j_) (v34 j_) (v35 j_) (c2 j_) (best1 j_) (periods j_) = kx_ (n1 (j_ + 1)) (stages1 (j_ + 1)) (least1 (j_ + 1)) (length1 (j_ + 1)) (code (j_ + 1)) (sum (j_ + 1)) (v281 (j_ + 1)) (v291 (j_ + 1)) (v34 (j_ + 1)) (v35 (j_ + 1)) (c2 (j_ + 1)) (best1 (j_ + 1)) (periods (j_ + 1))) (hend_ : ∀ kx_, impl_Chain_bestNested_B2 N kx kx_ (n1 n_) (stages1 n_) (least1 n_) (length1 n_) (code n_) (sum n_) (v281 n_) (v291 n_) (v34 n_) (v35 n_) (c2 n_) (best1 n_) (periods n_) = res_) (fu_ : Nat) (hm_ : n_ < fu_) : impl_Chain_bestNested_L2 N fu_ kx (n1 0) (stages1 0) (least1 0) (length1 0) (code 0) (sum 0) (v281 0) (v291 0) (v34 0) (v35 0) (c2 0) (best1 0) (periods 0) = res_ := by
  exact loop_run (L := fun fu_ (x_ : Int × Int × Int × Int × Int × Int × Int × Int × Int × Int × ((List Int) × (List Int) × (List Int)) × (List (List Int)) × (List (List Int))) => impl_Chain_bestNested_L2 N fu_ kx x_.1 x_.2.1 x_.2.2.1 x_.2.2.2.1 x_.2.2.2.2.1 x_.2.2.2.2.2.1 x_.2.2.2.2.2.2.1 x_.2.2.2.2.2.2.2.1 x_.2.2.2.2.2.2.2.2.1 x_.2.2.2.2.2.2.2.2.2.1 x_.2.2.2.2.2.2.2.2.2.2.1 x_.2.2.2.2.2.2.2.2.2.2.2.1 x_.2.2.2.2.2.2.2.2.2.2.2.2) (B := fun kx_ x_ => impl_Chain_bestNested_B2 N kx (fun n1 stages1 least1 length1 code sum v281 v291 v34 v35 c2 best1 periods => kx_ (n1, stages1, least1, length1, code, sum, v281, v291, v34, v35, c2, best1, periods)) x_.1 x_.2.1 x_.2.2.1 x_.2.2.2.1 x_.2.2.2.2.1 x_.2.2.2.2.2.1 x_.2.2.2.2.2.2.1 x_.2.2.2.2.2.2.2.1 x_.2.2.2.2.2.2.2.2.1 x_.2.2.2.2.2.2.2.2.2.1 x_.2.2.2.2.2.2.2.2.2.2.1 x_.2.2.2.2.2.2.2.2.2.2.2.1 x_.2.2.2.2.2.2.2.2.2.2.2.2) (fun _ _ => rfl) (fun j_ => (n1 j_, stages1 j_, least1 j_, length1 j_, code j_, sum j_, v281 j_, v291 j_, v34 j_, v35 j_, c2 j_, best1 j_, periods j_)) n_ (fun j_ hi_ kx_ => hstep_ j_ hi_ _) (fun kx_ => hend_ _) fu_ hm_
def impl_Chain_bestNested_K4 (N : Nat) (least6 : Int) (best6 : List (List Int)) : Option (((List (List Int)) × Int) × Unit) :=
  some ((best6, least6), ())
def impl_Chain_bestNested_B3 (N : Nat) (kx : Int → Int → Int → Int → Int → Int → ((List Int) × (List Int) × (List Int)) → (List (List Int)) → Option (((List (List Int)) × Int) × Unit)) (n : Int) (stages : Int) (least : Int) (length : Int) (v28 : Int) (v29 : Int) (c1 : (List Int) × (List Int) × (List Int)) (best : List (List Int)) : Option (((List (List Int)) × Int) × Unit) :=
  bif ilt v29 v28 then
    chk (mkB stages 24) <|
    impl_Chain_bestNested_L2 N N kx n stages least length v29 0 v28 v29 n 0 c1 best (List.replicate stages.toNat ([] : List Int))
  else
    impl_Chain_bestNested_K4 N least best
def impl_Chain_bestNested_L3 (N fu_ : Nat) (n : Int) (stages : Int) (least : Int) (length : Int) (v28 : Int) (v29 : Int) (c1 : (List Int) × (List Int) × (List Int)) (best : List (List Int)) : Option (((List (List Int)) × Int) × Unit) :=
  iterK fu_ (fun kx (v_ : (Int × Int × Int × Int × Int × Int × Unit) × (((List Int) × (List Int) × (List Int)) × (List (List Int)) × Unit)) => impl_Chain_bestNested_B3 N (fun n stages least length v28 v29 c1 best => kx ((n, stages, least, length, v28, v29, ()), (c1, best, ()))) v_.1.1 v_.1.2.1 v_.1.2.2.1 v_.1.2.2.2.1 v_.1.2.2.2.2.1 v_.1.2.2.2.2.2.1 v_.2.1 v_.2.2.1) ((n, stages, least, length, v28, v29, ()), (c1, best, ()))
theorem impl_Chain_bestNested_L3_succ (N fu_ : Nat) (n : Int) (stages : Int) (least : Int) (length : Int) (v28 : Int) (v29 : Int) (c1 : (List Int) × (List Int) × (List Int)) (best : List (List Int)) : impl_Chain_bestNested_L3 N (fu_ + 1) n stages least length v28 v29 c1 best = impl_Chain_bestNested_B3 N (fun n stages least length v28 v29 c1 best => impl_Chain_bestNested_L3 N fu_ n stages least length v28 v29 c1 best) n stages least length v28 v29 c1 best := rfl
theorem impl_Chain_bestNested_L3_run (N : Nat) (n : Nat → Int) (stages : Nat → Int) (least : Nat → Int) (length : Nat → Int) (v28 : Nat → Int) (v29 : Nat → Int) (c1 : Nat → ((List Int) × (List Int) × (List Int))) (best : Nat → (List (List Int))) (n_ : Nat) {res_ : Option (((List (List Int)) × Int) × Unit)} (hstep_ : ∀ j_, j_ < n_ → ∀ kx_, impl_Chain_bestNested_B3 N kx_ (n j_) (stages j_) (least j_) (length j_) (v28 j_) (v29 j_) (c1 j_) (best j_) = kx_ (n (j_ + 1)) (stages (j_ + 1)) (least (j_ + 1)) (length (j_ + 1)) (v28 (j_ + 1)) (v29 (j_ + 1)) (c1 (j_ + 1)) (best (j_ + 1))) (hend_ : ∀ kx_, impl_Chain_bestNested_B3 N kx_ (n n_) (stages n_) (least n_) (length n_) (v28 n_) (v29 n_) (c1 n_) (best n_) = res_) (fu_ : Nat) (hm_ : n_ < fu_) : impl_Chain_bestNested_L3 N fu_ (n 0) (stages 0) (least 0) (length 0) (v28 0) (v29 0) (c1 0) (best 0) = res_ := by
  exact loop_run (L := fun fu_ (x_ : Int × Int × Int × Int × Int × Int × ((List Int) × (List Int) × (List Int)) × (List (List Int))) => impl_Chain_bestNested_L3 N fu_ x_.1 x_.2.1 x_.2.2.1 x_.2.2.2.1 x_.2.2.2.2.1 x_.2.2.2.2.2.1 x_.2.2.2.2.2.2.1 x_.2.2.2.2.2.2.2) (B := fun kx_ x_ => impl_Chain_bestNested_B3 N (fun n stages least length v28 v29 c1 best => kx_ (n, stages, least, length, v28, v29, c1, best)) x_.1 x_.2.1 x_.2.2.1 x_.2.2.2.1 x_.2.2.2.2.1 x_.2.2.2.2.2.1 x_.2.2.2.2.2.2.1 x_.2.2.2.2.2.2.2) (fun _ _ => rfl) (fun j_ => (n j_, stages j_, least j_, length j_, v28 j_, v29 j_, c1 j_, best j_)) n_ (fun j_ hi_ kx_ => hstep_ j_ hi_ _) (fun kx_ => hend_ _) fu_ hm_
def impl_Chain_bestNested (N : Nat) (c : (List Int) × (List Int) × (List Int)) : Option (((List (List Int)) × Int) × Unit) :=
  (impl_power N (iadd .i64 (len c.2.1) 1) (len c.1)).bind fun r =>
  impl_Chain_bestNested_L3 N N (len c.1) (len c.2.1) 1099511627776 0 r.1 0 c []
def impl_BestChainCost (N : Nat) (c : (List Int) × (List Int) × (List Int)) : Option ((Int × Bool) × Unit) :=
  (impl_IsChain N c).bind fun r =>
  bif !r.1 then
    some ((0, false), ())
  else
    (impl_Chain_bestNested N c).bind fun r1 =>
    some ((r1.1.2, true), ())
def laws_eqIntS_K1 (N : Nat) : Option (Bool × Unit) :=
  some (true, ())
def laws_eqIntS_B1 (N : Nat) (kx : (List Int) → (List Int) → Int → Option (Bool × Unit)) (a1 : List Int) (b1 : List Int) (i : Int) : Option (Bool × Unit) :=
  bif ilt i (len a1) then
    chk (inB i a1.length) <|
    chk (inB i b1.length) <|
    bif ine (gd a1 i.toNat 0) (gd b1 i.toNat 0) then
      some (false, ())
    else
      kx a1 b1 (iadd .i64 i 1)
  else
    laws_eqIntS_K1 N
def laws_eqIntS_L1 (N fu_ : Nat) (a1 : List Int) (b1 : List Int) (i : Int) : Option (Bool × Unit) :=
  iterK fu_ (fun kx (v_ : ((List Int) × (List Int) × Int × Unit) × (Unit)) => laws_eqIntS_B1 N (fun a1 b1 i => kx ((a1, b1, i, ()), ())) v_.1.1 v_.1.2.1 v_.1.2.2.1) ((a1, b1, i, ()), ())
theorem laws_eqIntS_L1_succ (N fu_ : Nat) (a1 : List Int) (b1 : List Int) (i : Int) : laws_eqIntS_L1 N (fu_ + 1) a1 b1 i = laws_eqIntS_B1 N (fun a1 b1 i => laws_eqIntS_L1 N fu_ a1 b1 i) a1 b1 i := rfl
theorem laws_eqIntS_L1_run (N : Nat) (a1 : Nat → (List Int)) (b1 : Nat → (List Int)) (i : Nat → Int) (n_ : Nat) {res_ : Option (Bool × Unit)} (hstep_ : ∀ j_, j_ < n_ → ∀ kx_, laws_eqIntS_B1 N kx_ (a1 j_) (b1 j_) (i j_) = kx_ (a1 (j_ + 1)) (b1 (j_ + 1)) (i (j_ + 1))) (hend_ : ∀ kx_, laws_eqIntS_B1 N kx_ (a1 n_) (b1 n_) (i n_) = res_) (fu_ : Nat) (hm_ : n_ < fu_) : laws_eqIntS_L1 N fu_ (a1 0) (b1 0) (i 0) = res_ := by
  exact loop_run (L := fun fu_ (x_ : (List Int) × (List Int) × Int) => laws_eqIntS_L1 N fu_ x_.1 x_.2.1 x_.2.2) (B := fun kx_ x_ => laws_eqIntS_B1 N (fun a1 b1 i => kx_ (a1, b1, i)) x_.1 x_.2.1 x_.2.2) (fun _ _ => rfl) (fun j_ => (a1 j_, b1 j_, i j_)) n_ (fun j_ hi_ kx_ => hstep_ j_ hi_ _) (fun kx_ => hend_ _) fu_ hm_
def laws_eqIntS (N : Nat) (a : List Int) (b : List Int) : Option (Bool × Unit) :=
  bif ine (len a) (len b) then
    some (false, ())
  else
    laws_eqIntS_L1 N N a b 0
def laws_eqChain (N : Nat) (a : (List Int) × (List Int) × (List Int)) (b : (List Int) × (List Int) × (List Int)) : Option (Bool × Unit) :=
  (laws_eqIntS N a.1 b.1).bind fun r =>
  bif !r.1 then
    some (false, ())
  else
    (laws_eqIntS N a.2.1 b.2.1).bind fun r1 =>
    bif !r1.1 then
      some (false, ())
    else
      (laws_eqIntS N a.2.2 b.2.2).bind fun r2 =>
      bif !r2.1 then
        some (false, ())
      else
        some (true, ())
def laws_FnExactBestChainCost (N : Nat) (aC : (List Int) × (List Int) × (List Int)) : Option (Bool × Unit) :=
  (laws_szChain N aC 1048576).bind fun r =>
  bif ilt r.1 0 then
    some (true, ())
  else
    (laws_toChain N aC).bind fun r1 =>
    (spec_BestChainCost N r1.1).bind fun r2 =>
    (laws_toChain N aC).bind fun r3 =>
    (impl_BestChainCost N r3.1).bind fun r4 =>
    bif ine r4.1.1 r2.1.1 then
      some (false, ())
    else
      bif !(Go.Rx.beq r4.1.2 r2.1.2) then
        some (false, ())
      else
        (laws_toChain N aC).bind fun r5 =>
        (laws_eqChain N r3.1 r5.1).bind fun r6 =>
        bif !r6.1 then
          some (false, ())
        else
          some (true, ())
end Px
end Go.Rx
