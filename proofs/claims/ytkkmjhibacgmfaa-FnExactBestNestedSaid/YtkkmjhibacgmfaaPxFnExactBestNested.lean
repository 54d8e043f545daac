/- This text defines the plain functions that the Go functions behind FnExactBestNested compute; no condition. -/
import Derived.Test.YtkkmjhibacgmfaaRxd
set_option linter.unusedVariables false
set_option linter.unusedSimpArgs false
namespace Go.Rx
namespace Px
def laws_szIntS (N : Nat) (a : List Int) (left : Int) : Option (Int × Unit) :=
  bif ilt (isub .i64 left (len a)) 0 then
    some ((-1), ())
  else
    some (isub .i64 left (len a), ())
def laws_szChain (N : Nat) (a : (List Int) × (List Int) × (List Int)) (left : Int) : Option (Int × Unit) :=
  (laws_szIntS N a.1 left).bind fun r =>
  bif ilt r.1 0 then
    some ((-1), ())
  else
    (laws_szIntS N a.2.1 r.1).bind fun r1 =>
    bif ilt r1.1 0 then
      some ((-1), ())
    else
      (laws_szIntS N a.2.2 r1.1).bind fun r2 =>
      bif ilt r2.1 0 then
        some ((-1), ())
      else
        some (r2.1, ())
def laws_toIntS_K1 (N : Nat) (out1 : List Int) : Option ((List Int) × Unit) :=
  some (out1, ())
def laws_toIntS_B1 (N : Nat) (kx : (List Int) → Int → (List Int) → Option ((List Int) × Unit)) (a1 : List Int) (i : Int) (out : List Int) : Option ((List Int) × Unit) :=
  bif ilt i (len a1) then
    chk (inB i a1.length) <|
    chk (inB i out.length) <|
    kx a1 (iadd .i64 i 1) (List.set out i.toNat (gd a1 i.toNat 0))
  else
    laws_toIntS_K1 N out
def laws_toIntS_L1 (N fu_ : Nat) (a1 : List Int) (i : Int) (out : List Int) : Option ((List Int) × Unit) :=
  iterK fu_ (fun kx (v_ : ((List Int) × Int × Unit) × ((List Int) × Unit)) => laws_toIntS_B1 N (fun a1 i out => kx ((a1, i, ()), (out, ()))) v_.1.1 v_.1.2.1 v_.2.1) ((a1, i, ()), (out, ()))
theorem laws_toIntS_L1_succ (N fu_ : Nat) (a1 : List Int) (i : Int) (out : List Int) : laws_toIntS_L1 N (fu_ + 1) a1 i out = laws_toIntS_B1 N (fun a1 i out => laws_toIntS_L1 N fu_ a1 i out) a1 i out := rfl
theorem laws_toIntS_L1_run (N : Nat) (a1 : Nat → (List Int)) (i : Nat → Int) (out : Nat → (List Int)) (n_ : Nat) {res_ : Option ((List Int) × Unit)} (hstep_ : ∀ j_, j_ < n_ → ∀ kx_, laws_toIntS_B1 N kx_ (a1 j_) (i j_) (out j_) = kx_ (a1 (j_ + 1)) (i (j_ + 1)) (out (j_ + 1))) (hend_ : ∀ kx_, laws_toIntS_B1 N kx_ (a1 n_) (i n_) (out n_) = res_) (fu_ : Nat) (hm_ : n_ < fu_) : laws_toIntS_L1 N fu_ (a1 0) (i 0) (out 0) = res_ := by
  exact loop_run (L := fun fu_ (x_ : (List Int) × Int × (List Int)) => laws_toIntS_L1 N fu_ x_.1 x_.2.1 x_.2.2) (B := fun kx_ x_ => laws_toIntS_B1 N (fun a1 i out => kx_ (a1, i, out)) x_.1 x_.2.1 x_.2.2) (fun _ _ => rfl) (fun j_ => (a1 j_, i j_, out j_)) n_ (fun j_ hi_ kx_ => hstep_ j_ hi_ _) (fun kx_ => hend_ _) fu_ hm_
def laws_toIntS (N : Nat) (a : List Int) : Option ((List Int) × Unit) :=
  chk (mkB (len a) 8) <|
  laws_toIntS_L1 N N a 0 (List.replicate (len a).toNat 0)
def laws_toChain (N : Nat) (a : (List Int) × (List Int) × (List Int)) : Option (((List Int) × (List Int) × (List Int)) × Unit) :=
  (laws_toIntS N a.1).bind fun r =>
  (laws_toIntS N a.2.1).bind fun r1 =>
  (laws_toIntS N a.2.2).bind fun r2 =>
  some ((r.1, (r1.1, r2.1)), ())
def laws_eqIntS_K1 (N : Nat) : Option (Bool × Unit) :=
  some (true, ())
def laws_eqIntS_B1 (N : Nat) (kx : (List Int) → (List Int) → Int → Option (Bool × Unit)) (a1 : List Int) (b1 : List Int) (i : Int) : Option (Bool × Unit) :=
  bif ilt i (len a1) then
    chk (inB i a1.length) <|
    chk (inB i b1.length) <|
    bif ine (gd a1 i.toNat 0) (gd b1 i.toNat 0) then
      some (false, ())
    else
      kx a1 b1 (iadd .i64 i 1)
  else
    laws_eqIntS_K1 N
def laws_eqIntS_L1 (N fu_ : Nat) (a1 : List Int) (b1 : List Int) (i : Int) : Option (Bool × Unit) :=
  iterK fu_ (fun kx (v_ : ((List Int) × (List Int) × Int × Unit) × (Unit)) => laws_eqIntS_B1 N (fun a1 b1 i => kx ((a1, b1, i, ()), ())) v_.1.1 v_.1.2.1 v_.1.2.2.1) ((a1, b1, i, ()), ())
theorem laws_eqIntS_L1_succ (N fu_ : Nat) (a1 : List Int) (b1 : List Int) (i : Int) : laws_eqIntS_L1 N (fu_ + 1) a1 b1 i = laws_eqIntS_B1 N (fun a1 b1 i => laws_eqIntS_L1 N fu_ a1 b1 i) a1 b1 i := rfl
theorem laws_eqIntS_L1_run (N : Nat) (a1 : Nat → (List Int)) (b1 : Nat → (List Int)) (i : Nat → Int) (n_ : Nat) {res_ : Option (Bool × Unit)} (hstep_ : ∀ j_, j_ < n_ → ∀ kx_, laws_eqIntS_B1 N kx_ (a1 j_) (b1 j_) (i j_) = kx_ (a1 (j_ + 1)) (b1 (j_ + 1)) (i (j_ + 1))) (hend_ : ∀ kx_, laws_eqIntS_B1 N kx_ (a1 n_) (b1 n_) (i n_) = res_) (fu_ : Nat) (hm_ : n_ < fu_) : laws_eqIntS_L1 N fu_ (a1 0) (b1 0) (i 0) = res_ := by
  exact loop_run (L := fun fu_ (x_ : (List Int) × (List Int) × Int) => laws_eqIntS_L1 N fu_ x_.1 x_.2.1 x_.2.2) (B := fun kx_ x_ => laws_eqIntS_B1 N (fun a1 b1 i => kx_ (a1, b1, i)) x_.1 x_.2.1 x_.2.2) (fun _ _ => rfl) (fun j_ => (a1 j_, b1 j_, i j_)) n_ (fun j_ hi_ kx_ => hstep_ j_ hi_ _) (fun kx_ => hend_ _) fu_ hm_
def laws_eqIntS (N : Nat) (a : List Int) (b : List Int) : Option (Bool × Unit) :=
  bif ine (len a) (len b) then
    some (false, ())
  else
    laws_eqIntS_L1 N N a b 0
def laws_eqChain (N : Nat) (a : (List Int) × (List Int) × (List Int)) (b : (List Int) × (List Int) × (List Int)) : Option (Bool × Unit) :=
  (laws_eqIntS N a.1 b.1).bind fun r =>
  bif !r.1 then
    some (false, ())
  else
    (laws_eqIntS N a.2.1 b.2.1).bind fun r1 =>
    bif !r1.1 then
      some (false, ())
    else
      (laws_eqIntS N a.2.2 b.2.2).bind fun r2 =>
      bif !r2.1 then
        some (false, ())
      else
        some (true, ())
def laws_eqIntSS_K1 (N : Nat) : Option (Bool × Unit) :=
  some (true, ())
def laws_eqIntSS_B1 (N : Nat) (kx : (List (List Int)) → (List (List Int)) → Int → Option (Bool × Unit)) (a1 : List (List Int)) (b1 : List (List Int)) (i : Int) : Option (Bool × Unit) :=
  bif ilt i (len a1) then
    chk (inB i a1.length) <|
    chk (inB i b1.length) <|
    (laws_eqIntS N (gd a1 i.toNat []) (gd b1 i.toNat [])).bind fun r =>
    bif !r.1 then
      some (false, ())
    else
      kx a1 b1 (iadd .i64 i 1)
  else
    laws_eqIntSS_K1 N
def laws_eqIntSS_L1 (N fu_ : Nat) (a1 : List (List Int)) (b1 : List (List Int)) (i : Int) : Option (Bool × Unit) :=
  iterK fu_ (fun kx (v_ : ((List (List Int)) × (List (List Int)) × Int × Unit) × (Unit)) => laws_eqIntSS_B1 N (fun a1 b1 i => kx ((a1, b1, i, ()), ())) v_.1.1 v_.1.2.1 v_.1.2.2.1) ((a1, b1, i, ()), ())
theorem laws_eqIntSS_L1_succ (N fu_ : Nat) (a1 : List (List Int)) (b1 : List (List Int)) (i : Int) : laws_eqIntSS_L1 N (fu_ + 1) a1 b1 i = laws_eqIntSS_B1 N (fun a1 b1 i => laws_eqIntSS_L1 N fu_ a1 b1 i) a1 b1 i := rfl
theorem laws_eqIntSS_L1_run (N : Nat) (a1 : Nat → (List (List Int))) (b1 : Nat → (List (List Int))) (i : Nat → Int) (n_ : Nat) {res_ : Option (Bool × Unit)} (hstep_ : ∀ j_, j_ < n_ → ∀ kx_, laws_eqIntSS_B1 N kx_ (a1 j_) (b1 j_) (i j_) = kx_ (a1 (j_ + 1)) (b1 (j_ + 1)) (i (j_ + 1))) (hend_ : ∀ kx_, laws_eqIntSS_B1 N kx_ (a1 n_) (b1 n_) (i n_) = res_) (fu_ : Nat) (hm_ : n_ < fu_) : laws_eqIntSS_L1 N fu_ (a1 0) (b1 0) (i 0) = res_ := by
  exact loop_run (L := fun fu_ (x_ : (List (List Int)) × (List (List Int)) × Int) => laws_eqIntSS_L1 N fu_ x_.1 x_.2.1 x_.2.2) (B := fun kx_ x_ => laws_eqIntSS_B1 N (fun a1 b1 i => kx_ (a1, b1, i)) x_.1 x_.2.1 x_.2.2) (fun _ _ => rfl) (fun j_ => (a1 j_, b1 j_, i j_)) n_ (fun j_ hi_ kx_ => hstep_ j_ hi_ _) (fun kx_ => hend_ _) fu_ hm_
def laws_eqIntSS (N : Nat) (a : List (List Int)) (b : List (List Int)) : Option (Bool × Unit) :=
  bif ine (len a) (len b) then
    some (false, ())
  else
    laws_eqIntSS_L1 N N a b 0
def laws_markIntS_K1 (N : Nat) (kx3 : Int) (a2 : List Int) : Option (Int × (List Int)) :=
  some (kx3, a2)
def laws_markIntS_B1 (N : Nat) (kx2 : Int → Int → (List Int) → Option (Int × (List Int))) (kx1 : Int) (i : Int) (a1 : List Int) : Option (Int × (List Int)) :=
  bif ilt i (len a1) then
    chk (inB i a1.length) <|
    kx2 (iadd .i64 kx1 1) (iadd .i64 i 1) (List.set a1 i.toNat kx1)
  else
    laws_markIntS_K1 N kx1 a1
def laws_markIntS_L1 (N fu_ : Nat) (kx1 : Int) (i : Int) (a1 : List Int) : Option (Int × (List Int)) :=
  iterK fu_ (fun kx2 (v_ : (Int × Int × Unit) × ((List Int) × Unit)) => laws_markIntS_B1 N (fun kx1 i a1 => kx2 ((kx1, i, ()), (a1, ()))) v_.1.1 v_.1.2.1 v_.2.1) ((kx1, i, ()), (a1, ()))
theorem laws_markIntS_L1_succ (N fu_ : Nat) (kx1 : Int) (i : Int) (a1 : List Int) : laws_markIntS_L1 N (fu_ + 1) kx1 i a1 = laws_markIntS_B1 N (fun kx1 i a1 => laws_markIntS_L1 N fu_ kx1 i a1) kx1 i a1 := rfl
theorem laws_markIntS_L1_run (N : Nat) (kx1 : Nat → Int) (i : Nat → Int) (a1 : Nat → (List Int)) (n_ : Nat) {res_ : Option (Int × (List Int))} (hstep_ : ∀ j_, j_ < n_ → ∀ kx_, laws_markIntS_B1 N kx_ (kx1 j_) (i j_) (a1 j_) = kx_ (kx1 (j_ + 1)) (i (j_ + 1)) (a1 (j_ + 1))) (hend_ : ∀ kx_, laws_markIntS_B1 N kx_ (kx1 n_) (i n_) (a1 n_) = res_) (fu_ : Nat) (hm_ : n_ < fu_) : laws_markIntS_L1 N fu_ (kx1 0) (i 0) (a1 0) = res_ := by
  exact loop_run (L := fun fu_ (x_ : Int × Int × (List Int)) => laws_markIntS_L1 N fu_ x_.1 x_.2.1 x_.2.2) (B := fun kx_ x_ => laws_markIntS_B1 N (fun kx1 i a1 => kx_ (kx1, i, a1)) x_.1 x_.2.1 x_.2.2) (fun _ _ => rfl) (fun j_ => (kx1 j_, i j_, a1 j_)) n_ (fun j_ hi_ kx_ => hstep_ j_ hi_ _) (fun kx_ => hend_ _) fu_ hm_
def laws_markIntS (N : Nat) (a : List Int) (kx : Int) : Option (Int × (List Int)) :=
  laws_markIntS_L1 N N kx 0 a
def laws_markChain (N : Nat) (a : (List Int) × (List Int) × (List Int)) (kx : Int) : Option (Int × ((List Int) × (List Int) × (List Int))) :=
  (laws_markIntS N a.1 kx).bind fun r =>
  (laws_markIntS N a.2.1 r.1).bind fun r1 =>
  (laws_markIntS N a.2.2 r1.1).bind fun r2 =>
  some (r2.1, (r.2, (r1.2, r2.2)))
def laws_markIntSS_K1 (N : Nat) (kx3 : Int) (a2 : List (List Int)) : Option (Int × (List (List Int))) :=
  some (kx3, a2)
def laws_markIntSS_B1 (N : Nat) (kx2 : Int → Int → (List (List Int)) → Option (Int × (List (List Int)))) (kx1 : Int) (i : Int) (a1 : List (List Int)) : Option (Int × (List (List Int))) :=
  bif ilt i (len a1) then
    chk (inB i a1.length) <|
    (laws_markIntS N (gd a1 i.toNat []) kx1).bind fun r =>
    kx2 r.1 (iadd .i64 i 1) (List.set a1 i.toNat r.2)
  else
    laws_markIntSS_K1 N kx1 a1
def laws_markIntSS_L1 (N fu_ : Nat) (kx1 : Int) (i : Int) (a1 : List (List Int)) : Option (Int × (List (List Int))) :=
  iterK fu_ (fun kx2 (v_ : (Int × Int × Unit) × ((List (List Int)) × Unit)) => laws_markIntSS_B1 N (fun kx1 i a1 => kx2 ((kx1, i, ()), (a1, ()))) v_.1.1 v_.1.2.1 v_.2.1) ((kx1, i, ()), (a1, ()))
theorem laws_markIntSS_L1_succ (N fu_ : Nat) (kx1 : Int) (i : Int) (a1 : List (List Int)) : laws_markIntSS_L1 N (fu_ + 1) kx1 i a1 = laws_markIntSS_B1 N (fun kx1 i a1 => laws_markIntSS_L1 N fu_ kx1 i a1) kx1 i a1 := rfl
theorem laws_markIntSS_L1_run (N : Nat) (kx1 : Nat → Int) (i : Nat → Int) (a1 : Nat → (List (List Int))) (n_ : Nat) {res_ : Option (Int × (List (List Int)))} (hstep_ : ∀ j_, j_ < n_ → ∀ kx_, laws_markIntSS_B1 N kx_ (kx1 j_) (i j_) (a1 j_) = kx_ (kx1 (j_ + 1)) (i (j_ + 1)) (a1 (j_ + 1))) (hend_ : ∀ kx_, laws_markIntSS_B1 N kx_ (kx1 n_) (i n_) (a1 n_) = res_) (fu_ : Nat) (hm_ : n_ < fu_) : laws_markIntSS_L1 N fu_ (kx1 0) (i 0) (a1 0) = res_ := by
  exact loop_run (L := fun fu_ (x_ : Int × Int × (List (List Int))) => laws_markIntSS_L1 N fu_ x_.1 x_.2.1 x_.2.2) (B := fun kx_ x_ => laws_markIntSS_B1 N (fun kx1 i a1 => kx_ (kx1, i, a1)) x_.1 x_.2.1 x_.2.2) (fun _ _ => rfl) (fun j_ => (kx1 j_, i j_, a1 j_)) n_ (fun j_ hi_ kx_ => hstep_ j_ hi_ _) (fun kx_ => hend_ _) fu_ hm_
def laws_markIntSS (N : Nat) (a : List (List Int)) (kx : Int) : Option (Int × (List (List Int))) :=
  laws_markIntSS_L1 N N kx 0 a
def laws_heldIntS_K1 (N : Nat) (kx3 : Int) : Option (Int × Unit) :=
  some (kx3, ())
def laws_heldIntS_B1 (N : Nat) (kx2 : (List Int) → Int → Int → Option (Int × Unit)) (a1 : List Int) (kx1 : Int) (i : Int) : Option (Int × Unit) :=
  bif ilt i (len a1) then
    chk (inB i a1.length) <|
    bif ine (gd a1 i.toNat 0) kx1 then
      some ((-1), ())
    else
      kx2 a1 (iadd .i64 kx1 1) (iadd .i64 i 1)
  else
    laws_heldIntS_K1 N kx1
def laws_heldIntS_L1 (N fu_ : Nat) (a1 : List Int) (kx1 : Int) (i : Int) : Option (Int × Unit) :=
  iterK fu_ (fun kx2 (v_ : ((List Int) × Int × Int × Unit) × (Unit)) => laws_heldIntS_B1 N (fun a1 kx1 i => kx2 ((a1, kx1, i, ()), ())) v_.1.1 v_.1.2.1 v_.1.2.2.1) ((a1, kx1, i, ()), ())
theorem laws_heldIntS_L1_succ (N fu_ : Nat) (a1 : List Int) (kx1 : Int) (i : Int) : laws_heldIntS_L1 N (fu_ + 1) a1 kx1 i = laws_heldIntS_B1 N (fun a1 kx1 i => laws_heldIntS_L1 N fu_ a1 kx1 i) a1 kx1 i := rfl
theorem laws_heldIntS_L1_run (N : Nat) (a1 : Nat → (List Int)) (kx1 : Nat → Int) (i : Nat → Int) (n_ : Nat) {res_ : Option (Int × Unit)} (hstep_ : ∀ j_, j_ < n_ → ∀ kx_, laws_heldIntS_B1 N kx_ (a1 j_) (kx1 j_) (i j_) = kx_ (a1 (j_ + 1)) (kx1 (j_ + 1)) (i (j_ + 1))) (hend_ : ∀ kx_, laws_heldIntS_B1 N kx_ (a1 n_) (kx1 n_) (i n_) = res_) (fu_ : Nat) (hm_ : n_ < fu_) : laws_heldIntS_L1 N fu_ (a1 0) (kx1 0) (i 0) = res_ := by
  exact loop_run (L := fun fu_ (x_ : (List Int) × Int × Int) => laws_heldIntS_L1 N fu_ x_.1 x_.2.1 x_.2.2) (B := fun kx_ x_ => laws_heldIntS_B1 N (fun a1 kx1 i => kx_ (a1, kx1, i)) x_.1 x_.2.1 x_.2.2) (fun _ _ => rfl) (fun j_ => (a1 j_, kx1 j_, i j_)) n_ (fun j_ hi_ kx_ => hstep_ j_ hi_ _) (fun kx_ => hend_ _) fu_ hm_
def laws_heldIntS (N : Nat) (a : List Int) (kx : Int) : Option (Int × Unit) :=
  laws_heldIntS_L1 N N a kx 0
def laws_heldIntSS_K1 (N : Nat) (kx3 : Int) : Option (Int × Unit) :=
  some (kx3, ())
def laws_heldIntSS_B1 (N : Nat) (kx2 : (List (List Int)) → Int → Int → Option (Int × Unit)) (a1 : List (List Int)) (kx1 : Int) (i : Int) : Option (Int × Unit) :=
  bif ilt i (len a1) then
    chk (inB i a1.length) <|
    (laws_heldIntS N (gd a1 i.toNat []) kx1).bind fun r =>
    bif ilt r.1 0 then
      some ((-1), ())
    else
      kx2 a1 r.1 (iadd .i64 i 1)
  else
    laws_heldIntSS_K1 N kx1
def laws_heldIntSS_L1 (N fu_ : Nat) (a1 : List (List Int)) (kx1 : Int) (i : Int) : Option (Int × Unit) :=
  iterK fu_ (fun kx2 (v_ : ((List (List Int)) × Int × Int × Unit) × (Unit)) => laws_heldIntSS_B1 N (fun a1 kx1 i => kx2 ((a1, kx1, i, ()), ())) v_.1.1 v_.1.2.1 v_.1.2.2.1) ((a1, kx1, i, ()), ())
theorem laws_heldIntSS_L1_succ (N fu_ : Nat) (a1 : List (List Int)) (kx1 : Int) (i : Int) : laws_heldIntSS_L1 N (fu_ + 1) a1 kx1 i = laws_heldIntSS_B1 N (fun a1 kx1 i => laws_heldIntSS_L1 N fu_ a1 kx1 i) a1 kx1 i := rfl
theorem laws_heldIntSS_L1_run (N : Nat) (a1 : Nat → (List (List Int))) (kx1 : Nat → Int) (i : Nat → Int) (n_ : Nat) {res_ : Option (Int × Unit)} (hstep_ : ∀ j_, j_ < n_ → ∀ kx_, laws_heldIntSS_B1 N kx_ (a1 j_) (kx1 j_) (i j_) = kx_ (a1 (j_ + 1)) (kx1 (j_ + 1)) (i (j_ + 1))) (hend_ : ∀ kx_, laws_heldIntSS_B1 N kx_ (a1 n_) (kx1 n_) (i n_) = res_) (fu_ : Nat) (hm_ : n_ < fu_) : laws_heldIntSS_L1 N fu_ (a1 0) (kx1 0) (i 0) = res_ := by
  exact loop_run (L := fun fu_ (x_ : (List (List Int)) × Int × Int) => laws_heldIntSS_L1 N fu_ x_.1 x_.2.1 x_.2.2) (B := fun kx_ x_ => laws_heldIntSS_B1 N (fun a1 kx1 i => kx_ (a1, kx1, i)) x_.1 x_.2.1 x_.2.2) (fun _ _ => rfl) (fun j_ => (a1 j_, kx1 j_, i j_)) n_ (fun j_ hi_ kx_ => hstep_ j_ hi_ _) (fun kx_ => hend_ _) fu_ hm_
def laws_heldIntSS (N : Nat) (a : List (List Int)) (kx : Int) : Option (Int × Unit) :=
  laws_heldIntSS_L1 N N a kx 0
def spec_l1In (N : Nat) (x : Int) (a : Int) (b : Int) : Option (Bool × Unit) :=
  bif ile a x then
    some (ile x b, ())
  else
    some (false, ())
def spec_l2Row_K1 (N : Nat) (row2 : List Int) (n2 : Int) : Option (Bool × Unit) :=
  some (ieq (len row2) n2, ())
def spec_l2Row_B1 (N : Nat) (kx : (List Int) → Int → Int → Int → Option (Bool × Unit)) (row1 : List Int) (n1 : Int) (most1 : Int) (i : Int) : Option (Bool × Unit) :=
  bif ilt i (len row1) then
    chk (inB i row1.length) <|
    (spec_l1In N (gd row1 i.toNat 0) 0 most1).bind fun r =>
    bif !r.1 then
      some (false, ())
    else
      kx row1 n1 most1 (iadd .i64 i 1)
  else
    spec_l2Row_K1 N row1 n1
def spec_l2Row_L1 (N fu_ : Nat) (row1 : List Int) (n1 : Int) (most1 : Int) (i : Int) : Option (Bool × Unit) :=
  iterK fu_ (fun kx (v_ : ((List Int) × Int × Int × Int × Unit) × (Unit)) => spec_l2Row_B1 N (fun row1 n1 most1 i => kx ((row1, n1, most1, i, ()), ())) v_.1.1 v_.1.2.1 v_.1.2.2.1 v_.1.2.2.2.1) ((row1, n1, most1, i, ()), ())
theorem spec_l2Row_L1_succ (N fu_ : Nat) (row1 : List Int) (n1 : Int) (most1 : Int) (i : Int) : spec_l2Row_L1 N (fu_ + 1) row1 n1 most1 i = spec_l2Row_B1 N (fun row1 n1 most1 i => spec_l2Row_L1 N fu_ row1 n1 most1 i) row1 n1 most1 i := rfl
theorem spec_l2Row_L1_run (N : Nat) (row1 : Nat → (List Int)) (n1 : Nat → Int) (most1 : Nat → Int) (i : Nat → Int) (n_ : Nat) {res_ : Option (Bool × Unit)} (hstep_ : ∀ j_, j_ < n_ → ∀ kx_, spec_l2Row_B1 N kx_ (row1 j_) (n1 j_) (most1 j_) (i j_) = kx_ (row1 (j_ + 1)) (n1 (j_ + 1)) (most1 (j_ + 1)) (i (j_ + 1))) (hend_ : ∀ kx_, spec_l2Row_B1 N kx_ (row1 n_) (n1 n_) (most1 n_) (i n_) = res_) (fu_ : Nat) (hm_ : n_ < fu_) : spec_l2Row_L1 N fu_ (row1 0) (n1 0) (most1 0) (i 0) = res_ := by
  exact loop_run (L := fun fu_ (x_ : (List Int) × Int × Int × Int) => spec_l2Row_L1 N fu_ x_.1 x_.2.1 x_.2.2.1 x_.2.2.2) (B := fun kx_ x_ => spec_l2Row_B1 N (fun row1 n1 most1 i => kx_ (row1, n1, most1, i)) x_.1 x_.2.1 x_.2.2.1 x_.2.2.2) (fun _ _ => rfl) (fun j_ => (row1 j_, n1 j_, most1 j_, i j_)) n_ (fun j_ hi_ kx_ => hstep_ j_ hi_ _) (fun kx_ => hend_ _) fu_ hm_
def spec_l2Row (N : Nat) (row : List Int) (n : Int) (most : Int) : Option (Bool × Unit) :=
  spec_l2Row_L1 N N row n most 0
def spec_l7Good_K1 (N : Nat) : Option (Bool × Unit) :=
  some (true, ())
def spec_l7Good_B1 (N : Nat) (kx : Int → ((List Int) × (List Int) × (List Int)) → Option (Bool × Unit)) (s : Int) (c1 : (List Int) × (List Int) × (List Int)) : Option (Bool × Unit) :=
  bif ilt s (len c1.2.2) then
    chk (inB s c1.2.2.length) <|
    chk (inB (isub .i64 s 1) c1.2.2.length) <|
    bif ilt (gd c1.2.2 s.toNat 0) (gd c1.2.2 (isub .i64 s 1).toNat 0) then
      some (false, ())
    else
      kx (iadd .i64 s 1) c1
  else
    spec_l7Good_K1 N
def spec_l7Good_L1 (N fu_ : Nat) (s : Int) (c1 : (List Int) × (List Int) × (List Int)) : Option (Bool × Unit) :=
  iterK fu_ (fun kx (v_ : (Int × Unit) × (((List Int) × (List Int) × (List Int)) × Unit)) => spec_l7Good_B1 N (fun s c1 => kx ((s, ()), (c1, ()))) v_.1.1 v_.2.1) ((s, ()), (c1, ()))
theorem spec_l7Good_L1_succ (N fu_ : Nat) (s : Int) (c1 : (List Int) × (List Int) × (List Int)) : spec_l7Good_L1 N (fu_ + 1) s c1 = spec_l7Good_B1 N (fun s c1 => spec_l7Good_L1 N fu_ s c1) s c1 := rfl
theorem spec_l7Good_L1_run (N : Nat) (s : Nat → Int) (c1 : Nat → ((List Int) × (List Int) × (List Int))) (n_ : Nat) {res_ : Option (Bool × Unit)} (hstep_ : ∀ j_, j_ < n_ → ∀ kx_, spec_l7Good_B1 N kx_ (s j_) (c1 j_) = kx_ (s (j_ + 1)) (c1 (j_ + 1))) (hend_ : ∀ kx_, spec_l7Good_B1 N kx_ (s n_) (c1 n_) = res_) (fu_ : Nat) (hm_ : n_ < fu_) : spec_l7Good_L1 N fu_ (s 0) (c1 0) = res_ := by
  exact loop_run (L := fun fu_ (x_ : Int × ((List Int) × (List Int) × (List Int))) => spec_l7Good_L1 N fu_ x_.1 x_.2) (B := fun kx_ x_ => spec_l7Good_B1 N (fun s c1 => kx_ (s, c1)) x_.1 x_.2) (fun _ _ => rfl) (fun j_ => (s j_, c1 j_)) n_ (fun j_ hi_ kx_ => hstep_ j_ hi_ _) (fun kx_ => hend_ _) fu_ hm_
def spec_l7Good (N : Nat) (c : (List Int) × (List Int) × (List Int)) : Option (Bool × Unit) :=
  bif ilt 6 (len c.1) then
    some (false, ())
  else
    (spec_l2Row N c.1 (len c.1) 20).bind fun r =>
    bif !r.1 then
      some (false, ())
    else
      (spec_l1In N (len c.2.1) 1 3).bind fun r1 =>
      bif !r1.1 then
        some (false, ())
      else
        (spec_l2Row N c.2.1 (len c.2.1) 99).bind fun r2 =>
        bif !r2.1 then
          some (false, ())
        else
          (spec_l2Row N c.2.2 (len c.2.1) 9).bind fun r3 =>
          bif !r3.1 then
            some (false, ())
          else
            spec_l7Good_L1 N N 1 c
def spec_l2Bits_K1 (N : Nat) (out1 : List Int) : Option ((List Int) × Unit) :=
  some (out1, ())
def spec_l2Bits_B1 (N : Nat) (kx : Int → Int → Int → (List Int) → Option ((List Int) × Unit)) (n1 : Int) (code1 : Int) (x : Int) (out : List Int) : Option ((List Int) × Unit) :=
  bif ilt x n1 then
    chk (ile 0 x) <|
    bif ieq (iand .i64 (ishr .i64 code1 x) 1) 1 then
      chk (fitB (out.length + 1) 8) <|
      kx n1 code1 (iadd .i64 x 1) (out ++ [x])
    else
      kx n1 code1 (iadd .i64 x 1) out
  else
    spec_l2Bits_K1 N out
def spec_l2Bits_L1 (N fu_ : Nat) (n1 : Int) (code1 : Int) (x : Int) (out : List Int) : Option ((List Int) × Unit) :=
  iterK fu_ (fun kx (v_ : (Int × Int × Int × Unit) × ((List Int) × Unit)) => spec_l2Bits_B1 N (fun n1 code1 x out => kx ((n1, code1, x, ()), (out, ()))) v_.1.1 v_.1.2.1 v_.1.2.2.1 v_.2.1) ((n1, code1, x, ()), (out, ()))
theorem spec_l2Bits_L1_succ (N fu_ : Nat) (n1 : Int) (code1 : Int) (x : Int) (out : List Int) : spec_l2Bits_L1 N (fu_ + 1) n1 code1 x out = spec_l2Bits_B1 N (fun n1 code1 x out => spec_l2Bits_L1 N fu_ n1 code1 x out) n1 code1 x out := rfl
theorem spec_l2Bits_L1_run (N : Nat) (n1 : Nat → Int) (code1 : Nat → Int) (x : Nat → Int) (out : Nat → (List Int)) (n_ : Nat) {res_ : Option ((List Int) × Unit)} (hstep_ : ∀ j_, j_ < n_ → ∀ kx_, spec_l2Bits_B1 N kx_ (n1 j_) (code1 j_) (x j_) (out j_) = kx_ (n1 (j_ + 1)) (code1 (j_ + 1)) (x (j_ + 1)) (out (j_ + 1))) (hend_ : ∀ kx_, spec_l2Bits_B1 N kx_ (n1 n_) (code1 n_) (x n_) (out n_) = res_) (fu_ : Nat) (hm_ : n_ < fu_) : spec_l2Bits_L1 N fu_ (n1 0) (code1 0) (x 0) (out 0) = res_ := by
  exact loop_run (L := fun fu_ (x_ : Int × Int × Int × (List Int)) => spec_l2Bits_L1 N fu_ x_.1 x_.2.1 x_.2.2.1 x_.2.2.2) (B := fun kx_ x_ => spec_l2Bits_B1 N (fun n1 code1 x out => kx_ (n1, code1, x, out)) x_.1 x_.2.1 x_.2.2.1 x_.2.2.2) (fun _ _ => rfl) (fun j_ => (n1 j_, code1 j_, x j_, out j_)) n_ (fun j_ hi_ kx_ => hstep_ j_ hi_ _) (fun kx_ => hend_ _) fu_ hm_
def spec_l2Bits (N : Nat) (n : Int) (code : Int) : Option ((List Int) × Unit) :=
  spec_l2Bits_L1 N N n code 0 []
def spec_l7Out (N : Nat) (c : (List Int) × (List Int) × (List Int)) (plan : List (List Int)) (stage : Int) (t : Int) : Option (Int × Unit) :=
  bif ilt (iadd .i64 stage 1) (len plan) then
    chk (inB (iadd .i64 stage 1) plan.length) <|
    chk (inB t (gd plan (iadd .i64 stage 1).toNat []).length) <|
    some (gd (gd plan (iadd .i64 stage 1).toNat []) t.toNat 0, ())
  else
    chk (inB t c.1.length) <|
    some (gd c.1 t.toNat 0, ())
def spec_l7Stocks_K1 (N : Nat) (kx : (List (List Int)) → Int → ((List Int) × (List Int) × (List Int)) → (List (List Int)) → Option ((List (List Int)) × Unit)) (plan3 : List (List Int)) (s2 : Int) (c3 : (List Int) × (List Int) × (List Int)) (out2 : List (List Int)) (row1 : List Int) : Option ((List (List Int)) × Unit) :=
  chk (fitB (out2.length + 1) 24) <|
  kx plan3 (iadd .i64 s2 1) c3 (out2 ++ [row1])
def spec_l7Stocks_B1 (N : Nat) (kx : (List (List Int)) → Int → ((List Int) × (List Int) × (List Int)) → (List (List Int)) → Option ((List (List Int)) × Unit)) (kx1 : (List (List Int)) → Int → Int → Int → ((List Int) × (List Int) × (List Int)) → (List (List Int)) → (List Int) → Option ((List (List Int)) × Unit)) (plan2 : List (List Int)) (s1 : Int) (now : Int) (t : Int) (c2 : (List Int) × (List Int) × (List Int)) (out1 : List (List Int)) (row : List Int) : Option ((List (List Int)) × Unit) :=
  bif ilt t (len c2.1) then
    chk (inB s1 plan2.length) <|
    chk (inB t (gd plan2 s1.toNat []).length) <|
    (spec_l7Out N c2 plan2 s1 t).bind fun r =>
    chk (fitB (row.length + 1) 8) <|
    kx1 plan2 s1 (isub .i64 (iadd .i64 now (gd (gd plan2 s1.toNat []) t.toNat 0)) r.1) (iadd .i64 t 1) c2 out1 (row ++ [isub .i64 (iadd .i64 now (gd (gd plan2 s1.toNat []) t.toNat 0)) r.1])
  else
    spec_l7Stocks_K1 N kx plan2 s1 c2 out1 row
def spec_l7Stocks_L1 (N fu_ : Nat) (kx : (List (List Int)) → Int → ((List Int) × (List Int) × (List Int)) → (List (List Int)) → Option ((List (List Int)) × Unit)) (plan2 : List (List Int)) (s1 : Int) (now : Int) (t : Int) (c2 : (List Int) × (List Int) × (List Int)) (out1 : List (List Int)) (row : List Int) : Option ((List (List Int)) × Unit) :=
  iterK fu_ (fun kx1 (v_ : ((List (List Int)) × Int × Int × Int × Unit) × (((List Int) × (List Int) × (List Int)) × (List (List Int)) × (List Int) × Unit)) => spec_l7Stocks_B1 N kx (fun plan2 s1 now t c2 out1 row => kx1 ((plan2, s1, now, t, ()), (c2, out1, row, ()))) v_.1.1 v_.1.2.1 v_.1.2.2.1 v_.1.2.2.2.1 v_.2.1 v_.2.2.1 v_.2.2.2.1) ((plan2, s1, now, t, ()), (c2, out1, row, ()))
theorem spec_l7Stocks_L1_succ (N fu_ : Nat) (kx : (List (List Int)) → Int → ((List Int) × (List Int) × (List Int)) → (List (List Int)) → Option ((List (List Int)) × Unit)) (plan2 : List (List Int)) (s1 : Int) (now : Int) (t : Int) (c2 : (List Int) × (List Int) × (List Int)) (out1 : List (List Int)) (row : List Int) : spec_l7Stocks_L1 N (fu_ + 1) kx plan2 s1 now t c2 out1 row = spec_l7Stocks_B1 N kx (fun plan2 s1 now t c2 out1 row => spec_l7Stocks_L1 N fu_ kx plan2 s1 now t c2 out1 row) plan2 s1 now t c2 out1 row := rfl
theorem spec_l7Stocks_L1_run (N : Nat) (kx : (List (List Int)) → Int → ((List Int) × (List Int) × (List Int)) → (List (List Int)) → Option ((List (List Int)) × Unit)) (plan2 : Nat → (List (List Int))) (s1 : Nat → Int) (now : Nat → Int) (t : Nat → Int) (c2 : Nat → ((List Int) × (List Int) × (List Int))) (out1 : Nat → (List (List Int))) (row : Nat → (List Int)) (n_ : Nat) {res_ : Option ((List (List Int)) × Unit)} (hstep_ : ∀ j_, j_ < n_ → ∀ kx_, spec_l7Stocks_B1 N kx kx_ (plan2 j_) (s1 j_) (now j_) (t j_) (c2 j_) (out1 j_) (row j_) = kx_ (plan2 (j_ + 1)) (s1 (j_ + 1)) (now (j_ + 1)) (t (j_ + 1)) (c2 (j_ + 1)) (out1 (j_ + 1)) (row (j_ + 1))) (hend_ : ∀ kx_, spec_l7Stocks_B1 N kx kx_ (plan2 n_) (s1 n_) (now n_) (t n_) (c2 n_) (out1 n_) (row n_) = res_) (fu_ : Nat) (hm_ : n_ < fu_) : spec_l7Stocks_L1 N fu_ kx (plan2 0) (s1 0) (now 0) (t 0) (c2 0) (out1 0) (row 0) = res_ := by
  exact loop_run (L := fun fu_ (x_ : (List (List Int)) × Int × Int × Int × ((List Int) × (List Int) × (List Int)) × (List (List Int)) × (List Int)) => spec_l7Stocks_L1 N fu_ kx x_.1 x_.2.1 x_.2.2.1 x_.2.2.2.1 x_.2.2.2.2.1 x_.2.2.2.2.2.1 x_.2.2.2.2.2.2) (B := fun kx_ x_ => spec_l7Stocks_B1 N kx (fun plan2 s1 now t c2 out1 row => kx_ (plan2, s1, now, t, c2, out1, row)) x_.1 x_.2.1 x_.2.2.1 x_.2.2.2.1 x_.2.2.2.2.1 x_.2.2.2.2.2.1 x_.2.2.2.2.2.2) (fun _ _ => rfl) (fun j_ => (plan2 j_, s1 j_, now j_, t j_, c2 j_, out1 j_, row j_)) n_ (fun j_ hi_ kx_ => hstep_ j_ hi_ _) (fun kx_ => hend_ _) fu_ hm_
def spec_l7Stocks_K2 (N : Nat) (out3 : List (List Int)) : Option ((List (List Int)) × Unit) :=
  some (out3, ())
def spec_l7Stocks_B2 (N : Nat) (kx : (List (List Int)) → Int → ((List Int) × (List Int) × (List Int)) → (List (List Int)) → Option ((List (List Int)) × Unit)) (plan1 : List (List Int)) (s : Int) (c1 : (List Int) × (List Int) × (List Int)) (out : List (List Int)) : Option ((List (List Int)) × Unit) :=
  bif ilt s (len plan1) then
    spec_l7Stocks_L1 N N kx plan1 s 0 0 c1 out []
  else
    spec_l7Stocks_K2 N out
def spec_l7Stocks_L2 (N fu_ : Nat) (plan1 : List (List Int)) (s : Int) (c1 : (List Int) × (List Int) × (List Int)) (out : List (List Int)) : Option ((List (List Int)) × Unit) :=
  iterK fu_ (fun kx (v_ : ((List (List Int)) × Int × Unit) × (((List Int) × (List Int) × (List Int)) × (List (List Int)) × Unit)) => spec_l7Stocks_B2 N (fun plan1 s c1 out => kx ((plan1, s, ()), (c1, out, ()))) v_.1.1 v_.1.2.1 v_.2.1 v_.2.2.1) ((plan1, s, ()), (c1, out, ()))
theorem spec_l7Stocks_L2_succ (N fu_ : Nat) (plan1 : List (List Int)) (s : Int) (c1 : (List Int) × (List Int) × (List Int)) (out : List (List Int)) : spec_l7Stocks_L2 N (fu_ + 1) plan1 s c1 out = spec_l7Stocks_B2 N (fun plan1 s c1 out => spec_l7Stocks_L2 N fu_ plan1 s c1 out) plan1 s c1 out := rfl
theorem spec_l7Stocks_L2_run (N : Nat) (plan1 : Nat → (List (List Int))) (s : Nat → Int) (c1 : Nat → ((List Int) × (List Int) × (List Int))) (out : Nat → (List (List Int))) (n_ : Nat) {res_ : Option ((List (List Int)) × Unit)} (hstep_ : ∀ j_, j_ < n_ → ∀ kx_, spec_l7Stocks_B2 N kx_ (plan1 j_) (s j_) (c1 j_) (out j_) = kx_ (plan1 (j_ + 1)) (s (j_ + 1)) (c1 (j_ + 1)) (out (j_ + 1))) (hend_ : ∀ kx_, spec_l7Stocks_B2 N kx_ (plan1 n_) (s n_) (c1 n_) (out n_) = res_) (fu_ : Nat) (hm_ : n_ < fu_) : spec_l7Stocks_L2 N fu_ (plan1 0) (s 0) (c1 0) (out 0) = res_ := by
  exact loop_run (L := fun fu_ (x_ : (List (List Int)) × Int × ((List Int) × (List Int) × (List Int)) × (List (List Int))) => spec_l7Stocks_L2 N fu_ x_.1 x_.2.1 x_.2.2.1 x_.2.2.2) (B := fun kx_ x_ => spec_l7Stocks_B2 N (fun plan1 s c1 out => kx_ (plan1, s, c1, out)) x_.1 x_.2.1 x_.2.2.1 x_.2.2.2) (fun _ _ => rfl) (fun j_ => (plan1 j_, s j_, c1 j_, out j_)) n_ (fun j_ hi_ kx_ => hstep_ j_ hi_ _) (fun kx_ => hend_ _) fu_ hm_
def spec_l7Stocks (N : Nat) (c : (List Int) × (List Int) × (List Int)) (plan : List (List Int)) : Option ((List (List Int)) × Unit) :=
  spec_l7Stocks_L2 N N plan 0 c []
def spec_l7Cost_K1 (N : Nat) (kx : (List (List Int)) → Int → Int → ((List Int) × (List Int) × (List Int)) → (List (List Int)) → Option (Int × Unit)) (plan3 : List (List Int)) (sum2 : Int) (s2 : Int) (c3 : (List Int) × (List Int) × (List Int)) (stocks2 : List (List Int)) : Option (Int × Unit) :=
  kx plan3 sum2 (iadd .i64 s2 1) c3 stocks2
def spec_l7Cost_B1 (N : Nat) (kx : (List (List Int)) → Int → Int → ((List Int) × (List Int) × (List Int)) → (List (List Int)) → Option (Int × Unit)) (kx1 : (List (List Int)) → Int → Int → Int → ((List Int) × (List Int) × (List Int)) → (List (List Int)) → Option (Int × Unit)) (plan2 : List (List Int)) (sum1 : Int) (s1 : Int) (t : Int) (c2 : (List Int) × (List Int) × (List Int)) (stocks1 : List (List Int)) : Option (Int × Unit) :=
  bif ilt t (len c2.1) then
    chk (inB s1 c2.2.2.length) <|
    chk (inB s1 stocks1.length) <|
    chk (inB t (gd stocks1 s1.toNat []).length) <|
    chk (inB s1 plan2.length) <|
    chk (inB t (gd plan2 s1.toNat []).length) <|
    bif ilt 0 (gd (gd plan2 s1.toNat []) t.toNat 0) then
      chk (inB s1 c2.2.1.length) <|
      kx1 plan2 (iadd .i64 (iadd .i64 sum1 (imul .i64 (gd c2.2.2 s1.toNat 0) (gd (gd stocks1 s1.toNat []) t.toNat 0))) (gd c2.2.1 s1.toNat 0)) s1 (iadd .i64 t 1) c2 stocks1
    else
      kx1 plan2 (iadd .i64 sum1 (imul .i64 (gd c2.2.2 s1.toNat 0) (gd (gd stocks1 s1.toNat []) t.toNat 0))) s1 (iadd .i64 t 1) c2 stocks1
  else
    spec_l7Cost_K1 N kx plan2 sum1 s1 c2 stocks1
def spec_l7Cost_L1 (N fu_ : Nat) (kx : (List (List Int)) → Int → Int → ((List Int) × (List Int) × (List Int)) → (List (List Int)) → Option (Int × Unit)) (plan2 : List (List Int)) (sum1 : Int) (s1 : Int) (t : Int) (c2 : (List Int) × (List Int) × (List Int)) (stocks1 : List (List Int)) : Option (Int × Unit) :=
  iterK fu_ (fun kx1 (v_ : ((List (List Int)) × Int × Int × Int × Unit) × (((List Int) × (List Int) × (List Int)) × (List (List Int)) × Unit)) => spec_l7Cost_B1 N kx (fun plan2 sum1 s1 t c2 stocks1 => kx1 ((plan2, sum1, s1, t, ()), (c2, stocks1, ()))) v_.1.1 v_.1.2.1 v_.1.2.2.1 v_.1.2.2.2.1 v_.2.1 v_.2.2.1) ((plan2, sum1, s1, t, ()), (c2, stocks1, ()))
theorem spec_l7Cost_L1_succ (N fu_ : Nat) (kx : (List (List Int)) → Int → Int → ((List Int) × (List Int) × (List Int)) → (List (List Int)) → Option (Int × Unit)) (plan2 : List (List Int)) (sum1 : Int) (s1 : Int) (t : Int) (c2 : (List Int) × (List Int) × (List Int)) (stocks1 : List (List Int)) : spec_l7Cost_L1 N (fu_ + 1) kx plan2 sum1 s1 t c2 stocks1 = spec_l7Cost_B1 N kx (fun plan2 sum1 s1 t c2 stocks1 => spec_l7Cost_L1 N fu_ kx plan2 sum1 s1 t c2 stocks1) plan2 sum1 s1 t c2 stocks1 := rfl
theorem spec_l7Cost_L1_run (N : Nat) (kx : (List (List Int)) → Int → Int → ((List Int) × (List Int) × (List Int)) → (List (List Int)) → Option (Int × Unit)) (plan2 : Nat → (List (List Int))) (sum1 : Nat → Int) (s1 : Nat → Int) (t : Nat → Int) (c2 : Nat → ((List Int) × (List Int) × (List Int))) (stocks1 : Nat → (List (List Int))) (n_ : Nat) {res_ : Option (Int × Unit)} (hstep_ : ∀ j_, j_ < n_ → ∀ kx_, spec_l7Cost_B1 N kx kx_ (plan2 j_) (sum1 j_) (s1 j_) (t j_) (c2 j_) (stocks1 j_) = kx_ (plan2 (j_ + 1)) (sum1 (j_ + 1)) (s1 (j_ + 1)) (t (j_ + 1)) (c2 (j_ + 1)) (stocks1 (j_ + 1))) (hend_ : ∀ kx_, spec_l7Cost_B1 N kx kx_ (plan2 n_) (sum1 n_) (s1 n_) (t n_) (c2 n_) (stocks1 n_) = res_) (fu_ : Nat) (hm_ : n_ < fu_) : spec_l7Cost_L1 N fu_ kx (plan2 0) (sum1 0) (s1 0) (t 0) (c2 0) (stocks1 0) = res_ := by
  exact loop_run (L := fun fu_ (x_ : (List (List Int)) × Int × Int × Int × ((List Int) × (List Int) × (List Int)) × (List (List Int))) => spec_l7Cost_L1 N fu_ kx x_.1 x_.2.1 x_.2.2.1 x_.2.2.2.1 x_.2.2.2.2.1 x_.2.2.2.2.2) (B := fun kx_ x_ => spec_l7Cost_B1 N kx (fun plan2 sum1 s1 t c2 stocks1 => kx_ (plan2, sum1, s1, t, c2, stocks1)) x_.1 x_.2.1 x_.2.2.1 x_.2.2.2.1 x_.2.2.2.2.1 x_.2.2.2.2.2) (fun _ _ => rfl) (fun j_ => (plan2 j_, sum1 j_, s1 j_, t j_, c2 j_, stocks1 j_)) n_ (fun j_ hi_ kx_ => hstep_ j_ hi_ _) (fun kx_ => hend_ _) fu_ hm_
def spec_l7Cost_K2 (N : Nat) (sum3 : Int) : Option (Int × Unit) :=
  some (sum3, ())
def spec_l7Cost_B2 (N : Nat) (kx : (List (List Int)) → Int → Int → ((List Int) × (List Int) × (List Int)) → (List (List Int)) → Option (Int × Unit)) (plan1 : List (List Int)) (sum : Int) (s : Int) (c1 : (List Int) × (List Int) × (List Int)) (stocks : List (List Int)) : Option (Int × Unit) :=
  bif ilt s (len plan1) then
    spec_l7Cost_L1 N N kx plan1 sum s 0 c1 stocks
  else
    spec_l7Cost_K2 N sum
def spec_l7Cost_L2 (N fu_ : Nat) (plan1 : List (List Int)) (sum : Int) (s : Int) (c1 : (List Int) × (List Int) × (List Int)) (stocks : List (List Int)) : Option (Int × Unit) :=
  iterK fu_ (fun kx (v_ : ((List (List Int)) × Int × Int × Unit) × (((List Int) × (List Int) × (List Int)) × (List (List Int)) × Unit)) => spec_l7Cost_B2 N (fun plan1 sum s c1 stocks => kx ((plan1, sum, s, ()), (c1, stocks, ()))) v_.1.1 v_.1.2.1 v_.1.2.2.1 v_.2.1 v_.2.2.1) ((plan1, sum, s, ()), (c1, stocks, ()))
theorem spec_l7Cost_L2_succ (N fu_ : Nat) (plan1 : List (List Int)) (sum : Int) (s : Int) (c1 : (List Int) × (List Int) × (List Int)) (stocks : List (List Int)) : spec_l7Cost_L2 N (fu_ + 1) plan1 sum s c1 stocks = spec_l7Cost_B2 N (fun plan1 sum s c1 stocks => spec_l7Cost_L2 N fu_ plan1 sum s c1 stocks) plan1 sum s c1 stocks := rfl
theorem spec_l7Cost_L2_run (N : Nat) (plan1 : Nat → (List (List Int))) (sum : Nat → Int) (s : Nat → Int) (c1 : Nat → ((List Int) × (List Int) × (List Int))) (stocks : Nat → (List (List Int))) (n_ : Nat) {res_ : Option (Int × Unit)} (hstep_ : ∀ j_, j_ < n_ → ∀ kx_, spec_l7Cost_B2 N kx_ (plan1 j_) (sum j_) (s j_) (c1 j_) (stocks j_) = kx_ (plan1 (j_ + 1)) (sum (j_ + 1)) (s (j_ + 1)) (c1 (j_ + 1)) (stocks (j_ + 1))) (hend_ : ∀ kx_, spec_l7Cost_B2 N kx_ (plan1 n_) (sum n_) (s n_) (c1 n_) (stocks n_) = res_) (fu_ : Nat) (hm_ : n_ < fu_) : spec_l7Cost_L2 N fu_ (plan1 0) (sum 0) (s 0) (c1 0) (stocks 0) = res_ := by
  exact loop_run (L := fun fu_ (x_ : (List (List Int)) × Int × Int × ((List Int) × (List Int) × (List Int)) × (List (List Int))) => spec_l7Cost_L2 N fu_ x_.1 x_.2.1 x_.2.2.1 x_.2.2.2.1 x_.2.2.2.2) (B := fun kx_ x_ => spec_l7Cost_B2 N (fun plan1 sum s c1 stocks => kx_ (plan1, sum, s, c1, stocks)) x_.1 x_.2.1 x_.2.2.1 x_.2.2.2.1 x_.2.2.2.2) (fun _ _ => rfl) (fun j_ => (plan1 j_, sum j_, s j_, c1 j_, stocks j_)) n_ (fun j_ hi_ kx_ => hstep_ j_ hi_ _) (fun kx_ => hend_ _) fu_ hm_
def spec_l7Cost (N : Nat) (c : (List Int) × (List Int) × (List Int)) (plan : List (List Int)) : Option (Int × Unit) :=
  (spec_l7Stocks N c plan).bind fun r =>
  spec_l7Cost_L2 N N plan 0 0 c r.1
def spec_l7Fed_K1 (N : Nat) : Option (Bool × Unit) :=
  some (true, ())
def spec_l7Fed_B1 (N : Nat) (kx : (List Int) → (List Int) → Int → Option (Bool × Unit)) (need1 : List Int) (periods1 : List Int) (t : Int) : Option (Bool × Unit) :=
  bif ilt t (len need1) then
    chk (inB t need1.length) <|
    bif ilt 0 (gd need1 t.toNat 0) then
      bif ilt 0 (len periods1) then
        chk (inB 0 periods1.length) <|
        some (ile (gd periods1 0 0) t, ())
      else
        some (false, ())
    else
      kx need1 periods1 (iadd .i64 t 1)
  else
    spec_l7Fed_K1 N
def spec_l7Fed_L1 (N fu_ : Nat) (need1 : List Int) (periods1 : List Int) (t : Int) : Option (Bool × Unit) :=
  iterK fu_ (fun kx (v_ : ((List Int) × (List Int) × Int × Unit) × (Unit)) => spec_l7Fed_B1 N (fun need1 periods1 t => kx ((need1, periods1, t, ()), ())) v_.1.1 v_.1.2.1 v_.1.2.2.1) ((need1, periods1, t, ()), ())
theorem spec_l7Fed_L1_succ (N fu_ : Nat) (need1 : List Int) (periods1 : List Int) (t : Int) : spec_l7Fed_L1 N (fu_ + 1) need1 periods1 t = spec_l7Fed_B1 N (fun need1 periods1 t => spec_l7Fed_L1 N fu_ need1 periods1 t) need1 periods1 t := rfl
theorem spec_l7Fed_L1_run (N : Nat) (need1 : Nat → (List Int)) (periods1 : Nat → (List Int)) (t : Nat → Int) (n_ : Nat) {res_ : Option (Bool × Unit)} (hstep_ : ∀ j_, j_ < n_ → ∀ kx_, spec_l7Fed_B1 N kx_ (need1 j_) (periods1 j_) (t j_) = kx_ (need1 (j_ + 1)) (periods1 (j_ + 1)) (t (j_ + 1))) (hend_ : ∀ kx_, spec_l7Fed_B1 N kx_ (need1 n_) (periods1 n_) (t n_) = res_) (fu_ : Nat) (hm_ : n_ < fu_) : spec_l7Fed_L1 N fu_ (need1 0) (periods1 0) (t 0) = res_ := by
  exact loop_run (L := fun fu_ (x_ : (List Int) × (List Int) × Int) => spec_l7Fed_L1 N fu_ x_.1 x_.2.1 x_.2.2) (B := fun kx_ x_ => spec_l7Fed_B1 N (fun need1 periods1 t => kx_ (need1, periods1, t)) x_.1 x_.2.1 x_.2.2) (fun _ _ => rfl) (fun j_ => (need1 j_, periods1 j_, t j_)) n_ (fun j_ hi_ kx_ => hstep_ j_ hi_ _) (fun kx_ => hend_ _) fu_ hm_
def spec_l7Fed (N : Nat) (need : List Int) (periods : List Int) : Option (Bool × Unit) :=
  spec_l7Fed_L1 N N need periods 0
def spec_l2Sum_K1 (N : Nat) (sum1 : Int) : Option (Int × Unit) :=
  some (sum1, ())
def spec_l2Sum_B1 (N : Nat) (kx : (List Int) → Int → Int → Option (Int × Unit)) (list1 : List Int) (sum : Int) (i : Int) : Option (Int × Unit) :=
  bif ilt i (len list1) then
    chk (inB i list1.length) <|
    kx list1 (iadd .i64 sum (gd list1 i.toNat 0)) (iadd .i64 i 1)
  else
    spec_l2Sum_K1 N sum
def spec_l2Sum_L1 (N fu_ : Nat) (list1 : List Int) (sum : Int) (i : Int) : Option (Int × Unit) :=
  iterK fu_ (fun kx (v_ : ((List Int) × Int × Int × Unit) × (Unit)) => spec_l2Sum_B1 N (fun list1 sum i => kx ((list1, sum, i, ()), ())) v_.1.1 v_.1.2.1 v_.1.2.2.1) ((list1, sum, i, ()), ())
theorem spec_l2Sum_L1_succ (N fu_ : Nat) (list1 : List Int) (sum : Int) (i : Int) : spec_l2Sum_L1 N (fu_ + 1) list1 sum i = spec_l2Sum_B1 N (fun list1 sum i => spec_l2Sum_L1 N fu_ list1 sum i) list1 sum i := rfl
theorem spec_l2Sum_L1_run (N : Nat) (list1 : Nat → (List Int)) (sum : Nat → Int) (i : Nat → Int) (n_ : Nat) {res_ : Option (Int × Unit)} (hstep_ : ∀ j_, j_ < n_ → ∀ kx_, spec_l2Sum_B1 N kx_ (list1 j_) (sum j_) (i j_) = kx_ (list1 (j_ + 1)) (sum (j_ + 1)) (i (j_ + 1))) (hend_ : ∀ kx_, spec_l2Sum_B1 N kx_ (list1 n_) (sum n_) (i n_) = res_) (fu_ : Nat) (hm_ : n_ < fu_) : spec_l2Sum_L1 N fu_ (list1 0) (sum 0) (i 0) = res_ := by
  exact loop_run (L := fun fu_ (x_ : (List Int) × Int × Int) => spec_l2Sum_L1 N fu_ x_.1 x_.2.1 x_.2.2) (B := fun kx_ x_ => spec_l2Sum_B1 N (fun list1 sum i => kx_ (list1, sum, i)) x_.1 x_.2.1 x_.2.2) (fun _ _ => rfl) (fun j_ => (list1 j_, sum j_, i j_)) n_ (fun j_ hi_ kx_ => hstep_ j_ hi_ _) (fun kx_ => hend_ _) fu_ hm_
def spec_l2Sum (N : Nat) (list : List Int) : Option (Int × Unit) :=
  spec_l2Sum_L1 N N list 0 0
def spec_l7Row_K1 (N : Nat) (kx : (List Int) → (List Int) → Int → (List Int) → Option ((List Int) × Unit)) (need2 : List Int) (periods2 : List Int) (i1 : Int) (endx : Int) (out1 : List Int) : Option ((List Int) × Unit) :=
  chk (inB i1 periods2.length) <|
  chk (inB i1 periods2.length) <|
  chk (cutB (gd periods2 i1.toNat 0) endx need2.length) <|
  (spec_l2Sum N (cut need2 (gd periods2 i1.toNat 0) endx)).bind fun r =>
  chk (inB (gd periods2 i1.toNat 0) out1.length) <|
  kx need2 periods2 (iadd .i64 i1 1) (List.set out1 (gd periods2 i1.toNat 0).toNat r.1)
def spec_l7Row_K2 (N : Nat) (out2 : List Int) : Option ((List Int) × Unit) :=
  some (out2, ())
def spec_l7Row_B1 (N : Nat) (kx : (List Int) → (List Int) → Int → (List Int) → Option ((List Int) × Unit)) (need1 : List Int) (periods1 : List Int) (i : Int) (out : List Int) : Option ((List Int) × Unit) :=
  bif ilt i (len periods1) then
    bif ilt (iadd .i64 i 1) (len periods1) then
      chk (inB (iadd .i64 i 1) periods1.length) <|
      spec_l7Row_K1 N kx need1 periods1 i (gd periods1 (iadd .i64 i 1).toNat 0) out
    else
      spec_l7Row_K1 N kx need1 periods1 i (len need1) out
  else
    spec_l7Row_K2 N out
def spec_l7Row_L1 (N fu_ : Nat) (need1 : List Int) (periods1 : List Int) (i : Int) (out : List Int) : Option ((List Int) × Unit) :=
  iterK fu_ (fun kx (v_ : ((List Int) × (List Int) × Int × Unit) × ((List Int) × Unit)) => spec_l7Row_B1 N (fun need1 periods1 i out => kx ((need1, periods1, i, ()), (out, ()))) v_.1.1 v_.1.2.1 v_.1.2.2.1 v_.2.1) ((need1, periods1, i, ()), (out, ()))
theorem spec_l7Row_L1_succ (N fu_ : Nat) (need1 : List Int) (periods1 : List Int) (i : Int) (out : List Int) : spec_l7Row_L1 N (fu_ + 1) need1 periods1 i out = spec_l7Row_B1 N (fun need1 periods1 i out => spec_l7Row_L1 N fu_ need1 periods1 i out) need1 periods1 i out := rfl
theorem spec_l7Row_L1_run (N : Nat) (need1 : Nat → (List Int)) (periods1 : Nat → (List Int)) (i : Nat → Int) (out : Nat → (List Int)) (n_ : Nat) {res_ : Option ((List Int) × Unit)} (hstep_ : ∀ j_, j_ < n_ → ∀ kx_, spec_l7Row_B1 N kx_ (need1 j_) (periods1 j_) (i j_) (out j_) = kx_ (need1 (j_ + 1)) (periods1 (j_ + 1)) (i (j_ + 1)) (out (j_ + 1))) (hend_ : ∀ kx_, spec_l7Row_B1 N kx_ (need1 n_) (periods1 n_) (i n_) (out n_) = res_) (fu_ : Nat) (hm_ : n_ < fu_) : spec_l7Row_L1 N fu_ (need1 0) (periods1 0) (i 0) (out 0) = res_ := by
  exact loop_run (L := fun fu_ (x_ : (List Int) × (List Int) × Int × (List Int)) => spec_l7Row_L1 N fu_ x_.1 x_.2.1 x_.2.2.1 x_.2.2.2) (B := fun kx_ x_ => spec_l7Row_B1 N (fun need1 periods1 i out => kx_ (need1, periods1, i, out)) x_.1 x_.2.1 x_.2.2.1 x_.2.2.2) (fun _ _ => rfl) (fun j_ => (need1 j_, periods1 j_, i j_, out j_)) n_ (fun j_ hi_ kx_ => hstep_ j_ hi_ _) (fun kx_ => hend_ _) fu_ hm_
def spec_l7Row (N : Nat) (need : List Int) (periods : List Int) : Option ((List Int) × Unit) :=
  chk (mkB (len need) 8) <|
  spec_l7Row_L1 N N need periods 0 (List.replicate (len need).toNat 0)
def spec_l1Has_K1 (N : Nat) : Option (Bool × Unit) :=
  some (false, ())
def spec_l1Has_B1 (N : Nat) (kx : (List Int) → Int → Int → Option (Bool × Unit)) (l1 : List Int) (n1 : Int) (i : Int) : Option (Bool × Unit) :=
  bif ilt i (len l1) then
    chk (inB i l1.length) <|
    bif ieq (gd l1 i.toNat 0) n1 then
      some (true, ())
    else
      kx l1 n1 (iadd .i64 i 1)
  else
    spec_l1Has_K1 N
def spec_l1Has_L1 (N fu_ : Nat) (l1 : List Int) (n1 : Int) (i : Int) : Option (Bool × Unit) :=
  iterK fu_ (fun kx (v_ : ((List Int) × Int × Int × Unit) × (Unit)) => spec_l1Has_B1 N (fun l1 n1 i => kx ((l1, n1, i, ()), ())) v_.1.1 v_.1.2.1 v_.1.2.2.1) ((l1, n1, i, ()), ())
theorem spec_l1Has_L1_succ (N fu_ : Nat) (l1 : List Int) (n1 : Int) (i : Int) : spec_l1Has_L1 N (fu_ + 1) l1 n1 i = spec_l1Has_B1 N (fun l1 n1 i => spec_l1Has_L1 N fu_ l1 n1 i) l1 n1 i := rfl
theorem spec_l1Has_L1_run (N : Nat) (l1 : Nat → (List Int)) (n1 : Nat → Int) (i : Nat → Int) (n_ : Nat) {res_ : Option (Bool × Unit)} (hstep_ : ∀ j_, j_ < n_ → ∀ kx_, spec_l1Has_B1 N kx_ (l1 j_) (n1 j_) (i j_) = kx_ (l1 (j_ + 1)) (n1 (j_ + 1)) (i (j_ + 1))) (hend_ : ∀ kx_, spec_l1Has_B1 N kx_ (l1 n_) (n1 n_) (i n_) = res_) (fu_ : Nat) (hm_ : n_ < fu_) : spec_l1Has_L1 N fu_ (l1 0) (n1 0) (i 0) = res_ := by
  exact loop_run (L := fun fu_ (x_ : (List Int) × Int × Int) => spec_l1Has_L1 N fu_ x_.1 x_.2.1 x_.2.2) (B := fun kx_ x_ => spec_l1Has_B1 N (fun l1 n1 i => kx_ (l1, n1, i)) x_.1 x_.2.1 x_.2.2) (fun _ _ => rfl) (fun j_ => (l1 j_, n1 j_, i j_)) n_ (fun j_ hi_ kx_ => hstep_ j_ hi_ _) (fun kx_ => hend_ _) fu_ hm_
def spec_l1Has (N : Nat) (l : List Int) (n : Int) : Option (Bool × Unit) :=
  spec_l1Has_L1 N N l n 0
def spec_l7Within_K1 (N : Nat) : Option (Bool × Unit) :=
  some (true, ())
def spec_l7Within_B1 (N : Nat) (kx : (List Int) → (List Int) → Int → Option (Bool × Unit)) (a1 : List Int) (b1 : List Int) (i : Int) : Option (Bool × Unit) :=
  bif ilt i (len a1) then
    chk (inB i a1.length) <|
    (spec_l1Has N b1 (gd a1 i.toNat 0)).bind fun r =>
    bif !r.1 then
      some (false, ())
    else
      kx a1 b1 (iadd .i64 i 1)
  else
    spec_l7Within_K1 N
def spec_l7Within_L1 (N fu_ : Nat) (a1 : List Int) (b1 : List Int) (i : Int) : Option (Bool × Unit) :=
  iterK fu_ (fun kx (v_ : ((List Int) × (List Int) × Int × Unit) × (Unit)) => spec_l7Within_B1 N (fun a1 b1 i => kx ((a1, b1, i, ()), ())) v_.1.1 v_.1.2.1 v_.1.2.2.1) ((a1, b1, i, ()), ())
theorem spec_l7Within_L1_succ (N fu_ : Nat) (a1 : List Int) (b1 : List Int) (i : Int) : spec_l7Within_L1 N (fu_ + 1) a1 b1 i = spec_l7Within_B1 N (fun a1 b1 i => spec_l7Within_L1 N fu_ a1 b1 i) a1 b1 i := rfl
theorem spec_l7Within_L1_run (N : Nat) (a1 : Nat → (List Int)) (b1 : Nat → (List Int)) (i : Nat → Int) (n_ : Nat) {res_ : Option (Bool × Unit)} (hstep_ : ∀ j_, j_ < n_ → ∀ kx_, spec_l7Within_B1 N kx_ (a1 j_) (b1 j_) (i j_) = kx_ (a1 (j_ + 1)) (b1 (j_ + 1)) (i (j_ + 1))) (hend_ : ∀ kx_, spec_l7Within_B1 N kx_ (a1 n_) (b1 n_) (i n_) = res_) (fu_ : Nat) (hm_ : n_ < fu_) : spec_l7Within_L1 N fu_ (a1 0) (b1 0) (i 0) = res_ := by
  exact loop_run (L := fun fu_ (x_ : (List Int) × (List Int) × Int) => spec_l7Within_L1 N fu_ x_.1 x_.2.1 x_.2.2) (B := fun kx_ x_ => spec_l7Within_B1 N (fun a1 b1 i => kx_ (a1, b1, i)) x_.1 x_.2.1 x_.2.2) (fun _ _ => rfl) (fun j_ => (a1 j_, b1 j_, i j_)) n_ (fun j_ hi_ kx_ => hstep_ j_ hi_ _) (fun kx_ => hend_ _) fu_ hm_
def spec_l7Within (N : Nat) (a : List Int) (b : List Int) : Option (Bool × Unit) :=
  spec_l7Within_L1 N N a b 0
def spec_l1Rising_K1 (N : Nat) : Option (Bool × Unit) :=
  some (true, ())
def spec_l1Rising_B1 (N : Nat) (kx : (List Int) → Int → Int → Int → Option (Bool × Unit)) (l1 : List Int) (lo1 : Int) (hi1 : Int) (i : Int) : Option (Bool × Unit) :=
  bif ilt i (len l1) then
    chk (inB i l1.length) <|
    (spec_l1In N (gd l1 i.toNat 0) lo1 hi1).bind fun r =>
    bif !r.1 then
      some (false, ())
    else
      bif ilt 0 i then
        chk (inB (isub .i64 i 1) l1.length) <|
        chk (inB i l1.length) <|
        bif ile (gd l1 i.toNat 0) (gd l1 (isub .i64 i 1).toNat 0) then
          some (false, ())
        else
          kx l1 lo1 hi1 (iadd .i64 i 1)
      else
        kx l1 lo1 hi1 (iadd .i64 i 1)
  else
    spec_l1Rising_K1 N
def spec_l1Rising_L1 (N fu_ : Nat) (l1 : List Int) (lo1 : Int) (hi1 : Int) (i : Int) : Option (Bool × Unit) :=
  iterK fu_ (fun kx (v_ : ((List Int) × Int × Int × Int × Unit) × (Unit)) => spec_l1Rising_B1 N (fun l1 lo1 hi1 i => kx ((l1, lo1, hi1, i, ()), ())) v_.1.1 v_.1.2.1 v_.1.2.2.1 v_.1.2.2.2.1) ((l1, lo1, hi1, i, ()), ())
theorem spec_l1Rising_L1_succ (N fu_ : Nat) (l1 : List Int) (lo1 : Int) (hi1 : Int) (i : Int) : spec_l1Rising_L1 N (fu_ + 1) l1 lo1 hi1 i = spec_l1Rising_B1 N (fun l1 lo1 hi1 i => spec_l1Rising_L1 N fu_ l1 lo1 hi1 i) l1 lo1 hi1 i := rfl
theorem spec_l1Rising_L1_run (N : Nat) (l1 : Nat → (List Int)) (lo1 : Nat → Int) (hi1 : Nat → Int) (i : Nat → Int) (n_ : Nat) {res_ : Option (Bool × Unit)} (hstep_ : ∀ j_, j_ < n_ → ∀ kx_, spec_l1Rising_B1 N kx_ (l1 j_) (lo1 j_) (hi1 j_) (i j_) = kx_ (l1 (j_ + 1)) (lo1 (j_ + 1)) (hi1 (j_ + 1)) (i (j_ + 1))) (hend_ : ∀ kx_, spec_l1Rising_B1 N kx_ (l1 n_) (lo1 n_) (hi1 n_) (i n_) = res_) (fu_ : Nat) (hm_ : n_ < fu_) : spec_l1Rising_L1 N fu_ (l1 0) (lo1 0) (hi1 0) (i 0) = res_ := by
  exact loop_run (L := fun fu_ (x_ : (List Int) × Int × Int × Int) => spec_l1Rising_L1 N fu_ x_.1 x_.2.1 x_.2.2.1 x_.2.2.2) (B := fun kx_ x_ => spec_l1Rising_B1 N (fun l1 lo1 hi1 i => kx_ (l1, lo1, hi1, i)) x_.1 x_.2.1 x_.2.2.1 x_.2.2.2) (fun _ _ => rfl) (fun j_ => (l1 j_, lo1 j_, hi1 j_, i j_)) n_ (fun j_ hi_ kx_ => hstep_ j_ hi_ _) (fun kx_ => hend_ _) fu_ hm_
def spec_l1Rising (N : Nat) (l : List Int) (lo : Int) (hi : Int) : Option (Bool × Unit) :=
  spec_l1Rising_L1 N N l lo hi 0
def spec_l7Periods_K1 (N : Nat) (periods2 : List (List Int)) (c2 : (List Int) × (List Int) × (List Int)) : Option (Bool × Unit) :=
  some (ieq (len periods2) (len c2.2.1), ())
def spec_l7Periods_B1 (N : Nat) (kx : (List (List Int)) → Int → ((List Int) × (List Int) × (List Int)) → Option (Bool × Unit)) (periods1 : List (List Int)) (s : Int) (c1 : (List Int) × (List Int) × (List Int)) : Option (Bool × Unit) :=
  bif ilt s (len periods1) then
    chk (inB s periods1.length) <|
    (spec_l1Rising N (gd periods1 s.toNat []) 0 (isub .i64 (len c1.1) 1)).bind fun r =>
    bif !r.1 then
      some (false, ())
    else
      bif ilt 0 s then
        chk (inB (isub .i64 s 1) periods1.length) <|
        chk (inB s periods1.length) <|
        (spec_l7Within N (gd periods1 (isub .i64 s 1).toNat []) (gd periods1 s.toNat [])).bind fun r1 =>
        bif !r1.1 then
          some (false, ())
        else
          kx periods1 (iadd .i64 s 1) c1
      else
        kx periods1 (iadd .i64 s 1) c1
  else
    spec_l7Periods_K1 N periods1 c1
def spec_l7Periods_L1 (N fu_ : Nat) (periods1 : List (List Int)) (s : Int) (c1 : (List Int) × (List Int) × (List Int)) : Option (Bool × Unit) :=
  iterK fu_ (fun kx (v_ : ((List (List Int)) × Int × Unit) × (((List Int) × (List Int) × (List Int)) × Unit)) => spec_l7Periods_B1 N (fun periods1 s c1 => kx ((periods1, s, ()), (c1, ()))) v_.1.1 v_.1.2.1 v_.2.1) ((periods1, s, ()), (c1, ()))
theorem spec_l7Periods_L1_succ (N fu_ : Nat) (periods1 : List (List Int)) (s : Int) (c1 : (List Int) × (List Int) × (List Int)) : spec_l7Periods_L1 N (fu_ + 1) periods1 s c1 = spec_l7Periods_B1 N (fun periods1 s c1 => spec_l7Periods_L1 N fu_ periods1 s c1) periods1 s c1 := rfl
theorem spec_l7Periods_L1_run (N : Nat) (periods1 : Nat → (List (List Int))) (s : Nat → Int) (c1 : Nat → ((List Int) × (List Int) × (List Int))) (n_ : Nat) {res_ : Option (Bool × Unit)} (hstep_ : ∀ j_, j_ < n_ → ∀ kx_, spec_l7Periods_B1 N kx_ (periods1 j_) (s j_) (c1 j_) = kx_ (periods1 (j_ + 1)) (s (j_ + 1)) (c1 (j_ + 1))) (hend_ : ∀ kx_, spec_l7Periods_B1 N kx_ (periods1 n_) (s n_) (c1 n_) = res_) (fu_ : Nat) (hm_ : n_ < fu_) : spec_l7Periods_L1 N fu_ (periods1 0) (s 0) (c1 0) = res_ := by
  exact loop_run (L := fun fu_ (x_ : (List (List Int)) × Int × ((List Int) × (List Int) × (List Int))) => spec_l7Periods_L1 N fu_ x_.1 x_.2.1 x_.2.2) (B := fun kx_ x_ => spec_l7Periods_B1 N (fun periods1 s c1 => kx_ (periods1, s, c1)) x_.1 x_.2.1 x_.2.2) (fun _ _ => rfl) (fun j_ => (periods1 j_, s j_, c1 j_)) n_ (fun j_ hi_ kx_ => hstep_ j_ hi_ _) (fun kx_ => hend_ _) fu_ hm_
def spec_l7Periods (N : Nat) (c : (List Int) × (List Int) × (List Int)) (periods : List (List Int)) : Option (Bool × Unit) :=
  spec_l7Periods_L1 N N periods 0 c
def spec_NestedPlan_K1 (N : Nat) (out1 : List (List Int)) : Option (((List (List Int)) × Bool) × Unit) :=
  some ((out1, true), ())
def spec_NestedPlan_B1 (N : Nat) (kx : (List (List Int)) → Int → ((List Int) × (List Int) × (List Int)) → (List (List Int)) → Option (((List (List Int)) × Bool) × Unit)) (periods1 : List (List Int)) (s : Int) (c1 : (List Int) × (List Int) × (List Int)) (out : List (List Int)) : Option (((List (List Int)) × Bool) × Unit) :=
  bif ilt s (len periods1) then
    chk (inB s periods1.length) <|
    (spec_l7Fed N c1.1 (gd periods1 s.toNat [])).bind fun r2 =>
    bif !r2.1 then
      some (([], false), ())
    else
      chk (inB s periods1.length) <|
      (spec_l7Row N c1.1 (gd periods1 s.toNat [])).bind fun r3 =>
      chk (fitB (out.length + 1) 24) <|
      kx periods1 (iadd .i64 s 1) c1 (out ++ [r3.1])
  else
    spec_NestedPlan_K1 N out
def spec_NestedPlan_L1 (N fu_ : Nat) (periods1 : List (List Int)) (s : Int) (c1 : (List Int) × (List Int) × (List Int)) (out : List (List Int)) : Option (((List (List Int)) × Bool) × Unit) :=
  iterK fu_ (fun kx (v_ : ((List (List Int)) × Int × Unit) × (((List Int) × (List Int) × (List Int)) × (List (List Int)) × Unit)) => spec_NestedPlan_B1 N (fun periods1 s c1 out => kx ((periods1, s, ()), (c1, out, ()))) v_.1.1 v_.1.2.1 v_.2.1 v_.2.2.1) ((periods1, s, ()), (c1, out, ()))
theorem spec_NestedPlan_L1_succ (N fu_ : Nat) (periods1 : List (List Int)) (s : Int) (c1 : (List Int) × (List Int) × (List Int)) (out : List (List Int)) : spec_NestedPlan_L1 N (fu_ + 1) periods1 s c1 out = spec_NestedPlan_B1 N (fun periods1 s c1 out => spec_NestedPlan_L1 N fu_ periods1 s c1 out) periods1 s c1 out := rfl
theorem spec_NestedPlan_L1_run (N : Nat) (periods1 : Nat → (List (List Int))) (s : Nat → Int) (c1 : Nat → ((List Int) × (List Int) × (List Int))) (out : Nat → (List (List Int))) (n_ : Nat) {res_ : Option (((List (List Int)) × Bool) × Unit)} (hstep_ : ∀ j_, j_ < n_ → ∀ kx_, spec_NestedPlan_B1 N kx_ (periods1 j_) (s j_) (c1 j_) (out j_) = kx_ (periods1 (j_ + 1)) (s (j_ + 1)) (c1 (j_ + 1)) (out (j_ + 1))) (hend_ : ∀ kx_, spec_NestedPlan_B1 N kx_ (periods1 n_) (s n_) (c1 n_) (out n_) = res_) (fu_ : Nat) (hm_ : n_ < fu_) : spec_NestedPlan_L1 N fu_ (periods1 0) (s 0) (c1 0) (out 0) = res_ := by
  exact loop_run (L := fun fu_ (x_ : (List (List Int)) × Int × ((List Int) × (List Int) × (List Int)) × (List (List Int))) => spec_NestedPlan_L1 N fu_ x_.1 x_.2.1 x_.2.2.1 x_.2.2.2) (B := fun kx_ x_ => spec_NestedPlan_B1 N (fun periods1 s c1 out => kx_ (periods1, s, c1, out)) x_.1 x_.2.1 x_.2.2.1 x_.2.2.2) (fun _ _ => rfl) (fun j_ => (periods1 j_, s j_, c1 j_, out j_)) n_ (fun j_ hi_ kx_ => hstep_ j_ hi_ _) (fun kx_ => hend_ _) fu_ hm_
def spec_NestedPlan (N : Nat) (c : (List Int) × (List Int) × (List Int)) (periods : List (List Int)) : Option (((List (List Int)) × Bool) × Unit) :=
  (spec_l7Good N c).bind fun r =>
  bif !r.1 then
    some (([], false), ())
  else
    (spec_l7Periods N c periods).bind fun r1 =>
    bif !r1.1 then
      some (([], false), ())
    else
      spec_NestedPlan_L1 N N periods 0 c []
def spec_l7Many_K1 (N : Nat) (many1 : Int) : Option (Int × Unit) :=
  some (many1, ())
def spec_l7Many_B1 (N : Nat) (kx : (List (List Int)) → Int → Int → Option (Int × Unit)) (lists1 : List (List Int)) (many : Int) (i : Int) : Option (Int × Unit) :=
  bif ilt i (len lists1) then
    chk (inB i lists1.length) <|
    kx lists1 (iadd .i64 many (len (gd lists1 i.toNat []))) (iadd .i64 i 1)
  else
    spec_l7Many_K1 N many
def spec_l7Many_L1 (N fu_ : Nat) (lists1 : List (List Int)) (many : Int) (i : Int) : Option (Int × Unit) :=
  iterK fu_ (fun kx (v_ : ((List (List Int)) × Int × Int × Unit) × (Unit)) => spec_l7Many_B1 N (fun lists1 many i => kx ((lists1, many, i, ()), ())) v_.1.1 v_.1.2.1 v_.1.2.2.1) ((lists1, many, i, ()), ())
theorem spec_l7Many_L1_succ (N fu_ : Nat) (lists1 : List (List Int)) (many : Int) (i : Int) : spec_l7Many_L1 N (fu_ + 1) lists1 many i = spec_l7Many_B1 N (fun lists1 many i => spec_l7Many_L1 N fu_ lists1 many i) lists1 many i := rfl
theorem spec_l7Many_L1_run (N : Nat) (lists1 : Nat → (List (List Int))) (many : Nat → Int) (i : Nat → Int) (n_ : Nat) {res_ : Option (Int × Unit)} (hstep_ : ∀ j_, j_ < n_ → ∀ kx_, spec_l7Many_B1 N kx_ (lists1 j_) (many j_) (i j_) = kx_ (lists1 (j_ + 1)) (many (j_ + 1)) (i (j_ + 1))) (hend_ : ∀ kx_, spec_l7Many_B1 N kx_ (lists1 n_) (many n_) (i n_) = res_) (fu_ : Nat) (hm_ : n_ < fu_) : spec_l7Many_L1 N fu_ (lists1 0) (many 0) (i 0) = res_ := by
  exact loop_run (L := fun fu_ (x_ : (List (List Int)) × Int × Int) => spec_l7Many_L1 N fu_ x_.1 x_.2.1 x_.2.2) (B := fun kx_ x_ => spec_l7Many_B1 N (fun lists1 many i => kx_ (lists1, many, i)) x_.1 x_.2.1 x_.2.2) (fun _ _ => rfl) (fun j_ => (lists1 j_, many j_, i j_)) n_ (fun j_ hi_ kx_ => hstep_ j_ hi_ _) (fun kx_ => hend_ _) fu_ hm_
def spec_l7Many (N : Nat) (lists : List (List Int)) : Option (Int × Unit) :=
  spec_l7Many_L1 N N lists 0 0
def spec_l7Less_K1 (N : Nat) (kx : (List (List Int)) → (List (List Int)) → Int → Option (Bool × Unit)) (a3 : List (List Int)) (b3 : List (List Int)) (s2 : Int) : Option (Bool × Unit) :=
  chk (inB s2 a3.length) <|
  chk (inB s2 b3.length) <|
  bif ine (len (gd a3 s2.toNat [])) (len (gd b3 s2.toNat [])) then
    chk (inB s2 a3.length) <|
    chk (inB s2 b3.length) <|
    some (ilt (len (gd a3 s2.toNat [])) (len (gd b3 s2.toNat [])), ())
  else
    kx a3 b3 (iadd .i64 s2 1)
def spec_l7Less_B1 (N : Nat) (kx : (List (List Int)) → (List (List Int)) → Int → Option (Bool × Unit)) (kx1 : (List (List Int)) → (List (List Int)) → Int → Int → Option (Bool × Unit)) (a2 : List (List Int)) (b2 : List (List Int)) (s1 : Int) (i : Int) : Option (Bool × Unit) :=
  chk (inB s1 a2.length) <|
  bif ilt i (len (gd a2 s1.toNat [])) then
    chk (inB s1 b2.length) <|
    bif ilt i (len (gd b2 s1.toNat [])) then
      chk (inB s1 a2.length) <|
      chk (inB i (gd a2 s1.toNat []).length) <|
      chk (inB s1 b2.length) <|
      chk (inB i (gd b2 s1.toNat []).length) <|
      bif ine (gd (gd a2 s1.toNat []) i.toNat 0) (gd (gd b2 s1.toNat []) i.toNat 0) then
        chk (inB s1 a2.length) <|
        chk (inB i (gd a2 s1.toNat []).length) <|
        chk (inB s1 b2.length) <|
        chk (inB i (gd b2 s1.toNat []).length) <|
        some (ilt (gd (gd a2 s1.toNat []) i.toNat 0) (gd (gd b2 s1.toNat []) i.toNat 0), ())
      else
        kx1 a2 b2 s1 (iadd .i64 i 1)
    else
      spec_l7Less_K1 N kx a2 b2 s1
  else
    spec_l7Less_K1 N kx a2 b2 s1
def spec_l7Less_L1 (N fu_ : Nat) (kx : (List (List Int)) → (List (List Int)) → Int → Option (Bool × Unit)) (a2 : List (List Int)) (b2 : List (List Int)) (s1 : Int) (i : Int) : Option (Bool × Unit) :=
  iterK fu_ (fun kx1 (v_ : ((List (List Int)) × (List (List Int)) × Int × Int × Unit) × (Unit)) => spec_l7Less_B1 N kx (fun a2 b2 s1 i => kx1 ((a2, b2, s1, i, ()), ())) v_.1.1 v_.1.2.1 v_.1.2.2.1 v_.1.2.2.2.1) ((a2, b2, s1, i, ()), ())
theorem spec_l7Less_L1_succ (N fu_ : Nat) (kx : (List (List Int)) → (List (List Int)) → Int → Option (Bool × Unit)) (a2 : List (List Int)) (b2 : List (List Int)) (s1 : Int) (i : Int) : spec_l7Less_L1 N (fu_ + 1) kx a2 b2 s1 i = spec_l7Less_B1 N kx (fun a2 b2 s1 i => spec_l7Less_L1 N fu_ kx a2 b2 s1 i) a2 b2 s1 i := rfl
theorem spec_l7Less_L1_run (N : Nat) (kx : (List (List Int)) → (List (List Int)) → Int → Option (Bool × Unit)) (a2 : Nat → (List (List Int))) (b2 : Nat → (List (List Int))) (s1 : Nat → Int) (i : Nat → Int) (n_ : Nat) {res_ : Option (Bool × Unit)} (hstep_ : ∀ j_, j_ < n_ → ∀ kx_, spec_l7Less_B1 N kx kx_ (a2 j_) (b2 j_) (s1 j_) (i j_) = kx_ (a2 (j_ + 1)) (b2 (j_ + 1)) (s1 (j_ + 1)) (i (j_ + 1))) (hend_ : ∀ kx_, spec_l7Less_B1 N kx kx_ (a2 n_) (b2 n_) (s1 n_) (i n_) = res_) (fu_ : Nat) (hm_ : n_ < fu_) : spec_l7Less_L1 N fu_ kx (a2 0) (b2 0) (s1 0) (i 0) = res_ := by
  exact loop_run (L := fun fu_ (x_ : (List (List Int)) × (List (List Int)) × Int × Int) => spec_l7Less_L1 N fu_ kx x_.1 x_.2.1 x_.2.2.1 x_.2.2.2) (B := fun kx_ x_ => spec_l7Less_B1 N kx (fun a2 b2 s1 i => kx_ (a2, b2, s1, i)) x_.1 x_.2.1 x_.2.2.1 x_.2.2.2) (fun _ _ => rfl) (fun j_ => (a2 j_, b2 j_, s1 j_, i j_)) n_ (fun j_ hi_ kx_ => hstep_ j_ hi_ _) (fun kx_ => hend_ _) fu_ hm_
def spec_l7Less_K2 (N : Nat) : Option (Bool × Unit) :=
  some (false, ())
def spec_l7Less_B2 (N : Nat) (kx : (List (List Int)) → (List (List Int)) → Int → Option (Bool × Unit)) (a1 : List (List Int)) (b1 : List (List Int)) (s : Int) : Option (Bool × Unit) :=
  bif ilt s (len a1) then
    spec_l7Less_L1 N N kx a1 b1 s 0
  else
    spec_l7Less_K2 N
def spec_l7Less_L2 (N fu_ : Nat) (a1 : List (List Int)) (b1 : List (List Int)) (s : Int) : Option (Bool × Unit) :=
  iterK fu_ (fun kx (v_ : ((List (List Int)) × (List (List Int)) × Int × Unit) × (Unit)) => spec_l7Less_B2 N (fun a1 b1 s => kx ((a1, b1, s, ()), ())) v_.1.1 v_.1.2.1 v_.1.2.2.1) ((a1, b1, s, ()), ())
theorem spec_l7Less_L2_succ (N fu_ : Nat) (a1 : List (List Int)) (b1 : List (List Int)) (s : Int) : spec_l7Less_L2 N (fu_ + 1) a1 b1 s = spec_l7Less_B2 N (fun a1 b1 s => spec_l7Less_L2 N fu_ a1 b1 s) a1 b1 s := rfl
theorem spec_l7Less_L2_run (N : Nat) (a1 : Nat → (List (List Int))) (b1 : Nat → (List (List Int))) (s : Nat → Int) (n_ : Nat) {res_ : Option (Bool × Unit)} (hstep_ : ∀ j_, j_ < n_ → ∀ kx_, spec_l7Less_B2 N kx_ (a1 j_) (b1 j_) (s j_) = kx_ (a1 (j_ + 1)) (b1 (j_ + 1)) (s (j_ + 1))) (hend_ : ∀ kx_, spec_l7Less_B2 N kx_ (a1 n_) (b1 n_) (s n_) = res_) (fu_ : Nat) (hm_ : n_ < fu_) : spec_l7Less_L2 N fu_ (a1 0) (b1 0) (s 0) = res_ := by
  exact loop_run (L := fun fu_ (x_ : (List (List Int)) × (List (List Int)) × Int) => spec_l7Less_L2 N fu_ x_.1 x_.2.1 x_.2.2) (B := fun kx_ x_ => spec_l7Less_B2 N (fun a1 b1 s => kx_ (a1, b1, s)) x_.1 x_.2.1 x_.2.2) (fun _ _ => rfl) (fun j_ => (a1 j_, b1 j_, s j_)) n_ (fun j_ hi_ kx_ => hstep_ j_ hi_ _) (fun kx_ => hend_ _) fu_ hm_
def spec_l7Less (N : Nat) (a : List (List Int)) (b : List (List Int)) : Option (Bool × Unit) :=
  spec_l7Less_L2 N N a b 0
def spec_l7Try_K1 (N : Nat) (kr_ : ((List Int) × (List Int) × (List Int)) → (List (List Int)) → ((List (List Int)) × Int × Bool) → Option (((List (List Int)) × Int × Bool) × Unit)) (best2 : (List (List Int)) × Int × Bool) (v61 : (List (List Int)) × Int × Bool) : Option (((List (List Int)) × Int × Bool) × Unit) :=
  some (best2, ())
def spec_l7Try_B1 (N : Nat) (kr_ : ((List Int) × (List Int) × (List Int)) → (List (List Int)) → ((List (List Int)) × Int × Bool) → Option (((List (List Int)) × Int × Bool) × Unit)) (kx : (List (List Int)) → Int → ((List Int) × (List Int) × (List Int)) → ((List (List Int)) × Int × Bool) → ((List (List Int)) × Int × Bool) → Option (((List (List Int)) × Int × Bool) × Unit)) (last1 : List (List Int)) (code : Int) (c1 : (List Int) × (List Int) × (List Int)) (best1 : (List (List Int)) × Int × Bool) (v6 : (List (List Int)) × Int × Bool) : Option (((List (List Int)) × Int × Bool) × Unit) :=
  chk (ile 0 (len c1.1)) <|
  bif ilt code (ishl .i64 1 (len c1.1)) then
    (spec_l2Bits N (len c1.1) code).bind fun r5 =>
    bif ieq (len last1) 0 then
      chk (fitB (1 + last1.length) 24) <|
      (kr_ c1 ([r5.1] ++ last1) best1).bind fun r7 =>
      kx last1 (iadd .i64 code 1) c1 r7.1 v6
    else
      chk (inB 0 last1.length) <|
      (spec_l7Within N r5.1 (gd last1 0 [])).bind fun r6 =>
      bif r6.1 then
        chk (fitB (1 + last1.length) 24) <|
        (kr_ c1 ([r5.1] ++ last1) best1).bind fun r8 =>
        kx last1 (iadd .i64 code 1) c1 r8.1 v6
      else
        kx last1 (iadd .i64 code 1) c1 best1 v6
  else
    spec_l7Try_K1 N kr_ best1 v6
def spec_l7Try_L1 (N : Nat) (kr_ : ((List Int) × (List Int) × (List Int)) → (List (List Int)) → ((List (List Int)) × Int × Bool) → Option (((List (List Int)) × Int × Bool) × Unit)) (fu_ : Nat) (last1 : List (List Int)) (code : Int) (c1 : (List Int) × (List Int) × (List Int)) (best1 : (List (List Int)) × Int × Bool) (v6 : (List (List Int)) × Int × Bool) : Option (((List (List Int)) × Int × Bool) × Unit) :=
  iterK fu_ (fun kx (v_ : ((List (List Int)) × Int × Unit) × (((List Int) × (List Int) × (List Int)) × ((List (List Int)) × Int × Bool) × ((List (List Int)) × Int × Bool) × Unit)) => spec_l7Try_B1 N kr_ (fun last1 code c1 best1 v6 => kx ((last1, code, ()), (c1, best1, v6, ()))) v_.1.1 v_.1.2.1 v_.2.1 v_.2.2.1 v_.2.2.2.1) ((last1, code, ()), (c1, best1, v6, ()))
theorem spec_l7Try_L1_succ (N : Nat) (kr_ : ((List Int) × (List Int) × (List Int)) → (List (List Int)) → ((List (List Int)) × Int × Bool) → Option (((List (List Int)) × Int × Bool) × Unit)) (fu_ : Nat) (last1 : List (List Int)) (code : Int) (c1 : (List Int) × (List Int) × (List Int)) (best1 : (List (List Int)) × Int × Bool) (v6 : (List (List Int)) × Int × Bool) : spec_l7Try_L1 N kr_ (fu_ + 1) last1 code c1 best1 v6 = spec_l7Try_B1 N kr_ (fun last1 code c1 best1 v6 => spec_l7Try_L1 N kr_ fu_ last1 code c1 best1 v6) last1 code c1 best1 v6 := rfl
theorem spec_l7Try_L1_run (N : Nat) (kr_ : ((List Int) × (List Int) × (List Int)) → (List (List Int)) → ((List (List Int)) × Int × Bool) → Option (((List (List Int)) × Int × Bool) × Unit)) (last1 : Nat → (List (List Int))) (code : Nat → Int) (c1 : Nat → ((List Int) × (List Int) × (List Int))) (best1 : Nat → ((List (List Int)) × Int × Bool)) (v6 : Nat → ((List (List Int)) × Int × Bool)) (n_ : Nat) {res_ : Option (((List (List Int)) × Int × Bool) × Unit)} (hstep_ : ∀ j_, j_ < n_ → ∀ kx_, spec_l7Try_B1 N kr_ kx_ (last1 j_) (code j_) (c1 j_) (best1 j_) (v6 j_) = kx_ (last1 (j_ + 1)) (code (j_ + 1)) (c1 (j_ + 1)) (best1 (j_ + 1)) (v6 (j_ + 1))) (hend_ : ∀ kx_, spec_l7Try_B1 N kr_ kx_ (last1 n_) (code n_) (c1 n_) (best1 n_) (v6 n_) = res_) (fu_ : Nat) (hm_ : n_ < fu_) : spec_l7Try_L1 N kr_ fu_ (last1 0) (code 0) (c1 0) (best1 0) (v6 0) = res_ := by
  exact loop_run (L := fun fu_ (x_ : (List (List Int)) × Int × ((List Int) × (List Int) × (List Int)) × ((List (List Int)) × Int × Bool) × ((List (List Int)) × Int × Bool)) => spec_l7Try_L1 N kr_ fu_ x_.1 x_.2.1 x_.2.2.1 x_.2.2.2.1 x_.2.2.2.2) (B := fun kx_ x_ => spec_l7Try_B1 N kr_ (fun last1 code c1 best1 v6 => kx_ (last1, code, c1, best1, v6)) x_.1 x_.2.1 x_.2.2.1 x_.2.2.2.1 x_.2.2.2.2) (fun _ _ => rfl) (fun j_ => (last1 j_, code j_, c1 j_, best1 j_, v6 j_)) n_ (fun j_ hi_ kx_ => hstep_ j_ hi_ _) (fun kx_ => hend_ _) fu_ hm_
def spec_l7Try_F (N : Nat) (kr_ : ((List Int) × (List Int) × (List Int)) → (List (List Int)) → ((List (List Int)) × Int × Bool) → Option (((List (List Int)) × Int × Bool) × Unit)) (c : (List Int) × (List Int) × (List Int)) (last : List (List Int)) (best : (List (List Int)) × Int × Bool) : Option (((List (List Int)) × Int × Bool) × Unit) :=
  bif ieq (len last) (len c.2.1) then
    (spec_NestedPlan N c last).bind fun r =>
    bif !r.1.2 then
      some (best, ())
    else
      (spec_l7Cost N c r.1.1).bind fun r1 =>
      (spec_l7Many N last).bind fun r2 =>
      (spec_l7Many N best.1).bind fun r3 =>
      bif !best.2.2 then
        some ((last, (r1.1, true)), ())
      else
        bif ilt r1.1 best.2.1 then
          some ((last, (r1.1, true)), ())
        else
          bif ieq r1.1 best.2.1 then
            bif ilt r2.1 r3.1 then
              some ((last, (r1.1, true)), ())
            else
              bif ieq r2.1 r3.1 then
                (spec_l7Less N last best.1).bind fun r4 =>
                bif r4.1 then
                  some ((last, (r1.1, true)), ())
                else
                  some (best, ())
              else
                some (best, ())
          else
            some (best, ())
  else
    spec_l7Try_L1 N kr_ N last 0 c best ([], (0, false))
def spec_l7Try_R (N : Nat) : Nat → ((List Int) × (List Int) × (List Int)) → (List (List Int)) → ((List (List Int)) × Int × Bool) → Option (((List (List Int)) × Int × Bool) × Unit)
  | 0 => fun _ _ _ => none
  | k_ + 1 => spec_l7Try_F N (spec_l7Try_R N k_)
theorem spec_l7Try_R_succ (N k_ : Nat) (c : (List Int) × (List Int) × (List Int)) (last : List (List Int)) (best : (List (List Int)) × Int × Bool) : spec_l7Try_R N (k_ + 1) c last best = spec_l7Try_F N (spec_l7Try_R N k_) c last best := rfl
def spec_l7Try (N : Nat) (c : (List Int) × (List Int) × (List Int)) (last : List (List Int)) (best : (List (List Int)) × Int × Bool) : Option (((List (List Int)) × Int × Bool) × Unit) := spec_l7Try_R N N c last best
def spec_l1Own (N : Nat) (l : List Int) : Option ((List Int) × Unit) :=
  chk (fitB (0 + l.length) 8) <|
  some (l, ())
def spec_BestNested_K1 (N : Nat) (out1 : List (List Int)) : Option (((List (List Int)) × Bool) × Unit) :=
  some ((out1, true), ())
def spec_BestNested_B1 (N : Nat) (kx : (List (List Int)) → Int → (List (List Int)) → Option (((List (List Int)) × Bool) × Unit)) (best : List (List Int)) (s : Int) (out : List (List Int)) : Option (((List (List Int)) × Bool) × Unit) :=
  bif ilt s (len best) then
    chk (inB s best.length) <|
    (spec_l1Own N (gd best s.toNat [])).bind fun r2 =>
    chk (fitB (out.length + 1) 24) <|
    kx best (iadd .i64 s 1) (out ++ [r2.1])
  else
    spec_BestNested_K1 N out
def spec_BestNested_L1 (N fu_ : Nat) (best : List (List Int)) (s : Int) (out : List (List Int)) : Option (((List (List Int)) × Bool) × Unit) :=
  iterK fu_ (fun kx (v_ : ((List (List Int)) × Int × Unit) × ((List (List Int)) × Unit)) => spec_BestNested_B1 N (fun best s out => kx ((best, s, ()), (out, ()))) v_.1.1 v_.1.2.1 v_.2.1) ((best, s, ()), (out, ()))
theorem spec_BestNested_L1_succ (N fu_ : Nat) (best : List (List Int)) (s : Int) (out : List (List Int)) : spec_BestNested_L1 N (fu_ + 1) best s out = spec_BestNested_B1 N (fun best s out => spec_BestNested_L1 N fu_ best s out) best s out := rfl
theorem spec_BestNested_L1_run (N : Nat) (best : Nat → (List (List Int))) (s : Nat → Int) (out : Nat → (List (List Int))) (n_ : Nat) {res_ : Option (((List (List Int)) × Bool) × Unit)} (hstep_ : ∀ j_, j_ < n_ → ∀ kx_, spec_BestNested_B1 N kx_ (best j_) (s j_) (out j_) = kx_ (best (j_ + 1)) (s (j_ + 1)) (out (j_ + 1))) (hend_ : ∀ kx_, spec_BestNested_B1 N kx_ (best n_) (s n_) (out n_) = res_) (fu_ : Nat) (hm_ : n_ < fu_) : spec_BestNested_L1 N fu_ (best 0) (s 0) (out 0) = res_ := by
  exact loop_run (L := fun fu_ (x_ : (List (List Int)) × Int × (List (List Int))) => spec_BestNested_L1 N fu_ x_.1 x_.2.1 x_.2.2) (B := fun kx_ x_ => spec_BestNested_B1 N (fun best s out => kx_ (best, s, out)) x_.1 x_.2.1 x_.2.2) (fun _ _ => rfl) (fun j_ => (best j_, s j_, out j_)) n_ (fun j_ hi_ kx_ => hstep_ j_ hi_ _) (fun kx_ => hend_ _) fu_ hm_
def spec_BestNested (N : Nat) (c : (List Int) × (List Int) × (List Int)) : Option (((List (List Int)) × Bool) × Unit) :=
  (spec_l7Good N c).bind fun r =>
  bif !r.1 then
    some (([], false), ())
  else
    (spec_l7Try N c [] ([], (0, false))).bind fun r1 =>
    spec_BestNested_L1 N N r1.1.1 0 []
def impl_within (N : Nat) (n : Int) (low : Int) (high : Int) : Option (Bool × Unit) :=
  bif ile low n then
    some (ile n high, ())
  else
    some (false, ())
def impl_allWithin_K1 (N : Nat) : Option (Bool × Unit) :=
  some (true, ())
def impl_allWithin_B1 (N : Nat) (kx : Int → Int → (List Int) → Int → Int → Option (Bool × Unit)) (low1 : Int) (high1 : Int) (v9 : List Int) (v10 : Int) (v11 : Int) : Option (Bool × Unit) :=
  bif ilt v11 v10 then
    chk (inB v11 v9.length) <|
    (impl_within N (gd v9 v11.toNat 0) low1 high1).bind fun r =>
    bif !r.1 then
      some (false, ())
    else
      kx low1 high1 v9 v10 (iadd .i64 v11 1)
  else
    impl_allWithin_K1 N
def impl_allWithin_L1 (N fu_ : Nat) (low1 : Int) (high1 : Int) (v9 : List Int) (v10 : Int) (v11 : Int) : Option (Bool × Unit) :=
  iterK fu_ (fun kx (v_ : (Int × Int × (List Int) × Int × Int × Unit) × (Unit)) => impl_allWithin_B1 N (fun low1 high1 v9 v10 v11 => kx ((low1, high1, v9, v10, v11, ()), ())) v_.1.1 v_.1.2.1 v_.1.2.2.1 v_.1.2.2.2.1 v_.1.2.2.2.2.1) ((low1, high1, v9, v10, v11, ()), ())
theorem impl_allWithin_L1_succ (N fu_ : Nat) (low1 : Int) (high1 : Int) (v9 : List Int) (v10 : Int) (v11 : Int) : impl_allWithin_L1 N (fu_ + 1) low1 high1 v9 v10 v11 = impl_allWithin_B1 N (fun low1 high1 v9 v10 v11 => impl_allWithin_L1 N fu_ low1 high1 v9 v10 v11) low1 high1 v9 v10 v11 := rfl
theorem impl_allWithin_L1_run (N : Nat) (low1 : Nat → Int) (high1 : Nat → Int) (v9 : Nat → (List Int)) (v10 : Nat → Int) (v11 : Nat → Int) (n_ : Nat) {res_ : Option (Bool × Unit)} (hstep_ : ∀ j_, j_ < n_ → ∀ kx_, impl_allWithin_B1 N kx_ (low1 j_) (high1 j_) (v9 j_) (v10 j_) (v11 j_) = kx_ (low1 (j_ + 1)) (high1 (j_ + 1)) (v9 (j_ + 1)) (v10 (j_ + 1)) (v11 (j_ + 1))) (hend_ : ∀ kx_, impl_allWithin_B1 N kx_ (low1 n_) (high1 n_) (v9 n_) (v10 n_) (v11 n_) = res_) (fu_ : Nat) (hm_ : n_ < fu_) : impl_allWithin_L1 N fu_ (low1 0) (high1 0) (v9 0) (v10 0) (v11 0) = res_ := by
  exact loop_run (L := fun fu_ (x_ : Int × Int × (List Int) × Int × Int) => impl_allWithin_L1 N fu_ x_.1 x_.2.1 x_.2.2.1 x_.2.2.2.1 x_.2.2.2.2) (B := fun kx_ x_ => impl_allWithin_B1 N (fun low1 high1 v9 v10 v11 => kx_ (low1, high1, v9, v10, v11)) x_.1 x_.2.1 x_.2.2.1 x_.2.2.2.1 x_.2.2.2.2) (fun _ _ => rfl) (fun j_ => (low1 j_, high1 j_, v9 j_, v10 j_, v11 j_)) n_ (fun j_ hi_ kx_ => hstep_ j_ hi_ _) (fun kx_ => hend_ _) fu_ hm_
def impl_allWithin (N : Nat) (list : List Int) (low : Int) (high : Int) : Option (Bool × Unit) :=
  impl_allWithin_L1 N N low high list (len list) 0
def cmp_isNaN_int (N : Nat) (x : Int) : Option (Bool × Unit) :=
  some (ine x x, ())
def cmp_Less_int (N : Nat) (x : Int) (y : Int) : Option (Bool × Unit) :=
  (cmp_isNaN_int N x).bind fun r =>
  bif r.1 then
    (cmp_isNaN_int N y).bind fun r1 =>
    bif !r1.1 then
      some (true, ())
    else
      some (ilt x y, ())
  else
    some (ilt x y, ())
def slices_IsSorted_int_int_K1 (N : Nat) : Option (Bool × Unit) :=
  some (true, ())
def slices_IsSorted_int_int_B1 (N : Nat) (kx : (List Int) → Int → Option (Bool × Unit)) (x1 : List Int) (i : Int) : Option (Bool × Unit) :=
  bif ilt 0 i then
    chk (inB i x1.length) <|
    chk (inB (isub .i64 i 1) x1.length) <|
    (cmp_Less_int N (gd x1 i.toNat 0) (gd x1 (isub .i64 i 1).toNat 0)).bind fun r =>
    bif r.1 then
      some (false, ())
    else
      kx x1 (isub .i64 i 1)
  else
    slices_IsSorted_int_int_K1 N
def slices_IsSorted_int_int_L1 (N fu_ : Nat) (x1 : List Int) (i : Int) : Option (Bool × Unit) :=
  iterK fu_ (fun kx (v_ : ((List Int) × Int × Unit) × (Unit)) => slices_IsSorted_int_int_B1 N (fun x1 i => kx ((x1, i, ()), ())) v_.1.1 v_.1.2.1) ((x1, i, ()), ())
theorem slices_IsSorted_int_int_L1_succ (N fu_ : Nat) (x1 : List Int) (i : Int) : slices_IsSorted_int_int_L1 N (fu_ + 1) x1 i = slices_IsSorted_int_int_B1 N (fun x1 i => slices_IsSorted_int_int_L1 N fu_ x1 i) x1 i := rfl
theorem slices_IsSorted_int_int_L1_run (N : Nat) (x1 : Nat → (List Int)) (i : Nat → Int) (n_ : Nat) {res_ : Option (Bool × Unit)} (hstep_ : ∀ j_, j_ < n_ → ∀ kx_, slices_IsSorted_int_int_B1 N kx_ (x1 j_) (i j_) = kx_ (x1 (j_ + 1)) (i (j_ + 1))) (hend_ : ∀ kx_, slices_IsSorted_int_int_B1 N kx_ (x1 n_) (i n_) = res_) (fu_ : Nat) (hm_ : n_ < fu_) : slices_IsSorted_int_int_L1 N fu_ (x1 0) (i 0) = res_ := by
  exact loop_run (L := fun fu_ (x_ : (List Int) × Int) => slices_IsSorted_int_int_L1 N fu_ x_.1 x_.2) (B := fun kx_ x_ => slices_IsSorted_int_int_B1 N (fun x1 i => kx_ (x1, i)) x_.1 x_.2) (fun _ _ => rfl) (fun j_ => (x1 j_, i j_)) n_ (fun j_ hi_ kx_ => hstep_ j_ hi_ _) (fun kx_ => hend_ _) fu_ hm_
def slices_IsSorted_int_int (N : Nat) (x : List Int) : Option (Bool × Unit) :=
  slices_IsSorted_int_int_L1 N N x (isub .i64 (len x) 1)
def impl_IsChain (N : Nat) (c : (List Int) × (List Int) × (List Int)) : Option (Bool × Unit) :=
  bif ile (len c.1) 6 then
    (impl_allWithin N c.1 0 20).bind fun r =>
    bif r.1 then
      (impl_within N (len c.2.1) 1 3).bind fun r1 =>
      bif r1.1 then
        bif ieq (len c.2.2) (len c.2.1) then
          (impl_allWithin N c.2.1 0 99).bind fun r2 =>
          bif r2.1 then
            (impl_allWithin N c.2.2 0 9).bind fun r3 =>
            bif r3.1 then
              (slices_IsSorted_int_int N c.2.2).bind fun r4 =>
              some (r4.1, ())
            else
              some (false, ())
          else
            some (false, ())
        else
          some (false, ())
      else
        some (false, ())
    else
      some (false, ())
  else
    some (false, ())
def impl_Chain_stocks_K1 (N : Nat) (kx : (List (List Int)) → (List (List Int)) → Int → Int → ((List Int) × (List Int) × (List Int)) → (List (List Int)) → Option (((List (List Int)) × Bool) × Unit)) (plan4 : List (List Int)) (stock1 : Int) (v213 : List (List Int)) (v223 : Int) (v233 : Int) (v471 : List Int) (v481 : Int) (v501 : List Int) (v511 : Int) (v521 : Bool) (v551 : List Int) (v561 : Bool) (v571 : Bool) (v601 : List Int) (v611 : Bool) (v621 : Bool) (c4 : (List Int) × (List Int) × (List Int)) (out3 : List (List Int)) (row1 : List Int) : Option (((List (List Int)) × Bool) × Unit) :=
  bif ine stock1 0 then
    some (([], false), ())
  else
    chk (fitB (out3.length + 1) 24) <|
    kx plan4 v213 v223 (iadd .i64 v233 1) c4 (out3 ++ [row1])
def impl_Chain_stocks_B1 (N : Nat) (kx : (List (List Int)) → (List (List Int)) → Int → Int → ((List Int) × (List Int) × (List Int)) → (List (List Int)) → Option (((List (List Int)) × Bool) × Unit)) (kx1 : (List (List Int)) → (List Int) → Int → (List (List Int)) → Int → Int → (List Int) → Int → (List Int) → Int → Bool → (List Int) → Bool → Bool → (List Int) → Bool → Bool → (List Int) → Int → Int → ((List Int) × (List Int) × (List Int)) → (List (List Int)) → (List Int) → Option (((List (List Int)) × Bool) × Unit)) (plan3 : List (List Int)) (taken1 : List Int) (stock : Int) (v212 : List (List Int)) (v222 : Int) (v232 : Int) (v47 : List Int) (v48 : Int) (v50 : List Int) (v51 : Int) (v52 : Bool) (v55 : List Int) (v56 : Bool) (v57 : Bool) (v60 : List Int) (v61 : Bool) (v62 : Bool) (v65 : List Int) (v66 : Int) (v67 : Int) (c3 : (List Int) × (List Int) × (List Int)) (out2 : List (List Int)) (row : List Int) : Option (((List (List Int)) × Bool) × Unit) :=
  bif ilt v67 v66 then
    chk (inB v67 v65.length) <|
    chk (inB v67 taken1.length) <|
    bif ilt (iadd .i64 stock (isub .i64 (gd v65 v67.toNat 0) (gd taken1 v67.toNat 0))) 0 then
      some (([], false), ())
    else
      chk (fitB (row.length + 1) 8) <|
      kx1 plan3 taken1 (iadd .i64 stock (isub .i64 (gd v65 v67.toNat 0) (gd taken1 v67.toNat 0))) v212 v222 v232 v47 v48 v50 v51 v52 v55 v56 v57 v60 v61 v62 v65 v66 (iadd .i64 v67 1) c3 out2 (row ++ [iadd .i64 stock (isub .i64 (gd v65 v67.toNat 0) (gd taken1 v67.toNat 0))])
  else
    impl_Chain_stocks_K1 N kx plan3 stock v212 v222 v232 v47 v48 v50 v51 v52 v55 v56 v57 v60 v61 v62 c3 out2 row
def impl_Chain_stocks_L1 (N fu_ : Nat) (kx : (List (List Int)) → (List (List Int)) → Int → Int → ((List Int) × (List Int) × (List Int)) → (List (List Int)) → Option (((List (List Int)) × Bool) × Unit)) (plan3 : List (List Int)) (taken1 : List Int) (stock : Int) (v212 : List (List Int)) (v222 : Int) (v232 : Int) (v47 : List Int) (v48 : Int) (v50 : List Int) (v51 : Int) (v52 : Bool) (v55 : List Int) (v56 : Bool) (v57 : Bool) (v60 : List Int) (v61 : Bool) (v62 : Bool) (v65 : List Int) (v66 : Int) (v67 : Int) (c3 : (List Int) × (List Int) × (List Int)) (out2 : List (List Int)) (row : List Int) : Option (((List (List Int)) × Bool) × Unit) :=
  iterK fu_ (fun kx1 (v_ : ((List (List Int)) × (List Int) × Int × (List (List Int)) × Int × Int × (List Int) × Int × (List Int) × Int × Bool × (List Int) × Bool × Bool × (List Int) × Bool × Bool × (List Int) × Int × Int × Unit) × (((List Int) × (List Int) × (List Int)) × (List (List Int)) × (List Int) × Unit)) => impl_Chain_stocks_B1 N kx (fun plan3 taken1 stock v212 v222 v232 v47 v48 v50 v51 v52 v55 v56 v57 v60 v61 v62 v65 v66 v67 c3 out2 row => kx1 ((plan3, taken1, stock, v212, v222, v232, v47, v48, v50, v51, v52, v55, v56, v57, v60, v61, v62, v65, v66, v67, ()), (c3, out2, row, ()))) v_.1.1 v_.1.2.1 v_.1.2.2.1 v_.1.2.2.2.1 v_.1.2.2.2.2.1 v_.1.2.2.2.2.2.1 v_.1.2.2.2.2.2.2.1 v_.1.2.2.2.2.2.2.2.1 v_.1.2.2.2.2.2.2.2.2.1 v_.1.2.2.2.2.2.2.2.2.2.1 v_.1.2.2.2.2.2.2.2.2.2.2.1 v_.1.2.2.2.2.2.2.2.2.2.2.2.1 v_.1.2.2.2.2.2.2.2.2.2.2.2.2.1 v_.1.2.2.2.2.2.2.2.2.2.2.2.2.2.1 v_.1.2.2.2.2.2.2.2.2.2.2.2.2.2.2.1 v_.1.2.2.2.2.2.2.2.2.2.2.2.2.2.2.2.1 v_.1.2.2.2.2.2.2.2.2.2.2.2.2.2.2.2.2.1 v_.1.2.2.2.2.2.2.2.2.2.2.2.2.2.2.2.2.2.1 v_.1.2.2.2.2.2.2.2.2.2.2.2.2.2.2.2.2.2.2.1 v_.1.2.2.2.2.2.2.2.2.2.2.2.2.2.2.2.2.2.2.2.1 v_.2.1 v_.2.2.1 v_.2.2.2.1) ((plan3, taken1, stock, v212, v222, v232, v47, v48, v50, v51, v52, v55, v56, v57, v60, v61, v62, v65, v66, v67, ()), (c3, out2, row, ()))
theorem impl_Chain_stocks_L1_succ (N fu_ : Nat) (kx : (List (List Int)) → (List (List Int)) → Int → Int → ((List Int) × (List Int) × (List Int)) → (List (List Int)) → Option (((List (List Int)) × Bool) × Unit)) (plan3 : List (List Int)) (taken1 : List Int) (stock : Int) (v212 : List (List Int)) (v222 : Int) (v232 : Int) (v47 : List Int) (v48 : Int) (v50 : List Int) (v51 : Int) (v52 : Bool) (v55 : List Int) (v56 : Bool) (v57 : Bool) (v60 : List Int) (v61 : Bool) (v62 : Bool) (v65 : List Int) (v66 : Int) (v67 : Int) (c3 : (List Int) × (List Int) × (List Int)) (out2 : List (List Int)) (row : List Int) : impl_Chain_stocks_L1 N (fu_ + 1) kx plan3 taken1 stock v212 v222 v232 v47 v48 v50 v51 v52 v55 v56 v57 v60 v61 v62 v65 v66 v67 c3 out2 row = impl_Chain_stocks_B1 N kx (fun plan3 taken1 stock v212 v222 v232 v47 v48 v50 v51 v52 v55 v56 v57 v60 v61 v62 v65 v66 v67 c3 out2 row => impl_Chain_stocks_L1 N fu_ kx plan3 taken1 stock v212 v222 v232 v47 v48 v50 v51 v52 v55 v56 v57 v60 v61 v62 v65 v66 v67 c3 out2 row) plan3 taken1 stock v212 v222 v232 v47 v48 v50 v51 v52 v55 v56 v57 v60 v61 v62 v65 v66 v67 c3 out2 row := rfl
theorem impl_Chain_stocks_L1_run (N : Nat) (kx : (List (List Int)) → (List (List Int)) → Int → Int → ((List Int) × (List Int) × (List Int)) → (List (List Int)) → Option (((List (List Int)) × Bool) × Unit)) (plan3 : Nat → (List (List Int))) (taken1 : Nat → (List Int)) (stock : Nat → Int) (v212 : Nat → (List (List Int))) (v222 : Nat → Int) (v232 : Nat → Int) (v47 : Nat → (List Int)) (v48 : Nat → Int) (v50 : Nat → (List Int)) (v51 : Nat → Int) (v52 : Nat → Bool) (v55 : Nat → (List Int)) (v56 : Nat → Bool) (v57 : Nat → Bool) (v60 : Nat → (List Int)) (v61 : Nat → Bool) (v62 : Nat → Bool) (v65 : Nat → (List Int)) (v66 : Nat → Int) (v67 : Nat → Int) (c3 : Nat → ((List Int) × (List Int) × (List Int))) (out2 : Nat → (List (List Int))) (row : Nat → (List Int)) (n_ : Nat) {res_ : Option (((List (List Int)) × Bool) × Unit)} (hstep_ : ∀ j_, j_ < n_ → ∀ kx_, impl_Chain_stocks_B1 N kx kx_ (plan3 j_) (taken1 j_) (stock j_) (v212 j_) (v222 j_) (v232 j_) (v47 j_) (v48 j_) (v50 j_) (v51 j_) (v52 j_) (v55 j_) (v56 j_) (v57 j_) (v60 j_) (v61 j_) (v62 j_) (v65 j_) (v66 j_) (v67 j_) (c3 j_) (out2 j_) (row j_) = kx_ (plan3 (j_ + 1)) (taken1 (j_ + 1)) (stock (j_ + 1)) (v212 (j_ + 1)) (v222 (j_ + 1)) (v232 (j_ + 1)) (v47 (j_ + 1)) (v48 (j_ + 1)) (v50 (j_ + 1)) (v51 (j_ + 1)) (v52 (j_ + 1)) (v55 (j_ + 1)) (v56 (j_ + 1)) (v57 (j_ + 1)) (v60 (j_ + 1)) (v61 (j_ + 1)) (v62 (j_ + 1)) (v65 (j_ + 1)) (v66 (j_ + 1)) (v67 (j_ + 1)) (c3 (j_ + 1)) (out2 (j_ + 1)) (row (j_ + 1))) (hend_ : ∀ kx_, impl_Chain_stocks_B1 N kx kx_ (plan3 n_) (taken1 n_) (stock n_) (v212 n_) (v222 n_) (v232 n_) (v47 n_) (v48 n_) (v50 n_) (v51 n_) (v52 n_) (v55 n_) (v56 n_) (v57 n_) (v60 n_) (v61 n_) (v62 n_) (v65 n_) (v66 n_) (v67 n_) (c3 n_) (out2 n_) (row n_) = res_) (fu_ : Nat) (hm_ : n_ < fu_) : impl_Chain_stocks_L1 N fu_ kx (plan3 0) (taken1 0) (stock 0) (v212 0) (v222 0) (v232 0) (v47 0) (v48 0) (v50 0) (v51 0) (v52 0) (v55 0) (v56 0) (v57 0) (v60 0) (v61 0) (v62 0) (v65 0) (v66 0) (v67 0) (c3 0) (out2 0) (row 0) = res_ := by
  exact loop_run (L := fun fu_ (x_ : (List (List Int)) × (List Int) × Int × (List (List Int)) × Int × Int × (List Int) × Int × (List Int) × Int × Bool × (List Int) × Bool × Bool × (List Int) × Bool × Bool × (List Int) × Int × Int × ((List Int) × (List Int) × (List Int)) × (List (List Int)) × (List Int)) => impl_Chain_stocks_L1 N fu_ kx x_.1 x_.2.1 x_.2.2.1 x_.2.2.2.1 x_.2.2.2.2.1 x_.2.2.2.2.2.1 x_.2.2.2.2.2.2.1 x_.2.2.2.2.2.2.2.1 x_.2.2.2.2.2.2.2.2.1 x_.2.2.2.2.2.2.2.2.2.1 x_.2.2.2.2.2.2.2.2.2.2.1 x_.2.2.2.2.2.2.2.2.2.2.2.1 x_.2.2.2.2.2.2.2.2.2.2.2.2.1 x_.2.2.2.2.2.2.2.2.2.2.2.2.2.1 x_.2.2.2.2.2.2.2.2.2.2.2.2.2.2.1 x_.2.2.2.2.2.2.2.2.2.2.2.2.2.2.2.1 x_.2.2.2.2.2.2.2.2.2.2.2.2.2.2.2.2.1 x_.2.2.2.2.2.2.2.2.2.2.2.2.2.2.2.2.2.1 x_.2.2.2.2.2.2.2.2.2.2.2.2.2.2.2.2.2.2.1 x_.2.2.2.2.2.2.2.2.2.2.2.2.2.2.2.2.2.2.2.1 x_.2.2.2.2.2.2.2.2.2.2.2.2.2.2.2.2.2.2.2.2.1 x_.2.2.2.2.2.2.2.2.2.2.2.2.2.2.2.2.2.2.2.2.2.1 x_.2.2.2.2.2.2.2.2.2.2.2.2.2.2.2.2.2.2.2.2.2.2) (B := fun kx_ x_ => impl_Chain_stocks_B1 N kx (fun plan3 taken1 stock v212 v222 v232 v47 v48 v50 v51 v52 v55 v56 v57 v60 v61 v62 v65 v66 v67 c3 out2 row => kx_ (plan3, taken1, stock, v212, v222, v232, v47, v48, v50, v51, v52, v55, v56, v57, v60, v61, v62, v65, v66, v67, c3, out2, row)) x_.1 x_.2.1 x_.2.2.1 x_.2.2.2.1 x_.2.2.2.2.1 x_.2.2.2.2.2.1 x_.2.2.2.2.2.2.1 x_.2.2.2.2.2.2.2.1 x_.2.2.2.2.2.2.2.2.1 x_.2.2.2.2.2.2.2.2.2.1 x_.2.2.2.2.2.2.2.2.2.2.1 x_.2.2.2.2.2.2.2.2.2.2.2.1 x_.2.2.2.2.2.2.2.2.2.2.2.2.1 x_.2.2.2.2.2.2.2.2.2.2.2.2.2.1 x_.2.2.2.2.2.2.2.2.2.2.2.2.2.2.1 x_.2.2.2.2.2.2.2.2.2.2.2.2.2.2.2.1 x_.2.2.2.2.2.2.2.2.2.2.2.2.2.2.2.2.1 x_.2.2.2.2.2.2.2.2.2.2.2.2.2.2.2.2.2.1 x_.2.2.2.2.2.2.2.2.2.2.2.2.2.2.2.2.2.2.1 x_.2.2.2.2.2.2.2.2.2.2.2.2.2.2.2.2.2.2.2.1 x_.2.2.2.2.2.2.2.2.2.2.2.2.2.2.2.2.2.2.2.2.1 x_.2.2.2.2.2.2.2.2.2.2.2.2.2.2.2.2.2.2.2.2.2.1 x_.2.2.2.2.2.2.2.2.2.2.2.2.2.2.2.2.2.2.2.2.2.2) (fun _ _ => rfl) (fun j_ => (plan3 j_, taken1 j_, stock j_, v212 j_, v222 j_, v232 j_, v47 j_, v48 j_, v50 j_, v51 j_, v52 j_, v55 j_, v56 j_, v57 j_, v60 j_, v61 j_, v62 j_, v65 j_, v66 j_, v67 j_, c3 j_, out2 j_, row j_)) n_ (fun j_ hi_ kx_ => hstep_ j_ hi_ _) (fun kx_ => hend_ _) fu_ hm_
def impl_Chain_stocks_K2 (N : Nat) (kx : (List (List Int)) → (List (List Int)) → Int → Int → ((List Int) × (List Int) × (List Int)) → (List (List Int)) → Option (((List (List Int)) × Bool) × Unit)) (plan2 : List (List Int)) (list : List Int) (taken : List Int) (v211 : List (List Int)) (v221 : Int) (v231 : Int) (c2 : (List Int) × (List Int) × (List Int)) (out1 : List (List Int)) : Option (((List (List Int)) × Bool) × Unit) :=
  bif ine (len list) (len c2.1) then
    some (([], false), ())
  else
    bif ine (len taken) (len c2.1) then
      some (([], false), ())
    else
      (impl_allWithin N list 0 120).bind fun r =>
      bif !r.1 then
        some (([], false), ())
      else
        (impl_allWithin N taken 0 120).bind fun r1 =>
        bif !r1.1 then
          some (([], false), ())
        else
          impl_Chain_stocks_L1 N N kx plan2 taken 0 v211 v221 v231 taken (len taken) c2.1 (len c2.1) (ine (len taken) (len c2.1)) list r.1 (!r.1) taken r1.1 (!r1.1) list (len list) 0 c2 out1 []
def impl_Chain_stocks_K3 (N : Nat) (out4 : List (List Int)) : Option (((List (List Int)) × Bool) × Unit) :=
  some ((out4, true), ())
def impl_Chain_stocks_B2 (N : Nat) (kx : (List (List Int)) → (List (List Int)) → Int → Int → ((List Int) × (List Int) × (List Int)) → (List (List Int)) → Option (((List (List Int)) × Bool) × Unit)) (plan1 : List (List Int)) (v21 : List (List Int)) (v22 : Int) (v23 : Int) (c1 : (List Int) × (List Int) × (List Int)) (out : List (List Int)) : Option (((List (List Int)) × Bool) × Unit) :=
  bif ilt v23 v22 then
    chk (inB v23 v21.length) <|
    bif ilt (iadd .i64 v23 1) (len plan1) then
      chk (inB (iadd .i64 v23 1) plan1.length) <|
      impl_Chain_stocks_K2 N kx plan1 (gd v21 v23.toNat []) (gd plan1 (iadd .i64 v23 1).toNat []) v21 v22 v23 c1 out
    else
      impl_Chain_stocks_K2 N kx plan1 (gd v21 v23.toNat []) c1.1 v21 v22 v23 c1 out
  else
    impl_Chain_stocks_K3 N out
def impl_Chain_stocks_L2 (N fu_ : Nat) (plan1 : List (List Int)) (v21 : List (List Int)) (v22 : Int) (v23 : Int) (c1 : (List Int) × (List Int) × (List Int)) (out : List (List Int)) : Option (((List (List Int)) × Bool) × Unit) :=
  iterK fu_ (fun kx (v_ : ((List (List Int)) × (List (List Int)) × Int × Int × Unit) × (((List Int) × (List Int) × (List Int)) × (List (List Int)) × Unit)) => impl_Chain_stocks_B2 N (fun plan1 v21 v22 v23 c1 out => kx ((plan1, v21, v22, v23, ()), (c1, out, ()))) v_.1.1 v_.1.2.1 v_.1.2.2.1 v_.1.2.2.2.1 v_.2.1 v_.2.2.1) ((plan1, v21, v22, v23, ()), (c1, out, ()))
theorem impl_Chain_stocks_L2_succ (N fu_ : Nat) (plan1 : List (List Int)) (v21 : List (List Int)) (v22 : Int) (v23 : Int) (c1 : (List Int) × (List Int) × (List Int)) (out : List (List Int)) : impl_Chain_stocks_L2 N (fu_ + 1) plan1 v21 v22 v23 c1 out = impl_Chain_stocks_B2 N (fun plan1 v21 v22 v23 c1 out => impl_Chain_stocks_L2 N fu_ plan1 v21 v22 v23 c1 out) plan1 v21 v22 v23 c1 out := rfl
theorem impl_Chain_stocks_L2_run (N : Nat) (plan1 : Nat → (List (List Int))) (v21 : Nat → (List (List Int))) (v22 : Nat → Int) (v23 : Nat → Int) (c1 : Nat → ((List Int) × (List Int) × (List Int))) (out : Nat → (List (List Int))) (n_ : Nat) {res_ : Option (((List (List Int)) × Bool) × Unit)} (hstep_ : ∀ j_, j_ < n_ → ∀ kx_, impl_Chain_stocks_B2 N kx_ (plan1 j_) (v21 j_) (v22 j_) (v23 j_) (c1 j_) (out j_) = kx_ (plan1 (j_ + 1)) (v21 (j_ + 1)) (v22 (j_ + 1)) (v23 (j_ + 1)) (c1 (j_ + 1)) (out (j_ + 1))) (hend_ : ∀ kx_, impl_Chain_stocks_B2 N kx_ (plan1 n_) (v21 n_) (v22 n_) (v23 n_) (c1 n_) (out n_) = res_) (fu_ : Nat) (hm_ : n_ < fu_) : impl_Chain_stocks_L2 N fu_ (plan1 0) (v21 0) (v22 0) (v23 0) (c1 0) (out 0) = res_ := by
  exact loop_run (L := fun fu_ (x_ : (List (List Int)) × (List (List Int)) × Int × Int × ((List Int) × (List Int) × (List Int)) × (List (List Int))) => impl_Chain_stocks_L2 N fu_ x_.1 x_.2.1 x_.2.2.1 x_.2.2.2.1 x_.2.2.2.2.1 x_.2.2.2.2.2) (B := fun kx_ x_ => impl_Chain_stocks_B2 N (fun plan1 v21 v22 v23 c1 out => kx_ (plan1, v21, v22, v23, c1, out)) x_.1 x_.2.1 x_.2.2.1 x_.2.2.2.1 x_.2.2.2.2.1 x_.2.2.2.2.2) (fun _ _ => rfl) (fun j_ => (plan1 j_, v21 j_, v22 j_, v23 j_, c1 j_, out j_)) n_ (fun j_ hi_ kx_ => hstep_ j_ hi_ _) (fun kx_ => hend_ _) fu_ hm_
def impl_Chain_stocks (N : Nat) (c : (List Int) × (List Int) × (List Int)) (plan : List (List Int)) : Option (((List (List Int)) × Bool) × Unit) :=
  bif ine (len plan) (len c.2.1) then
    some (([], false), ())
  else
    impl_Chain_stocks_L2 N N plan plan (len plan) 0 c []
def impl_Chain_cost_K1 (N : Nat) (kx1 : Int → Int → (List (List Int)) → Int → Int → (List Int) → Int → Int → ((List Int) × (List Int) × (List Int)) → ((List (List Int)) × Bool) → Option (Int × Unit)) (sum2 : Int) (stage1 : Int) (i : Int) (v182 : List (List Int)) (v192 : Int) (v202 : Int) (v251 : List Int) (v261 : Int) (v271 : Int) (c3 : (List Int) × (List Int) × (List Int)) (b152 : (List (List Int)) × Bool) : Option (Int × Unit) :=
  chk (inB stage1 c3.2.2.length) <|
  chk (inB stage1 b152.1.length) <|
  chk (inB i (gd b152.1 stage1.toNat []).length) <|
  kx1 (iadd .i64 sum2 (imul .i64 (gd c3.2.2 stage1.toNat 0) (gd (gd b152.1 stage1.toNat []) i.toNat 0))) stage1 v182 v192 v202 v251 v261 (iadd .i64 v271 1) c3 b152
def impl_Chain_cost_K2 (N : Nat) (kx : Int → (List (List Int)) → Int → Int → ((List Int) × (List Int) × (List Int)) → ((List (List Int)) × Bool) → Option (Int × Unit)) (sum3 : Int) (v183 : List (List Int)) (v193 : Int) (v203 : Int) (c4 : (List Int) × (List Int) × (List Int)) (b153 : (List (List Int)) × Bool) : Option (Int × Unit) :=
  kx sum3 v183 v193 (iadd .i64 v203 1) c4 b153
def impl_Chain_cost_B1 (N : Nat) (kx : Int → (List (List Int)) → Int → Int → ((List Int) × (List Int) × (List Int)) → ((List (List Int)) × Bool) → Option (Int × Unit)) (kx1 : Int → Int → (List (List Int)) → Int → Int → (List Int) → Int → Int → ((List Int) × (List Int) × (List Int)) → ((List (List Int)) × Bool) → Option (Int × Unit)) (sum1 : Int) (stage : Int) (v181 : List (List Int)) (v191 : Int) (v201 : Int) (v25 : List Int) (v26 : Int) (v27 : Int) (c2 : (List Int) × (List Int) × (List Int)) (b151 : (List (List Int)) × Bool) : Option (Int × Unit) :=
  bif ilt v27 v26 then
    chk (inB v27 v25.length) <|
    bif ilt 0 (gd v25 v27.toNat 0) then
      chk (inB stage c2.2.1.length) <|
      impl_Chain_cost_K1 N kx1 (iadd .i64 sum1 (gd c2.2.1 stage.toNat 0)) stage v27 v181 v191 v201 v25 v26 v27 c2 b151
    else
      impl_Chain_cost_K1 N kx1 sum1 stage v27 v181 v191 v201 v25 v26 v27 c2 b151
  else
    impl_Chain_cost_K2 N kx sum1 v181 v191 v201 c2 b151
def impl_Chain_cost_L1 (N fu_ : Nat) (kx : Int → (List (List Int)) → Int → Int → ((List Int) × (List Int) × (List Int)) → ((List (List Int)) × Bool) → Option (Int × Unit)) (sum1 : Int) (stage : Int) (v181 : List (List Int)) (v191 : Int) (v201 : Int) (v25 : List Int) (v26 : Int) (v27 : Int) (c2 : (List Int) × (List Int) × (List Int)) (b151 : (List (List Int)) × Bool) : Option (Int × Unit) :=
  iterK fu_ (fun kx1 (v_ : (Int × Int × (List (List Int)) × Int × Int × (List Int) × Int × Int × Unit) × (((List Int) × (List Int) × (List Int)) × ((List (List Int)) × Bool) × Unit)) => impl_Chain_cost_B1 N kx (fun sum1 stage v181 v191 v201 v25 v26 v27 c2 b151 => kx1 ((sum1, stage, v181, v191, v201, v25, v26, v27, ()), (c2, b151, ()))) v_.1.1 v_.1.2.1 v_.1.2.2.1 v_.1.2.2.2.1 v_.1.2.2.2.2.1 v_.1.2.2.2.2.2.1 v_.1.2.2.2.2.2.2.1 v_.1.2.2.2.2.2.2.2.1 v_.2.1 v_.2.2.1) ((sum1, stage, v181, v191, v201, v25, v26, v27, ()), (c2, b151, ()))
theorem impl_Chain_cost_L1_succ (N fu_ : Nat) (kx : Int → (List (List Int)) → Int → Int → ((List Int) × (List Int) × (List Int)) → ((List (List Int)) × Bool) → Option (Int × Unit)) (sum1 : Int) (stage : Int) (v181 : List (List Int)) (v191 : Int) (v201 : Int) (v25 : List Int) (v26 : Int) (v27 : Int) (c2 : (List Int) × (List Int) × (List Int)) (b151 : (List (List Int)) × Bool) : impl_Chain_cost_L1 N (fu_ + 1) kx sum1 stage v181 v191 v201 v25 v26 v27 c2 b151 = impl_Chain_cost_B1 N kx (fun sum1 stage v181 v191 v201 v25 v26 v27 c2 b151 => impl_Chain_cost_L1 N fu_ kx sum1 stage v181 v191 v201 v25 v26 v27 c2 b151) sum1 stage v181 v191 v201 v25 v26 v27 c2 b151 := rfl
theorem impl_Chain_cost_L1_run (N : Nat) (kx : Int → (List (List Int)) → Int → Int → ((List Int) × (List Int) × (List Int)) → ((List (List Int)) × Bool) → Option (Int × Unit)) (sum1 : Nat → Int) (stage : Nat → Int) (v181 : Nat → (List (List Int))) (v191 : Nat → Int) (v201 : Nat → Int) (v25 : Nat → (List Int)) (v26 : Nat → Int) (v27 : Nat → Int) (c2 : Nat → ((List Int) × (List Int) × (List Int))) (b151 : Nat → ((List (List Int)) × Bool)) (n_ : Nat) {res_ : Option (Int × Unit)} (hstep_ : ∀ j_, j_ < n_ → ∀ kx_, impl_Chain_cost_B1 N kx kx_ (sum1 j_) (stage j_) (v181 j_) (v191 j_) (v201 j_) (v25 j_) (v26 j_) (v27 j_) (c2 j_) (b151 j_) = kx_ (sum1 (j_ + 1)) (stage (j_ + 1)) (v181 (j_ + 1)) (v191 (j_ + 1)) (v201 (j_ + 1)) (v25 (j_ + 1)) (v26 (j_ + 1)) (v27 (j_ + 1)) (c2 (j_ + 1)) (b151 (j_ + 1))) (hend_ : ∀ kx_, impl_Chain_cost_B1 N kx kx_ (sum1 n_) (stage n_) (v181 n_) (v191 n_) (v201 n_) (v25 n_) (v26 n_) (v27 n_) (c2 n_) (b151 n_) = res_) (fu_ : Nat) (hm_ : n_ < fu_) : impl_Chain_cost_L1 N fu_ kx (sum1 0) (stage 0) (v181 0) (v191 0) (v201 0) (v25 0) (v26 0) (v27 0) (c2 0) (b151 0) = res_ := by
  exact loop_run (L := fun fu_ (x_ : Int × Int × (List (List Int)) × Int × Int × (List Int) × Int × Int × ((List Int) × (List Int) × (List Int)) × ((List (List Int)) × Bool)) => impl_Chain_cost_L1 N fu_ kx x_.1 x_.2.1 x_.2.2.1 x_.2.2.2.1 x_.2.2.2.2.1 x_.2.2.2.2.2.1 x_.2.2.2.2.2.2.1 x_.2.2.2.2.2.2.2.1 x_.2.2.2.2.2.2.2.2.1 x_.2.2.2.2.2.2.2.2.2) (B := fun kx_ x_ => impl_Chain_cost_B1 N kx (fun sum1 stage v181 v191 v201 v25 v26 v27 c2 b151 => kx_ (sum1, stage, v181, v191, v201, v25, v26, v27, c2, b151)) x_.1 x_.2.1 x_.2.2.1 x_.2.2.2.1 x_.2.2.2.2.1 x_.2.2.2.2.2.1 x_.2.2.2.2.2.2.1 x_.2.2.2.2.2.2.2.1 x_.2.2.2.2.2.2.2.2.1 x_.2.2.2.2.2.2.2.2.2) (fun _ _ => rfl) (fun j_ => (sum1 j_, stage j_, v181 j_, v191 j_, v201 j_, v25 j_, v26 j_, v27 j_, c2 j_, b151 j_)) n_ (fun j_ hi_ kx_ => hstep_ j_ hi_ _) (fun kx_ => hend_ _) fu_ hm_
def impl_Chain_cost_K3 (N : Nat) (sum4 : Int) : Option (Int × Unit) :=
  some (sum4, ())
def impl_Chain_cost_B2 (N : Nat) (kx : Int → (List (List Int)) → Int → Int → ((List Int) × (List Int) × (List Int)) → ((List (List Int)) × Bool) → Option (Int × Unit)) (sum : Int) (v18 : List (List Int)) (v19 : Int) (v20 : Int) (c1 : (List Int) × (List Int) × (List Int)) (b15 : (List (List Int)) × Bool) : Option (Int × Unit) :=
  bif ilt v20 v19 then
    chk (inB v20 v18.length) <|
    impl_Chain_cost_L1 N N kx sum v20 v18 v19 v20 (gd v18 v20.toNat []) (len (gd v18 v20.toNat [])) 0 c1 b15
  else
    impl_Chain_cost_K3 N sum
def impl_Chain_cost_L2 (N fu_ : Nat) (sum : Int) (v18 : List (List Int)) (v19 : Int) (v20 : Int) (c1 : (List Int) × (List Int) × (List Int)) (b15 : (List (List Int)) × Bool) : Option (Int × Unit) :=
  iterK fu_ (fun kx (v_ : (Int × (List (List Int)) × Int × Int × Unit) × (((List Int) × (List Int) × (List Int)) × ((List (List Int)) × Bool) × Unit)) => impl_Chain_cost_B2 N (fun sum v18 v19 v20 c1 b15 => kx ((sum, v18, v19, v20, ()), (c1, b15, ()))) v_.1.1 v_.1.2.1 v_.1.2.2.1 v_.1.2.2.2.1 v_.2.1 v_.2.2.1) ((sum, v18, v19, v20, ()), (c1, b15, ()))
theorem impl_Chain_cost_L2_succ (N fu_ : Nat) (sum : Int) (v18 : List (List Int)) (v19 : Int) (v20 : Int) (c1 : (List Int) × (List Int) × (List Int)) (b15 : (List (List Int)) × Bool) : impl_Chain_cost_L2 N (fu_ + 1) sum v18 v19 v20 c1 b15 = impl_Chain_cost_B2 N (fun sum v18 v19 v20 c1 b15 => impl_Chain_cost_L2 N fu_ sum v18 v19 v20 c1 b15) sum v18 v19 v20 c1 b15 := rfl
theorem impl_Chain_cost_L2_run (N : Nat) (sum : Nat → Int) (v18 : Nat → (List (List Int))) (v19 : Nat → Int) (v20 : Nat → Int) (c1 : Nat → ((List Int) × (List Int) × (List Int))) (b15 : Nat → ((List (List Int)) × Bool)) (n_ : Nat) {res_ : Option (Int × Unit)} (hstep_ : ∀ j_, j_ < n_ → ∀ kx_, impl_Chain_cost_B2 N kx_ (sum j_) (v18 j_) (v19 j_) (v20 j_) (c1 j_) (b15 j_) = kx_ (sum (j_ + 1)) (v18 (j_ + 1)) (v19 (j_ + 1)) (v20 (j_ + 1)) (c1 (j_ + 1)) (b15 (j_ + 1))) (hend_ : ∀ kx_, impl_Chain_cost_B2 N kx_ (sum n_) (v18 n_) (v19 n_) (v20 n_) (c1 n_) (b15 n_) = res_) (fu_ : Nat) (hm_ : n_ < fu_) : impl_Chain_cost_L2 N fu_ (sum 0) (v18 0) (v19 0) (v20 0) (c1 0) (b15 0) = res_ := by
  exact loop_run (L := fun fu_ (x_ : Int × (List (List Int)) × Int × Int × ((List Int) × (List Int) × (List Int)) × ((List (List Int)) × Bool)) => impl_Chain_cost_L2 N fu_ x_.1 x_.2.1 x_.2.2.1 x_.2.2.2.1 x_.2.2.2.2.1 x_.2.2.2.2.2) (B := fun kx_ x_ => impl_Chain_cost_B2 N (fun sum v18 v19 v20 c1 b15 => kx_ (sum, v18, v19, v20, c1, b15)) x_.1 x_.2.1 x_.2.2.1 x_.2.2.2.1 x_.2.2.2.2.1 x_.2.2.2.2.2) (fun _ _ => rfl) (fun j_ => (sum j_, v18 j_, v19 j_, v20 j_, c1 j_, b15 j_)) n_ (fun j_ hi_ kx_ => hstep_ j_ hi_ _) (fun kx_ => hend_ _) fu_ hm_
def impl_Chain_cost (N : Nat) (c : (List Int) × (List Int) × (List Int)) (plan : List (List Int)) : Option (Int × Unit) :=
  (impl_Chain_stocks N c plan).bind fun r =>
  impl_Chain_cost_L2 N N 0 plan (len plan) 0 c r.1
def impl_power_K1 (N : Nat) (out1 : Int) : Option (Int × Unit) :=
  some (out1, ())
def impl_power_B1 (N : Nat) (kx : Int → Int → Int → Int → Option (Int × Unit)) (a1 : Int) (out : Int) (v6 : Int) (v7 : Int) : Option (Int × Unit) :=
  bif ilt v7 v6 then
    kx a1 (imul .i64 out a1) v6 (iadd .i64 v7 1)
  else
    impl_power_K1 N out
def impl_power_L1 (N fu_ : Nat) (a1 : Int) (out : Int) (v6 : Int) (v7 : Int) : Option (Int × Unit) :=
  iterK fu_ (fun kx (v_ : (Int × Int × Int × Int × Unit) × (Unit)) => impl_power_B1 N (fun a1 out v6 v7 => kx ((a1, out, v6, v7, ()), ())) v_.1.1 v_.1.2.1 v_.1.2.2.1 v_.1.2.2.2.1) ((a1, out, v6, v7, ()), ())
theorem impl_power_L1_succ (N fu_ : Nat) (a1 : Int) (out : Int) (v6 : Int) (v7 : Int) : impl_power_L1 N (fu_ + 1) a1 out v6 v7 = impl_power_B1 N (fun a1 out v6 v7 => impl_power_L1 N fu_ a1 out v6 v7) a1 out v6 v7 := rfl
theorem impl_power_L1_run (N : Nat) (a1 : Nat → Int) (out : Nat → Int) (v6 : Nat → Int) (v7 : Nat → Int) (n_ : Nat) {res_ : Option (Int × Unit)} (hstep_ : ∀ j_, j_ < n_ → ∀ kx_, impl_power_B1 N kx_ (a1 j_) (out j_) (v6 j_) (v7 j_) = kx_ (a1 (j_ + 1)) (out (j_ + 1)) (v6 (j_ + 1)) (v7 (j_ + 1))) (hend_ : ∀ kx_, impl_power_B1 N kx_ (a1 n_) (out n_) (v6 n_) (v7 n_) = res_) (fu_ : Nat) (hm_ : n_ < fu_) : impl_power_L1 N fu_ (a1 0) (out 0) (v6 0) (v7 0) = res_ := by
  exact loop_run (L := fun fu_ (x_ : Int × Int × Int × Int) => impl_power_L1 N fu_ x_.1 x_.2.1 x_.2.2.1 x_.2.2.2) (B := fun kx_ x_ => impl_power_B1 N (fun a1 out v6 v7 => kx_ (a1, out, v6, v7)) x_.1 x_.2.1 x_.2.2.1 x_.2.2.2) (fun _ _ => rfl) (fun j_ => (a1 j_, out j_, v6 j_, v7 j_)) n_ (fun j_ hi_ kx_ => hstep_ j_ hi_ _) (fun kx_ => hend_ _) fu_ hm_
def impl_power (N : Nat) (a : Int) (n : Int) : Option (Int × Unit) :=
  impl_power_L1 N N a 1 n 0
def impl_copied (N : Nat) (list : List Int) : Option ((List Int) × Unit) :=
  chk (fitB (0 + list.length) 8) <|
  some (list, ())
def impl_evenCase_K1 (N : Nat) (v61 : (List Int) × (List Int) × (List Int) × (List Int)) (c1 : (List Int) × (List Int) × (List Int) × (List Int)) : Option (((List Int) × (List Int) × (List Int) × (List Int)) × Unit) :=
  some (c1, ())
def impl_evenCase_B1 (N : Nat) (kx : Int → Int → Int → Int → ((List Int) × (List Int) × (List Int) × (List Int)) → ((List Int) × (List Int) × (List Int) × (List Int)) → Option (((List Int) × (List Int) × (List Int) × (List Int)) × Unit)) (setup1 : Int) (hold1 : Int) (v15 : Int) (v16 : Int) (v6 : (List Int) × (List Int) × (List Int) × (List Int)) (c : (List Int) × (List Int) × (List Int) × (List Int)) : Option (((List Int) × (List Int) × (List Int) × (List Int)) × Unit) :=
  bif ilt v16 v15 then
    chk (fitB (c.2.1.length + 1) 8) <|
    chk (fitB (c.2.2.2.length + 1) 8) <|
    kx setup1 hold1 v15 (iadd .i64 v16 1) v6 (c.1, (c.2.1 ++ [setup1], (c.2.2.1, c.2.2.2 ++ [hold1])))
  else
    impl_evenCase_K1 N v6 c
def impl_evenCase_L1 (N fu_ : Nat) (setup1 : Int) (hold1 : Int) (v15 : Int) (v16 : Int) (v6 : (List Int) × (List Int) × (List Int) × (List Int)) (c : (List Int) × (List Int) × (List Int) × (List Int)) : Option (((List Int) × (List Int) × (List Int) × (List Int)) × Unit) :=
  iterK fu_ (fun kx (v_ : (Int × Int × Int × Int × Unit) × (((List Int) × (List Int) × (List Int) × (List Int)) × ((List Int) × (List Int) × (List Int) × (List Int)) × Unit)) => impl_evenCase_B1 N (fun setup1 hold1 v15 v16 v6 c => kx ((setup1, hold1, v15, v16, ()), (v6, c, ()))) v_.1.1 v_.1.2.1 v_.1.2.2.1 v_.1.2.2.2.1 v_.2.1 v_.2.2.1) ((setup1, hold1, v15, v16, ()), (v6, c, ()))
theorem impl_evenCase_L1_succ (N fu_ : Nat) (setup1 : Int) (hold1 : Int) (v15 : Int) (v16 : Int) (v6 : (List Int) × (List Int) × (List Int) × (List Int)) (c : (List Int) × (List Int) × (List Int) × (List Int)) : impl_evenCase_L1 N (fu_ + 1) setup1 hold1 v15 v16 v6 c = impl_evenCase_B1 N (fun setup1 hold1 v15 v16 v6 c => impl_evenCase_L1 N fu_ setup1 hold1 v15 v16 v6 c) setup1 hold1 v15 v16 v6 c := rfl
theorem impl_evenCase_L1_run (N : Nat) (setup1 : Nat → Int) (hold1 : Nat → Int) (v15 : Nat → Int) (v16 : Nat → Int) (v6 : Nat → ((List Int) × (List Int) × (List Int) × (List Int))) (c : Nat → ((List Int) × (List Int) × (List Int) × (List Int))) (n_ : Nat) {res_ : Option (((List Int) × (List Int) × (List Int) × (List Int)) × Unit)} (hstep_ : ∀ j_, j_ < n_ → ∀ kx_, impl_evenCase_B1 N kx_ (setup1 j_) (hold1 j_) (v15 j_) (v16 j_) (v6 j_) (c j_) = kx_ (setup1 (j_ + 1)) (hold1 (j_ + 1)) (v15 (j_ + 1)) (v16 (j_ + 1)) (v6 (j_ + 1)) (c (j_ + 1))) (hend_ : ∀ kx_, impl_evenCase_B1 N kx_ (setup1 n_) (hold1 n_) (v15 n_) (v16 n_) (v6 n_) (c n_) = res_) (fu_ : Nat) (hm_ : n_ < fu_) : impl_evenCase_L1 N fu_ (setup1 0) (hold1 0) (v15 0) (v16 0) (v6 0) (c 0) = res_ := by
  exact loop_run (L := fun fu_ (x_ : Int × Int × Int × Int × ((List Int) × (List Int) × (List Int) × (List Int)) × ((List Int) × (List Int) × (List Int) × (List Int))) => impl_evenCase_L1 N fu_ x_.1 x_.2.1 x_.2.2.1 x_.2.2.2.1 x_.2.2.2.2.1 x_.2.2.2.2.2) (B := fun kx_ x_ => impl_evenCase_B1 N (fun setup1 hold1 v15 v16 v6 c => kx_ (setup1, hold1, v15, v16, v6, c)) x_.1 x_.2.1 x_.2.2.1 x_.2.2.2.1 x_.2.2.2.2.1 x_.2.2.2.2.2) (fun _ _ => rfl) (fun j_ => (setup1 j_, hold1 j_, v15 j_, v16 j_, v6 j_, c j_)) n_ (fun j_ hi_ kx_ => hstep_ j_ hi_ _) (fun kx_ => hend_ _) fu_ hm_
def impl_evenCase (N : Nat) (need : List Int) (setup : Int) (hold : Int) : Option (((List Int) × (List Int) × (List Int) × (List Int)) × Unit) :=
  (impl_copied N need).bind fun r =>
  chk (mkB (len need) 8) <|
  impl_evenCase_L1 N N setup hold (len need) 0 ([], ([], ([], []))) (r.1, ([], (List.replicate (len need).toNat 0, [])))
def impl_Case_planFrom_K1 (N : Nat) (kx : (List Int) → Int → (List Int) → Int → Int → (List Int) → Option (((List Int) × Bool) × Unit)) (periods3 : List Int) (next2 : Int) (need1 : Int) (v152 : List Int) (v162 : Int) (v172 : Int) (plan2 : List Int) : Option (((List Int) × Bool) × Unit) :=
  bif ieq next2 0 then
    bif ilt 0 need1 then
      some (([], false), ())
    else
      kx periods3 next2 v152 v162 (iadd .i64 v172 1) plan2
  else
    chk (inB (isub .i64 next2 1) periods3.length) <|
    chk (inB (gd periods3 (isub .i64 next2 1).toNat 0) plan2.length) <|
    chk (inB (gd periods3 (isub .i64 next2 1).toNat 0) plan2.length) <|
    kx periods3 next2 v152 v162 (iadd .i64 v172 1) (List.set plan2 (gd periods3 (isub .i64 next2 1).toNat 0).toNat (iadd .i64 (gd plan2 (gd periods3 (isub .i64 next2 1).toNat 0).toNat 0) need1))
def impl_Case_planFrom_K2 (N : Nat) (kx : (List Int) → Int → (List Int) → Int → Int → (List Int) → Option (((List Int) × Bool) × Unit)) (periods2 : List Int) (next1 : Int) (need : Int) (v151 : List Int) (v161 : Int) (v171 : Int) (v33 : Bool) (plan1 : List Int) : Option (((List Int) × Bool) × Unit) :=
  bif v33 then
    impl_Case_planFrom_K1 N kx periods2 (iadd .i64 next1 1) need v151 v161 v171 plan1
  else
    impl_Case_planFrom_K1 N kx periods2 next1 need v151 v161 v171 plan1
def impl_Case_planFrom_K3 (N : Nat) (plan3 : List Int) : Option (((List Int) × Bool) × Unit) :=
  some ((plan3, true), ())
def impl_Case_planFrom_B1 (N : Nat) (kx : (List Int) → Int → (List Int) → Int → Int → (List Int) → Option (((List Int) × Bool) × Unit)) (periods1 : List Int) (next : Int) (v15 : List Int) (v16 : Int) (v17 : Int) (plan : List Int) : Option (((List Int) × Bool) × Unit) :=
  bif ilt v17 v16 then
    chk (inB v17 v15.length) <|
    bif ilt next (len periods1) then
      chk (inB next periods1.length) <|
      impl_Case_planFrom_K2 N kx periods1 next (gd v15 v17.toNat 0) v15 v16 v17 (ieq (gd periods1 next.toNat 0) v17) plan
    else
      impl_Case_planFrom_K2 N kx periods1 next (gd v15 v17.toNat 0) v15 v16 v17 false plan
  else
    impl_Case_planFrom_K3 N plan
def impl_Case_planFrom_L1 (N fu_ : Nat) (periods1 : List Int) (next : Int) (v15 : List Int) (v16 : Int) (v17 : Int) (plan : List Int) : Option (((List Int) × Bool) × Unit) :=
  iterK fu_ (fun kx (v_ : ((List Int) × Int × (List Int) × Int × Int × Unit) × ((List Int) × Unit)) => impl_Case_planFrom_B1 N (fun periods1 next v15 v16 v17 plan => kx ((periods1, next, v15, v16, v17, ()), (plan, ()))) v_.1.1 v_.1.2.1 v_.1.2.2.1 v_.1.2.2.2.1 v_.1.2.2.2.2.1 v_.2.1) ((periods1, next, v15, v16, v17, ()), (plan, ()))
theorem impl_Case_planFrom_L1_succ (N fu_ : Nat) (periods1 : List Int) (next : Int) (v15 : List Int) (v16 : Int) (v17 : Int) (plan : List Int) : impl_Case_planFrom_L1 N (fu_ + 1) periods1 next v15 v16 v17 plan = impl_Case_planFrom_B1 N (fun periods1 next v15 v16 v17 plan => impl_Case_planFrom_L1 N fu_ periods1 next v15 v16 v17 plan) periods1 next v15 v16 v17 plan := rfl
theorem impl_Case_planFrom_L1_run (N : Nat) (periods1 : Nat → (List Int)) (next : Nat → Int) (v15 : Nat → (List Int)) (v16 : Nat → Int) (v17 : Nat → Int) (plan : Nat → (List Int)) (n_ : Nat) {res_ : Option (((List Int) × Bool) × Unit)} (hstep_ : ∀ j_, j_ < n_ → ∀ kx_, impl_Case_planFrom_B1 N kx_ (periods1 j_) (next j_) (v15 j_) (v16 j_) (v17 j_) (plan j_) = kx_ (periods1 (j_ + 1)) (next (j_ + 1)) (v15 (j_ + 1)) (v16 (j_ + 1)) (v17 (j_ + 1)) (plan (j_ + 1))) (hend_ : ∀ kx_, impl_Case_planFrom_B1 N kx_ (periods1 n_) (next n_) (v15 n_) (v16 n_) (v17 n_) (plan n_) = res_) (fu_ : Nat) (hm_ : n_ < fu_) : impl_Case_planFrom_L1 N fu_ (periods1 0) (next 0) (v15 0) (v16 0) (v17 0) (plan 0) = res_ := by
  exact loop_run (L := fun fu_ (x_ : (List Int) × Int × (List Int) × Int × Int × (List Int)) => impl_Case_planFrom_L1 N fu_ x_.1 x_.2.1 x_.2.2.1 x_.2.2.2.1 x_.2.2.2.2.1 x_.2.2.2.2.2) (B := fun kx_ x_ => impl_Case_planFrom_B1 N (fun periods1 next v15 v16 v17 plan => kx_ (periods1, next, v15, v16, v17, plan)) x_.1 x_.2.1 x_.2.2.1 x_.2.2.2.1 x_.2.2.2.2.1 x_.2.2.2.2.2) (fun _ _ => rfl) (fun j_ => (periods1 j_, next j_, v15 j_, v16 j_, v17 j_, plan j_)) n_ (fun j_ hi_ kx_ => hstep_ j_ hi_ _) (fun kx_ => hend_ _) fu_ hm_
def impl_Case_planFrom (N : Nat) (c : (List Int) × (List Int) × (List Int) × (List Int)) (periods : List Int) : Option (((List Int) × Bool) × Unit) :=
  chk (mkB (len c.1) 8) <|
  impl_Case_planFrom_L1 N N periods 0 c.1 (len c.1) 0 (List.replicate (len c.1).toNat 0)
def impl_Chain_nested_K1 (N : Nat) (out1 : List (List Int)) : Option (((List (List Int)) × Bool) × Unit) :=
  some ((out1, true), ())
def impl_Chain_nested_B1 (N : Nat) (kx : (List (List Int)) → Int → Int → ((List Int) × (List Int) × (List Int)) → (List (List Int)) → Option (((List (List Int)) × Bool) × Unit)) (v12 : List (List Int)) (v13 : Int) (v14 : Int) (c1 : (List Int) × (List Int) × (List Int)) (out : List (List Int)) : Option (((List (List Int)) × Bool) × Unit) :=
  bif ilt v14 v13 then
    chk (inB v14 v12.length) <|
    (impl_evenCase N c1.1 0 0).bind fun r =>
    (impl_Case_planFrom N r.1 (gd v12 v14.toNat [])).bind fun r1 =>
    bif !r1.1.2 then
      some (([], false), ())
    else
      chk (fitB (out.length + 1) 24) <|
      kx v12 v13 (iadd .i64 v14 1) c1 (out ++ [r1.1.1])
  else
    impl_Chain_nested_K1 N out
def impl_Chain_nested_L1 (N fu_ : Nat) (v12 : List (List Int)) (v13 : Int) (v14 : Int) (c1 : (List Int) × (List Int) × (List Int)) (out : List (List Int)) : Option (((List (List Int)) × Bool) × Unit) :=
  iterK fu_ (fun kx (v_ : ((List (List Int)) × Int × Int × Unit) × (((List Int) × (List Int) × (List Int)) × (List (List Int)) × Unit)) => impl_Chain_nested_B1 N (fun v12 v13 v14 c1 out => kx ((v12, v13, v14, ()), (c1, out, ()))) v_.1.1 v_.1.2.1 v_.1.2.2.1 v_.2.1 v_.2.2.1) ((v12, v13, v14, ()), (c1, out, ()))
theorem impl_Chain_nested_L1_succ (N fu_ : Nat) (v12 : List (List Int)) (v13 : Int) (v14 : Int) (c1 : (List Int) × (List Int) × (List Int)) (out : List (List Int)) : impl_Chain_nested_L1 N (fu_ + 1) v12 v13 v14 c1 out = impl_Chain_nested_B1 N (fun v12 v13 v14 c1 out => impl_Chain_nested_L1 N fu_ v12 v13 v14 c1 out) v12 v13 v14 c1 out := rfl
theorem impl_Chain_nested_L1_run (N : Nat) (v12 : Nat → (List (List Int))) (v13 : Nat → Int) (v14 : Nat → Int) (c1 : Nat → ((List Int) × (List Int) × (List Int))) (out : Nat → (List (List Int))) (n_ : Nat) {res_ : Option (((List (List Int)) × Bool) × Unit)} (hstep_ : ∀ j_, j_ < n_ → ∀ kx_, impl_Chain_nested_B1 N kx_ (v12 j_) (v13 j_) (v14 j_) (c1 j_) (out j_) = kx_ (v12 (j_ + 1)) (v13 (j_ + 1)) (v14 (j_ + 1)) (c1 (j_ + 1)) (out (j_ + 1))) (hend_ : ∀ kx_, impl_Chain_nested_B1 N kx_ (v12 n_) (v13 n_) (v14 n_) (c1 n_) (out n_) = res_) (fu_ : Nat) (hm_ : n_ < fu_) : impl_Chain_nested_L1 N fu_ (v12 0) (v13 0) (v14 0) (c1 0) (out 0) = res_ := by
  exact loop_run (L := fun fu_ (x_ : (List (List Int)) × Int × Int × ((List Int) × (List Int) × (List Int)) × (List (List Int))) => impl_Chain_nested_L1 N fu_ x_.1 x_.2.1 x_.2.2.1 x_.2.2.2.1 x_.2.2.2.2) (B := fun kx_ x_ => impl_Chain_nested_B1 N (fun v12 v13 v14 c1 out => kx_ (v12, v13, v14, c1, out)) x_.1 x_.2.1 x_.2.2.1 x_.2.2.2.1 x_.2.2.2.2) (fun _ _ => rfl) (fun j_ => (v12 j_, v13 j_, v14 j_, c1 j_, out j_)) n_ (fun j_ hi_ kx_ => hstep_ j_ hi_ _) (fun kx_ => hend_ _) fu_ hm_
def impl_Chain_nested (N : Nat) (c : (List Int) × (List Int) × (List Int)) (periods : List (List Int)) : Option (((List (List Int)) × Bool) × Unit) :=
  impl_Chain_nested_L1 N N periods (len periods) 0 c []
def cmp_Compare_int (N : Nat) (x : Int) (y : Int) : Option (Int × Unit) :=
  (cmp_isNaN_int N x).bind fun r =>
  (cmp_isNaN_int N y).bind fun r1 =>
  bif r.1 then
    bif r1.1 then
      some (0, ())
    else
      some ((-1), ())
  else
    bif r1.1 then
      some (1, ())
    else
      bif ilt x y then
        some ((-1), ())
      else
        bif ilt y x then
          some (1, ())
        else
          some (0, ())
def slices_Compare_int_int_K1 (N : Nat) (s12 : List Int) (s22 : List Int) : Option (Int × Unit) :=
  bif ilt (len s12) (len s22) then
    some ((-1), ())
  else
    some (0, ())
def slices_Compare_int_int_B1 (N : Nat) (kx : (List Int) → (List Int) → (List Int) → Int → Int → Option (Int × Unit)) (s11 : List Int) (s21 : List Int) (v9 : List Int) (v10 : Int) (v11 : Int) : Option (Int × Unit) :=
  bif ilt v11 v10 then
    chk (inB v11 v9.length) <|
    bif ile (len s21) v11 then
      some (1, ())
    else
      chk (inB v11 s21.length) <|
      (cmp_Compare_int N (gd v9 v11.toNat 0) (gd s21 v11.toNat 0)).bind fun r =>
      bif ine r.1 0 then
        some (r.1, ())
      else
        kx s11 s21 v9 v10 (iadd .i64 v11 1)
  else
    slices_Compare_int_int_K1 N s11 s21
def slices_Compare_int_int_L1 (N fu_ : Nat) (s11 : List Int) (s21 : List Int) (v9 : List Int) (v10 : Int) (v11 : Int) : Option (Int × Unit) :=
  iterK fu_ (fun kx (v_ : ((List Int) × (List Int) × (List Int) × Int × Int × Unit) × (Unit)) => slices_Compare_int_int_B1 N (fun s11 s21 v9 v10 v11 => kx ((s11, s21, v9, v10, v11, ()), ())) v_.1.1 v_.1.2.1 v_.1.2.2.1 v_.1.2.2.2.1 v_.1.2.2.2.2.1) ((s11, s21, v9, v10, v11, ()), ())
theorem slices_Compare_int_int_L1_succ (N fu_ : Nat) (s11 : List Int) (s21 : List Int) (v9 : List Int) (v10 : Int) (v11 : Int) : slices_Compare_int_int_L1 N (fu_ + 1) s11 s21 v9 v10 v11 = slices_Compare_int_int_B1 N (fun s11 s21 v9 v10 v11 => slices_Compare_int_int_L1 N fu_ s11 s21 v9 v10 v11) s11 s21 v9 v10 v11 := rfl
theorem slices_Compare_int_int_L1_run (N : Nat) (s11 : Nat → (List Int)) (s21 : Nat → (List Int)) (v9 : Nat → (List Int)) (v10 : Nat → Int) (v11 : Nat → Int) (n_ : Nat) {res_ : Option (Int × Unit)} (hstep_ : ∀ j_, j_ < n_ → ∀ kx_, slices_Compare_int_int_B1 N kx_ (s11 j_) (s21 j_) (v9 j_) (v10 j_) (v11 j_) = kx_ (s11 (j_ + 1)) (s21 (j_ + 1)) (v9 (j_ + 1)) (v10 (j_ + 1)) (v11 (j_ + 1))) (hend_ : ∀ kx_, slices_Compare_int_int_B1 N kx_ (s11 n_) (s21 n_) (v9 n_) (v10 n_) (v11 n_) = res_) (fu_ : Nat) (hm_ : n_ < fu_) : slices_Compare_int_int_L1 N fu_ (s11 0) (s21 0) (v9 0) (v10 0) (v11 0) = res_ := by
  exact loop_run (L := fun fu_ (x_ : (List Int) × (List Int) × (List Int) × Int × Int) => slices_Compare_int_int_L1 N fu_ x_.1 x_.2.1 x_.2.2.1 x_.2.2.2.1 x_.2.2.2.2) (B := fun kx_ x_ => slices_Compare_int_int_B1 N (fun s11 s21 v9 v10 v11 => kx_ (s11, s21, v9, v10, v11)) x_.1 x_.2.1 x_.2.2.1 x_.2.2.2.1 x_.2.2.2.2) (fun _ _ => rfl) (fun j_ => (s11 j_, s21 j_, v9 j_, v10 j_, v11 j_)) n_ (fun j_ hi_ kx_ => hstep_ j_ hi_ _) (fun kx_ => hend_ _) fu_ hm_
def slices_Compare_int_int (N : Nat) (s1 : List Int) (s2 : List Int) : Option (Int × Unit) :=
  slices_Compare_int_int_L1 N N s1 s2 s1 (len s1) 0
def impl_Chain_bestNested_1 (N : Nat) (a : List Int) (b : List Int) : Option (Int × Unit) :=
  (slices_Compare_int_int N a b).bind fun r =>
  some (r.1, ())
def slices_CompareFunc_int_int_int_int__impl_Chain_bestNested_1_K1 (N : Nat) (s12 : List (List Int)) (s22 : List (List Int)) : Option (Int × Unit) :=
  bif ilt (len s12) (len s22) then
    some ((-1), ())
  else
    some (0, ())
def slices_CompareFunc_int_int_int_int__impl_Chain_bestNested_1_B1 (N : Nat) (kx : (List (List Int)) → (List (List Int)) → (List (List Int)) → Int → Int → Option (Int × Unit)) (s11 : List (List Int)) (s21 : List (List Int)) (v11 : List (List Int)) (v12 : Int) (v13 : Int) : Option (Int × Unit) :=
  bif ilt v13 v12 then
    chk (inB v13 v11.length) <|
    bif ile (len s21) v13 then
      some (1, ())
    else
      chk (inB v13 s21.length) <|
      (impl_Chain_bestNested_1 N (gd v11 v13.toNat []) (gd s21 v13.toNat [])).bind fun r =>
      bif ine r.1 0 then
        some (r.1, ())
      else
        kx s11 s21 v11 v12 (iadd .i64 v13 1)
  else
    slices_CompareFunc_int_int_int_int__impl_Chain_bestNested_1_K1 N s11 s21
def slices_CompareFunc_int_int_int_int__impl_Chain_bestNested_1_L1 (N fu_ : Nat) (s11 : List (List Int)) (s21 : List (List Int)) (v11 : List (List Int)) (v12 : Int) (v13 : Int) : Option (Int × Unit) :=
  iterK fu_ (fun kx (v_ : ((List (List Int)) × (List (List Int)) × (List (List Int)) × Int × Int × Unit) × (Unit)) => slices_CompareFunc_int_int_int_int__impl_Chain_bestNested_1_B1 N (fun s11 s21 v11 v12 v13 => kx ((s11, s21, v11, v12, v13, ()), ())) v_.1.1 v_.1.2.1 v_.1.2.2.1 v_.1.2.2.2.1 v_.1.2.2.2.2.1) ((s11, s21, v11, v12, v13, ()), ())
theorem slices_CompareFunc_int_int_int_int__impl_Chain_bestNested_1_L1_succ (N fu_ : Nat) (s11 : List (List Int)) (s21 : List (List Int)) (v11 : List (List Int)) (v12 : Int) (v13 : Int) : slices_CompareFunc_int_int_int_int__impl_Chain_bestNested_1_L1 N (fu_ + 1) s11 s21 v11 v12 v13 = slices_CompareFunc_int_int_int_int__impl_Chain_bestNested_1_B1 N (fun s11 s21 v11 v12 v13 => slices_CompareFunc_int_int_int_int__impl_Chain_bestNested_1_L1 N fu_ s11 s21 v11 v12 v13) s11 s21 v11 v12 v13 := rfl
theorem slices_CompareFunc_int_int_int_int__impl_Chain_bestNested_1_L1_run (N : Nat) (s11 : Nat → (List (List Int))) (s21 : Nat → (List (List Int))) (v11 : Nat → (List (List Int))) (v12 : Nat → Int) (v13 : Nat → Int) (n_ : Nat) {res_ : Option (Int × Unit)} (hstep_ : ∀ j_, j_ < n_ → ∀ kx_, slices_CompareFunc_int_int_int_int__impl_Chain_bestNested_1_B1 N kx_ (s11 j_) (s21 j_) (v11 j_) (v12 j_) (v13 j_) = kx_ (s11 (j_ + 1)) (s21 (j_ + 1)) (v11 (j_ + 1)) (v12 (j_ + 1)) (v13 (j_ + 1))) (hend_ : ∀ kx_, slices_CompareFunc_int_int_int_int__impl_Chain_bestNested_1_B1 N kx_ (s11 n_) (s21 n_) (v11 n_) (v12 n_) (v13 n_) = res_) (fu_ : Nat) (hm_ : n_ < fu_) : slices_CompareFunc_int_int_int_int__impl_Chain_bestNested_1_L1 N fu_ (s11 0) (s21 0) (v11 0) (v12 0) (v13 0) = res_ := by
  exact loop_run (L := fun fu_ (x_ : (List (List Int)) × (List (List Int)) × (List (List Int)) × Int × Int) => slices_CompareFunc_int_int_int_int__impl_Chain_bestNested_1_L1 N fu_ x_.1 x_.2.1 x_.2.2.1 x_.2.2.2.1 x_.2.2.2.2) (B := fun kx_ x_ => slices_CompareFunc_int_int_int_int__impl_Chain_bestNested_1_B1 N (fun s11 s21 v11 v12 v13 => kx_ (s11, s21, v11, v12, v13)) x_.1 x_.2.1 x_.2.2.1 x_.2.2.2.1 x_.2.2.2.2) (fun _ _ => rfl) (fun j_ => (s11 j_, s21 j_, v11 j_, v12 j_, v13 j_)) n_ (fun j_ hi_ kx_ => hstep_ j_ hi_ _) (fun kx_ => hend_ _) fu_ hm_
def slices_CompareFunc_int_int_int_int__impl_Chain_bestNested_1 (N : Nat) (s1 : List (List Int)) (s2 : List (List Int)) : Option (Int × Unit) :=
  slices_CompareFunc_int_int_int_int__impl_Chain_bestNested_1_L1 N N s1 s2 s1 (len s1) 0
def impl_Chain_bestNested_K1 (N : Nat) (kx1 : Int → Int → Int → Int → Int → Int → Int → Int → Int → Int → ((List Int) × (List Int) × (List Int)) → (List (List Int)) → (List (List Int)) → Option (((List (List Int)) × Int) × Unit)) (n3 : Int) (stages3 : Int) (least3 : Int) (length3 : Int) (code2 : Int) (sum2 : Int) (digit1 : Int) (v283 : Int) (v293 : Int) (v342 : Int) (v352 : Int) (c4 : (List Int) × (List Int) × (List Int)) (best3 : List (List Int)) (periods2 : List (List Int)) : Option (((List (List Int)) × Int) × Unit) :=
  kx1 n3 stages3 least3 length3 code2 (iadd .i64 sum2 digit1) v283 v293 v342 (iadd .i64 v352 1) c4 best3 periods2
def impl_Chain_bestNested_B1 (N : Nat) (kx1 : Int → Int → Int → Int → Int → Int → Int → Int → Int → Int → ((List Int) × (List Int) × (List Int)) → (List (List Int)) → (List (List Int)) → Option (((List (List Int)) × Int) × Unit)) (kx2 : Int → Int → Int → Int → Int → Int → Int → Int → Int → Int → Int → Int → Int → ((List Int) × (List Int) × (List Int)) → (List (List Int)) → (List (List Int)) → Option (((List (List Int)) × Int) × Unit)) (n2 : Int) (stages2 : Int) (least2 : Int) (length2 : Int) (code1 : Int) (sum1 : Int) (i : Int) (digit : Int) (stage : Int) (v282 : Int) (v292 : Int) (v341 : Int) (v351 : Int) (c3 : (List Int) × (List Int) × (List Int)) (best2 : List (List Int)) (periods1 : List (List Int)) : Option (((List (List Int)) × Int) × Unit) :=
  bif ilt stage stages2 then
    chk (inB stage periods1.length) <|
    chk (fitB ((gd periods1 stage.toNat []).length + 1) 8) <|
    chk (inB stage periods1.length) <|
    chk (natEq stage.toNat stage.toNat) <|
    kx2 n2 stages2 least2 length2 code1 sum1 i digit (iadd .i64 stage 1) v282 v292 v341 v351 c3 best2 (List.set periods1 stage.toNat ((gd periods1 stage.toNat []) ++ [i]))
  else
    impl_Chain_bestNested_K1 N kx1 n2 stages2 least2 length2 code1 sum1 digit v282 v292 v341 v351 c3 best2 periods1
def impl_Chain_bestNested_L1 (N fu_ : Nat) (kx1 : Int → Int → Int → Int → Int → Int → Int → Int → Int → Int → ((List Int) × (List Int) × (List Int)) → (List (List Int)) → (List (List Int)) → Option (((List (List Int)) × Int) × Unit)) (n2 : Int) (stages2 : Int) (least2 : Int) (length2 : Int) (code1 : Int) (sum1 : Int) (i : Int) (digit : Int) (stage : Int) (v282 : Int) (v292 : Int) (v341 : Int) (v351 : Int) (c3 : (List Int) × (List Int) × (List Int)) (best2 : List (List Int)) (periods1 : List (List Int)) : Option (((List (List Int)) × Int) × Unit) :=
  iterK fu_ (fun kx2 (v_ : (Int × Int × Int × Int × Int × Int × Int × Int × Int × Int × Int × Int × Int × Unit) × (((List Int) × (List Int) × (List Int)) × (List (List Int)) × (List (List Int)) × Unit)) => impl_Chain_bestNested_B1 N kx1 (fun n2 stages2 least2 length2 code1 sum1 i digit stage v282 v292 v341 v351 c3 best2 periods1 => kx2 ((n2, stages2, least2, length2, code1, sum1, i, digit, stage, v282, v292, v341, v351, ()), (c3, best2, periods1, ()))) v_.1.1 v_.1.2.1 v_.1.2.2.1 v_.1.2.2.2.1 v_.1.2.2.2.2.1 v_.1.2.2.2.2.2.1 v_.1.2.2.2.2.2.2.1 v_.1.2.2.2.2.2.2.2.1 v_.1.2.2.2.2.2.2.2.2.1 v_.1.2.2.2.2.2.2.2.2.2.1 v_.1.2.2.2.2.2.2.2.2.2.2.1 v_.1.2.2.2.2.2.2.2.2.2.2.2.1 v_.1.2.2.2.2.2.2.2.2.2.2.2.2.1 v_.2.1 v_.2.2.1 v_.2.2.2.1) ((n2, stages2, least2, length2, code1, sum1, i, digit, stage, v282, v292, v341, v351, ()), (c3, best2, periods1, ()))
theorem impl_Chain_bestNested_L1_succ (N fu_ : Nat) (kx1 : Int → Int → Int → Int → Int → Int → Int → Int → Int → Int → ((List Int) × (List Int) × (List Int)) → (List (List Int)) → (List (List Int)) → Option (((List (List Int)) × Int) × Unit)) (n2 : Int) (stages2 : Int) (least2 : Int) (length2 : Int) (code1 : Int) (sum1 : Int) (i : Int) (digit : Int) (stage : Int) (v282 : Int) (v292 : Int) (v341 : Int) (v351 : Int) (c3 : (List Int) × (List Int) × (List Int)) (best2 : List (List Int)) (periods1 : List (List Int)) : impl_Chain_bestNested_L1 N (fu_ + 1) kx1 n2 stages2 least2 length2 code1 sum1 i digit stage v282 v292 v341 v351 c3 best2 periods1 = impl_Chain_bestNested_B1 N kx1 (fun n2 stages2 least2 length2 code1 sum1 i digit stage v282 v292 v341 v351 c3 best2 periods1 => impl_Chain_bestNested_L1 N fu_ kx1 n2 stages2 least2 length2 code1 sum1 i digit stage v282 v292 v341 v351 c3 best2 periods1) n2 stages2 least2 length2 code1 sum1 i digit stage v282 v292 v341 v351 c3 best2 periods1 := rfl
theorem impl_Chain_bestNested_L1_run (N : Nat) (kx1 : Int → Int → Int → Int → Int → Int → Int → Int → Int → Int → ((List Int) × (List Int) × (List Int)) → (List (List Int)) → (List (List Int)) → Option (((List (List Int)) × Int) × Unit)) (n2 : Nat → Int) (stages2 : Nat → Int) (least2 : Nat → Int) (length2 : Nat → Int) (code1 : Nat → Int) (sum1 : Nat → Int) (i : Nat → Int) (digit : Nat → Int) (stage : Nat → Int) (v282 : Nat → Int) (v292 : Nat → Int) (v341 : Nat → Int) (v351 : Nat → Int) (c3 : Nat → ((List Int) × (List Int) × (List Int))) (best2 : Nat → (List (List Int))) (periods1 : Nat → (List (List Int))) (n_ : Nat) {res_ : Option (((List (List Int)) × Int) × Unit)} (hstep_ : ∀ j_, j_ < n_ → ∀ kx_, impl_Chain_bestNested_B1 N kx1 kx_ (n2 j_) (stages2 j_) (least2 j_) (length2 j_) (code1 j_) (sum1 j_) (i j_) (digit j_) (stage j_) (v282 j_) (v292 j_) (v341 j_) (v351 j_) (c3 j_) (best2 j_) (periods1 j_) = kx_ (n2 (j_ + 1)) (stages2 (j_ + 1)) (least2 (j_ + 1)) (length2 (j_ + 1)) (code1 (j_ + 1)) (sum1 (j_ + 1)) (i (j_ + 1)) (digit (j_ + 1)) (stage (j_ + 1)) (v282 (j_ + 1)) (v292 (j_ + 1)) (v341 (j_ + 1)) (v351 (j_ + 1)) (c3 (j_ + 1)) (best2 (j_ + 1)) (periods1 (j_ + 1))) (hend_ : ∀ kx_, impl_Chain_bestNested_B1 N kx1 kx_ (n2 n_) (stages2 n_) (least2 n_) (length2 n_) (code1 n_) (sum1 n_) (i n_) (digit n_) (stage n_) (v282 n_) (v292 n_) (v341 n_) (v351 n_) (c3 n_) (best2 n_) (periods1 n_) = res_) (fu_ : Nat) (hm_ : n_ < fu_) : impl_Chain_bestNested_L1 N fu_ kx1 (n2 0) (stages2 0) (least2 0) (length2 0) (code1 0) (sum1 0) (i 0) (digit 0) (stage 0) (v282 0) (v292 0) (v341 0) (v351 0) (c3 0) (best2 0) (periods1 0) = res_ := by
  exact loop_run (L := fun fu_ (x_ : Int × Int × Int × Int × Int × Int × Int × Int × Int × Int × Int × Int × Int × ((List Int) × (List Int) × (List Int)) × (List (List Int)) × (List (List Int))) => impl_Chain_bestNested_L1 N fu_ kx1 x_.1 x_.2.1 x_.2.2.1 x_.2.2.2.1 x_.2.2.2.2.1 x_.2.2.2.2.2.1 x_.2.2.2.2.2.2.1 x_.2.2.2.2.2.2.2.1 x_.2.2.2.2.2.2.2.2.1 x_.2.2.2.2.2.2.2.2.2.1 x_.2.2.2.2.2.2.2.2.2.2.1 x_.2.2.2.2.2.2.2.2.2.2.2.1 x_.2.2.2.2.2.2.2.2.2.2.2.2.1 x_.2.2.2.2.2.2.2.2.2.2.2.2.2.1 x_.2.2.2.2.2.2.2.2.2.2.2.2.2.2.1 x_.2.2.2.2.2.2.2.2.2.2.2.2.2.2.2) (B := fun kx_ x_ => impl_Chain_bestNested_B1 N kx1 (fun n2 stages2 least2 length2 code1 sum1 i digit stage v282 v292 v341 v351 c3 best2 periods1 => kx_ (n2, stages2, least2, length2, code1, sum1, i, digit, stage, v282, v292, v341, v351, c3, best2, periods1)) x_.1 x_.2.1 x_.2.2.1 x_.2.2.2.1 x_.2.2.2.2.1 x_.2.2.2.2.2.1 x_.2.2.2.2.2.2.1 x_.2.2.2.2.2.2.2.1 x_.2.2.2.2.2.2.2.2.1 x_.2.2.2.2.2.2.2.2.2.1 x_.2.2.2.2.2.2.2.2.2.2.1 x_.2.2.2.2.2.2.2.2.2.2.2.1 x_.2.2.2.2.2.2.2.2.2.2.2.2.1 x_.2.2.2.2.2.2.2.2.2.2.2.2.2.1 x_.2.2.2.2.2.2.2.2.2.2.2.2.2.2.1 x_.2.2.2.2.2.2.2.2.2.2.2.2.2.2.2) (fun _ _ => rfl) (fun j_ => (n2 j_, stages2 j_, least2 j_, length2 j_, code1 j_, sum1 j_, i j_, digit j_, stage j_, v282 j_, v292 j_, v341 j_, v351 j_, c3 j_, best2 j_, periods1 j_)) n_ (fun j_ hi_ kx_ => hstep_ j_ hi_ _) (fun kx_ => hend_ _) fu_ hm_
def impl_Chain_bestNested_K2 (N : Nat) (kx : Int → Int → Int → Int → Int → Int → ((List Int) × (List Int) × (List Int)) → (List (List Int)) → Option (((List (List Int)) × Int) × Unit)) (n5 : Int) (stages5 : Int) (least5 : Int) (length5 : Int) (sum4 : Int) (cost : Int) (before : Bool) (v285 : Int) (v295 : Int) (c6 : (List Int) × (List Int) × (List Int)) (best5 : List (List Int)) (periods4 : List (List Int)) : Option (((List (List Int)) × Int) × Unit) :=
  bif ilt cost least5 then
    kx n5 stages5 cost sum4 v285 (iadd .i64 v295 1) c6 periods4
  else
    bif ieq cost least5 then
      bif before then
        kx n5 stages5 cost sum4 v285 (iadd .i64 v295 1) c6 periods4
      else
        kx n5 stages5 least5 length5 v285 (iadd .i64 v295 1) c6 best5
    else
      kx n5 stages5 least5 length5 v285 (iadd .i64 v295 1) c6 best5
def impl_Chain_bestNested_K3 (N : Nat) (kx : Int → Int → Int → Int → Int → Int → ((List Int) × (List Int) × (List Int)) → (List (List Int)) → Option (((List (List Int)) × Int) × Unit)) (n4 : Int) (stages4 : Int) (least4 : Int) (length4 : Int) (sum3 : Int) (v284 : Int) (v294 : Int) (c5 : (List Int) × (List Int) × (List Int)) (best4 : List (List Int)) (periods3 : List (List Int)) : Option (((List (List Int)) × Int) × Unit) :=
  (impl_Chain_nested N c5 periods3).bind fun r2 =>
  bif !r2.1.2 then
    kx n4 stages4 least4 length4 v284 (iadd .i64 v294 1) c5 best4
  else
    (impl_Chain_cost N c5 r2.1.1).bind fun r3 =>
    bif ilt sum3 length4 then
      impl_Chain_bestNested_K2 N kx n4 stages4 least4 length4 sum3 r3.1 true v284 v294 c5 best4 periods3
    else
      bif ieq sum3 length4 then
        (slices_CompareFunc_int_int_int_int__impl_Chain_bestNested_1 N periods3 best4).bind fun r4 =>
        impl_Chain_bestNested_K2 N kx n4 stages4 least4 length4 sum3 r3.1 (ilt r4.1 0) v284 v294 c5 best4 periods3
      else
        impl_Chain_bestNested_K2 N kx n4 stages4 least4 length4 sum3 r3.1 false v284 v294 c5 best4 periods3
def impl_Chain_bestNested_B2 (N : Nat) (kx : Int → Int → Int → Int → Int → Int → ((List Int) × (List Int) × (List Int)) → (List (List Int)) → Option (((List (List Int)) × Int) × Unit)) (kx1 : Int → Int → Int → Int → Int → Int → Int → Int → Int → Int → ((List Int) × (List Int) × (List Int)) → (List (List Int)) → (List (List Int)) → Option (((List (List Int)) × Int) × Unit)) (n1 : Int) (stages1 : Int) (least1 : Int) (length1 : Int) (code : Int) (sum : Int) (v281 : Int) (v291 : Int) (v34 : Int) (v35 : Int) (c2 : (List Int) × (List Int) × (List Int)) (best1 : List (List Int)) (periods : List (List Int)) : Option (((List (List Int)) × Int) × Unit) :=
  bif ilt v35 v34 then
    (impl_power N (iadd .i64 stages1 1) v35).bind fun r1 =>
    chk (ine r1.1 0) <|
    chk (ine (iadd .i64 stages1 1) 0) <|
    impl_Chain_bestNested_L1 N N kx1 n1 stages1 least1 length1 code sum v35 (irem (iquo .i64 code r1.1) (iadd .i64 stages1 1)) (isub .i64 stages1 (irem (iquo .i64 code r1.1) (iadd .i64 stages1 1))) v281 v291 v34 v35 c2 best1 periods
  else
    impl_Chain_bestNested_K3 N kx n1 stages1 least1 length1 sum v281 v291 c2 best1 periods
def impl_Chain_bestNested_L2 (N fu_ : Nat) (kx : Int → Int → Int → Int → Int → Int → ((List Int) × (List Int) × (List Int)) → (List (List Int)) → Option (((List (List Int)) × Int) × Unit)) (n1 : Int) (stages1 : Int) (least1 : Int) (length1 : Int) (code : Int) (sum : Int) (v281 : Int) (v291 : Int) (v34 : Int) (v35 : Int) (c2 : (List Int) × (List Int) × (List Int)) (best1 : List (List Int)) (periods : List (List Int)) : Option (((List (List Int)) × Int) × Unit) :=
  iterK fu_ (fun kx1 (v_ : (Int × Int × Int × Int × Int × Int × Int × Int × Int × Int × Unit) × (((List Int) × (List Int) × (List Int)) × (List (List Int)) × (List (List Int)) × Unit)) => impl_Chain_bestNested_B2 N kx (fun n1 stages1 least1 length1 code sum v281 v291 v34 v35 c2 best1 periods => kx1 ((n1, stages1, least1, length1, code, sum, v281, v291, v34, v35, ()), (c2, best1, periods, ()))) v_.1.1 v_.1.2.1 v_.1.2.2.1 v_.1.2.2.2.1 v_.1.2.2.2.2.1 v_.1.2.2.2.2.2.1 v_.1.2.2.2.2.2.2.1 v_.1.2.2.2.2.2.2.2.1 v_.1.2.2.2.2.2.2.2.2.1 v_.1.2.2.2.2.2.2.2.2.2.1 v_.2.1 v_.2.2.1 v_.2.2.2.1) ((n1, stages1, least1, length1, code, sum, v281, v291, v34, v35, ()), (c2, best1, periods, ()))
theorem impl_Chain_bestNested_L2_succ (N fu_ : Nat) (kx : Int → Int → Int → Int → Int → Int → ((List Int) × (List Int) × (List Int)) → (List (List Int)) → Option (((List (List Int)) × Int) × Unit)) (n1 : Int) (stages1 : Int) (least1 : Int) (length1 : Int) (code : Int) (sum : Int) (v281 : Int) (v291 : Int) (v34 : Int) (v35 : Int) (c2 : (List Int) × (List Int) × (List Int)) (best1 : List (List Int)) (periods : List (List Int)) : impl_Chain_bestNested_L2 N (fu_ + 1) kx n1 stages1 least1 length1 code sum v281 v291 v34 v35 c2 best1 periods = impl_Chain_bestNested_B2 N kx (fun n1 stages1 least1 length1 code sum v281 v291 v34 v35 c2 best1 periods => impl_Chain_bestNested_L2 N fu_ kx n1 stages1 least1 length1 code sum v281 v291 v34 v35 c2 best1 periods) n1 stages1 least1 length1 code sum v281 v291 v34 v35 c2 best1 periods := rfl
theorem impl_Chain_bestNested_L2_run (N : Nat) (kx : Int → Int → Int → Int → Int → Int → ((List Int) × (List Int) × (List Int)) → (List (List Int)) → Option (((List (List Int)) × Int) × Unit)) (n1 : Nat → Int) (stages1 : Nat → Int) (least1 : Nat → Int) (length1 : Nat → Int) (code : Nat → Int) (sum : Nat → Int) (v281 : Nat → Int) (v291 : Nat → Int) (v34 : Nat → Int) (v35 : Nat → Int) (c2 : Nat → ((List Int) × (List Int) × (List Int))) (best1 : Nat → (List (List Int))) (periods : Nat → (List (List Int))) (n_ : Nat) {res_ : Option (((List (List Int)) × Int) × Unit)} (hstep_ : ∀ j_, j_ < n_ → ∀ kx_, impl_Chain_bestNested_B2 N kx kx_ (n1 j_) (stages1 j_) (least1 j_) (length1 j_) (code j_) (sum j_) (v281 j_) (v291 j_) (v34 j_) (v35 j_) (c2 j_) (best1 j_) (periods j_) = kx_ (n1 (j_ + 1)) (stages1 (j_ + 1)) (least1 (j_ + 1)) (length1 (j_ + 1)) (code (j_ + 1)) (sum (j_ + 1)) (v281 (j_ + 1)) (v291 (j_ + 1)) (v34 (j_ + 1)) (v35 (j_ + 1)) (c2 (j_ + 1)) (best1 (j_ + 1)) (periods (j_ + 1))) (hend_ : ∀ kx_, impl_Chain_bestNested_B2 N kx kx_ (n1 n_) (stages1 n_) (least1 n_) (length1 n_) (code n_) (sum n_) (v281 n_) (v291 n_) (v34 n_) (v35 n_) (c2 n_) (best1 n_) (periods n_) = res_) (fu_ : Nat) (hm_ : n_ < fu_) : impl_Chain_bestNested_L2 N fu_ kx (n1 0) (stages1 0) (least1 0) (length1 0) (code 0) (sum 0) (v281 0) (v291 0) (v34 0) (v35 0) (c2 0) (best1 0) (periods 0) = res_ := by
  exact loop_run (L := fun fu_ (x_ : Int × Int × Int × Int × Int × Int × Int × Int × Int × Int × ((List Int) × (List Int) × (List Int)) × (List (List Int)) × (List (List Int))) => impl_Chain_bestNested_L2 N fu_ kx x_.1 x_.2.1 x_.2.2.1 x_.2.2.2.1 x_.2.2.2.2.1 x_.2.2.2.2.2.1 x_.2.2.2.2.2.2.1 x_.2.2.2.2.2.2.2.1 x_.2.2.2.2.2.2.2.2.1 x_.2.2.2.2.2.2.2.2.2.1 x_.2.2.2.2.2.2.2.2.2.2.1 x_.2.2.2.2.2.2.2.2.2.2.2.1 x_.2.2.2.2.2.2.2.2.2.2.2.2) (B := fun kx_ x_ => impl_Chain_bestNested_B2 N kx (fun n1 stages1 least1 length1 code sum v281 v291 v34 v35 c2 best1 periods => kx_ (n1, stages1, least1, length1, code, sum, v281, v291, v34, v35, c2, best1, periods)) x_.1 x_.2.1 x_.2.2.1 x_.2.2.2.1 x_.2.2.2.2.1 x_.2.2.2.2.2.1 x_.2.2.2.2.2.2.1 x_.2.2.2.2.2.2.2.1 x_.2.2.2.2.2.2.2.2.1 x_.2.2.2.2.2.2.2.2.2.1 x_.2.2.2.2.2.2.2.2.2.2.1 x_.2.2.2.2.2.2.2.2.2.2.2.1 x_.2.2.2.2.2.2.2.2.2.2.2.2) (fun _ _ => rfl) (fun j_ => (n1 j_, stages1 j_, least1 j_, length1 j_, code j_, sum j_, v281 j_, v291 j_, v34 j_, v35 j_, c2 j_, best1 j_, periods j_)) n_ (fun j_ hi_ kx_ => hstep_ j_ hi_ _) (fun kx_ => hend_ _) fu_ hm_
def impl_Chain_bestNested_K4 (N : Nat) (least6 : Int) (best6 : List (List Int)) : Option (((List (List Int)) × Int) × Unit) :=
  some ((best6, least6), ())
def impl_Chain_bestNested_B3 (N : Nat) (kx : Int → Int → Int → Int → Int → Int → ((List Int) × (List Int) × (List Int)) → (List (List Int)) → Option (((List (List Int)) × Int) × Unit)) (n : Int) (stages : Int) (least : Int) (length : Int) (v28 : Int) (v29 : Int) (c1 : (List Int) × (List Int) × (List Int)) (best : List (List Int)) : Option (((List (List Int)) × Int) × Unit) :=
  bif ilt v29 v28 then
    chk (mkB stages 24) <|
    impl_Chain_bestNested_L2 N N kx n stages least length v29 0 v28 v29 n 0 c1 best (List.replicate stages.toNat ([] : List Int))
  else
    impl_Chain_bestNested_K4 N least best
def impl_Chain_bestNested_L3 (N fu_ : Nat) (n : Int) (stages : Int) (least : Int) (length : Int) (v28 : Int) (v29 : Int) (c1 : (List Int) × (List Int) × (List Int)) (best : List (List Int)) : Option (((List (List Int)) × Int) × Unit) :=
  iterK fu_ (fun kx (v_ : (Int × Int × Int × Int × Int × Int × Unit) × (((List Int) × (List Int) × (List Int)) × (List (List Int)) × Unit)) => impl_Chain_bestNested_B3 N (fun n stages least length v28 v29 c1 best => kx ((n, stages, least, length, v28, v29, ()), (c1, best, ()))) v_.1.1 v_.1.2.1 v_.1.2.2.1 v_.1.2.2.2.1 v_.1.2.2.2.2.1 v_.1.2.2.2.2.2.1 v_.2.1 v_.2.2.1) ((n, stages, least, length, v28, v29, ()), (c1, best, ()))
theorem impl_Chain_bestNested_L3_succ (N fu_ : Nat) (n : Int) (stages : Int) (least : Int) (length : Int) (v28 : Int) (v29 : Int) (c1 : (List Int) × (List Int) × (List Int)) (best : List (List Int)) : impl_Chain_bestNested_L3 N (fu_ + 1) n stages least length v28 v29 c1 best = impl_Chain_bestNested_B3 N (fun n stages least length v28 v29 c1 best => impl_Chain_bestNested_L3 N fu_ n stages least length v28 v29 c1 best) n stages least length v28 v29 c1 best := rfl
theorem impl_Chain_bestNested_L3_run (N : Nat) (n : Nat → Int) (stages : Nat → Int) (least : Nat → Int) (length : Nat → Int) (v28 : Nat → Int) (v29 : Nat → Int) (c1 : Nat → ((List Int) × (List Int) × (List Int))) (best : Nat → (List (List Int))) (n_ : Nat) {res_ : Option (((List (List Int)) × Int) × Unit)} (hstep_ : ∀ j_, j_ < n_ → ∀ kx_, impl_Chain_bestNested_B3 N kx_ (n j_) (stages j_) (least j_) (length j_) (v28 j_) (v29 j_) (c1 j_) (best j_) = kx_ (n (j_ + 1)) (stages (j_ + 1)) (least (j_ + 1)) (length (j_ + 1)) (v28 (j_ + 1)) (v29 (j_ + 1)) (c1 (j_ + 1)) (best (j_ + 1))) (hend_ : ∀ kx_, impl_Chain_bestNested_B3 N kx_ (n n_) (stages n_) (least n_) (length n_) (v28 n_) (v29 n_) (c1 n_) (best n_) = res_) (fu_ : Nat) (hm_ : n_ < fu_) : impl_Chain_bestNested_L3 N fu_ (n 0) (stages 0) (least 0) (length 0) (v28 0) (v29 0) (c1 0) (best 0) = res_ := by
  exact loop_run (L := fun fu_ (x_ : Int × Int × Int × Int × Int × Int × ((List Int) × (List Int) × (List Int)) × (List (List Int))) => impl_Chain_bestNested_L3 N fu_ x_.1 x_.2.1 x_.2.2.1 x_.2.2.2.1 x_.2.2.2.2.1 x_.2.2.2.2.2.1 x_.2.2.2.2.2.2.1 x_.2.2.2.2.2.2.2) (B := fun kx_ x_ => impl_Chain_bestNested_B3 N (fun n stages least length v28 v29 c1 best => kx_ (n, stages, least, length, v28, v29, c1, best)) x_.1 x_.2.1 x_.2.2.1 x_.2.2.2.1 x_.2.2.2.2.1 x_.2.2.2.2.2.1 x_.2.2.2.2.2.2.1 x_.2.2.2.2.2.2.2) (fun _ _ => rfl) (fun j_ => (n j_, stages j_, least j_, length j_, v28 j_, v29 j_, c1 j_, best j_)) n_ (fun j_ hi_ kx_ => hstep_ j_ hi_ _) (fun kx_ => hend_ _) fu_ hm_
def impl_Chain_bestNested (N : Nat) (c : (List Int) × (List Int) × (List Int)) : Option (((List (List Int)) × Int) × Unit) :=
  (impl_power N (iadd .i64 (len c.2.1) 1) (len c.1)).bind fun r =>
  impl_Chain_bestNested_L3 N N (len c.1) (len c.2.1) 1099511627776 0 r.1 0 c []
def impl_BestNested (N : Nat) (c : (List Int) × (List Int) × (List Int)) : Option (((List (List Int)) × Bool) × Unit) :=
  (impl_IsChain N c).bind fun r =>
  bif !r.1 then
    some (([], false), ())
  else
    (impl_Chain_bestNested N c).bind fun r1 =>
    some ((r1.1.1, true), ())
def laws_FnExactBestNested (N : Nat) (aC : (List Int) × (List Int) × (List Int)) : Option (Bool × Unit) :=
  (laws_szChain N aC 1048576).bind fun r =>
  bif ilt r.1 0 then
    some (true, ())
  else
    (laws_toChain N aC).bind fun r1 =>
    (spec_BestNested N r1.1).bind fun r2 =>
    (laws_toChain N aC).bind fun r3 =>
    (impl_BestNested N r3.1).bind fun r4 =>
    (laws_eqIntSS N r4.1.1 r2.1.1).bind fun r5 =>
    bif !r5.1 then
      some (false, ())
    else
      bif !(Go.Rx.beq r4.1.2 r2.1.2) then
        some (false, ())
      else
        (laws_toChain N aC).bind fun r6 =>
        (laws_eqChain N r3.1 r6.1).bind fun r7 =>
        bif !r7.1 then
          some (false, ())
        else
          (laws_markChain N r3.1 1).bind fun r8 =>
          bif ilt r8.1 0 then
            some (false, ())
          else
            (laws_eqIntSS N r4.1.1 r2.1.1).bind fun r9 =>
            bif !r9.1 then
              some (false, ())
            else
              bif !(Go.Rx.beq r4.1.2 r2.1.2) then
                some (false, ())
              else
                (laws_markIntSS N r4.1.1 1).bind fun r10 =>
                (laws_heldIntSS N r10.2 1).bind fun r11 =>
                bif ilt r11.1 0 then
                  some (false, ())
                else
                  bif ine r11.1 r10.1 then
                    some (false, ())
                  else
                    (laws_toChain N aC).bind fun r12 =>
                    (impl_BestNested N r12.1).bind fun r13 =>
                    (laws_eqIntSS N r13.1.1 r2.1.1).bind fun r14 =>
                    bif !r14.1 then
                      some (false, ())
                    else
                      bif !(Go.Rx.beq r13.1.2 r2.1.2) then
                        some (false, ())
                      else
                        (laws_heldIntSS N r10.2 1).bind fun r15 =>
                        bif ilt r15.1 0 then
                          some (false, ())
                        else
                          bif ine r15.1 r10.1 then
                            some (false, ())
                          else
                            some (true, ())
end Px
end Go.Rx
