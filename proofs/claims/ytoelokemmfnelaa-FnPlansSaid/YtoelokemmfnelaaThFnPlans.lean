/- This text proves, of the plain functions behind FnPlans, that the law answers true; no condition beyond the ranges that its arguments have. -/
import Derived.Test.YtoelokemmfnelaaPxFnPlans
set_option linter.unusedVariables false
set_option linter.unusedSimpArgs false
namespace Go.Rx
theorem wrap_in {n : Int} (h1 : -9223372036854775808 ≤ n) (h2 : n < 9223372036854775808) : IntKind.i64.wrap n = n := by
  simp [IntKind.wrap, IntKind.bits, IntKind.signed]
  omega
theorem iadd_in {a b : Int} (h1 : -9223372036854775808 ≤ a + b) (h2 : a + b < 9223372036854775808) : iadd .i64 a b = a + b := wrap_in h1 h2
theorem isub_in {a b : Int} (h1 : -9223372036854775808 ≤ a - b) (h2 : a - b < 9223372036854775808) : isub .i64 a b = a - b := wrap_in h1 h2
theorem imul_in {a b : Int} (h1 : -9223372036854775808 ≤ a * b) (h2 : a * b < 9223372036854775808) : imul .i64 a b = a * b := wrap_in h1 h2
theorem iadd_nat {i : Nat} (h : i < 4611686018427387904) : iadd .i64 (i : Int) 1 = ((i + 1 : Nat) : Int) := by rw [iadd_in (by omega) (by omega)]; omega
@[simp] theorem ilt_eq (a b : Int) : ilt a b = decide (a < b) := rfl
@[simp] theorem ile_eq (a b : Int) : ile a b = decide (a ≤ b) := rfl
@[simp] theorem ieq_eq (a b : Int) : ieq a b = decide (a = b) := rfl
@[simp] theorem ine_eq (a b : Int) : ine a b = !decide (a = b) := rfl
@[simp] theorem len_eq {α : Type} (xs : List α) : len xs = (xs.length : Int) := rfl
@[simp] theorem beq_eq (a b : Bool) : Go.Rx.beq a b = (a == b) := rfl
theorem inB_nat (i n : Nat) : inB (i : Int) n = decide (i < n) := by simp [inB]
theorem inB_true {i n : Nat} (h : i < n) : inB (i : Int) n = true := by simp [inB_nat, h]
theorem inB_in {i : Int} {n : Nat} (h0 : 0 ≤ i) (h : i < n) : inB i n = true := by simp [inB, h0, h]
theorem fitB_in {n b : Nat} (h : n < 4194304) (hb : b ≤ 1024) : fitB n b = true := by
  have : n * b ≤ 4194304 * 1024 := Nat.mul_le_mul (by omega) hb
  simp only [fitB, Bool.and_eq_true, decide_eq_true_eq]; omega
theorem mkB_in {n b : Nat} (h : n < 4194304) (hb : b ≤ 1024) : mkB (n : Int) b = true := by
  have : n * b ≤ 4194304 * 1024 := Nat.mul_le_mul (by omega) hb
  simp only [mkB, Bool.and_eq_true, decide_eq_true_eq, Int.toNat_natCast]; omega
@[simp] theorem chk_true' {α : Type} (x : Option α) : chk true x = x := rfl
@[simp] theorem chk_false {α : Type} (x : Option α) : chk false x = none := rfl
theorem all_cases {α : Type} (p : α → Bool) (d : α) : ∀ (xs : List α), (xs.all p = true ∧ ∀ i, i < xs.length → p (gd xs i d) = true) ∨ (xs.all p = false ∧ ∃ j, j < xs.length ∧ (∀ i, i < j → p (gd xs i d) = true) ∧ p (gd xs j d) = false)
  | [] => .inl ⟨rfl, fun i h => by simp at h⟩
  | a :: xs => by
    cases ha : p a with
    | false => exact .inr ⟨by simp [ha], 0, by simp, fun i h => by omega, by simpa [gd] using ha⟩
    | true =>
      rcases all_cases p d xs with ⟨h, hall⟩ | ⟨h, j, hj, hb, hat⟩
      · refine .inl ⟨by simp [ha] at h ⊢; exact h, fun i hi => ?_⟩
        cases i with
        | zero => simpa [gd] using ha
        | succ i => simpa [gd] using hall i (by simpa using hi)
      · refine .inr ⟨by rw [List.all_cons, ha, h]; rfl, j + 1, by simpa using hj, fun i hi => ?_, by simpa [gd] using hat⟩
        cases i with
        | zero => simpa [gd] using ha
        | succ i => simpa [gd] using hb i (by omega)
theorem first_cases (p : Nat → Bool) : ∀ (n : Nat), (∀ i, i < n → p i = true) ∨ (∃ j, j < n ∧ (∀ i, i < j → p i = true) ∧ p j = false)
  | 0 => .inl fun i h => by omega
  | n + 1 => by
    rcases first_cases p n with h | ⟨j, hj, hb, hat⟩
    · cases hn : p n with
      | true => exact .inl fun i hi => by by_cases e : i = n; exact e ▸ hn; exact h i (by omega)
      | false => exact .inr ⟨n, by omega, h, hn⟩
    · exact .inr ⟨j, by omega, hb, hat⟩
theorem take_succ {α : Type} (xs : List α) (i : Nat) (d : α) (h : i < xs.length) : xs.take (i + 1) = xs.take i ++ [gd xs i d] := by
  rw [List.take_succ_eq_append_getElem h]; simp [gd, List.getD_eq_getElem?_getD, h]
theorem mem_getD {α : Type} {xs : List α} {i : Nat} (d : α) (h : i < xs.length) : gd xs i d ∈ xs := by
  rw [gd, List.getD_eq_getElem?_getD, List.getElem?_eq_getElem h]; simp
def inRg (lo hi x : Int) : Bool := decide (lo ≤ x) && decide (x ≤ hi)
def bd (b : Int) (xs : List Int) : Prop := ∀ i, i < xs.length → 0 ≤ gd xs i 0 ∧ gd xs i 0 ≤ b
theorem all_gd {α : Type} {p : α → Bool} {xs : List α} (d : α) (h : xs.all p = true) : ∀ i, i < xs.length → p (gd xs i d) = true := fun _ hi => List.all_eq_true.1 h _ (mem_getD d hi)
theorem bd_of {b : Int} {xs : List Int} (h : xs.all (inRg 0 b) = true) : bd b xs := fun i hi => by
  have := all_gd 0 h i hi
  simpa [inRg] using this
theorem bd_iff {b : Int} {xs : List Int} : xs.all (inRg 0 b) = true ↔ bd b xs := by
  refine ⟨bd_of, fun h => ?_⟩
  rcases all_cases (inRg 0 b) 0 xs with ⟨h1, _⟩ | ⟨_, j, hj, _, hat⟩
  · exact h1
  · have := h j hj
    simp [inRg, this] at hat
def psum (xs : List Int) (i : Nat) : Int := (xs.take i).sum
theorem psum_zero (xs : List Int) : psum xs 0 = 0 := by simp [psum]
theorem psum_succ {xs : List Int} {i : Nat} (h : i < xs.length) : psum xs (i + 1) = psum xs i + gd xs i 0 := by
  unfold psum; rw [take_succ xs i 0 h]; simp
theorem psum_bd {b : Int} {xs : List Int} (h : bd b xs) : ∀ i, i ≤ xs.length → 0 ≤ psum xs i ∧ psum xs i ≤ b * i
  | 0, _ => by simp [psum_zero]
  | i + 1, hi => by
    have h1 := psum_bd h i (by omega)
    have h2 := h i (by omega)
    rw [psum_succ (by omega)]
    have : b * ((i + 1 : Nat) : Int) = b * i + b := by rw [Int.natCast_add, Int.mul_add]; simp
    omega
theorem bif_and (a b : Bool) : (bif a then some (b, ()) else some (false, ())) = some (a && b, ()) := by cases a <;> rfl
theorem bif_not {α : Type} (a : Bool) (x y : α) : (bif !a then x else y) = bif a then y else x := by cases a <;> rfl
def RngI (xs : List Int) : Prop := xs.length ≤ maxLen ∧ ∀ i, i < xs.length → (Lit.int .i64 (xs.getD i 0)).wf = true
def RngZ (x : Int) : Prop := (Lit.int .i64 x).wf = true
theorem RngZ.bd {x : Int} (h : RngZ x) : -9223372036854775808 ≤ x ∧ x ≤ 9223372036854775807 := by
  simpa [RngZ, Lit.wf, IntKind.min, IntKind.max, IntKind.signed, IntKind.bits] using h
theorem RngI.bd {xs : List Int} (h : RngI xs) : ∀ i, i < xs.length → -9223372036854775808 ≤ gd xs i 0 ∧ gd xs i 0 ≤ 9223372036854775807 := fun i hi => RngZ.bd (h.2 i hi)
end Go.Rx
namespace Go.Rx.Px
abbrev Cs := List Int × List Int × List Int × List Int
theorem impl_within_eq (N : Nat) (x lo hi : Int) : impl_within N x lo hi = some (inRg lo hi x, ()) := by
  simp only [impl_within, ile_eq, inRg]; by_cases h : lo ≤ x <;> simp [h]
theorem spec_l1In_eq (N : Nat) (x lo hi : Int) : spec_l1In N x lo hi = some (inRg lo hi x, ()) := by
  simp only [spec_l1In, ile_eq, inRg]; by_cases h : lo ≤ x <;> simp [h]
theorem impl_allWithin_eq {N : Nat} {xs : List Int} {lo hi : Int} (hl : xs.length < 4194304) (hN : 4194304 ≤ N) : impl_allWithin N xs lo hi = some (xs.all (inRg lo hi), ()) := by
  unfold impl_allWithin
  rcases all_cases (inRg lo hi) 0 xs with ⟨h, hall⟩ | ⟨h, j, hj, hbef, hat⟩
  · refine impl_allWithin_L1_run N (fun _ => lo) (fun _ => hi) (fun _ => xs) (fun _ => xs.length) (fun i => i) xs.length (fun i hi kx => ?_) (fun kx => ?_) N (by omega)
    · simp [impl_allWithin_B1, hi, inB_true hi, impl_within_eq, hall i hi, iadd_nat (show i < 4611686018427387904 by omega)]
    · simp [impl_allWithin_B1, impl_allWithin_K1, h]
  · refine impl_allWithin_L1_run N (fun _ => lo) (fun _ => hi) (fun _ => xs) (fun _ => xs.length) (fun i => i) j (fun i hi kx => ?_) (fun kx => ?_) N (by omega)
    · simp [impl_allWithin_B1, show i < xs.length by omega, inB_true (show i < xs.length by omega), impl_within_eq, hbef i hi, iadd_nat (show i < 4611686018427387904 by omega)]
    · simp [impl_allWithin_B1, hj, inB_true hj, impl_within_eq, hat, h]
theorem spec_l2Row_eq {N : Nat} {xs : List Int} {n hi : Int} (hl : xs.length < 4194304) (hN : 4194304 ≤ N) : spec_l2Row N xs n hi = some (xs.all (inRg 0 hi) && decide ((xs.length : Int) = n), ()) := by
  unfold spec_l2Row
  rcases all_cases (inRg 0 hi) 0 xs with ⟨h, hall⟩ | ⟨h, j, hj, hbef, hat⟩
  · refine spec_l2Row_L1_run N (fun _ => xs) (fun _ => n) (fun _ => hi) (fun i => i) xs.length (fun i hi kx => ?_) (fun kx => ?_) N (by omega)
    · simp [spec_l2Row_B1, hi, inB_true hi, spec_l1In_eq, hall i hi, iadd_nat (show i < 4611686018427387904 by omega)]
    · simp [spec_l2Row_B1, spec_l2Row_K1, h]
  · refine spec_l2Row_L1_run N (fun _ => xs) (fun _ => n) (fun _ => hi) (fun i => i) j (fun i hi kx => ?_) (fun kx => ?_) N (by omega)
    · simp [spec_l2Row_B1, show i < xs.length by omega, inB_true (show i < xs.length by omega), spec_l1In_eq, hbef i hi, iadd_nat (show i < 4611686018427387904 by omega)]
    · simp [spec_l2Row_B1, hj, inB_true hj, spec_l1In_eq, hat, h]
def caseB (c : Cs) : Bool := decide (c.1.length ≤ 8) && (decide (c.2.1.length = c.1.length) && (decide (c.2.2.1.length = c.1.length) && (decide (c.2.2.2.length = c.1.length) && (c.1.all (inRg 0 20) && (c.2.1.all (inRg 0 99) && (c.2.2.1.all (inRg 0 9) && c.2.2.2.all (inRg 0 9)))))))
structure CaseP (c : Cs) : Prop where
  n : c.1.length ≤ 8
  l1 : c.2.1.length = c.1.length
  l2 : c.2.2.1.length = c.1.length
  l3 : c.2.2.2.length = c.1.length
  b0 : bd 20 c.1
  b1 : bd 99 c.2.1
  b2 : bd 9 c.2.2.1
  b3 : bd 9 c.2.2.2
theorem caseB_iff {c : Cs} : caseB c = true ↔ CaseP c := by
  simp only [caseB, Bool.and_eq_true, decide_eq_true_eq, bd_iff]
  exact ⟨fun ⟨a, b, c, d, e, f, g, h⟩ => ⟨a, b, c, d, e, f, g, h⟩, fun ⟨a, b, c, d, e, f, g, h⟩ => ⟨a, b, c, d, e, f, g, h⟩⟩
structure SmC (c : Cs) : Prop where
  s0 : c.1.length < 4194304
  s1 : c.2.1.length < 4194304
  s2 : c.2.2.1.length < 4194304
  s3 : c.2.2.2.length < 4194304
theorem impl_IsCase_eq {N : Nat} {c : Cs} (hc : SmC c) (hN : 4194304 ≤ N) : impl_IsCase N c = some (caseB c, ()) := by
  have e0 : ile (len c.1) 8 = decide (c.1.length ≤ 8) := by simp only [ile_eq, len_eq, decide_eq_decide]; omega
  have e1 : ∀ a b : List Int, ieq (len a) (len b) = decide (a.length = b.length) := fun a b => by simp only [ieq_eq, len_eq, decide_eq_decide]; omega
  simp only [impl_IsCase, impl_allWithin_eq hc.s0 hN, impl_allWithin_eq hc.s1 hN, impl_allWithin_eq hc.s2 hN, impl_allWithin_eq hc.s3 hN, caseB, e0, e1, Option.bind_some, bif_and]
theorem spec_l2Good_eq {N : Nat} {c : Cs} (hc : SmC c) (hN : 4194304 ≤ N) : spec_l2Good N c = some (caseB c, ()) := by
  have e0 : ile (c.1.length : Int) 8 = decide (c.1.length ≤ 8) := by simp only [ile_eq, decide_eq_decide]; omega
  simp only [spec_l2Good, len_eq, spec_l2Row_eq hc.s0 hN, spec_l2Row_eq hc.s1 hN, spec_l2Row_eq hc.s2 hN, spec_l2Row_eq hc.s3 hN, caseB, e0, Option.bind_some, bif_and]
  congr 2
  rw [Bool.eq_iff_iff]
  simp only [Bool.and_eq_true, decide_eq_true_eq]
  constructor
  · rintro ⟨h1, ⟨h2, h3⟩, ⟨h4, h5⟩, ⟨h6, h7⟩, h8, h9⟩; exact ⟨h1, by omega, by omega, by omega, h2, h4, h6, h8⟩
  · rintro ⟨h1, h2, h3, h4, h5, h6, h7, h8⟩; exact ⟨h1, ⟨h5, trivial⟩, ⟨h6, by omega⟩, ⟨h7, by omega⟩, h8, by omega⟩
def stockAt (plan need : List Int) (t : Nat) : Int := psum plan t - psum need t
end Go.Rx.Px
namespace Go.Rx
def rsum (f : Nat → Int) : Nat → Int
  | 0 => 0
  | n + 1 => rsum f n + f n
theorem rsum_bd {f : Nat → Int} {lo hi : Int} : ∀ {n : Nat}, (∀ i, i < n → lo ≤ f i ∧ f i ≤ hi) → lo * n ≤ rsum f n ∧ rsum f n ≤ hi * n
  | 0, _ => by simp [rsum]
  | n + 1, h => by
    have h1 := rsum_bd (n := n) (fun i hi => h i (by omega))
    have h2 := h n (by omega)
    have e : ∀ x : Int, x * ((n + 1 : Nat) : Int) = x * n + x := fun x => by rw [Int.natCast_add, Int.mul_add]; simp
    simp only [rsum, e]; omega
theorem mul_bd {a b A B : Int} (ha : 0 ≤ a ∧ a ≤ A) (hb : -B ≤ b ∧ b ≤ B) : -(A * B) ≤ a * b ∧ a * b ≤ A * B := by
  have hB : 0 ≤ B := by omega
  have h1 : a * b ≤ a * B := Int.mul_le_mul_of_nonneg_left hb.2 ha.1
  have h2 : a * (-B) ≤ a * b := Int.mul_le_mul_of_nonneg_left hb.1 ha.1
  have h3 : a * B ≤ A * B := Int.mul_le_mul_of_nonneg_right ha.2 hB
  rw [Int.mul_neg] at h2
  omega
theorem gd_map_range {α : Type} (f : Nat → α) (d : α) {n i : Nat} (h : i < n) : gd ((List.range n).map f) i d = f i := by
  simp [gd, List.getD_eq_getElem?_getD, h]
theorem map_range_succ {α : Type} (f : Nat → α) (n : Nat) : (List.range (n + 1)).map f = (List.range n).map f ++ [f n] := by simp [List.range_succ]
theorem rangeB {p : Nat → Bool} {n : Nat} : (List.range n).all p = true ↔ ∀ i, i < n → p i = true := by simp
end Go.Rx
namespace Go.Rx.Px
def ifpos (p s : Int) : Int := if 0 < p then s else 0
theorem ifpos_bd {p s b : Int} (h : 0 ≤ s ∧ s ≤ b) : 0 ≤ ifpos p s ∧ ifpos p s ≤ b := by unfold ifpos; split <;> omega
structure CellBd (c : Cs) (plan : List Int) (t : Nat) : Prop where
  s : 0 ≤ gd c.2.1 t 0 ∧ gd c.2.1 t 0 ≤ 99
  u : 0 ≤ gd c.2.2.1 t 0 ∧ gd c.2.2.1 t 0 ≤ 9
  h : 0 ≤ gd c.2.2.2 t 0 ∧ gd c.2.2.2 t 0 ≤ 9
  p : 0 ≤ gd plan t 0 ∧ gd plan t 0 ≤ 200
  up : 0 ≤ gd c.2.2.1 t 0 * gd plan t 0 ∧ gd c.2.2.1 t 0 * gd plan t 0 ≤ 1800
theorem cellBd {c : Cs} {plan : List Int} (h : CaseP c) (hp : bd 200 plan) {t : Nat} (ht : t < c.1.length) (hl : t < plan.length) : CellBd c plan t := by
  have h1 := h.b1 t (by have := h.l1; omega)
  have h2 := h.b2 t (by have := h.l2; omega)
  have h3 := h.b3 t (by have := h.l3; omega)
  have h4 := hp t hl
  refine ⟨h1, h2, h3, h4, Int.mul_nonneg h2.1 h4.1, ?_⟩
  have := (mul_bd (A := 9) (B := 200) h2 (show -200 ≤ gd plan t 0 ∧ gd plan t 0 ≤ 200 by omega)).2
  omega
structure PlanP (c : Cs) (plan : List Int) : Prop where
  cs : CaseP c
  n : plan.length = c.1.length
  b : bd 160 plan
theorem PlanP.b200 {c : Cs} {plan : List Int} (h : PlanP c plan) : bd 200 plan := fun i hi => by have := h.b i hi; omega
theorem PlanP.st {c : Cs} {plan : List Int} (h : PlanP c plan) {t : Nat} (ht : t ≤ plan.length) : -1600 ≤ stockAt plan c.1 t ∧ stockAt plan c.1 t ≤ 1600 := by
  have h1 := psum_bd h.b200 t ht
  have h2 := psum_bd h.cs.b0 t (by have := h.n; omega)
  have h3 := h.cs.n
  have h4 := h.n
  simp only [stockAt]; omega
def stocksL (plan need : List Int) (n : Nat) : List Int := (List.range n).map fun i => stockAt plan need (i + 1)
theorem stocksL_len (plan need : List Int) (n : Nat) : (stocksL plan need n).length = n := by simp [stocksL]
theorem stocksL_gd (plan need : List Int) {n i : Nat} (h : i < n) : gd (stocksL plan need n) i 0 = stockAt plan need (i + 1) := gd_map_range _ _ h
theorem stocksL_succ (plan need : List Int) (n : Nat) : stocksL plan need (n + 1) = stocksL plan need n ++ [stockAt plan need (n + 1)] := map_range_succ _ _
theorem stockAt_zero (plan need : List Int) : stockAt plan need 0 = 0 := by simp [stockAt, psum_zero]
theorem stockAt_succ {plan need : List Int} {i : Nat} (h : i < plan.length) (h2 : i < need.length) : stockAt plan need (i + 1) = stockAt plan need i + (gd plan i 0 - gd need i 0) := by
  simp only [stockAt, psum_succ h, psum_succ h2]; omega
def rowB (c : Cs) (plan : List Int) : Bool := decide (plan.length = c.1.length) && plan.all (inRg 0 160)
def nnB (c : Cs) (plan : List Int) : Bool := (List.range plan.length).all fun i => decide (0 ≤ stockAt plan c.1 (i + 1))
def planB (c : Cs) (plan : List Int) : Bool := rowB c plan && (nnB c plan && decide (stockAt plan c.1 plan.length = 0))
theorem rowP {c : Cs} {plan : List Int} (hc : CaseP c) (h : rowB c plan = true) : PlanP c plan := by
  simp only [rowB, Bool.and_eq_true, decide_eq_true_eq, bd_iff] at h
  exact ⟨hc, h.1, h.2⟩
theorem nn_cases (c : Cs) (plan : List Int) : (nnB c plan = true ∧ ∀ i, i < plan.length → 0 ≤ stockAt plan c.1 (i + 1)) ∨ (nnB c plan = false ∧ ∃ j, j < plan.length ∧ (∀ i, i < j → 0 ≤ stockAt plan c.1 (i + 1)) ∧ stockAt plan c.1 (j + 1) < 0) := by
  rcases first_cases (fun i => decide (0 ≤ stockAt plan c.1 (i + 1))) plan.length with h1 | ⟨j, hj, hb, hat⟩
  · exact .inl ⟨rangeB.2 h1, fun i hi => by simpa using h1 i hi⟩
  · have hat' : stockAt plan c.1 (j + 1) < 0 := Int.not_le.1 (by simpa using hat)
    refine .inr ⟨?_, j, hj, fun i hi => by simpa using hb i hi, hat'⟩
    cases hl : nnB c plan with
    | false => rfl
    | true => exact absurd (rangeB.1 hl j hj) (by simp [hat'])
theorem len_dec (a b : List Int) : decide ((a.length : Int) = b.length) = decide (a.length = b.length) := by rw [decide_eq_decide]; omega
theorem impl_Case_stocks_eq {N : Nat} {c : Cs} {plan : List Int} (hc : CaseP c) (hs : plan.length < 4194304) (hN : 4194304 ≤ N) : impl_Case_stocks N c plan = some (bif rowB c plan && nnB c plan then (stocksL plan c.1 plan.length, decide (stockAt plan c.1 plan.length = 0)) else ([], false), ()) := by
  simp only [impl_Case_stocks, ine_eq, len_eq, len_dec, impl_allWithin_eq hs hN, Option.bind_some, bif_not]
  cases hn : decide (plan.length = c.1.length) with
  | false => simp [rowB, hn]
  | true =>
  cases ha : plan.all (inRg 0 160) with
  | false => simp [rowB, hn, ha]
  | true =>
    have hr : rowB c plan = true := by simp only [rowB, hn, ha, Bool.and_self]
    have hp := rowP hc hr
    have h8 := hc.n
    have hl := hp.n
    simp only [cond_true, hr, Bool.true_and]
    have step : ∀ i, i < plan.length → ∀ kx, 0 ≤ stockAt plan c.1 (i + 1) → impl_Case_stocks_B1 N kx (stockAt plan c.1 i) plan plan.length i c (stocksL plan c.1 i) = kx (stockAt plan c.1 (i + 1)) plan plan.length ((i + 1 : Nat) : Int) c (stocksL plan c.1 (i + 1)) := fun i hi kx h0 => by
      have hb := hp.b i hi
      have hd := hc.b0 i (by omega)
      have h1 := hp.st (t := i) (by omega)
      simp only [impl_Case_stocks_B1, ilt_eq, Int.ofNat_lt, hi, decide_true, cond_true, inB_true hi, inB_true (show i < c.1.length by omega), chk_true', Int.toNat_natCast, iadd_nat (show i < 4611686018427387904 by omega)]
      rw [isub_in (by omega) (by omega), iadd_in (by omega) (by omega), ← stockAt_succ hi (show i < c.1.length by omega), chk_of (fitB_in (by rw [stocksL_len]; omega) (by omega)), ← stocksL_succ]
      simp only [show ¬ stockAt plan c.1 (i + 1) < 0 by omega, decide_false, cond_false]
    rcases nn_cases c plan with ⟨h, hall⟩ | ⟨h, j, hj, hbef, hat⟩
    · rw [h, cond_true]
      refine impl_Case_stocks_L1_run N (stockAt plan c.1) (fun _ => plan) (fun _ => plan.length) (fun i => i) (fun _ => c) (stocksL plan c.1) plan.length (fun i hi kx => step i hi kx (hall i hi)) (fun kx => ?_) N (by omega)
      simp only [impl_Case_stocks_B1, impl_Case_stocks_K1, ilt_eq, Int.lt_irrefl, decide_false, cond_false, ieq_eq]
    · rw [h, cond_false]
      refine impl_Case_stocks_L1_run N (stockAt plan c.1) (fun _ => plan) (fun _ => plan.length) (fun i => i) (fun _ => c) (stocksL plan c.1) j (fun i hi kx => step i (by omega) kx (hbef i hi)) (fun kx => ?_) N (by omega)
      have hb := hp.b j hj
      have hd := hc.b0 j (by omega)
      have h1 := hp.st (t := j) (by omega)
      simp only [impl_Case_stocks_B1, ilt_eq, Int.ofNat_lt, hj, decide_true, cond_true, inB_true hj, inB_true (show j < c.1.length by omega), chk_true', Int.toNat_natCast]
      rw [isub_in (by omega) (by omega), iadd_in (by omega) (by omega), ← stockAt_succ hj (show j < c.1.length by omega)]
      simp only [hat, decide_true, cond_true]
theorem impl_planned_eq {N : Nat} {c : Cs} {plan : List Int} (hc : SmC c) (hs : plan.length < 4194304) (hN : 4194304 ≤ N) : impl_planned N c plan = some (bif caseB c && planB c plan then (stocksL plan c.1 plan.length, true) else ([], false), ()) := by
  simp only [impl_planned, impl_IsCase_eq hc hN, Option.bind_some, bif_not]
  cases h : caseB c with
  | false => rfl
  | true =>
    simp only [cond_true, impl_Case_stocks_eq (caseB_iff.1 h) hs hN, Option.bind_some, planB, Bool.true_and]
    cases rowB c plan <;> cases nnB c plan <;> cases decide (stockAt plan c.1 plan.length = 0) <;> rfl
theorem spec_l2Stocks_eq {N : Nat} {c : Cs} {plan : List Int} (hp : PlanP c plan) (hN : 4194304 ≤ N) : spec_l2Stocks N c plan = some (stocksL plan c.1 plan.length, ()) := by
  have h8 := hp.cs.n
  have hl := hp.n
  refine spec_l2Stocks_L1_run N (fun _ => plan) (stockAt plan c.1) (fun i => i) (fun _ => c) (stocksL plan c.1) plan.length (fun i hi kx => ?_) (fun kx => ?_) N (by omega)
  · have hb := hp.b i hi
    have hd := hp.cs.b0 i (by omega)
    have h1 := hp.st (t := i) (by omega)
    simp only [spec_l2Stocks_B1, ilt_eq, len_eq, Int.ofNat_lt, hi, decide_true, cond_true, inB_true hi, inB_true (show i < c.1.length by omega), chk_true', Int.toNat_natCast, iadd_nat (show i < 4611686018427387904 by omega)]
    rw [iadd_in (by omega) (by omega), isub_in (by omega) (by omega), chk_of (fitB_in (by rw [stocksL_len]; omega) (by omega)), stocksL_succ, stockAt_succ hi (show i < c.1.length by omega), Int.add_sub_assoc]
  · simp only [spec_l2Stocks_B1, spec_l2Stocks_K1, ilt_eq, len_eq, Int.lt_irrefl, decide_false, cond_false]
theorem spec_l2Plan_eq {N : Nat} {c : Cs} {plan : List Int} (hc : CaseP c) (hs : plan.length < 4194304) (hN : 4194304 ≤ N) : spec_l2Plan N c plan = some (planB c plan, ()) := by
  have e0 : (plan.all (inRg 0 160) && decide ((plan.length : Int) = c.1.length)) = rowB c plan := by rw [rowB, len_dec, Bool.and_comm]
  simp only [spec_l2Plan, len_eq, spec_l2Row_eq hs hN, Option.bind_some, bif_not, planB, e0]
  cases hr : rowB c plan with
  | false => rfl
  | true =>
    have hp := rowP hc hr
    have h8 := hc.n
    have hl := hp.n
    simp only [cond_true, spec_l2Stocks_eq hp hN, Option.bind_some, Bool.true_and]
    have hlen := stocksL_len plan c.1 plan.length
    have step : ∀ i, i < plan.length → ∀ kx, 0 ≤ stockAt plan c.1 (i + 1) → spec_l2Plan_B1 N kx i (stocksL plan c.1 plan.length) = kx ((i + 1 : Nat) : Int) (stocksL plan c.1 plan.length) := fun i hi kx h0 => by
      simp only [spec_l2Plan_B1, ilt_eq, len_eq, hlen, Int.ofNat_lt, hi, decide_true, cond_true, inB_true hi, chk_true', Int.toNat_natCast, stocksL_gd _ _ hi, show ¬ stockAt plan c.1 (i + 1) < 0 by omega, decide_false, cond_false, iadd_nat (show i < 4611686018427387904 by omega)]
    rcases nn_cases c plan with ⟨h, hall⟩ | ⟨h, j, hj, hbef, hat⟩
    · refine spec_l2Plan_L1_run N (fun i => i) (fun _ => stocksL plan c.1 plan.length) plan.length (fun i hi kx => step i hi kx (hall i hi)) (fun kx => ?_) N (by omega)
      simp only [spec_l2Plan_B1, spec_l2Plan_K1, ilt_eq, len_eq, hlen, Int.lt_irrefl, decide_false, cond_false, ieq_eq, h, Bool.true_and]
      by_cases h0 : plan.length = 0
      · simp [h0, stockAt_zero]
      · rw [isub_in (by omega) (by omega), show (plan.length : Int) - 1 = ((plan.length - 1 : Nat) : Int) by omega, Int.toNat_natCast, stocksL_gd _ _ (by omega), show plan.length - 1 + 1 = plan.length by omega, chk_of (inB_true (by omega))]
        simp [h0]
    · refine spec_l2Plan_L1_run N (fun i => i) (fun _ => stocksL plan c.1 plan.length) j (fun i hi kx => step i (by omega) kx (hbef i hi)) (fun kx => ?_) N (by omega)
      simp only [spec_l2Plan_B1, ilt_eq, len_eq, hlen, Int.ofNat_lt, hj, decide_true, cond_true, inB_true hj, chk_true', Int.toNat_natCast, stocksL_gd _ _ hj, hat, h, Bool.false_and]
theorem spec_l2Two_eq {N : Nat} {c : Cs} {plan : List Int} (hc : SmC c) (hs : plan.length < 4194304) (hN : 4194304 ≤ N) : spec_l2Two N c plan = some (caseB c && planB c plan, ()) := by
  simp only [spec_l2Two, spec_l2Good_eq hc hN, Option.bind_some]
  cases h : caseB c with
  | false => rfl
  | true => simp only [cond_true, spec_l2Plan_eq (caseB_iff.1 h) hs hN, Option.bind_some, Bool.true_and]
def fSet (c : Cs) (plan : List Int) (t : Nat) : Int := ifpos (gd plan t 0) (gd c.2.1 t 0)
def fUnit (c : Cs) (plan : List Int) (t : Nat) : Int := gd c.2.2.1 t 0 * gd plan t 0
def fHold (c : Cs) (plan : List Int) (t : Nat) : Int := gd c.2.2.2 t 0 * stockAt plan c.1 (t + 1)
theorem fSet_bd {c : Cs} {plan : List Int} (h : PlanP c plan) : ∀ i, i ≤ plan.length → -20000 * i ≤ rsum (fSet c plan) i ∧ rsum (fSet c plan) i ≤ 20000 * i := fun i hi => rsum_bd fun k hk => by
  have hn := h.n
  have := ifpos_bd (p := gd plan k 0) (cellBd h.cs h.b200 (show k < c.1.length by omega) (by omega)).s
  simp only [fSet]; omega
theorem fUnit_bd {c : Cs} {plan : List Int} (h : PlanP c plan) : ∀ i, i ≤ plan.length → -20000 * i ≤ rsum (fUnit c plan) i ∧ rsum (fUnit c plan) i ≤ 20000 * i := fun i hi => rsum_bd fun k hk => by
  have hn := h.n
  have := (cellBd h.cs h.b200 (show k < c.1.length by omega) (by omega)).up
  simp only [fUnit]; omega
theorem fHold_bd1 {c : Cs} {plan : List Int} (h : PlanP c plan) {k : Nat} (hk : k < plan.length) : -20000 ≤ fHold c plan k ∧ fHold c plan k ≤ 20000 := by
  have hn := h.n
  have := mul_bd (cellBd h.cs h.b200 (show k < c.1.length by omega) hk).h (h.st (show k + 1 ≤ plan.length by omega))
  simp only [fHold]; omega
theorem fHold_bd {c : Cs} {plan : List Int} (h : PlanP c plan) : ∀ i, i ≤ plan.length → -20000 * i ≤ rsum (fHold c plan) i ∧ rsum (fHold c plan) i ≤ 20000 * i := fun i hi => rsum_bd fun k hk => fHold_bd1 h (by omega)
theorem impl_Case_parts_eq {N : Nat} {c : Cs} {plan : List Int} (h : PlanP c plan) (hN : 4194304 ≤ N) : impl_Case_parts N c plan = some ((rsum (fSet c plan) plan.length, rsum (fUnit c plan) plan.length, rsum (fHold c plan) plan.length), ()) := by
  have h8 := h.cs.n
  have hl := h.n
  refine impl_Case_parts_L1_run N (rsum (fSet c plan)) (rsum (fUnit c plan)) (rsum (fHold c plan)) (stockAt plan c.1) (fun _ => plan) (fun _ => plan.length) (fun i => i) (fun _ => c) plan.length (fun i hi kx => ?_) (fun kx => ?_) N (by omega)
  · have hc := cellBd h.cs h.b200 (show i < c.1.length by omega) hi
    have hup := hc.up
    have hsu := hc.s
    have hpp := hc.p
    have hd := h.cs.b0 i (by omega)
    have h1 := h.st (t := i) (by omega)
    have h2 := fHold_bd1 h hi
    have b1 := fSet_bd h i (by omega)
    have b2 := fUnit_bd h i (by omega)
    have b3 := fHold_bd h i (by omega)
    have hP := h.cs.l1
    have hQ := h.cs.l2
    have hR := h.cs.l3
    simp only [impl_Case_parts_B1, impl_Case_parts_K1, ilt_eq, Int.ofNat_lt, hi, decide_true, cond_true, inB_true hi, inB_true (show i < c.1.length by omega), inB_true (show i < c.2.1.length by omega), inB_true (show i < c.2.2.1.length by omega), inB_true (show i < c.2.2.2.length by omega), chk_true', Int.toNat_natCast, iadd_nat (show i < 4611686018427387904 by omega)]
    rw [isub_in (by omega) (by omega), iadd_in (a := stockAt plan c.1 i) (by omega) (by omega), ← stockAt_succ hi (show i < c.1.length by omega), imul_in (a := gd c.2.2.1 i 0) (by omega) (by omega), imul_in (a := gd c.2.2.2 i 0) (by simp only [fHold] at h2; omega) (by simp only [fHold] at h2; omega)]
    have e2 : gd c.2.2.1 i 0 * gd plan i 0 = fUnit c plan i := rfl
    have e3 : gd c.2.2.2 i 0 * stockAt plan c.1 (i + 1) = fHold c plan i := rfl
    rw [e2] at hup
    simp only [e2, e3]
    rw [iadd_in (a := rsum (fUnit c plan) i) (by omega) (by omega), iadd_in (a := rsum (fHold c plan) i) (by omega) (by omega)]
    by_cases hp : 0 < gd plan i 0
    · simp only [hp, decide_true, cond_true, rsum, fSet, ifpos, if_true] at *
      rw [iadd_in (by omega) (by omega)]
    · simp only [hp, decide_false, cond_false, rsum, fSet, ifpos, if_false, Int.add_zero]
  · simp only [impl_Case_parts_B1, impl_Case_parts_K2, ilt_eq, Int.lt_irrefl, decide_false, cond_false]
def costOf (c : Cs) (plan : List Int) : Int := rsum (fSet c plan) plan.length + rsum (fUnit c plan) plan.length + rsum (fHold c plan) plan.length
theorem impl_Case_cost_eq {N : Nat} {c : Cs} {plan : List Int} (h : PlanP c plan) (hN : 4194304 ≤ N) : impl_Case_cost N c plan = some (costOf c plan, ()) := by
  have b1 := fSet_bd h _ (Nat.le_refl _)
  have b2 := fUnit_bd h _ (Nat.le_refl _)
  have b3 := fHold_bd h _ (Nat.le_refl _)
  have h8 := h.cs.n
  have hl := h.n
  simp only [impl_Case_cost, impl_Case_parts_eq h hN, Option.bind_some, costOf]
  rw [iadd_in (a := rsum (fSet c plan) plan.length) (by omega) (by omega), iadd_in (by omega) (by omega)]
theorem spec_l2Parts_eq {N : Nat} {c : Cs} {plan : List Int} (h : PlanP c plan) (hN : 4194304 ≤ N) : spec_l2Parts N c plan = some ([rsum (fSet c plan) plan.length, rsum (fUnit c plan) plan.length, rsum (fHold c plan) plan.length], ()) := by
  have h8 := h.cs.n
  have hl := h.n
  have hlen := stocksL_len plan c.1 plan.length
  simp only [spec_l2Parts, spec_l2Stocks_eq h hN, Option.bind_some]
  refine spec_l2Parts_L1_run N (fun _ => plan) (fun i => i) (fun _ => c) (fun _ => List.replicate 3 0) (fun i => [rsum (fSet c plan) i, rsum (fUnit c plan) i, rsum (fHold c plan) i]) (fun _ => stocksL plan c.1 plan.length) plan.length (fun i hi kx => ?_) (fun kx => ?_) N (by omega)
  · have hc := cellBd h.cs h.b200 (show i < c.1.length by omega) hi
    have hup := hc.up
    have hsu := hc.s
    have h2 := fHold_bd1 h hi
    have b1 := fSet_bd h i (by omega)
    have b2 := fUnit_bd h i (by omega)
    have b3 := fHold_bd h i (by omega)
    have hP := h.cs.l1
    have hQ := h.cs.l2
    have hR := h.cs.l3
    have i0 : inB 0 3 = true := rfl
    have i1 : inB 1 3 = true := rfl
    have i2 : inB 2 3 = true := rfl
    have g0 : ∀ a b c : Int, gd [a, b, c] 0 0 = a := fun _ _ _ => rfl
    have g1 : ∀ a b c : Int, gd [a, b, c] 1 0 = b := fun _ _ _ => rfl
    have g2 : ∀ a b c : Int, gd [a, b, c] 2 0 = c := fun _ _ _ => rfl
    have s0 : ∀ a b c v : Int, List.set [a, b, c] 0 v = [v, b, c] := fun _ _ _ _ => rfl
    have s1 : ∀ a b c v : Int, List.set [a, b, c] 1 v = [a, v, c] := fun _ _ _ _ => rfl
    have s2 : ∀ a b c v : Int, List.set [a, b, c] 2 v = [a, b, v] := fun _ _ _ _ => rfl
    simp only [spec_l2Parts_B1, spec_l2Parts_K1, ilt_eq, len_eq, Int.ofNat_lt, hi, decide_true, cond_true, inB_true hi, inB_true (show i < c.2.1.length by omega), inB_true (show i < c.2.2.1.length by omega), inB_true (show i < c.2.2.2.length by omega), hlen, chk_true', Int.toNat_natCast, iadd_nat (show i < 4611686018427387904 by omega), i0, i1, i2, g0, g1, g2, s0, s1, s2, stocksL_gd _ _ hi]
    rw [imul_in (a := gd c.2.2.1 i 0) (by omega) (by omega), imul_in (a := gd c.2.2.2 i 0) (by simp only [fHold] at h2; omega) (by simp only [fHold] at h2; omega)]
    have e2 : gd c.2.2.1 i 0 * gd plan i 0 = fUnit c plan i := rfl
    have e3 : gd c.2.2.2 i 0 * stockAt plan c.1 (i + 1) = fHold c plan i := rfl
    rw [e2] at hup
    simp only [e2, e3]
    rw [iadd_in (a := rsum (fUnit c plan) i) (by omega) (by omega), iadd_in (a := rsum (fHold c plan) i) (by omega) (by omega)]
    by_cases hp : 0 < gd plan i 0
    · simp only [hp, decide_true, cond_true, rsum, fSet, ifpos, if_true] at *
      rw [iadd_in (by omega) (by omega)]
    · simp only [hp, decide_false, cond_false, rsum, fSet, ifpos, if_false, Int.add_zero]
  · simp only [spec_l2Parts_B1, spec_l2Parts_K2, ilt_eq, len_eq, Int.lt_irrefl, decide_false, cond_false]
theorem spec_l2Cost_eq {N : Nat} {c : Cs} {plan : List Int} (h : PlanP c plan) (hN : 4194304 ≤ N) : spec_l2Cost N c plan = some (costOf c plan, ()) := by
  have b1 := fSet_bd h _ (Nat.le_refl _)
  have b2 := fUnit_bd h _ (Nat.le_refl _)
  have b3 := fHold_bd h _ (Nat.le_refl _)
  have h8 := h.cs.n
  have hl := h.n
  have i0 : inB 0 3 = true := rfl
  have i1 : inB 1 3 = true := rfl
  have i2 : inB 2 3 = true := rfl
  have g0 : ∀ a b c : Int, gd [a, b, c] 0 0 = a := fun _ _ _ => rfl
  have g1 : ∀ a b c : Int, gd [a, b, c] 1 0 = b := fun _ _ _ => rfl
  have g2 : ∀ a b c : Int, gd [a, b, c] 2 0 = c := fun _ _ _ => rfl
  simp only [spec_l2Cost, spec_l2Parts_eq h hN, Option.bind_some, costOf, i0, i1, i2, chk_true', g0, g1, g2]
  rw [iadd_in (a := rsum (fSet c plan) plan.length) (by omega) (by omega), iadd_in (by omega) (by omega)]
theorem planB_P {c : Cs} {plan : List Int} (h : (caseB c && planB c plan) = true) : PlanP c plan := by
  simp only [planB, Bool.and_eq_true] at h
  exact rowP (caseB_iff.1 h.1) h.2.1
theorem impl_PlanCost_eq {N : Nat} {c : Cs} {plan : List Int} (hc : SmC c) (hs : plan.length < 4194304) (hN : 4194304 ≤ N) : impl_PlanCost N c plan = some (bif caseB c && planB c plan then (costOf c plan, true) else (0, false), ()) := by
  simp only [impl_PlanCost, impl_planned_eq hc hs hN, Option.bind_some, bif_not]
  cases h : caseB c && planB c plan with
  | false => rfl
  | true => simp only [cond_true, impl_Case_cost_eq (planB_P h) hN, Option.bind_some]
theorem spec_PlanCost_eq {N : Nat} {c : Cs} {plan : List Int} (hc : SmC c) (hs : plan.length < 4194304) (hN : 4194304 ≤ N) : spec_PlanCost N c plan = some (bif caseB c && planB c plan then (costOf c plan, true) else (0, false), ()) := by
  simp only [spec_PlanCost, spec_l2Two_eq hc hs hN, Option.bind_some, bif_not]
  cases h : caseB c && planB c plan with
  | false => rfl
  | true => simp only [cond_true, spec_l2Cost_eq (planB_P h) hN, Option.bind_some]
end Go.Rx.Px
namespace Go.Rx
theorem range_filter_succ (p : Nat → Bool) (i : Nat) : (List.range (i + 1)).filter p = (List.range i).filter p ++ (if p i then [i] else []) := by
  rw [List.range_succ, List.filter_append]; congr 1; simp [List.filter_cons]
end Go.Rx
namespace Go.Rx.Px
theorem imin_bd {x y : Int} : imin x y ≤ x ∧ imin x y ≤ y ∧ (imin x y = x ∨ imin x y = y) := by unfold imin; split <;> omega
theorem spec_l1Least_eq (N : Nat) (a b : Int) : spec_l1Least N a b = some (imin a b, ()) := by
  simp only [spec_l1Least, ilt_eq, imin]
  by_cases h : a < b
  · simp [h, show ¬ b < a by omega]
  · by_cases h2 : b < a
    · simp [h, h2]
    · simp [h, h2]; omega
end Go.Rx.Px
namespace Go.Rx
def pns (S : Nat → Bool) (n : Nat) : List Int := ((List.range n).filter S).map fun (k : Nat) => (k : Int)
def cnt (S : Nat → Bool) (n : Nat) : Nat := (pns S n).length
theorem pns_succ (S : Nat → Bool) (n : Nat) : pns S (n + 1) = pns S n ++ (if S n then [(n : Int)] else []) := by
  simp only [pns, range_filter_succ, List.map_append]; congr 1; split <;> rfl
theorem cnt_succ (S : Nat → Bool) (n : Nat) : cnt S (n + 1) = cnt S n + (if S n then 1 else 0) := by
  simp only [cnt, pns_succ, List.length_append]; split <;> rfl
theorem cnt_le (S : Nat → Bool) : ∀ n, cnt S n ≤ n
  | 0 => Nat.le_refl _
  | n + 1 => by have := cnt_le S n; rw [cnt_succ]; split <;> omega
theorem gd_append_left {α : Type} {xs ys : List α} {i : Nat} {d : α} (h : i < xs.length) : gd (xs ++ ys) i d = gd xs i d := by
  simp only [gd, List.getD_eq_getElem?_getD, List.getElem?_append_left h]
theorem gd_append_end {α : Type} {xs : List α} {y d : α} : gd (xs ++ [y]) xs.length d = y := by
  simp [gd, List.getD_eq_getElem?_getD]
theorem pns_at {S : Nat → Bool} : ∀ {n i : Nat}, i < n → S i = true → cnt S i < (pns S n).length ∧ gd (pns S n) (cnt S i) 0 = i
  | 0, i, h, _ => by omega
  | n + 1, i, h, hS => by
    rw [pns_succ]
    by_cases e : i = n
    · subst e
      rw [hS]
      simp only [if_true]
      exact ⟨by simp [cnt], gd_append_end⟩
    · obtain ⟨h1, h2⟩ := pns_at (n := n) (i := i) (by omega) hS
      exact ⟨by rw [List.length_append]; omega, by rw [gd_append_left h1]; exact h2⟩
theorem pns_get {S : Nat → Bool} : ∀ {n j : Nat}, j < (pns S n).length → ∃ i, i < n ∧ S i = true ∧ cnt S i = j ∧ gd (pns S n) j 0 = i
  | 0, j, h => by simp [pns] at h
  | n + 1, j, h => by
    by_cases hj : j < (pns S n).length
    · obtain ⟨i, h1, h2, h3, h4⟩ := pns_get hj
      exact ⟨i, by omega, h2, h3, by rw [pns_succ, gd_append_left hj]; exact h4⟩
    · have h1 : (pns S (n + 1)).length = cnt S n + (if S n then 1 else 0) := cnt_succ S n
      cases hS : S n with
      | false => rw [hS] at h1; simp only [Bool.false_eq_true, if_false, Nat.add_zero] at h1; have : cnt S n = (pns S n).length := rfl; omega
      | true =>
        rw [hS] at h1
        simp only [if_true] at h1
        have h2 : cnt S n = (pns S n).length := rfl
        have : j = (pns S n).length := by omega
        subst this
        exact ⟨n, by omega, hS, rfl, by rw [pns_succ, hS]; exact gd_append_end⟩
theorem psum_mono_nn {xs : List Int} (h : ∀ i, i < xs.length → 0 ≤ gd xs i 0) {i : Nat} : ∀ {j : Nat}, i ≤ j → j ≤ xs.length → psum xs i ≤ psum xs j
  | 0, h1, _ => by obtain rfl : i = 0 := by omega
                   exact Int.le_refl _
  | j + 1, h1, h2 => by
    by_cases e : i = j + 1
    · rw [e]; exact Int.le_refl _
    · have := psum_mono_nn h (show i ≤ j by omega) (by omega)
      have h3 := h j (by omega)
      rw [psum_succ (by omega)]; omega
end Go.Rx
namespace Go.Rx.Px
structure GoodP (c : Cs) (plan : List Int) : Prop where
  cs : CaseP c
  n : plan.length = c.1.length
  p0 : ∀ i, i < plan.length → 0 ≤ gd plan i 0
  st : ∀ i, i ≤ plan.length → 0 ≤ stockAt plan c.1 i
  en : stockAt plan c.1 plan.length = 0
theorem GoodP.pl {c : Cs} {plan : List Int} (h : GoodP c plan) : PlanP c plan := by
  refine ⟨h.cs, h.n, fun i hi => ⟨h.p0 i hi, ?_⟩⟩
  have h1 := psum_mono_nn h.p0 (show 0 ≤ i by omega) (by omega)
  have h2 := psum_mono_nn h.p0 (show i + 1 ≤ plan.length by omega) (Nat.le_refl _)
  have h3 := psum_succ hi
  have h4 := h.en
  have h5 := psum_bd h.cs.b0 plan.length (by have := h.n; omega)
  have h6 := h.cs.n
  have h7 := h.n
  rw [psum_zero] at h1
  simp only [stockAt] at h4; omega
theorem good_of {c : Cs} {plan : List Int} (h : (caseB c && planB c plan) = true) : GoodP c plan := by
  have hP := planB_P h
  simp only [Bool.and_eq_true, planB, decide_eq_true_eq] at h
  refine ⟨hP.cs, hP.n, fun i hi => (hP.b i hi).1, fun i hi => ?_, h.2.2.2⟩
  rcases Nat.eq_zero_or_pos i with e | e
  · subst e; rw [stockAt_zero]; exact Int.le_refl _
  · have := rangeB.1 h.2.2.1 (i - 1) (by omega)
    rw [show i - 1 + 1 = i by omega] at this
    simpa using this
end Go.Rx.Px
namespace Go.Rx
def RngB (xs : List Int) : Prop := xs.length ≤ maxLen ∧ ∀ i, i < xs.length → (Lit.int .u8 (xs.getD i 0)).wf = true
theorem u8_bd {x : Int} (h : (Lit.int .u8 x).wf = true) : 0 ≤ x ∧ x ≤ 255 := by
  simpa [Lit.wf, IntKind.min, IntKind.max, IntKind.signed, IntKind.bits] using h
theorem RngB.bd {xs : List Int} (h : RngB xs) : ∀ i, i < xs.length → 0 ≤ gd xs i 0 ∧ gd xs i 0 ≤ 255 := fun i hi => u8_bd (h.2 i hi)
theorem iand255 (x : Int) : 0 ≤ iand .u64 x 255 ∧ iand .u64 x 255 ≤ 255 := by
  have h : (BitVec.ofInt 64 x &&& BitVec.ofInt 64 255).toNat ≤ 255 := by
    rw [BitVec.toNat_and]
    exact Nat.le_trans Nat.and_le_right (by decide)
  have e : iand .u64 x 255 = IntKind.u64.wrap (((BitVec.ofInt 64 x &&& BitVec.ofInt 64 255).toNat : Nat) : Int) := rfl
  rw [e]
  generalize (BitVec.ofInt 64 x &&& BitVec.ofInt 64 255).toNat = q at h
  simp [IntKind.wrap, IntKind.bits, IntKind.signed]
  omega
theorem irem_bd {a n : Int} (ha : 0 ≤ a) (hn : 0 < n) : 0 ≤ irem a n ∧ irem a n < n := ⟨Int.tmod_nonneg _ ha, Int.tmod_lt_of_pos _ hn⟩
abbrev Cu := List Int × Int × Int
structure Bud (c : Cu) (k : Nat) : Prop where
  b : ∀ i, i < c.1.length → 0 ≤ gd c.1 i 0 ∧ gd c.1 i 0 ≤ 255
  l : c.1.length ≤ 65536
  p : 0 ≤ c.2.1
  q : c.2.1 + k ≤ 1000000000
theorem Bud.mono {c : Cu} {k m : Nat} (h : Bud c k) (hm : m ≤ k) : Bud c m := ⟨h.b, h.l, h.p, by have := h.q; omega⟩
theorem bud_zero {xs : List Int} (h : RngB xs) (hl : xs.length ≤ 65536) (k : Nat) (hk : k ≤ 1000000) : Bud (xs, (0, 0)) k := ⟨h.bd, hl, by show (0 : Int) ≤ 0; omega, by show (0 : Int) + k ≤ 1000000000; omega⟩
end Go.Rx
namespace Go.Rx.Px
structure Len9 (c : Cs) (n : Nat) : Prop where
  l0 : c.1.length ≤ n
  l1 : c.2.1.length ≤ n
  l2 : c.2.2.1.length ≤ n
  l3 : c.2.2.2.length ≤ n
theorem next_K1_ok {N : Nat} {b : Int} {c : Cu} {k : Nat} (h : Bud c (k + 1)) (hb : 0 ≤ b ∧ b ≤ 255) : ∃ v c', pspec_l1Cur_next_K1 N b c = some (v, c') ∧ Bud c' k ∧ 0 ≤ v ∧ v ≤ 255 := by
  have hp := h.p
  have hq := h.q
  have hB : ∀ z : Int, Bud (c.1, (c.2.1 + 1, z)) k := fun z => ⟨h.b, h.l, by show (0 : Int) ≤ c.2.1 + 1; omega, by show c.2.1 + 1 + (k : Int) ≤ 1000000000; omega⟩
  simp only [pspec_l1Cur_next_K1, iadd_in (a := c.2.1) (b := 1) (by omega) (by omega), ile_eq, len_eq]
  by_cases hl : c.2.1 + 1 ≤ c.1.length
  · simp only [hl, decide_true, cond_true]
    exact ⟨_, _, rfl, hB _, hb.1, hb.2⟩
  · simp only [hl, decide_false, cond_false, show decide ((0 : Int) ≤ 40) = true by decide, chk_true']
    refine ⟨_, _, rfl, hB _, ?_⟩
    have := iand255 (ishr .u64 (iadd .u64 (iadd .u64 (imul .u64 c.2.2 6364136223846793005) (icv .u64 b)) 462197) 40)
    show 0 ≤ IntKind.i64.wrap _ ∧ IntKind.i64.wrap _ ≤ 255
    rw [wrap_in (by omega) (by omega)]
    exact this
theorem next_ok {N : Nat} {c : Cu} {k : Nat} (h : Bud c (k + 1)) : ∃ v c', pspec_l1Cur_next N c = some (v, c') ∧ Bud c' k ∧ 0 ≤ v ∧ v ≤ 255 := by
  have hp := h.p
  simp only [pspec_l1Cur_next, ilt_eq, len_eq]
  by_cases hl : c.2.1 < c.1.length
  · have hb := h.b c.2.1.toNat (by omega)
    have e : icv .i64 (gd c.1 c.2.1.toNat 0) = gd c.1 c.2.1.toNat 0 := wrap_in (by omega) (by omega)
    simp only [hl, decide_true, cond_true, chk_of (inB_in hp hl), e]
    exact next_K1_ok h hb
  · simp only [hl, decide_false, cond_false]
    exact next_K1_ok h (by omega)
theorem pick_ok {N : Nat} {c : Cu} {k : Nat} (n : Int) (h : Bud c (k + 2)) : ∃ v c', pspec_l1Cur_pick N c n = some (v, c') ∧ Bud c' k ∧ 0 ≤ v ∧ (v = 0 ∨ v < n) := by
  simp only [pspec_l1Cur_pick, ile_eq, ilt_eq, ine_eq]
  by_cases h1 : n ≤ 1
  · simp only [h1, decide_true, cond_true]
    exact ⟨0, c, rfl, h.mono (by omega), by omega, .inl rfl⟩
  · have hn : ¬ n = 0 := by omega
    obtain ⟨r, c1, e1, b1, v1, v1'⟩ := next_ok (N := N) h
    simp only [h1, decide_false, cond_false, e1, Option.bind_some, hn, Bool.not_false, chk_true']
    by_cases h2 : 200 < n
    · obtain ⟨r2, c2, e2, b2, v2, v2'⟩ := next_ok (N := N) b1
      simp only [h2, decide_true, cond_true, e2, Option.bind_some]
      rw [imul_in (by omega) (by omega), iadd_in (by omega) (by omega)]
      have := irem_bd (a := r * 256 + r2) (n := n) (by omega) (by omega)
      exact ⟨_, _, rfl, b2, this.1, .inr this.2⟩
    · simp only [h2, decide_false, cond_false]
      have := irem_bd (a := r) (n := n) (by omega) (by omega)
      exact ⟨_, _, rfl, b1.mono (by omega), this.1, .inr this.2⟩
theorem among_ok {N : Nat} {c : Cu} {k : Nat} {list : List Int} (lo hi : Int) (hl : 0 < list.length) (hb : ∀ x, x ∈ list → lo ≤ x ∧ x ≤ hi) (h : Bud c (k + 2)) : ∃ v c', pspec_l1Cur_among N c list = some (v, c') ∧ Bud c' k ∧ lo ≤ v ∧ v ≤ hi := by
  obtain ⟨r, c1, e1, b1, v1, v1'⟩ := pick_ok (N := N) (list.length : Int) h
  have hr : r < list.length := by omega
  simp only [pspec_l1Cur_among, len_eq, e1, Option.bind_some, chk_of (inB_in v1 hr)]
  exact ⟨_, _, rfl, b1, hb _ (mem_getD 0 (by omega))⟩
theorem one_ok {N : Nat} {c : Cu} {k : Nat} (n : Int) (h : Bud c (k + 2)) : ∃ v c', pspec_l1Cur_one N c n = some (v, c') ∧ Bud c' k := by
  obtain ⟨r, c1, e1, b1, v1, v1'⟩ := pick_ok (N := N) n h
  simp only [pspec_l1Cur_one, e1, Option.bind_some]
  exact ⟨_, _, rfl, b1⟩
theorem someLots_fill {N : Nat} {cu : Cu} {v43 : Cs} : ∀ d (cs : Cs), 9 - cs.1.length = d → cs.2.1.length = cs.1.length → cs.2.2.1.length = cs.1.length → cs.2.2.2.length = cs.1.length → cs.1.length ≤ 9 → ∃ out : Cs, (∀ m, d < m → pspec_l1Cur_someLots_L1 N m cu v43 cs = some (out, cu)) ∧ Len9 out 9 := by
  intro d
  induction d with
  | zero =>
    intro cs hd h1 h2 h3 h0
    refine ⟨cs, fun m hm => ?_, ⟨h0, by omega, by omega, by omega⟩⟩
    obtain ⟨m, rfl⟩ : ∃ q, m = q + 1 := ⟨m - 1, by omega⟩
    rw [pspec_l1Cur_someLots_L1_succ]
    simp only [pspec_l1Cur_someLots_B1, pspec_l1Cur_someLots_K2, ilt_eq, len_eq, show ¬ (cs.1.length : Int) < 9 by omega, decide_false, cond_false]
  | succ d ih =>
    intro cs hd h1 h2 h3 h0
    obtain ⟨out, o1, o2⟩ := ih (cs.1 ++ [1], (cs.2.1 ++ [1], (cs.2.2.1 ++ [1], cs.2.2.2 ++ [1]))) (by simp; omega) (by simp; omega) (by simp; omega) (by simp; omega) (by simp; omega)
    refine ⟨out, fun m hm => ?_, o2⟩
    obtain ⟨m, rfl⟩ : ∃ q, m = q + 1 := ⟨m - 1, by omega⟩
    rw [pspec_l1Cur_someLots_L1_succ]
    simp only [pspec_l1Cur_someLots_B1, ilt_eq, len_eq, show (cs.1.length : Int) < 9 by omega, decide_true, cond_true, h1, h2, h3, chk_of (fitB_in (n := cs.1.length + 1) (b := 8) (by omega) (by omega))]
    exact o1 m (by omega)
theorem someLots_end {N : Nat} {cu : Cu} {n k : Nat} {v4 cs : Cs} (hN : 4194304 ≤ N) (hn : n ≤ 8) (h0 : cs.1.length = n) (h1 : cs.2.1.length = n) (h2 : cs.2.2.1.length = n) (h3 : cs.2.2.2.length = n) (h : Bud cu (k + 6)) : ∃ out c', pspec_l1Cur_someLots_K3 N n cu v4 cs = some (out, c') ∧ Bud c' k ∧ Len9 out 9 := by
  have hc : Len9 cs 9 := ⟨by omega, by omega, by omega, by omega⟩
  simp only [pspec_l1Cur_someLots_K3, ilt_eq, ieq_eq]
  by_cases hp : (0 : Int) < n
  · obtain ⟨r, c1, e1, b1, v1, v1'⟩ := pick_ok (N := N) (n : Int) h
    obtain ⟨r2, c2, e2, b2, v2, v2'⟩ := pick_ok (N := N) 60 b1
    have hr : r < n := by omega
    simp only [hp, decide_true, cond_true, e1, e2, Option.bind_some]
    by_cases q0 : r2 = 0
    · obtain ⟨r3, c3, e3, b3, _⟩ := among_ok (N := N) (list := [(-1), 20, 21, 4611686018427387904]) (-1) 4611686018427387904 (by decide) (by decide) b2
      simp only [q0, decide_true, cond_true, e3, Option.bind_some, h0, chk_of (inB_in v1 hr)]
      exact ⟨_, _, rfl, b3, ⟨by simp [List.length_set]; omega, hc.l1, hc.l2, hc.l3⟩⟩
    by_cases q1 : r2 = 1
    · obtain ⟨r3, c3, e3, b3, _⟩ := among_ok (N := N) (list := [(-1), 99, 100]) (-1) 100 (by decide) (by decide) b2
      simp only [q0, q1, decide_true, decide_false, cond_true, cond_false, e3, Option.bind_some, h1, chk_of (inB_in v1 hr)]
      exact ⟨_, _, rfl, b3, ⟨hc.l0, by simp [List.length_set]; omega, hc.l2, hc.l3⟩⟩
    by_cases q2 : r2 = 2
    · obtain ⟨r3, c3, e3, b3, _⟩ := among_ok (N := N) (list := [(-1), 9, 10]) (-1) 10 (by decide) (by decide) b2
      simp only [q0, q1, q2, decide_true, decide_false, cond_true, cond_false, e3, Option.bind_some, h2, chk_of (inB_in v1 hr)]
      exact ⟨_, _, rfl, b3, ⟨hc.l0, hc.l1, by simp [List.length_set]; omega, hc.l3⟩⟩
    by_cases q3 : r2 = 3
    · obtain ⟨r3, c3, e3, b3, _⟩ := among_ok (N := N) (list := [(-1), 9, 10]) (-1) 10 (by decide) (by decide) b2
      simp only [q0, q1, q2, q3, decide_true, decide_false, cond_true, cond_false, e3, Option.bind_some, h3, chk_of (inB_in v1 hr)]
      exact ⟨_, _, rfl, b3, ⟨hc.l0, hc.l1, hc.l2, by simp [List.length_set]; omega⟩⟩
    by_cases q4 : r2 = 4
    · simp only [q0, q1, q2, q3, q4, decide_true, decide_false, cond_true, cond_false, h2, chk_of (fitB_in (n := n + 1) (b := 8) (by omega) (by omega))]
      exact ⟨_, _, rfl, b2.mono (by omega), ⟨hc.l0, hc.l1, by simp; omega, hc.l3⟩⟩
    by_cases q5 : r2 = 5
    · obtain ⟨out, o1, o2⟩ := someLots_fill (N := N) (cu := c2) (v43 := v4) (9 - cs.1.length) cs rfl (by omega) (by omega) (by omega) (by omega)
      simp only [q0, q1, q2, q3, q4, q5, decide_true, decide_false, cond_true, cond_false]
      exact ⟨out, c2, o1 N (by omega), b2.mono (by omega), o2⟩
    · simp only [q0, q1, q2, q3, q4, q5, decide_false, cond_false]
      exact ⟨_, _, rfl, b2.mono (by omega), hc⟩
  · simp only [hp, decide_false, cond_false]
    exact ⟨_, _, rfl, h.mono (by omega), hc⟩
theorem someLots_loop {N : Nat} {n k : Nat} {v7 : Bool} {v4 : Cs} (hN : 4194304 ≤ N) (hn : n ≤ 8) : ∀ d i, n - i = d → i ≤ n → ∀ (v8 v9 v10 : Int) (cu : Cu) (cs : Cs), cs.1.length = i → cs.2.1.length = i → cs.2.2.1.length = i → cs.2.2.2.length = i → Bud cu (k + 6 + 8 * d) → ∃ out c', (∀ m, d < m → pspec_l1Cur_someLots_L2 N m n v7 v8 v9 v10 i cu v4 cs = some (out, c')) ∧ Bud c' k ∧ Len9 out 9 := by
  intro d
  induction d with
  | zero =>
    intro i hd hi v8 v9 v10 cu cs h0 h1 h2 h3 h
    obtain rfl : i = n := by omega
    obtain ⟨out, c', o1, o2, o3⟩ := someLots_end (N := N) (v4 := v4) hN hn h0 h1 h2 h3 (h.mono (show k + 6 ≤ k + 6 + 8 * 0 by omega))
    refine ⟨out, c', fun m hm => ?_, o2, o3⟩
    obtain ⟨m, rfl⟩ : ∃ q, m = q + 1 := ⟨m - 1, by omega⟩
    rw [pspec_l1Cur_someLots_L2_succ]
    simp only [pspec_l1Cur_someLots_B2, ilt_eq, Int.lt_irrefl, decide_false, cond_false]
    exact o1
  | succ d ih =>
    intro i hd hi v8 v9 v10 cu cs h0 h1 h2 h3 h
    have hil : i < n := by omega
    have tail : ∀ (w8 w9 w10 : Int) (c1 : Cu), Bud c1 (k + 6 + 8 * d + 2) → ∃ out c', (∀ m, d < m → pspec_l1Cur_someLots_K1 N (fun v5 v7 v8 v9 v10 v11 app1 v4 v6 => pspec_l1Cur_someLots_L2 N m v5 v7 v8 v9 v10 v11 app1 v4 v6) n v7 w8 w9 w10 i c1 v4 cs = some (out, c')) ∧ Bud c' k ∧ Len9 out 9 := fun w8 w9 w10 c1 hb => by
      obtain ⟨r, c2, e, b, _⟩ := among_ok (N := N) (list := [0, 1, 2, 3, 5, 8]) 0 8 (by decide) (by decide) hb
      obtain ⟨out, c', o1, o2, o3⟩ := ih (i + 1) (by omega) (by omega) w8 w9 w10 c2 (cs.1 ++ [r], (cs.2.1 ++ [w8], (cs.2.2.1 ++ [w9], cs.2.2.2 ++ [w10]))) (by simp; omega) (by simp; omega) (by simp; omega) (by simp; omega) b
      refine ⟨out, c', fun m hm => ?_, o2, o3⟩
      simp only [pspec_l1Cur_someLots_K1, e, Option.bind_some, h0, h1, h2, h3, chk_of (fitB_in (n := i + 1) (b := 8) (by omega) (by omega)), iadd_nat (show i < 4611686018427387904 by omega)]
      exact o1 m hm
    cases hv : v7 with
    | true =>
      obtain ⟨out, c', o1, o2, o3⟩ := tail v8 v9 v10 cu (h.mono (by omega))
      refine ⟨out, c', fun m hm => ?_, o2, o3⟩
      obtain ⟨m, rfl⟩ : ∃ q, m = q + 1 := ⟨m - 1, by omega⟩
      rw [pspec_l1Cur_someLots_L2_succ]
      simp only [pspec_l1Cur_someLots_B2, ilt_eq, Int.ofNat_lt, hil, decide_true, cond_true, Bool.not_true, cond_false]
      rw [← o1 m (by omega), hv]
    | false =>
      obtain ⟨r1, c1, e1, b1, _⟩ := among_ok (N := N) (list := [0, 2, 5, 9, 14, 30]) 0 30 (by decide) (by decide) (h.mono (show k + 6 + 8 * d + 2 + 2 + 2 + 2 ≤ k + 6 + 8 * (d + 1) by omega))
      obtain ⟨r2, c2, e2, b2, _⟩ := pick_ok (N := N) 5 b1
      obtain ⟨r3, c3, e3, b3, _⟩ := pick_ok (N := N) 4 b2
      obtain ⟨out, c', o1, o2, o3⟩ := tail r1 r2 r3 c3 b3
      refine ⟨out, c', fun m hm => ?_, o2, o3⟩
      obtain ⟨m, rfl⟩ : ∃ q, m = q + 1 := ⟨m - 1, by omega⟩
      rw [pspec_l1Cur_someLots_L2_succ]
      simp only [pspec_l1Cur_someLots_B2, ilt_eq, Int.ofNat_lt, hil, decide_true, cond_true, Bool.not_false, e1, e2, e3, Option.bind_some]
      rw [← o1 m (by omega), hv]
theorem someLots_ok {N : Nat} {cu : Cu} {k : Nat} {v1 : Int} (hN : 4194304 ≤ N) (hv : 0 ≤ v1) (h : Bud cu (k + 80)) : ∃ out c', pspec_l1Cur_someLots N cu v1 = some (out, c') ∧ Bud c' k ∧ Len9 out 9 := by
  obtain ⟨r0, c0, e0, b0, v0, v0'⟩ := among_ok (N := N) (list := [4, 5, 3, 6, 8, 2, 1, 0]) 0 8 (by decide) (by decide) (h.mono (show k + 70 + 2 + 2 + 2 + 2 + 2 ≤ k + 80 by omega))
  obtain ⟨r2, c2, e2, b2⟩ := one_ok (N := N) 2 b0
  obtain ⟨r3, c3, e3, b3, _⟩ := among_ok (N := N) (list := [0, 3, 5, 8, 12, 20]) 0 20 (by decide) (by decide) b2
  obtain ⟨r4, c4, e4, b4, _⟩ := pick_ok (N := N) 3 b3
  obtain ⟨r5, c5, e5, b5, _⟩ := pick_ok (N := N) 2 b4
  have hm := imin_bd (x := r0) (y := v1)
  obtain ⟨out, c', o1, o2, o3⟩ := someLots_loop (N := N) (n := (imin r0 v1).toNat) (k := k) (v7 := r2) (v4 := ([], ([], ([], [])))) hN (by omega) (imin r0 v1).toNat 0 (by omega) (by omega) r3 r4 (iadd .i64 1 r5) c5 ([], ([], ([], []))) rfl rfl rfl rfl (b5.mono (by omega))
  refine ⟨out, c', ?_, o2, o3⟩
  have := o1 N (by omega)
  rw [show (((imin r0 v1).toNat : Nat) : Int) = imin r0 v1 by omega] at this
  simp only [pspec_l1Cur_someLots, e0, e2, e3, e4, e5, Option.bind_some, spec_l1Least_eq]
  exact this
theorem lots_ok {N : Nat} {cu : Cu} {k : Nat} (hN : 4194304 ≤ N) (h : Bud cu (k + 80)) : ∃ out c', pspec_l1Cur_lots N cu = some (out, c') ∧ Bud c' k ∧ Len9 out 9 := by
  obtain ⟨out, c', o1, o2, o3⟩ := someLots_ok (N := N) (v1 := 8) hN (by omega) h
  exact ⟨out, c', by simp only [pspec_l1Cur_lots, o1, Option.bind_some], o2, o3⟩
theorem Len9.smC {c : Cs} (h : Len9 c 9) : SmC c := ⟨by have := h.l0; omega, by have := h.l1; omega, by have := h.l2; omega, by have := h.l3; omega⟩
theorem amounts_in {N : Nat} {v6 : Nat} {v3 : Cs} {n : Nat} (hv : v6 < n) (hn : n ≤ 8) : ∀ d (v7 : Int), v7.toNat ≤ d → v7 ≤ 20 → ∀ (k : Nat) (cu : Cu) (out : List Int), out.length = n → Bud cu (k + 8 * d) → ∃ out' c', (∀ (kx : Int → Cu → Cs → List Int → Option (List Int × Cu)) (m : Nat), d < m → pspec_l1Cur_amounts_L1 N m kx v6 v7 cu v3 out = kx ((v6 + 1 : Nat) : Int) c' v3 out') ∧ Bud c' k ∧ out'.length = n := by
  intro d
  induction d with
  | zero =>
    intro v7 hd h20 k cu out hl h
    refine ⟨out, cu, fun kx m hm => ?_, h.mono (by omega), hl⟩
    obtain ⟨m, rfl⟩ : ∃ q, m = q + 1 := ⟨m - 1, by omega⟩
    rw [pspec_l1Cur_amounts_L1_succ]
    simp only [pspec_l1Cur_amounts_B1, pspec_l1Cur_amounts_K2, ilt_eq, show ¬ 0 < v7 by omega, decide_false, cond_false, iadd_nat (show v6 < 4611686018427387904 by omega)]
  | succ d ih =>
    intro v7 hd h20 k cu out hl h
    by_cases hp : 0 < v7
    · have tail : ∀ (v8 : Int) (c1 : Cu), 0 ≤ v8 → v8 < n → Bud c1 (k + 8 * d + 4) → ∃ out' c', (∀ (kx : Int → Cu → Cs → List Int → Option (List Int × Cu)) (m : Nat), d < m → pspec_l1Cur_amounts_K1 N (fun v61 v7 app2 v31 v51 => pspec_l1Cur_amounts_L1 N m kx v61 v7 app2 v31 v51) v6 v7 v8 c1 v3 out = kx ((v6 + 1 : Nat) : Int) c' v3 out') ∧ Bud c' k ∧ out'.length = n := fun v8 c1 g0 g1 hb => by
        obtain ⟨r3, c3, e3, b3⟩ := one_ok (N := N) 2 (hb.mono (show k + 8 * d + 2 + 2 ≤ k + 8 * d + 4 by omega))
        have hin : inB v8 out.length = true := inB_in g0 (by omega)
        cases r3 with
        | true =>
          obtain ⟨r4, c4, e4, b4, w1, w2⟩ := pick_ok (N := N) v7 b3
          have e5 : isub .i64 v7 (iadd .i64 1 r4) = v7 - (1 + r4) := by rw [iadd_in (by omega) (by omega), isub_in (by omega) (by omega)]
          obtain ⟨out', c', o1, o2, o3⟩ := ih (v7 - (1 + r4)) (by omega) (by omega) k c4 (List.set out v8.toNat (iadd .i64 (gd out v8.toNat 0) (iadd .i64 1 r4))) (by rw [List.length_set]; exact hl) b4
          refine ⟨out', c', fun kx m hm => ?_, o2, o3⟩
          simp only [pspec_l1Cur_amounts_K1, e3, e4, Option.bind_some, cond_true, chk_of hin, e5]
          exact o1 kx m hm
        | false =>
          have e5 : isub .i64 v7 v7 = 0 := by rw [isub_in (by omega) (by omega)]; omega
          obtain ⟨out', c', o1, o2, o3⟩ := ih 0 (by omega) (by omega) k c3 (List.set out v8.toNat (iadd .i64 (gd out v8.toNat 0) v7)) (by rw [List.length_set]; exact hl) (b3.mono (by omega))
          refine ⟨out', c', fun kx m hm => ?_, o2, o3⟩
          simp only [pspec_l1Cur_amounts_K1, e3, Option.bind_some, cond_false, chk_of hin, e5]
          exact o1 kx m hm
      obtain ⟨r1, c1, e1, b1⟩ := one_ok (N := N) 2 (h.mono (show k + 8 * d + 4 + 2 + 2 ≤ k + 8 * (d + 1) by omega))
      cases hr : r1 with
      | true =>
        obtain ⟨r2, c2, e2, b2, w1, w2⟩ := pick_ok (N := N) (iadd .i64 v6 1) b1
        rw [iadd_nat (show v6 < 4611686018427387904 by omega)] at w2
        obtain ⟨out', c', o1, o2, o3⟩ := tail r2 c2 w1 (by omega) b2
        refine ⟨out', c', fun kx m hm => ?_, o2, o3⟩
        obtain ⟨m, rfl⟩ : ∃ q, m = q + 1 := ⟨m - 1, by omega⟩
        rw [pspec_l1Cur_amounts_L1_succ]
        simp only [pspec_l1Cur_amounts_B1, ilt_eq, hp, decide_true, cond_true, e1, hr, e2, Option.bind_some]
        exact o1 kx m (by omega)
      | false =>
        obtain ⟨out', c', o1, o2, o3⟩ := tail v6 c1 (by omega) (by omega) (b1.mono (by omega))
        refine ⟨out', c', fun kx m hm => ?_, o2, o3⟩
        obtain ⟨m, rfl⟩ : ∃ q, m = q + 1 := ⟨m - 1, by omega⟩
        rw [pspec_l1Cur_amounts_L1_succ]
        simp only [pspec_l1Cur_amounts_B1, ilt_eq, hp, decide_true, cond_true, e1, hr, Option.bind_some, cond_false]
        exact o1 kx m (by omega)
    · refine ⟨out, cu, fun kx m hm => ?_, h.mono (by omega), hl⟩
      obtain ⟨m, rfl⟩ : ∃ q, m = q + 1 := ⟨m - 1, by omega⟩
      rw [pspec_l1Cur_amounts_L1_succ]
      simp only [pspec_l1Cur_amounts_B1, pspec_l1Cur_amounts_K2, ilt_eq, hp, decide_false, cond_false, iadd_nat (show v6 < 4611686018427387904 by omega)]
theorem amounts_end {N : Nat} {cu : Cu} {k n : Nat} {out : List Int} (hn : n ≤ 8) (hl : out.length = n) (h : Bud cu (k + 6)) : ∃ out' c', pspec_l1Cur_amounts_K3 N cu out = some (out', c') ∧ Bud c' k ∧ out'.length ≤ 9 := by
  obtain ⟨r, c1, e1, b1, v1, v1'⟩ := pick_ok (N := N) 30 h
  simp only [pspec_l1Cur_amounts_K3, e1, Option.bind_some, ieq_eq, ilt_eq, len_eq]
  by_cases q0 : r = 0
  · obtain ⟨r3, c3, e3, b3, _⟩ := among_ok (N := N) (list := [0, 1]) 0 1 (by decide) (by decide) b1
    simp only [q0, decide_true, cond_true, e3, Option.bind_some, hl, chk_of (fitB_in (n := n + 1) (b := 8) (by omega) (by omega))]
    exact ⟨_, _, rfl, b3.mono (by omega), by simp; omega⟩
  by_cases q1 : r = 1
  · by_cases hp : (0 : Int) < out.length
    · obtain ⟨r3, c3, e3, b3, w, w'⟩ := pick_ok (N := N) (out.length : Int) b1
      obtain ⟨r4, c4, e4, b4, _⟩ := among_ok (N := N) (list := [1, (-1), 4611686018427387904, (-9223372036854775808)]) (-9223372036854775808) 4611686018427387904 (by decide) (by decide) b3
      have hin : inB r3 out.length = true := inB_in w (by omega)
      simp only [q0, q1, hp, decide_true, decide_false, cond_true, cond_false, e3, e4, Option.bind_some, chk_of hin]
      exact ⟨_, _, rfl, b4.mono (by omega), by simp; omega⟩
    · simp only [q0, q1, hp, decide_true, decide_false, cond_true, cond_false]
      exact ⟨_, _, rfl, b1.mono (by omega), by omega⟩
  · simp only [q0, q1, decide_false, cond_false]
    exact ⟨_, _, rfl, b1.mono (by omega), by omega⟩
theorem amounts_loop {N : Nat} {v3 : Cs} (hc : CaseP v3) (hN : 4194304 ≤ N) : ∀ d i, v3.1.length - i = d → i ≤ v3.1.length → ∀ (k : Nat) (cu : Cu) (out : List Int), out.length = v3.1.length → Bud cu (k + 6 + 160 * d) → ∃ out' c', (∀ m, d < m → pspec_l1Cur_amounts_L2 N m i cu v3 out = some (out', c')) ∧ Bud c' k ∧ out'.length ≤ 9 := by
  have h8 := hc.n
  intro d
  induction d with
  | zero =>
    intro i hd hi k cu out hl h
    obtain ⟨out', c', o1, o2, o3⟩ := amounts_end (N := N) h8 hl (h.mono (show k + 6 ≤ k + 6 + 160 * 0 by omega))
    refine ⟨out', c', fun m hm => ?_, o2, o3⟩
    obtain ⟨m, rfl⟩ : ∃ q, m = q + 1 := ⟨m - 1, by omega⟩
    rw [pspec_l1Cur_amounts_L2_succ]
    simp only [pspec_l1Cur_amounts_B2, ilt_eq, len_eq, Int.ofNat_lt, show ¬ i < v3.1.length by omega, decide_false, cond_false]
    exact o1
  | succ d ih =>
    intro i hd hi k cu out hl h
    have hil : i < v3.1.length := by omega
    have hb := hc.b0 i hil
    obtain ⟨out1, c1, s1, s2, s3⟩ := amounts_in (N := N) (v6 := i) (v3 := v3) (n := v3.1.length) hil h8 20 (gd v3.1 i 0) (by omega) (by omega) (k + 6 + 160 * d) cu out hl (h.mono (by omega))
    obtain ⟨out', c', o1, o2, o3⟩ := ih (i + 1) (by omega) (by omega) k c1 out1 s3 s2
    refine ⟨out', c', fun m hm => ?_, o2, o3⟩
    obtain ⟨m, rfl⟩ : ∃ q, m = q + 1 := ⟨m - 1, by omega⟩
    rw [pspec_l1Cur_amounts_L2_succ]
    simp only [pspec_l1Cur_amounts_B2, ilt_eq, len_eq, Int.ofNat_lt, hil, decide_true, cond_true, chk_of (inB_true hil), Int.toNat_natCast]
    rw [s1 _ N (by omega)]
    exact o1 m (by omega)
theorem amounts_ok {N : Nat} {cu : Cu} {k : Nat} {c : Cs} (hc : Len9 c 9) (hN : 4194304 ≤ N) (h : Bud cu (k + 1300)) : ∃ out' c', pspec_l1Cur_amounts N cu c = some (out', c') ∧ Bud c' k ∧ out'.length ≤ 9 := by
  have l0 := hc.l0
  simp only [pspec_l1Cur_amounts, len_eq, chk_of (mkB_in (n := c.1.length) (b := 8) (by omega) (by omega)), spec_l2Good_eq hc.smC hN, Option.bind_some, Int.toNat_natCast, bif_not]
  cases hb : caseB c with
  | false => exact ⟨_, _, rfl, h.mono (by omega), by simp; omega⟩
  | true =>
    have hP := caseB_iff.1 hb
    have h8 := hP.n
    obtain ⟨out', c', o1, o2, o3⟩ := amounts_loop (N := N) hP hN c.1.length 0 (by omega) (by omega) k cu (List.replicate c.1.length 0) (by simp) (h.mono (by omega))
    exact ⟨out', c', o1 N (by omega), o2, o3⟩
theorem spec_DrawStocksOf_ok {N : Nat} {code : List Int} (hr : RngB code) (hl : code.length ≤ 65536) (hN : 4194304 ≤ N) : ∃ c plan, spec_DrawStocksOf N code = some ((c, plan), ()) ∧ Len9 c 9 ∧ plan.length ≤ 9 := by
  obtain ⟨c, c1, e1, b1, l1⟩ := lots_ok (N := N) hN (bud_zero hr hl (0 + 1300 + 80) (by omega))
  obtain ⟨p, c2, e2, b2, l2⟩ := amounts_ok (N := N) l1 hN b1
  exact ⟨c, p, by simp only [spec_DrawStocksOf, e1, e2, Option.bind_some], l1, l2⟩
theorem laws_rInts_refl {N : Nat} {a : List Int} (h : a.length < 4194304) (hN : 4194304 ≤ N) : laws_rInts N a a = some (true, ()) := by
  simp only [laws_rInts, ine_eq, len_eq, decide_true, Bool.not_true, cond_false]
  refine laws_rInts_L1_run N (fun _ => a) (fun _ => a) (fun i => i) a.length (fun i hi kx => ?_) (fun kx => ?_) N (by omega)
  · simp only [laws_rInts_B1, ilt_eq, len_eq, Int.ofNat_lt, hi, decide_true, cond_true, inB_true hi, chk_true', Int.toNat_natCast, iadd_nat (show i < 4611686018427387904 by omega), ine_eq, Bool.not_true, cond_false]
  · simp only [laws_rInts_B1, laws_rInts_K1, ilt_eq, len_eq, Int.lt_irrefl, decide_false, cond_false]
theorem laws_rHas_pns {N : Nat} {S : Nat → Bool} {n i : Nat} (hi : i < n) (hn : n < 4194304) (hN : 4194304 ≤ N) : laws_rHas N (pns S n) i = some (S i, ()) := by
  have hl : (pns S n).length ≤ n := cnt_le S n
  simp only [laws_rHas]
  have step : ∀ j, j < (pns S n).length → ∀ kx, laws_rHas_B1 N kx (pns S n) i j = bif decide (gd (pns S n) j 0 = (i : Int)) then some (true, ()) else kx (pns S n) i ((j + 1 : Nat) : Int) := fun j hj kx => by
    simp only [laws_rHas_B1, ilt_eq, len_eq, Int.ofNat_lt, hj, decide_true, cond_true, inB_true hj, chk_true', Int.toNat_natCast, iadd_nat (show j < 4611686018427387904 by omega), ieq_eq]
  rcases first_cases (fun j => !decide (gd (pns S n) j 0 = (i : Int))) (pns S n).length with h | ⟨j, hj, hb, hat⟩
  · have hS : S i = false := by
      cases hS : S i with
      | false => rfl
      | true =>
        obtain ⟨g1, g2⟩ := pns_at hi hS
        have := h _ g1
        rw [g2] at this; simp at this
    rw [hS]
    refine laws_rHas_L1_run N (fun _ => pns S n) (fun _ => (i : Int)) (fun j => (j : Int)) (pns S n).length (fun j hj kx => ?_) (fun kx => ?_) N (by omega)
    · have := h j hj
      simp only [Bool.not_eq_true'] at this
      rw [step j hj, this]; rfl
    · simp only [laws_rHas_B1, laws_rHas_K1, ilt_eq, len_eq, Int.lt_irrefl, decide_false, cond_false]
  · simp only [Bool.not_eq_false'] at hat
    obtain ⟨q, g1, g2, g3, g4⟩ := pns_get hj
    have hq : q = i := by
      have := of_decide_eq_true hat
      rw [g4] at this; omega
    rw [← hq, g2, hq]
    refine laws_rHas_L1_run N (fun _ => pns S n) (fun _ => (i : Int)) (fun j => (j : Int)) j (fun k hk kx => ?_) (fun kx => ?_) N (by omega)
    · have := hb k hk
      simp only [Bool.not_eq_true'] at this
      rw [step k (by omega), this]; rfl
    · rw [step j hj, hat]; rfl
def pairOf (c : Cs) (plan : List Int) : Bool := caseB c && planB c plan
theorem pair_goodP {c : Cs} {plan : List Int} (h : pairOf c plan = true) : GoodP c plan := good_of h
theorem impl_IsPlan_eq {N : Nat} {c : Cs} {plan : List Int} (hc : SmC c) (hs : plan.length < 4194304) (hN : 4194304 ≤ N) : impl_IsPlan N c plan = some ((pairOf c plan, caseB c), ()) := by
  simp only [impl_IsPlan, impl_IsCase_eq hc hN, Option.bind_some, bif_not, pairOf]
  cases hb : caseB c with
  | false => rfl
  | true =>
    simp only [cond_true, impl_Case_stocks_eq (caseB_iff.1 hb) hs hN, Option.bind_some, planB, Bool.true_and]
    cases rowB c plan <;> cases nnB c plan <;> rfl
theorem spec_IsPlan_eq {N : Nat} {c : Cs} {plan : List Int} (hc : SmC c) (hs : plan.length < 4194304) (hN : 4194304 ≤ N) : spec_IsPlan N c plan = some ((pairOf c plan, caseB c), ()) := by
  simp only [spec_IsPlan, spec_l2Good_eq hc hN, Option.bind_some, bif_not, pairOf]
  cases hb : caseB c with
  | false => rfl
  | true => simp only [cond_true, spec_l2Plan_eq (caseB_iff.1 hb) hs hN, Option.bind_some, Bool.true_and]
def stocksP (c : Cs) (plan : List Int) : List Int × Bool := bif pairOf c plan then (stocksL plan c.1 plan.length, true) else ([], false)
theorem impl_StocksOf_eq {N : Nat} {c : Cs} {plan : List Int} (hc : SmC c) (hs : plan.length < 4194304) (hN : 4194304 ≤ N) : impl_StocksOf N c plan = some (stocksP c plan, ()) := by
  simp only [impl_StocksOf, impl_planned_eq hc hs hN, Option.bind_some, stocksP, pairOf]
theorem spec_StocksOf_eq {N : Nat} {c : Cs} {plan : List Int} (hc : SmC c) (hs : plan.length < 4194304) (hN : 4194304 ≤ N) : spec_StocksOf N c plan = some (stocksP c plan, ()) := by
  simp only [spec_StocksOf, spec_l2Two_eq hc hs hN, Option.bind_some, bif_not, stocksP, pairOf]
  cases h : caseB c && planB c plan with
  | false => rfl
  | true => simp only [cond_true, spec_l2Stocks_eq (planB_P h) hN, Option.bind_some]
def partsP (c : Cs) (plan : List Int) : Int × Int × Int × Bool := bif pairOf c plan then (rsum (fSet c plan) plan.length, (rsum (fUnit c plan) plan.length, (rsum (fHold c plan) plan.length, true))) else (0, (0, (0, false)))
theorem impl_CostParts_eq {N : Nat} {c : Cs} {plan : List Int} (hc : SmC c) (hs : plan.length < 4194304) (hN : 4194304 ≤ N) : impl_CostParts N c plan = some (partsP c plan, ()) := by
  simp only [impl_CostParts, impl_planned_eq hc hs hN, Option.bind_some, bif_not, partsP, pairOf]
  cases h : caseB c && planB c plan with
  | false => rfl
  | true => simp only [cond_true, impl_Case_parts_eq (planB_P h) hN, Option.bind_some]
theorem spec_CostParts_eq {N : Nat} {c : Cs} {plan : List Int} (hc : SmC c) (hs : plan.length < 4194304) (hN : 4194304 ≤ N) : spec_CostParts N c plan = some (partsP c plan, ()) := by
  simp only [spec_CostParts, spec_l2Two_eq hc hs hN, Option.bind_some, bif_not, partsP, pairOf]
  cases h : caseB c && planB c plan with
  | false => rfl
  | true =>
    simp only [cond_true, spec_l2Parts_eq (planB_P h) hN, Option.bind_some, show inB 0 3 = true by decide, show inB 1 3 = true by decide, show inB 2 3 = true by decide, chk_true']
    rfl
def emptyS (c : Cs) (plan : List Int) (t : Nat) : Bool := decide (stockAt plan c.1 (t + 1) = 0)
def orderS (plan : List Int) (t : Nat) : Bool := decide (0 < gd plan t 0)
def emptyP (c : Cs) (plan : List Int) : List Int × Bool := bif pairOf c plan then (pns (emptyS c plan) plan.length, true) else ([], false)
def orderP (c : Cs) (plan : List Int) : List Int × Bool := bif pairOf c plan then (pns (orderS plan) plan.length, true) else ([], false)
theorem impl_EmptyPeriods_eq {N : Nat} {c : Cs} {plan : List Int} (hc : SmC c) (hs : plan.length < 4194304) (hN : 4194304 ≤ N) : impl_EmptyPeriods N c plan = some (emptyP c plan, ()) := by
  simp only [impl_EmptyPeriods, impl_planned_eq hc hs hN, Option.bind_some, bif_not, emptyP, pairOf]
  cases h : caseB c && planB c plan with
  | false => rfl
  | true =>
    have hln := stocksL_len plan c.1 plan.length
    simp only [cond_true, len_eq, hln]
    refine impl_EmptyPeriods_L1_run N (fun _ => (plan.length : Int)) (fun i => (i : Int)) (fun i => pns (emptyS c plan) i) (fun _ => (stocksL plan c.1 plan.length, true)) plan.length (fun i hi kx => ?_) (fun kx => ?_) N (by omega)
    · have hcl : (pns (emptyS c plan) i).length ≤ i := cnt_le _ _
      simp only [impl_EmptyPeriods_B1, ilt_eq, Int.ofNat_lt, hi, decide_true, cond_true, hln, inB_true hi, chk_true', Int.toNat_natCast, stocksL_gd _ _ hi, ieq_eq, chk_of (fitB_in (n := (pns (emptyS c plan) i).length + 1) (b := 8) (by omega) (by omega)), iadd_nat (show i < 4611686018427387904 by omega), pns_succ]
      by_cases e : stockAt plan c.1 (i + 1) = 0
      · simp [e, emptyS]
      · simp [e, emptyS]
    · simp only [impl_EmptyPeriods_B1, impl_EmptyPeriods_K1, ilt_eq, Int.lt_irrefl, decide_false, cond_false]
theorem spec_EmptyPeriods_eq {N : Nat} {c : Cs} {plan : List Int} (hc : SmC c) (hs : plan.length < 4194304) (hN : 4194304 ≤ N) : spec_EmptyPeriods N c plan = some (emptyP c plan, ()) := by
  simp only [spec_EmptyPeriods, spec_l2Two_eq hc hs hN, Option.bind_some, bif_not, emptyP, pairOf]
  cases h : caseB c && planB c plan with
  | false => rfl
  | true =>
    have hln := stocksL_len plan c.1 plan.length
    simp only [cond_true, spec_l2Stocks_eq (planB_P h) hN, Option.bind_some]
    refine spec_EmptyPeriods_L1_run N (fun i => (i : Int)) (fun i => pns (emptyS c plan) i) (fun _ => stocksL plan c.1 plan.length) plan.length (fun i hi kx => ?_) (fun kx => ?_) N (by omega)
    · have hcl : (pns (emptyS c plan) i).length ≤ i := cnt_le _ _
      simp only [spec_EmptyPeriods_B1, ilt_eq, len_eq, hln, Int.ofNat_lt, hi, decide_true, cond_true, inB_true hi, chk_true', Int.toNat_natCast, stocksL_gd _ _ hi, ieq_eq, chk_of (fitB_in (n := (pns (emptyS c plan) i).length + 1) (b := 8) (by omega) (by omega)), iadd_nat (show i < 4611686018427387904 by omega), pns_succ]
      by_cases e : stockAt plan c.1 (i + 1) = 0
      · simp [e, emptyS]
      · simp [e, emptyS]
    · simp only [spec_EmptyPeriods_B1, spec_EmptyPeriods_K1, ilt_eq, len_eq, hln, Int.lt_irrefl, decide_false, cond_false]
theorem impl_OrderPeriods_eq {N : Nat} {c : Cs} {plan : List Int} (hc : SmC c) (hs : plan.length < 4194304) (hN : 4194304 ≤ N) : impl_OrderPeriods N c plan = some (orderP c plan, ()) := by
  simp only [impl_OrderPeriods, impl_planned_eq hc hs hN, Option.bind_some, bif_not, orderP, pairOf]
  cases h : caseB c && planB c plan with
  | false => rfl
  | true =>
    simp only [cond_true, len_eq]
    refine impl_OrderPeriods_L1_run N (fun _ => plan) (fun _ => (plan.length : Int)) (fun i => (i : Int)) (fun i => pns (orderS plan) i) plan.length (fun i hi kx => ?_) (fun kx => ?_) N (by omega)
    · have hcl : (pns (orderS plan) i).length ≤ i := cnt_le _ _
      simp only [impl_OrderPeriods_B1, ilt_eq, Int.ofNat_lt, hi, decide_true, cond_true, inB_true hi, chk_true', Int.toNat_natCast, chk_of (fitB_in (n := (pns (orderS plan) i).length + 1) (b := 8) (by have := (planB_P h).cs.n; have := (planB_P h).n; omega) (by omega)), iadd_nat (show i < 4611686018427387904 by omega), pns_succ]
      by_cases e : 0 < gd plan i 0
      · simp [e, orderS]
      · simp [e, orderS]
    · simp only [impl_OrderPeriods_B1, impl_OrderPeriods_K1, ilt_eq, Int.lt_irrefl, decide_false, cond_false]
theorem spec_OrderPeriods_eq {N : Nat} {c : Cs} {plan : List Int} (hc : SmC c) (hs : plan.length < 4194304) (hN : 4194304 ≤ N) : spec_OrderPeriods N c plan = some (orderP c plan, ()) := by
  simp only [spec_OrderPeriods, spec_l2Two_eq hc hs hN, Option.bind_some, bif_not, orderP, pairOf]
  cases h : caseB c && planB c plan with
  | false => rfl
  | true =>
    simp only [cond_true]
    refine spec_OrderPeriods_L1_run N (fun _ => plan) (fun i => (i : Int)) (fun i => pns (orderS plan) i) plan.length (fun i hi kx => ?_) (fun kx => ?_) N (by omega)
    · have hcl : (pns (orderS plan) i).length ≤ i := cnt_le _ _
      simp only [spec_OrderPeriods_B1, ilt_eq, len_eq, Int.ofNat_lt, hi, decide_true, cond_true, inB_true hi, chk_true', Int.toNat_natCast, chk_of (fitB_in (n := (pns (orderS plan) i).length + 1) (b := 8) (by have := (planB_P h).cs.n; have := (planB_P h).n; omega) (by omega)), iadd_nat (show i < 4611686018427387904 by omega), pns_succ]
      by_cases e : 0 < gd plan i 0
      · simp [e, orderS]
      · simp [e, orderS]
    · simp only [spec_OrderPeriods_B1, spec_OrderPeriods_K1, ilt_eq, len_eq, Int.lt_irrefl, decide_false, cond_false]
theorem spec_DrawPlanCost_ok {N : Nat} {code : List Int} (hr : RngB code) (hl : code.length ≤ 65536) (hN : 4194304 ≤ N) : ∃ c plan, spec_DrawPlanCost N code = some ((c, plan), ()) ∧ Len9 c 9 ∧ plan.length ≤ 9 := by
  obtain ⟨c, p, e, l1, l2⟩ := spec_DrawStocksOf_ok hr hl hN
  exact ⟨c, p, by simp only [spec_DrawPlanCost, e, Option.bind_some], l1, l2⟩
theorem FnPlans_loop {N : Nat} {c : Cs} {plan : List Int} (g : GoodP c plan) (hN : 4194304 ≤ N) : laws_FnPlans_L1 N N 0 0 c (c, plan) (stocksL plan c.1 plan.length, true) (pns (emptyS c plan) plan.length, true) (pns (orderS plan) plan.length, true) = some (true, ()) := by
  have h8 := g.cs.n
  have hn := g.n
  have hln := stocksL_len plan c.1 plan.length
  have := laws_FnPlans_L1_run N (fun i => stockAt plan c.1 i) (fun i => (i : Int)) (fun _ => c) (fun _ => (c, plan)) (fun _ => (stocksL plan c.1 plan.length, true)) (fun _ => (pns (emptyS c plan) plan.length, true)) (fun _ => (pns (orderS plan) plan.length, true)) plan.length (res_ := some (true, ())) (fun i hi kx => ?_) (fun kx => ?_) N (by omega)
  · rw [stockAt_zero] at this; exact this
  · have b1 := g.pl.b i hi
    have b2 := g.cs.b0 i (by omega)
    have s1 := g.pl.st (t := i) (by omega)
    have s2 := g.st (i + 1) (by omega)
    have e1 : isub .i64 (iadd .i64 (stockAt plan c.1 i) (gd plan i 0)) (gd c.1 i 0) = stockAt plan c.1 (i + 1) := by
      rw [stockAt_succ hi (by omega), iadd_in (by omega) (by omega), isub_in (by omega) (by omega)]; omega
    simp only [laws_FnPlans_B1, ilt_eq, len_eq, Int.ofNat_lt, hi, decide_true, cond_true, hln, inB_true hi, inB_true (show i < c.1.length by omega), chk_true', Int.toNat_natCast, e1, stocksL_gd _ _ hi, ine_eq, Bool.not_true, cond_false, show ¬ stockAt plan c.1 (i + 1) < 0 by omega, decide_false, laws_rHas_pns hi (show plan.length < 4194304 by omega) hN, Option.bind_some, ieq_eq, beq_eq, emptyS, orderS, iadd_nat (show i < 4611686018427387904 by omega)]
    simp
  · simp only [laws_FnPlans_B1, laws_FnPlans_K1, ilt_eq, len_eq, Int.lt_irrefl, decide_false, cond_false, ieq_eq, g.en, decide_true]
theorem FnPlans_tail {N : Nat} {c : Cs} {plan : List Int} (hc : SmC c) (hs : plan.length < 4194304) (hN : 4194304 ≤ N) : laws_FnPlans_K2 N (bif pairOf c plan then (costOf c plan, true) else (0, false)).1 (pairOf c plan) false c (c, plan) = some (true, ()) := by
  simp only [laws_FnPlans_K2, cond_false, impl_StocksOf_eq hc hs hN, spec_StocksOf_eq hc hs hN, impl_CostParts_eq hc hs hN, spec_CostParts_eq hc hs hN, impl_EmptyPeriods_eq hc hs hN, spec_EmptyPeriods_eq hc hs hN, impl_OrderPeriods_eq hc hs hN, spec_OrderPeriods_eq hc hs hN, Option.bind_some, stocksP, partsP, emptyP, orderP]
  cases h : pairOf c plan with
  | false =>
    simp [laws_rInts_refl (N := N) (a := []) (by simp) hN]
    decide
  | true =>
    have g := pair_goodP h
    have h1 := fSet_bd g.pl plan.length (Nat.le_refl _)
    have h2 := fUnit_bd g.pl plan.length (Nat.le_refl _)
    have h3 := fHold_bd g.pl plan.length (Nat.le_refl _)
    have h8 := g.cs.n
    have hn := g.n
    have e1 : iadd .i64 (iadd .i64 (rsum (fSet c plan) plan.length) (rsum (fUnit c plan) plan.length)) (rsum (fHold c plan) plan.length) = costOf c plan := by
      rw [iadd_in (a := rsum (fSet c plan) plan.length) (by omega) (by omega), iadd_in (by omega) (by omega)]; rfl
    have l1 : (stocksL plan c.1 plan.length).length < 4194304 := by rw [stocksL_len]; exact hs
    have l2 : (pns (emptyS c plan) plan.length).length < 4194304 := by have := cnt_le (emptyS c plan) plan.length; simp only [cnt] at this; omega
    have l3 : (pns (orderS plan) plan.length).length < 4194304 := by have := cnt_le (orderS plan) plan.length; simp only [cnt] at this; omega
    simp [laws_rInts_refl l1 hN, laws_rInts_refl l2 hN, laws_rInts_refl l3 hN, e1, FnPlans_loop g hN]
theorem laws_FnPlans_law (code : List Int) (h : RngB code) : ∃ N, laws_FnPlans N code = some (true, ()) := by
  refine ⟨4194304, ?_⟩
  have hN := Nat.le_refl 4194304
  simp only [laws_FnPlans, laws_rBig, ilt_eq, len_eq, Option.bind_some]
  by_cases hl : (65536 : Int) < code.length
  · simp [hl]
  obtain ⟨c, plan, e, l9, lp⟩ := spec_DrawPlanCost_ok h (show code.length ≤ 65536 by omega) hN
  have hc := l9.smC
  have hs : plan.length < 4194304 := by omega
  have key := FnPlans_tail hc hs hN
  simp only [hl, decide_false, cond_false, e, Option.bind_some, impl_PlanCost_eq hc hs hN, spec_PlanCost_eq hc hs hN, impl_IsPlan_eq hc hs hN, spec_IsPlan_eq hc hs hN, impl_IsCase_eq hc hN, ine_eq, decide_true, Bool.not_true, beq_eq, beq_self_eq_true]
  simp only [pairOf] at key ⊢
  cases hb : caseB c with
  | false =>
    rw [hb] at key
    simpa using key
  | true =>
    rw [hb] at key
    cases hp : planB c plan with
    | false => rw [hp] at key; simpa using key
    | true => rw [hp] at key; simpa using key
end Go.Rx.Px
