/- This text proves, of the plain functions behind FnExactSmoothPlan, that the law answers true; no condition beyond the ranges that its arguments have. -/
import Derived.Test.YtplnbkfgedjjkaaPxFnExactSmoothPlan
set_option linter.unusedVariables false
set_option linter.unusedSimpArgs false
namespace Go.Rx
theorem wrap_in {n : Int} (h1 : -9223372036854775808 ≤ n) (h2 : n < 9223372036854775808) : IntKind.i64.wrap n = n := by
  simp [IntKind.wrap, IntKind.bits, IntKind.signed]
  omega
theorem iadd_in {a b : Int} (h1 : -9223372036854775808 ≤ a + b) (h2 : a + b < 9223372036854775808) : iadd .i64 a b = a + b := wrap_in h1 h2
theorem isub_in {a b : Int} (h1 : -9223372036854775808 ≤ a - b) (h2 : a - b < 9223372036854775808) : isub .i64 a b = a - b := wrap_in h1 h2
theorem imul_in {a b : Int} (h1 : -9223372036854775808 ≤ a * b) (h2 : a * b < 9223372036854775808) : imul .i64 a b = a * b := wrap_in h1 h2
theorem iadd_nat {i : Nat} (h : i < 4611686018427387904) : iadd .i64 (i : Int) 1 = ((i + 1 : Nat) : Int) := by rw [iadd_in (by omega) (by omega)]; omega
@[simp] theorem ilt_eq (a b : Int) : ilt a b = decide (a < b) := rfl
@[simp] theorem ile_eq (a b : Int) : ile a b = decide (a ≤ b) := rfl
@[simp] theorem ieq_eq (a b : Int) : ieq a b = decide (a = b) := rfl
@[simp] theorem ine_eq (a b : Int) : ine a b = !decide (a = b) := rfl
@[simp] theorem len_eq {α : Type} (xs : List α) : len xs = (xs.length : Int) := rfl
@[simp] theorem beq_eq (a b : Bool) : Go.Rx.beq a b = (a == b) := rfl
theorem inB_nat (i n : Nat) : inB (i : Int) n = decide (i < n) := by simp [inB]
theorem inB_true {i n : Nat} (h : i < n) : inB (i : Int) n = true := by simp [inB_nat, h]
theorem fitB_in {n b : Nat} (h : n < 4194304) (hb : b ≤ 1024) : fitB n b = true := by
  have : n * b ≤ 4194304 * 1024 := Nat.mul_le_mul (by omega) hb
  simp only [fitB, Bool.and_eq_true, decide_eq_true_eq]; omega
theorem mkB_in {n b : Nat} (h : n < 4194304) (hb : b ≤ 1024) : mkB (n : Int) b = true := by
  have : n * b ≤ 4194304 * 1024 := Nat.mul_le_mul (by omega) hb
  simp only [mkB, Bool.and_eq_true, decide_eq_true_eq, Int.toNat_natCast]; omega
@[simp] theorem chk_true' {α : Type} (x : Option α) : chk true x = x := rfl
@[simp] theorem chk_false {α : Type} (x : Option α) : chk false x = none := rfl
theorem all_cases {α : Type} (p : α → Bool) (d : α) : ∀ (xs : List α), (xs.all p = true ∧ ∀ i, i < xs.length → p (gd xs i d) = true) ∨ (xs.all p = false ∧ ∃ j, j < xs.length ∧ (∀ i, i < j → p (gd xs i d) = true) ∧ p (gd xs j d) = false)
  | [] => .inl ⟨rfl, fun i h => by simp at h⟩
  | a :: xs => by
    cases ha : p a with
    | false => exact .inr ⟨by simp [ha], 0, by simp, fun i h => by omega, by simpa [gd] using ha⟩
    | true =>
      rcases all_cases p d xs with ⟨h, hall⟩ | ⟨h, j, hj, hb, hat⟩
      · refine .inl ⟨by simp [ha] at h ⊢; exact h, fun i hi => ?_⟩
        cases i with
        | zero => simpa [gd] using ha
        | succ i => simpa [gd] using hall i (by simpa using hi)
      · refine .inr ⟨by rw [List.all_cons, ha, h]; rfl, j + 1, by simpa using hj, fun i hi => ?_, by simpa [gd] using hat⟩
        cases i with
        | zero => simpa [gd] using ha
        | succ i => simpa [gd] using hb i (by omega)
theorem first_cases (p : Nat → Bool) : ∀ (n : Nat), (∀ i, i < n → p i = true) ∨ (∃ j, j < n ∧ (∀ i, i < j → p i = true) ∧ p j = false)
  | 0 => .inl fun i h => by omega
  | n + 1 => by
    rcases first_cases p n with h | ⟨j, hj, hb, hat⟩
    · cases hn : p n with
      | true => exact .inl fun i hi => by by_cases e : i = n; exact e ▸ hn; exact h i (by omega)
      | false => exact .inr ⟨n, by omega, h, hn⟩
    · exact .inr ⟨j, by omega, hb, hat⟩
theorem take_succ {α : Type} (xs : List α) (i : Nat) (d : α) (h : i < xs.length) : xs.take (i + 1) = xs.take i ++ [gd xs i d] := by
  rw [List.take_succ_eq_append_getElem h]; simp [gd, List.getD_eq_getElem?_getD, h]
theorem mem_getD {α : Type} {xs : List α} {i : Nat} (d : α) (h : i < xs.length) : gd xs i d ∈ xs := by
  rw [gd, List.getD_eq_getElem?_getD, List.getElem?_eq_getElem h]; simp
theorem drop_eq {α : Type} (xs : List α) (i : Nat) (d : α) (h : i < xs.length) : xs.drop i = gd xs i d :: xs.drop (i + 1) := by
  rw [List.drop_eq_getElem_cons h]; simp [gd, List.getD_eq_getElem?_getD, h]
def inRg (lo hi x : Int) : Bool := decide (lo ≤ x) && decide (x ≤ hi)
def bd (b : Int) (xs : List Int) : Prop := ∀ i, i < xs.length → 0 ≤ gd xs i 0 ∧ gd xs i 0 ≤ b
theorem all_gd {α : Type} {p : α → Bool} {xs : List α} (d : α) (h : xs.all p = true) : ∀ i, i < xs.length → p (gd xs i d) = true := fun _ hi => List.all_eq_true.1 h _ (mem_getD d hi)
theorem bd_of {b : Int} {xs : List Int} (h : xs.all (inRg 0 b) = true) : bd b xs := fun i hi => by
  have := all_gd 0 h i hi
  simpa [inRg] using this
theorem bd_iff {b : Int} {xs : List Int} : xs.all (inRg 0 b) = true ↔ bd b xs := by
  refine ⟨bd_of, fun h => ?_⟩
  rcases all_cases (inRg 0 b) 0 xs with ⟨h1, _⟩ | ⟨_, j, hj, _, hat⟩
  · exact h1
  · have := h j hj
    simp [inRg, this] at hat
def psum (xs : List Int) (i : Nat) : Int := (xs.take i).sum
theorem psum_zero (xs : List Int) : psum xs 0 = 0 := by simp [psum]
theorem psum_succ {xs : List Int} {i : Nat} (h : i < xs.length) : psum xs (i + 1) = psum xs i + gd xs i 0 := by
  unfold psum; rw [take_succ xs i 0 h]; simp
theorem psum_bd {b : Int} {xs : List Int} (h : bd b xs) : ∀ i, i ≤ xs.length → 0 ≤ psum xs i ∧ psum xs i ≤ b * i
  | 0, _ => by simp [psum_zero]
  | i + 1, hi => by
    have h1 := psum_bd h i (by omega)
    have h2 := h i (by omega)
    rw [psum_succ (by omega)]
    have : b * ((i + 1 : Nat) : Int) = b * i + b := by rw [Int.natCast_add, Int.mul_add]; simp
    omega
theorem bif_and (a b : Bool) : (bif a then some (b, ()) else some (false, ())) = some (a && b, ()) := by cases a <;> rfl
theorem bif_not {α : Type} (a : Bool) (x y : α) : (bif !a then x else y) = bif a then y else x := by cases a <;> rfl
def RngI (xs : List Int) : Prop := xs.length ≤ maxLen ∧ ∀ i, i < xs.length → (Lit.int .i64 (xs.getD i 0)).wf = true
def RngZ (x : Int) : Prop := (Lit.int .i64 x).wf = true
theorem RngZ.bd {x : Int} (h : RngZ x) : -9223372036854775808 ≤ x ∧ x ≤ 9223372036854775807 := by
  simpa [RngZ, Lit.wf, IntKind.min, IntKind.max, IntKind.signed, IntKind.bits] using h
theorem RngI.bd {xs : List Int} (h : RngI xs) : ∀ i, i < xs.length → -9223372036854775808 ≤ gd xs i 0 ∧ gd xs i 0 ≤ 9223372036854775807 := fun i hi => RngZ.bd (h.2 i hi)
end Go.Rx
namespace Go.Rx.Px
abbrev Cs := List Int × List Int × List Int × List Int
theorem impl_within_eq (N : Nat) (x lo hi : Int) : impl_within N x lo hi = some (inRg lo hi x, ()) := by
  simp only [impl_within, ile_eq, inRg]; by_cases h : lo ≤ x <;> simp [h]
theorem spec_l1In_eq (N : Nat) (x lo hi : Int) : spec_l1In N x lo hi = some (inRg lo hi x, ()) := by
  simp only [spec_l1In, ile_eq, inRg]; by_cases h : lo ≤ x <;> simp [h]
theorem impl_allWithin_eq {N : Nat} {xs : List Int} {lo hi : Int} (hl : xs.length < 4194304) (hN : 4194304 ≤ N) : impl_allWithin N xs lo hi = some (xs.all (inRg lo hi), ()) := by
  unfold impl_allWithin
  rcases all_cases (inRg lo hi) 0 xs with ⟨h, hall⟩ | ⟨h, j, hj, hbef, hat⟩
  · refine impl_allWithin_L1_run N (fun _ => lo) (fun _ => hi) (fun _ => xs) (fun _ => xs.length) (fun i => i) xs.length (fun i hi kx => ?_) (fun kx => ?_) N (by omega)
    · simp [impl_allWithin_B1, hi, inB_true hi, impl_within_eq, hall i hi, iadd_nat (show i < 4611686018427387904 by omega)]
    · simp [impl_allWithin_B1, impl_allWithin_K1, h]
  · refine impl_allWithin_L1_run N (fun _ => lo) (fun _ => hi) (fun _ => xs) (fun _ => xs.length) (fun i => i) j (fun i hi kx => ?_) (fun kx => ?_) N (by omega)
    · simp [impl_allWithin_B1, show i < xs.length by omega, inB_true (show i < xs.length by omega), impl_within_eq, hbef i hi, iadd_nat (show i < 4611686018427387904 by omega)]
    · simp [impl_allWithin_B1, hj, inB_true hj, impl_within_eq, hat, h]
theorem spec_l2Row_eq {N : Nat} {xs : List Int} {n hi : Int} (hl : xs.length < 4194304) (hN : 4194304 ≤ N) : spec_l2Row N xs n hi = some (xs.all (inRg 0 hi) && decide ((xs.length : Int) = n), ()) := by
  unfold spec_l2Row
  rcases all_cases (inRg 0 hi) 0 xs with ⟨h, hall⟩ | ⟨h, j, hj, hbef, hat⟩
  · refine spec_l2Row_L1_run N (fun _ => xs) (fun _ => n) (fun _ => hi) (fun i => i) xs.length (fun i hi kx => ?_) (fun kx => ?_) N (by omega)
    · simp [spec_l2Row_B1, hi, inB_true hi, spec_l1In_eq, hall i hi, iadd_nat (show i < 4611686018427387904 by omega)]
    · simp [spec_l2Row_B1, spec_l2Row_K1, h]
  · refine spec_l2Row_L1_run N (fun _ => xs) (fun _ => n) (fun _ => hi) (fun i => i) j (fun i hi kx => ?_) (fun kx => ?_) N (by omega)
    · simp [spec_l2Row_B1, show i < xs.length by omega, inB_true (show i < xs.length by omega), spec_l1In_eq, hbef i hi, iadd_nat (show i < 4611686018427387904 by omega)]
    · simp [spec_l2Row_B1, hj, inB_true hj, spec_l1In_eq, hat, h]
def caseB (c : Cs) : Bool := decide (c.1.length ≤ 8) && (decide (c.2.1.length = c.1.length) && (decide (c.2.2.1.length = c.1.length) && (decide (c.2.2.2.length = c.1.length) && (c.1.all (inRg 0 20) && (c.2.1.all (inRg 0 99) && (c.2.2.1.all (inRg 0 9) && c.2.2.2.all (inRg 0 9)))))))
structure CaseP (c : Cs) : Prop where
  n : c.1.length ≤ 8
  l1 : c.2.1.length = c.1.length
  l2 : c.2.2.1.length = c.1.length
  l3 : c.2.2.2.length = c.1.length
  b0 : bd 20 c.1
  b1 : bd 99 c.2.1
  b2 : bd 9 c.2.2.1
  b3 : bd 9 c.2.2.2
theorem caseB_iff {c : Cs} : caseB c = true ↔ CaseP c := by
  simp only [caseB, Bool.and_eq_true, decide_eq_true_eq, bd_iff]
  exact ⟨fun ⟨a, b, c, d, e, f, g, h⟩ => ⟨a, b, c, d, e, f, g, h⟩, fun ⟨a, b, c, d, e, f, g, h⟩ => ⟨a, b, c, d, e, f, g, h⟩⟩
structure SmC (c : Cs) : Prop where
  s0 : c.1.length < 4194304
  s1 : c.2.1.length < 4194304
  s2 : c.2.2.1.length < 4194304
  s3 : c.2.2.2.length < 4194304
theorem impl_IsCase_eq {N : Nat} {c : Cs} (hc : SmC c) (hN : 4194304 ≤ N) : impl_IsCase N c = some (caseB c, ()) := by
  have e0 : ile (len c.1) 8 = decide (c.1.length ≤ 8) := by simp only [ile_eq, len_eq, decide_eq_decide]; omega
  have e1 : ∀ a b : List Int, ieq (len a) (len b) = decide (a.length = b.length) := fun a b => by simp only [ieq_eq, len_eq, decide_eq_decide]; omega
  simp only [impl_IsCase, impl_allWithin_eq hc.s0 hN, impl_allWithin_eq hc.s1 hN, impl_allWithin_eq hc.s2 hN, impl_allWithin_eq hc.s3 hN, caseB, e0, e1, Option.bind_some, bif_and]
theorem spec_l2Good_eq {N : Nat} {c : Cs} (hc : SmC c) (hN : 4194304 ≤ N) : spec_l2Good N c = some (caseB c, ()) := by
  have e0 : ile (c.1.length : Int) 8 = decide (c.1.length ≤ 8) := by simp only [ile_eq, decide_eq_decide]; omega
  simp only [spec_l2Good, len_eq, spec_l2Row_eq hc.s0 hN, spec_l2Row_eq hc.s1 hN, spec_l2Row_eq hc.s2 hN, spec_l2Row_eq hc.s3 hN, caseB, e0, Option.bind_some, bif_and]
  congr 2
  rw [Bool.eq_iff_iff]
  simp only [Bool.and_eq_true, decide_eq_true_eq]
  constructor
  · rintro ⟨h1, ⟨h2, h3⟩, ⟨h4, h5⟩, ⟨h6, h7⟩, h8, h9⟩; exact ⟨h1, by omega, by omega, by omega, h2, h4, h6, h8⟩
  · rintro ⟨h1, h2, h3, h4, h5, h6, h7, h8⟩; exact ⟨h1, ⟨h5, trivial⟩, ⟨h6, by omega⟩, ⟨h7, by omega⟩, h8, by omega⟩
def stockAt (plan need : List Int) (t : Nat) : Int := psum plan t - psum need t
abbrev RngC (c : Cs) : Prop := RngI c.1 ∧ RngI c.2.1 ∧ RngI c.2.2.1 ∧ RngI c.2.2.2
theorem laws_toIntS_eq {N : Nat} {a : List Int} (hl : a.length < 4194304) (hN : 4194304 ≤ N) : laws_toIntS N a = some (a, ()) := by
  simp only [laws_toIntS, len_eq, chk_of (mkB_in hl (show 8 ≤ 1024 by omega)), Int.toNat_natCast]
  refine laws_toIntS_L1_run N (fun _ => a) (fun i => i) (fun i => a.take i ++ List.replicate (a.length - i) 0) a.length (fun i hi kx => ?_) (fun kx => ?_) N (by omega)
  · simp only [laws_toIntS_B1, ilt_eq, len_eq, Int.ofNat_lt, hi, decide_true, cond_true, inB_true hi, chk_true', Int.toNat_natCast, iadd_nat (show i < 4611686018427387904 by omega)]
    rw [chk_of (inB_true (by simp; omega))]
    congr 1
    rw [take_succ a i 0 hi, List.set_append, if_neg (by simp; omega), List.append_assoc]
    congr 1
    rw [show a.length - i = (a.length - (i + 1)) + 1 by omega, List.replicate_succ]
    simp [Nat.min_eq_left (Nat.le_of_lt hi)]
  · simp [laws_toIntS_B1, laws_toIntS_K1]
theorem laws_eqIntS_eq {N : Nat} {a b : List Int} (hl : a.length < 4194304) (hN : 4194304 ≤ N) : laws_eqIntS N a b = some (decide (a = b), ()) := by
  by_cases hn : a.length = b.length
  · simp only [laws_eqIntS, ine_eq, len_eq, hn, decide_true, bif_not, cond_true]
    rcases first_cases (fun i => decide (gd a i 0 = gd b i 0)) a.length with h | ⟨j, hj, hb, hat⟩
    · have he : a = b := by
        refine List.ext_getElem hn fun i h1 h2 => ?_
        have := h i h1
        simpa [gd, h1, h2] using this
      refine laws_eqIntS_L1_run N (fun _ => a) (fun _ => b) (fun i => i) a.length (fun i hi kx => ?_) (fun kx => ?_) N (by omega)
      · have h3 : gd a i 0 = gd b i 0 := by simpa using h i hi
        simp [laws_eqIntS_B1, hi, inB_true hi, inB_true (show i < b.length by omega), h3, iadd_nat (show i < 4611686018427387904 by omega)]
      · simp [laws_eqIntS_B1, laws_eqIntS_K1, he]
    · have hat' : gd a j 0 ≠ gd b j 0 := by simpa using hat
      have he : a ≠ b := fun e => hat' (by rw [e])
      refine laws_eqIntS_L1_run N (fun _ => a) (fun _ => b) (fun i => i) j (fun i hi kx => ?_) (fun kx => ?_) N (by omega)
      · have h3 : gd a i 0 = gd b i 0 := by simpa using hb i hi
        simp [laws_eqIntS_B1, show i < a.length by omega, inB_true (show i < a.length by omega), inB_true (show i < b.length by omega), h3, iadd_nat (show i < 4611686018427387904 by omega)]
      · simp [laws_eqIntS_B1, hj, inB_true hj, inB_true (show j < b.length by omega), hat', he]
  · have he : a ≠ b := fun e => hn (by rw [e])
    have : decide ((a.length : Int) = b.length) = false := by simp; omega
    simp [laws_eqIntS, this, he]
theorem laws_toCase_eq {N : Nat} {c : Cs} (h : SmC c) (hN : 4194304 ≤ N) : laws_toCase N c = some (c, ()) := by
  simp only [laws_toCase, laws_toIntS_eq h.s0 hN, laws_toIntS_eq h.s1 hN, laws_toIntS_eq h.s2 hN, laws_toIntS_eq h.s3 hN, Option.bind_some]
theorem laws_eqCase_refl {N : Nat} {c : Cs} (h : SmC c) (hN : 4194304 ≤ N) : laws_eqCase N c c = some (true, ()) := by
  simp [laws_eqCase, laws_eqIntS_eq h.s0 hN, laws_eqIntS_eq h.s1 hN, laws_eqIntS_eq h.s2 hN, laws_eqIntS_eq h.s3 hN]
theorem laws_szIntS_eq (N : Nat) {a : List Int} {left : Int} (h : a.length ≤ maxLen) (h1 : 0 ≤ left) (h2 : left ≤ 1048576) : ∃ r, laws_szIntS N a left = some (r, ()) ∧ (r < 0 ∨ 0 ≤ r ∧ r ≤ left ∧ (a.length : Int) ≤ left) := by
  unfold maxLen at h
  simp only [laws_szIntS, len_eq, ilt_eq, isub_in (show -9223372036854775808 ≤ left - a.length by omega) (by omega)]
  by_cases h3 : left - a.length < 0
  · exact ⟨-1, by simp [h3], .inl (by omega)⟩
  · exact ⟨left - a.length, by simp [h3], .inr (by omega)⟩
theorem laws_szCase_eq (N : Nat) {c : Cs} {left : Int} (h : RngC c) (h1 : 0 ≤ left) (h2 : left ≤ 1048576) : ∃ r, laws_szCase N c left = some (r, ()) ∧ (r < 0 ∨ 0 ≤ r ∧ r ≤ left ∧ SmC c) := by
  simp only [laws_szCase, ilt_eq]
  obtain ⟨r1, e1, q1⟩ := laws_szIntS_eq N h.1.1 h1 h2
  rcases q1 with q1 | q1
  · exact ⟨-1, by simp [e1, q1], .inl (by omega)⟩
  obtain ⟨r2, e2, q2⟩ := laws_szIntS_eq N h.2.1.1 q1.1 (show r1 ≤ 1048576 by omega)
  have n1 : ¬ r1 < 0 := by omega
  rcases q2 with q2 | q2
  · exact ⟨-1, by simp [e1, e2, q2, n1], .inl (by omega)⟩
  obtain ⟨r3, e3, q3⟩ := laws_szIntS_eq N h.2.2.1.1 q2.1 (show r2 ≤ 1048576 by omega)
  have n2 : ¬ r2 < 0 := by omega
  rcases q3 with q3 | q3
  · exact ⟨-1, by simp [e1, e2, e3, q3, n1, n2], .inl (by omega)⟩
  obtain ⟨r4, e4, q4⟩ := laws_szIntS_eq N h.2.2.2.1 q3.1 (show r3 ≤ 1048576 by omega)
  have n3 : ¬ r3 < 0 := by omega
  rcases q4 with q4 | q4
  · exact ⟨-1, by simp [e1, e2, e3, e4, q4, n1, n2, n3], .inl (by omega)⟩
  have n4 : ¬ r4 < 0 := by omega
  exact ⟨r4, by simp [e1, e2, e3, e4, n1, n2, n3, n4], .inr ⟨by omega, by omega, by omega, by omega, by omega, by omega⟩⟩
end Go.Rx.Px
namespace Go.Rx
def rsum (f : Nat → Int) : Nat → Int
  | 0 => 0
  | n + 1 => rsum f n + f n
theorem rsum_bd {f : Nat → Int} {lo hi : Int} : ∀ {n : Nat}, (∀ i, i < n → lo ≤ f i ∧ f i ≤ hi) → lo * n ≤ rsum f n ∧ rsum f n ≤ hi * n
  | 0, _ => by simp [rsum]
  | n + 1, h => by
    have h1 := rsum_bd (n := n) (fun i hi => h i (by omega))
    have h2 := h n (by omega)
    have e : ∀ x : Int, x * ((n + 1 : Nat) : Int) = x * n + x := fun x => by rw [Int.natCast_add, Int.mul_add]; simp
    simp only [rsum, e]; omega
theorem mul_bd {a b A B : Int} (ha : 0 ≤ a ∧ a ≤ A) (hb : -B ≤ b ∧ b ≤ B) : -(A * B) ≤ a * b ∧ a * b ≤ A * B := by
  have hB : 0 ≤ B := by omega
  have h1 : a * b ≤ a * B := Int.mul_le_mul_of_nonneg_left hb.2 ha.1
  have h2 : a * (-B) ≤ a * b := Int.mul_le_mul_of_nonneg_left hb.1 ha.1
  have h3 : a * B ≤ A * B := Int.mul_le_mul_of_nonneg_right ha.2 hB
  rw [Int.mul_neg] at h2
  omega
theorem gd_map_range {α : Type} (f : Nat → α) (d : α) {n i : Nat} (h : i < n) : gd ((List.range n).map f) i d = f i := by
  simp [gd, List.getD_eq_getElem?_getD, h]
theorem map_range_succ {α : Type} (f : Nat → α) (n : Nat) : (List.range (n + 1)).map f = (List.range n).map f ++ [f n] := by simp [List.range_succ]
theorem rangeB {p : Nat → Bool} {n : Nat} : (List.range n).all p = true ↔ ∀ i, i < n → p i = true := by simp
end Go.Rx
namespace Go.Rx.Px
def ifpos (p s : Int) : Int := if 0 < p then s else 0
theorem ifpos_bd {p s b : Int} (h : 0 ≤ s ∧ s ≤ b) : 0 ≤ ifpos p s ∧ ifpos p s ≤ b := by unfold ifpos; split <;> omega
structure CellBd (c : Cs) (plan : List Int) (t : Nat) : Prop where
  s : 0 ≤ gd c.2.1 t 0 ∧ gd c.2.1 t 0 ≤ 99
  u : 0 ≤ gd c.2.2.1 t 0 ∧ gd c.2.2.1 t 0 ≤ 9
  h : 0 ≤ gd c.2.2.2 t 0 ∧ gd c.2.2.2 t 0 ≤ 9
  p : 0 ≤ gd plan t 0 ∧ gd plan t 0 ≤ 200
  up : 0 ≤ gd c.2.2.1 t 0 * gd plan t 0 ∧ gd c.2.2.1 t 0 * gd plan t 0 ≤ 1800
theorem cellBd {c : Cs} {plan : List Int} (h : CaseP c) (hp : bd 200 plan) {t : Nat} (ht : t < c.1.length) (hl : t < plan.length) : CellBd c plan t := by
  have h1 := h.b1 t (by have := h.l1; omega)
  have h2 := h.b2 t (by have := h.l2; omega)
  have h3 := h.b3 t (by have := h.l3; omega)
  have h4 := hp t hl
  refine ⟨h1, h2, h3, h4, Int.mul_nonneg h2.1 h4.1, ?_⟩
  have := (mul_bd (A := 9) (B := 200) h2 (show -200 ≤ gd plan t 0 ∧ gd plan t 0 ≤ 200 by omega)).2
  omega
structure PlanP (c : Cs) (plan : List Int) : Prop where
  cs : CaseP c
  n : plan.length = c.1.length
  b : bd 160 plan
theorem PlanP.b200 {c : Cs} {plan : List Int} (h : PlanP c plan) : bd 200 plan := fun i hi => by have := h.b i hi; omega
theorem PlanP.st {c : Cs} {plan : List Int} (h : PlanP c plan) {t : Nat} (ht : t ≤ plan.length) : -1600 ≤ stockAt plan c.1 t ∧ stockAt plan c.1 t ≤ 1600 := by
  have h1 := psum_bd h.b200 t ht
  have h2 := psum_bd h.cs.b0 t (by have := h.n; omega)
  have h3 := h.cs.n
  have h4 := h.n
  simp only [stockAt]; omega
def stocksL (plan need : List Int) (n : Nat) : List Int := (List.range n).map fun i => stockAt plan need (i + 1)
theorem stocksL_len (plan need : List Int) (n : Nat) : (stocksL plan need n).length = n := by simp [stocksL]
theorem stocksL_gd (plan need : List Int) {n i : Nat} (h : i < n) : gd (stocksL plan need n) i 0 = stockAt plan need (i + 1) := gd_map_range _ _ h
theorem stocksL_succ (plan need : List Int) (n : Nat) : stocksL plan need (n + 1) = stocksL plan need n ++ [stockAt plan need (n + 1)] := map_range_succ _ _
theorem stockAt_zero (plan need : List Int) : stockAt plan need 0 = 0 := by simp [stockAt, psum_zero]
theorem stockAt_succ {plan need : List Int} {i : Nat} (h : i < plan.length) (h2 : i < need.length) : stockAt plan need (i + 1) = stockAt plan need i + (gd plan i 0 - gd need i 0) := by
  simp only [stockAt, psum_succ h, psum_succ h2]; omega
def rowB (c : Cs) (plan : List Int) : Bool := decide (plan.length = c.1.length) && plan.all (inRg 0 160)
def nnB (c : Cs) (plan : List Int) : Bool := (List.range plan.length).all fun i => decide (0 ≤ stockAt plan c.1 (i + 1))
def planB (c : Cs) (plan : List Int) : Bool := rowB c plan && (nnB c plan && decide (stockAt plan c.1 plan.length = 0))
theorem rowP {c : Cs} {plan : List Int} (hc : CaseP c) (h : rowB c plan = true) : PlanP c plan := by
  simp only [rowB, Bool.and_eq_true, decide_eq_true_eq, bd_iff] at h
  exact ⟨hc, h.1, h.2⟩
theorem nn_cases (c : Cs) (plan : List Int) : (nnB c plan = true ∧ ∀ i, i < plan.length → 0 ≤ stockAt plan c.1 (i + 1)) ∨ (nnB c plan = false ∧ ∃ j, j < plan.length ∧ (∀ i, i < j → 0 ≤ stockAt plan c.1 (i + 1)) ∧ stockAt plan c.1 (j + 1) < 0) := by
  rcases first_cases (fun i => decide (0 ≤ stockAt plan c.1 (i + 1))) plan.length with h1 | ⟨j, hj, hb, hat⟩
  · exact .inl ⟨rangeB.2 h1, fun i hi => by simpa using h1 i hi⟩
  · have hat' : stockAt plan c.1 (j + 1) < 0 := Int.not_le.1 (by simpa using hat)
    refine .inr ⟨?_, j, hj, fun i hi => by simpa using hb i hi, hat'⟩
    cases hl : nnB c plan with
    | false => rfl
    | true => exact absurd (rangeB.1 hl j hj) (by simp [hat'])
theorem len_dec (a b : List Int) : decide ((a.length : Int) = b.length) = decide (a.length = b.length) := by rw [decide_eq_decide]; omega
theorem impl_Case_stocks_eq {N : Nat} {c : Cs} {plan : List Int} (hc : CaseP c) (hs : plan.length < 4194304) (hN : 4194304 ≤ N) : impl_Case_stocks N c plan = some (bif rowB c plan && nnB c plan then (stocksL plan c.1 plan.length, decide (stockAt plan c.1 plan.length = 0)) else ([], false), ()) := by
  simp only [impl_Case_stocks, ine_eq, len_eq, len_dec, impl_allWithin_eq hs hN, Option.bind_some, bif_not]
  cases hn : decide (plan.length = c.1.length) with
  | false => simp [rowB, hn]
  | true =>
  cases ha : plan.all (inRg 0 160) with
  | false => simp [rowB, hn, ha]
  | true =>
    have hr : rowB c plan = true := by simp only [rowB, hn, ha, Bool.and_self]
    have hp := rowP hc hr
    have h8 := hc.n
    have hl := hp.n
    simp only [cond_true, hr, Bool.true_and]
    have step : ∀ i, i < plan.length → ∀ kx, 0 ≤ stockAt plan c.1 (i + 1) → impl_Case_stocks_B1 N kx (stockAt plan c.1 i) plan plan.length i c (stocksL plan c.1 i) = kx (stockAt plan c.1 (i + 1)) plan plan.length ((i + 1 : Nat) : Int) c (stocksL plan c.1 (i + 1)) := fun i hi kx h0 => by
      have hb := hp.b i hi
      have hd := hc.b0 i (by omega)
      have h1 := hp.st (t := i) (by omega)
      simp only [impl_Case_stocks_B1, ilt_eq, Int.ofNat_lt, hi, decide_true, cond_true, inB_true hi, inB_true (show i < c.1.length by omega), chk_true', Int.toNat_natCast, iadd_nat (show i < 4611686018427387904 by omega)]
      rw [isub_in (by omega) (by omega), iadd_in (by omega) (by omega), ← stockAt_succ hi (show i < c.1.length by omega), chk_of (fitB_in (by rw [stocksL_len]; omega) (by omega)), ← stocksL_succ]
      simp only [show ¬ stockAt plan c.1 (i + 1) < 0 by omega, decide_false, cond_false]
    rcases nn_cases c plan with ⟨h, hall⟩ | ⟨h, j, hj, hbef, hat⟩
    · rw [h, cond_true]
      refine impl_Case_stocks_L1_run N (stockAt plan c.1) (fun _ => plan) (fun _ => plan.length) (fun i => i) (fun _ => c) (stocksL plan c.1) plan.length (fun i hi kx => step i hi kx (hall i hi)) (fun kx => ?_) N (by omega)
      simp only [impl_Case_stocks_B1, impl_Case_stocks_K1, ilt_eq, Int.lt_irrefl, decide_false, cond_false, ieq_eq]
    · rw [h, cond_false]
      refine impl_Case_stocks_L1_run N (stockAt plan c.1) (fun _ => plan) (fun _ => plan.length) (fun i => i) (fun _ => c) (stocksL plan c.1) j (fun i hi kx => step i (by omega) kx (hbef i hi)) (fun kx => ?_) N (by omega)
      have hb := hp.b j hj
      have hd := hc.b0 j (by omega)
      have h1 := hp.st (t := j) (by omega)
      simp only [impl_Case_stocks_B1, ilt_eq, Int.ofNat_lt, hj, decide_true, cond_true, inB_true hj, inB_true (show j < c.1.length by omega), chk_true', Int.toNat_natCast]
      rw [isub_in (by omega) (by omega), iadd_in (by omega) (by omega), ← stockAt_succ hj (show j < c.1.length by omega)]
      simp only [hat, decide_true, cond_true]
theorem impl_planned_eq {N : Nat} {c : Cs} {plan : List Int} (hc : SmC c) (hs : plan.length < 4194304) (hN : 4194304 ≤ N) : impl_planned N c plan = some (bif caseB c && planB c plan then (stocksL plan c.1 plan.length, true) else ([], false), ()) := by
  simp only [impl_planned, impl_IsCase_eq hc hN, Option.bind_some, bif_not]
  cases h : caseB c with
  | false => rfl
  | true =>
    simp only [cond_true, impl_Case_stocks_eq (caseB_iff.1 h) hs hN, Option.bind_some, planB, Bool.true_and]
    cases rowB c plan <;> cases nnB c plan <;> cases decide (stockAt plan c.1 plan.length = 0) <;> rfl
theorem spec_l2Stocks_eq {N : Nat} {c : Cs} {plan : List Int} (hp : PlanP c plan) (hN : 4194304 ≤ N) : spec_l2Stocks N c plan = some (stocksL plan c.1 plan.length, ()) := by
  have h8 := hp.cs.n
  have hl := hp.n
  refine spec_l2Stocks_L1_run N (fun _ => plan) (stockAt plan c.1) (fun i => i) (fun _ => c) (stocksL plan c.1) plan.length (fun i hi kx => ?_) (fun kx => ?_) N (by omega)
  · have hb := hp.b i hi
    have hd := hp.cs.b0 i (by omega)
    have h1 := hp.st (t := i) (by omega)
    simp only [spec_l2Stocks_B1, ilt_eq, len_eq, Int.ofNat_lt, hi, decide_true, cond_true, inB_true hi, inB_true (show i < c.1.length by omega), chk_true', Int.toNat_natCast, iadd_nat (show i < 4611686018427387904 by omega)]
    rw [iadd_in (by omega) (by omega), isub_in (by omega) (by omega), chk_of (fitB_in (by rw [stocksL_len]; omega) (by omega)), stocksL_succ, stockAt_succ hi (show i < c.1.length by omega), Int.add_sub_assoc]
  · simp only [spec_l2Stocks_B1, spec_l2Stocks_K1, ilt_eq, len_eq, Int.lt_irrefl, decide_false, cond_false]
theorem spec_l2Plan_eq {N : Nat} {c : Cs} {plan : List Int} (hc : CaseP c) (hs : plan.length < 4194304) (hN : 4194304 ≤ N) : spec_l2Plan N c plan = some (planB c plan, ()) := by
  have e0 : (plan.all (inRg 0 160) && decide ((plan.length : Int) = c.1.length)) = rowB c plan := by rw [rowB, len_dec, Bool.and_comm]
  simp only [spec_l2Plan, len_eq, spec_l2Row_eq hs hN, Option.bind_some, bif_not, planB, e0]
  cases hr : rowB c plan with
  | false => rfl
  | true =>
    have hp := rowP hc hr
    have h8 := hc.n
    have hl := hp.n
    simp only [cond_true, spec_l2Stocks_eq hp hN, Option.bind_some, Bool.true_and]
    have hlen := stocksL_len plan c.1 plan.length
    have step : ∀ i, i < plan.length → ∀ kx, 0 ≤ stockAt plan c.1 (i + 1) → spec_l2Plan_B1 N kx i (stocksL plan c.1 plan.length) = kx ((i + 1 : Nat) : Int) (stocksL plan c.1 plan.length) := fun i hi kx h0 => by
      simp only [spec_l2Plan_B1, ilt_eq, len_eq, hlen, Int.ofNat_lt, hi, decide_true, cond_true, inB_true hi, chk_true', Int.toNat_natCast, stocksL_gd _ _ hi, show ¬ stockAt plan c.1 (i + 1) < 0 by omega, decide_false, cond_false, iadd_nat (show i < 4611686018427387904 by omega)]
    rcases nn_cases c plan with ⟨h, hall⟩ | ⟨h, j, hj, hbef, hat⟩
    · refine spec_l2Plan_L1_run N (fun i => i) (fun _ => stocksL plan c.1 plan.length) plan.length (fun i hi kx => step i hi kx (hall i hi)) (fun kx => ?_) N (by omega)
      simp only [spec_l2Plan_B1, spec_l2Plan_K1, ilt_eq, len_eq, hlen, Int.lt_irrefl, decide_false, cond_false, ieq_eq, h, Bool.true_and]
      by_cases h0 : plan.length = 0
      · simp [h0, stockAt_zero]
      · rw [isub_in (by omega) (by omega), show (plan.length : Int) - 1 = ((plan.length - 1 : Nat) : Int) by omega, Int.toNat_natCast, stocksL_gd _ _ (by omega), show plan.length - 1 + 1 = plan.length by omega, chk_of (inB_true (by omega))]
        simp [h0]
    · refine spec_l2Plan_L1_run N (fun i => i) (fun _ => stocksL plan c.1 plan.length) j (fun i hi kx => step i (by omega) kx (hbef i hi)) (fun kx => ?_) N (by omega)
      simp only [spec_l2Plan_B1, ilt_eq, len_eq, hlen, Int.ofNat_lt, hj, decide_true, cond_true, inB_true hj, chk_true', Int.toNat_natCast, stocksL_gd _ _ hj, hat, h, Bool.false_and]
theorem spec_l2Two_eq {N : Nat} {c : Cs} {plan : List Int} (hc : SmC c) (hs : plan.length < 4194304) (hN : 4194304 ≤ N) : spec_l2Two N c plan = some (caseB c && planB c plan, ()) := by
  simp only [spec_l2Two, spec_l2Good_eq hc hN, Option.bind_some]
  cases h : caseB c with
  | false => rfl
  | true => simp only [cond_true, spec_l2Plan_eq (caseB_iff.1 h) hs hN, Option.bind_some, Bool.true_and]
def fSet (c : Cs) (plan : List Int) (t : Nat) : Int := ifpos (gd plan t 0) (gd c.2.1 t 0)
def fUnit (c : Cs) (plan : List Int) (t : Nat) : Int := gd c.2.2.1 t 0 * gd plan t 0
def fHold (c : Cs) (plan : List Int) (t : Nat) : Int := gd c.2.2.2 t 0 * stockAt plan c.1 (t + 1)
theorem fSet_bd {c : Cs} {plan : List Int} (h : PlanP c plan) : ∀ i, i ≤ plan.length → -20000 * i ≤ rsum (fSet c plan) i ∧ rsum (fSet c plan) i ≤ 20000 * i := fun i hi => rsum_bd fun k hk => by
  have hn := h.n
  have := ifpos_bd (p := gd plan k 0) (cellBd h.cs h.b200 (show k < c.1.length by omega) (by omega)).s
  simp only [fSet]; omega
theorem fUnit_bd {c : Cs} {plan : List Int} (h : PlanP c plan) : ∀ i, i ≤ plan.length → -20000 * i ≤ rsum (fUnit c plan) i ∧ rsum (fUnit c plan) i ≤ 20000 * i := fun i hi => rsum_bd fun k hk => by
  have hn := h.n
  have := (cellBd h.cs h.b200 (show k < c.1.length by omega) (by omega)).up
  simp only [fUnit]; omega
theorem fHold_bd1 {c : Cs} {plan : List Int} (h : PlanP c plan) {k : Nat} (hk : k < plan.length) : -20000 ≤ fHold c plan k ∧ fHold c plan k ≤ 20000 := by
  have hn := h.n
  have := mul_bd (cellBd h.cs h.b200 (show k < c.1.length by omega) hk).h (h.st (show k + 1 ≤ plan.length by omega))
  simp only [fHold]; omega
theorem fHold_bd {c : Cs} {plan : List Int} (h : PlanP c plan) : ∀ i, i ≤ plan.length → -20000 * i ≤ rsum (fHold c plan) i ∧ rsum (fHold c plan) i ≤ 20000 * i := fun i hi => rsum_bd fun k hk => fHold_bd1 h (by omega)
theorem impl_Case_parts_eq {N : Nat} {c : Cs} {plan : List Int} (h : PlanP c plan) (hN : 4194304 ≤ N) : impl_Case_parts N c plan = some ((rsum (fSet c plan) plan.length, rsum (fUnit c plan) plan.length, rsum (fHold c plan) plan.length), ()) := by
  have h8 := h.cs.n
  have hl := h.n
  refine impl_Case_parts_L1_run N (rsum (fSet c plan)) (rsum (fUnit c plan)) (rsum (fHold c plan)) (stockAt plan c.1) (fun _ => plan) (fun _ => plan.length) (fun i => i) (fun _ => c) plan.length (fun i hi kx => ?_) (fun kx => ?_) N (by omega)
  · have hc := cellBd h.cs h.b200 (show i < c.1.length by omega) hi
    have hup := hc.up
    have hsu := hc.s
    have hpp := hc.p
    have hd := h.cs.b0 i (by omega)
    have h1 := h.st (t := i) (by omega)
    have h2 := fHold_bd1 h hi
    have b1 := fSet_bd h i (by omega)
    have b2 := fUnit_bd h i (by omega)
    have b3 := fHold_bd h i (by omega)
    have hP := h.cs.l1
    have hQ := h.cs.l2
    have hR := h.cs.l3
    simp only [impl_Case_parts_B1, impl_Case_parts_K1, ilt_eq, Int.ofNat_lt, hi, decide_true, cond_true, inB_true hi, inB_true (show i < c.1.length by omega), inB_true (show i < c.2.1.length by omega), inB_true (show i < c.2.2.1.length by omega), inB_true (show i < c.2.2.2.length by omega), chk_true', Int.toNat_natCast, iadd_nat (show i < 4611686018427387904 by omega)]
    rw [isub_in (by omega) (by omega), iadd_in (a := stockAt plan c.1 i) (by omega) (by omega), ← stockAt_succ hi (show i < c.1.length by omega), imul_in (a := gd c.2.2.1 i 0) (by omega) (by omega), imul_in (a := gd c.2.2.2 i 0) (by simp only [fHold] at h2; omega) (by simp only [fHold] at h2; omega)]
    have e2 : gd c.2.2.1 i 0 * gd plan i 0 = fUnit c plan i := rfl
    have e3 : gd c.2.2.2 i 0 * stockAt plan c.1 (i + 1) = fHold c plan i := rfl
    rw [e2] at hup
    simp only [e2, e3]
    rw [iadd_in (a := rsum (fUnit c plan) i) (by omega) (by omega), iadd_in (a := rsum (fHold c plan) i) (by omega) (by omega)]
    by_cases hp : 0 < gd plan i 0
    · simp only [hp, decide_true, cond_true, rsum, fSet, ifpos, if_true] at *
      rw [iadd_in (by omega) (by omega)]
    · simp only [hp, decide_false, cond_false, rsum, fSet, ifpos, if_false, Int.add_zero]
  · simp only [impl_Case_parts_B1, impl_Case_parts_K2, ilt_eq, Int.lt_irrefl, decide_false, cond_false]
def costOf (c : Cs) (plan : List Int) : Int := rsum (fSet c plan) plan.length + rsum (fUnit c plan) plan.length + rsum (fHold c plan) plan.length
theorem impl_Case_cost_eq {N : Nat} {c : Cs} {plan : List Int} (h : PlanP c plan) (hN : 4194304 ≤ N) : impl_Case_cost N c plan = some (costOf c plan, ()) := by
  have b1 := fSet_bd h _ (Nat.le_refl _)
  have b2 := fUnit_bd h _ (Nat.le_refl _)
  have b3 := fHold_bd h _ (Nat.le_refl _)
  have h8 := h.cs.n
  have hl := h.n
  simp only [impl_Case_cost, impl_Case_parts_eq h hN, Option.bind_some, costOf]
  rw [iadd_in (a := rsum (fSet c plan) plan.length) (by omega) (by omega), iadd_in (by omega) (by omega)]
theorem spec_l2Parts_eq {N : Nat} {c : Cs} {plan : List Int} (h : PlanP c plan) (hN : 4194304 ≤ N) : spec_l2Parts N c plan = some ([rsum (fSet c plan) plan.length, rsum (fUnit c plan) plan.length, rsum (fHold c plan) plan.length], ()) := by
  have h8 := h.cs.n
  have hl := h.n
  have hlen := stocksL_len plan c.1 plan.length
  simp only [spec_l2Parts, spec_l2Stocks_eq h hN, Option.bind_some]
  refine spec_l2Parts_L1_run N (fun _ => plan) (fun i => i) (fun _ => c) (fun _ => List.replicate 3 0) (fun i => [rsum (fSet c plan) i, rsum (fUnit c plan) i, rsum (fHold c plan) i]) (fun _ => stocksL plan c.1 plan.length) plan.length (fun i hi kx => ?_) (fun kx => ?_) N (by omega)
  · have hc := cellBd h.cs h.b200 (show i < c.1.length by omega) hi
    have hup := hc.up
    have hsu := hc.s
    have h2 := fHold_bd1 h hi
    have b1 := fSet_bd h i (by omega)
    have b2 := fUnit_bd h i (by omega)
    have b3 := fHold_bd h i (by omega)
    have hP := h.cs.l1
    have hQ := h.cs.l2
    have hR := h.cs.l3
    have i0 : inB 0 3 = true := rfl
    have i1 : inB 1 3 = true := rfl
    have i2 : inB 2 3 = true := rfl
    have g0 : ∀ a b c : Int, gd [a, b, c] 0 0 = a := fun _ _ _ => rfl
    have g1 : ∀ a b c : Int, gd [a, b, c] 1 0 = b := fun _ _ _ => rfl
    have g2 : ∀ a b c : Int, gd [a, b, c] 2 0 = c := fun _ _ _ => rfl
    have s0 : ∀ a b c v : Int, List.set [a, b, c] 0 v = [v, b, c] := fun _ _ _ _ => rfl
    have s1 : ∀ a b c v : Int, List.set [a, b, c] 1 v = [a, v, c] := fun _ _ _ _ => rfl
    have s2 : ∀ a b c v : Int, List.set [a, b, c] 2 v = [a, b, v] := fun _ _ _ _ => rfl
    simp only [spec_l2Parts_B1, spec_l2Parts_K1, ilt_eq, len_eq, Int.ofNat_lt, hi, decide_true, cond_true, inB_true hi, inB_true (show i < c.2.1.length by omega), inB_true (show i < c.2.2.1.length by omega), inB_true (show i < c.2.2.2.length by omega), hlen, chk_true', Int.toNat_natCast, iadd_nat (show i < 4611686018427387904 by omega), i0, i1, i2, g0, g1, g2, s0, s1, s2, stocksL_gd _ _ hi]
    rw [imul_in (a := gd c.2.2.1 i 0) (by omega) (by omega), imul_in (a := gd c.2.2.2 i 0) (by simp only [fHold] at h2; omega) (by simp only [fHold] at h2; omega)]
    have e2 : gd c.2.2.1 i 0 * gd plan i 0 = fUnit c plan i := rfl
    have e3 : gd c.2.2.2 i 0 * stockAt plan c.1 (i + 1) = fHold c plan i := rfl
    rw [e2] at hup
    simp only [e2, e3]
    rw [iadd_in (a := rsum (fUnit c plan) i) (by omega) (by omega), iadd_in (a := rsum (fHold c plan) i) (by omega) (by omega)]
    by_cases hp : 0 < gd plan i 0
    · simp only [hp, decide_true, cond_true, rsum, fSet, ifpos, if_true] at *
      rw [iadd_in (by omega) (by omega)]
    · simp only [hp, decide_false, cond_false, rsum, fSet, ifpos, if_false, Int.add_zero]
  · simp only [spec_l2Parts_B1, spec_l2Parts_K2, ilt_eq, len_eq, Int.lt_irrefl, decide_false, cond_false]
theorem spec_l2Cost_eq {N : Nat} {c : Cs} {plan : List Int} (h : PlanP c plan) (hN : 4194304 ≤ N) : spec_l2Cost N c plan = some (costOf c plan, ()) := by
  have b1 := fSet_bd h _ (Nat.le_refl _)
  have b2 := fUnit_bd h _ (Nat.le_refl _)
  have b3 := fHold_bd h _ (Nat.le_refl _)
  have h8 := h.cs.n
  have hl := h.n
  have i0 : inB 0 3 = true := rfl
  have i1 : inB 1 3 = true := rfl
  have i2 : inB 2 3 = true := rfl
  have g0 : ∀ a b c : Int, gd [a, b, c] 0 0 = a := fun _ _ _ => rfl
  have g1 : ∀ a b c : Int, gd [a, b, c] 1 0 = b := fun _ _ _ => rfl
  have g2 : ∀ a b c : Int, gd [a, b, c] 2 0 = c := fun _ _ _ => rfl
  simp only [spec_l2Cost, spec_l2Parts_eq h hN, Option.bind_some, costOf, i0, i1, i2, chk_true', g0, g1, g2]
  rw [iadd_in (a := rsum (fSet c plan) plan.length) (by omega) (by omega), iadd_in (by omega) (by omega)]
theorem planB_P {c : Cs} {plan : List Int} (h : (caseB c && planB c plan) = true) : PlanP c plan := by
  simp only [planB, Bool.and_eq_true] at h
  exact rowP (caseB_iff.1 h.1) h.2.1
def mkL (n : Nat) (k : Int) : List Int := (List.range n).map fun (i : Nat) => k + (i : Int)
theorem mkL_len (n : Nat) (k : Int) : (mkL n k).length = n := by simp [mkL]
theorem mkL_succ (n : Nat) (k : Int) : mkL (n + 1) k = mkL n k ++ [k + (n : Int)] := map_range_succ _ _
theorem mkL_gd {n i : Nat} (k : Int) (h : i < n) : gd (mkL n k) i 0 = k + i := gd_map_range _ _ h
theorem laws_markIntS_eq {N : Nat} {a : List Int} {k : Int} (hl : a.length < 4194304) (h0 : 0 ≤ k) (h1 : k ≤ 1000000000000) (hN : 4194304 ≤ N) : laws_markIntS N a k = some (k + a.length, mkL a.length k) := by
  have := laws_markIntS_L1_run N (fun i => k + (i : Int)) (fun i => (i : Int)) (fun i => mkL i k ++ a.drop i) a.length (res_ := some (k + a.length, mkL a.length k)) (fun i hi kx => ?_) (fun kx => ?_) N (by omega)
  · simpa [laws_markIntS, mkL] using this
  · have hlen : (mkL i k ++ a.drop i).length = a.length := by rw [List.length_append, mkL_len, List.length_drop]; omega
    simp only [laws_markIntS_B1, ilt_eq, len_eq, hlen, Int.ofNat_lt, hi, decide_true, cond_true, inB_true hi, chk_true', Int.toNat_natCast, iadd_nat (show i < 4611686018427387904 by omega)]
    rw [iadd_in (by omega) (by omega), List.set_append, if_neg (by rw [mkL_len]; omega), mkL_len, Nat.sub_self, drop_eq a i 0 hi, List.set_cons_zero, mkL_succ, List.append_assoc, Int.add_assoc]
    rfl
  · simp only [laws_markIntS_B1, laws_markIntS_K1, ilt_eq, len_eq, List.drop_length, List.append_nil, mkL_len, Int.lt_irrefl, decide_false, cond_false]
theorem laws_heldIntS_eq {N n : Nat} {k : Int} (hl : n < 4194304) (h0 : 0 ≤ k) (h1 : k ≤ 1000000000000) (hN : 4194304 ≤ N) : laws_heldIntS N (mkL n k) k = some (k + n, ()) := by
  have := laws_heldIntS_L1_run N (fun _ => mkL n k) (fun i => k + (i : Int)) (fun i => (i : Int)) n (res_ := some (k + n, ())) (fun i hi kx => ?_) (fun kx => ?_) N (by omega)
  · simpa [laws_heldIntS] using this
  · simp only [laws_heldIntS_B1, ilt_eq, len_eq, mkL_len, Int.ofNat_lt, hi, decide_true, cond_true, inB_true hi, chk_true', Int.toNat_natCast, mkL_gd k hi, ine_eq, Bool.not_true, cond_false, iadd_nat (show i < 4611686018427387904 by omega)]
    rw [iadd_in (by omega) (by omega), Int.add_assoc]; rfl
  · simp only [laws_heldIntS_B1, laws_heldIntS_K1, ilt_eq, len_eq, mkL_len, Int.lt_irrefl, decide_false, cond_false]
theorem markIntS_ok {N : Nat} {a : List Int} {k : Int} (hl : a.length < 4194304) (h0 : 0 ≤ k) (h1 : k ≤ 1000000000000) (hN : 4194304 ≤ N) : ∃ r a', laws_markIntS N a k = some (r, a') ∧ k ≤ r ∧ r ≤ k + 4194304 ∧ laws_heldIntS N a' k = some (r, ()) :=
  ⟨_, _, laws_markIntS_eq hl h0 h1 hN, by omega, by omega, laws_heldIntS_eq hl h0 h1 hN⟩
theorem markIntS_run {N : Nat} {a : List Int} {k : Int} (hl : a.length < 4194304) (h0 : 0 ≤ k) (h1 : k ≤ 1000000000000) (hN : 4194304 ≤ N) : ∃ r a', laws_markIntS N a k = some (r, a') ∧ k ≤ r ∧ r ≤ k + 4194304 :=
  ⟨_, _, laws_markIntS_eq hl h0 h1 hN, by omega, by omega⟩
theorem markCase_run {N : Nat} {c : Cs} {k : Int} (hc : SmC c) (h0 : 0 ≤ k) (h1 : k ≤ 900000000000) (hN : 4194304 ≤ N) : ∃ r c', laws_markCase N c k = some (r, c') ∧ k ≤ r ∧ r ≤ k + 20000000 := by
  obtain ⟨r1, a1, m1, b1, b1'⟩ := markIntS_run (N := N) hc.s0 h0 (by omega) hN
  obtain ⟨r2, a2, m2, b2, b2'⟩ := markIntS_run (N := N) (k := r1) hc.s1 (by omega) (by omega) hN
  obtain ⟨r3, a3, m3, b3, b3'⟩ := markIntS_run (N := N) (k := r2) hc.s2 (by omega) (by omega) hN
  obtain ⟨r4, a4, m4, b4, b4'⟩ := markIntS_run (N := N) (k := r3) hc.s3 (by omega) (by omega) hN
  exact ⟨r4, (a1, (a2, (a3, a4))), by simp only [laws_markCase, m1, m2, m3, m4, Option.bind_some], by omega, by omega⟩
theorem spec_l1Own_eq {N : Nat} {xs : List Int} (h : xs.length < 4194303) : spec_l1Own N xs = some (xs, ()) := by
  simp only [spec_l1Own, chk_of (fitB_in (n := 0 + xs.length) (b := 8) (by omega) (by omega))]
theorem impl_copied_eq {N : Nat} {xs : List Int} (h : xs.length < 4194303) : impl_copied N xs = some (xs, ()) := by
  simp only [impl_copied, chk_of (fitB_in (n := 0 + xs.length) (b := 8) (by omega) (by omega))]
theorem gd_set {xs : List Int} {i j : Nat} {v : Int} (hi : i < xs.length) : gd (List.set xs i v) j 0 = if j = i then v else gd xs j 0 := by
  simp only [gd]; exact getD_set xs i j v 0 hi
end Go.Rx.Px
namespace Go.Rx
theorem psum_mono_nn {xs : List Int} (h : ∀ i, i < xs.length → 0 ≤ gd xs i 0) {i : Nat} : ∀ {j : Nat}, i ≤ j → j ≤ xs.length → psum xs i ≤ psum xs j
  | 0, h1, _ => by obtain rfl : i = 0 := by omega
                   exact Int.le_refl _
  | j + 1, h1, h2 => by
    by_cases e : i = j + 1
    · rw [e]; exact Int.le_refl _
    · have := psum_mono_nn h (show i ≤ j by omega) (by omega)
      have h3 := h j (by omega)
      rw [psum_succ (by omega)]; omega
theorem psum_set {xs : List Int} {k : Nat} (v : Int) (hk : k < xs.length) : ∀ {i : Nat}, i ≤ xs.length → psum (List.set xs k v) i = psum xs i + (if k < i then v - gd xs k 0 else 0)
  | 0, _ => by simp [psum_zero]
  | i + 1, hi => by
    rw [psum_succ (by rw [List.length_set]; omega), psum_succ (by omega), psum_set v hk (i := i) (by omega)]
    have : gd (List.set xs k v) i 0 = if i = k then v else gd xs i 0 := by simp only [gd]; exact getD_set xs k i v 0 hk
    rw [this]
    by_cases e : i = k
    · subst e; rw [if_neg (by omega), if_pos rfl, if_pos (by omega)]; omega
    · by_cases l : k < i
      · rw [if_pos l, if_neg e, if_pos (by omega)]; omega
      · rw [if_neg l, if_neg e, if_neg (by omega)]; omega
theorem last_nz (xs : List Int) : ∀ t : Nat, (∀ q, q < t → gd xs q 0 = 0) ∨ ∃ k, k < t ∧ gd xs k 0 ≠ 0 ∧ ∀ q, k < q → q < t → gd xs q 0 = 0
  | 0 => .inl fun q hq => by omega
  | t + 1 => by
    by_cases e : gd xs t 0 = 0
    · rcases last_nz xs t with h | ⟨k, h1, h2, h3⟩
      · refine .inl fun q hq => ?_
        by_cases e2 : q = t
        · rw [e2]; exact e
        · exact h q (by omega)
      · refine .inr ⟨k, by omega, h2, fun q hq hq2 => ?_⟩
        by_cases e2 : q = t
        · rw [e2]; exact e
        · exact h3 q hq (by omega)
    · exact .inr ⟨t, by omega, e, fun q hq hq2 => by omega⟩
end Go.Rx
namespace Go.Rx.Px
structure GoodP (c : Cs) (plan : List Int) : Prop where
  cs : CaseP c
  n : plan.length = c.1.length
  p0 : ∀ i, i < plan.length → 0 ≤ gd plan i 0
  st : ∀ i, i ≤ plan.length → 0 ≤ stockAt plan c.1 i
  en : stockAt plan c.1 plan.length = 0
theorem GoodP.pl {c : Cs} {plan : List Int} (h : GoodP c plan) : PlanP c plan := by
  refine ⟨h.cs, h.n, fun i hi => ⟨h.p0 i hi, ?_⟩⟩
  have h1 := psum_mono_nn h.p0 (show 0 ≤ i by omega) (by omega)
  have h2 := psum_mono_nn h.p0 (show i + 1 ≤ plan.length by omega) (Nat.le_refl _)
  have h3 := psum_succ hi
  have h4 := h.en
  have h5 := psum_bd h.cs.b0 plan.length (by have := h.n; omega)
  have h6 := h.cs.n
  have h7 := h.n
  rw [psum_zero] at h1
  simp only [stockAt] at h4; omega
def earlyB (c : Cs) (plan : List Int) (t : Nat) : Bool := decide (0 < gd plan t 0) && decide (0 < stockAt plan c.1 t)
theorem early_cases (c : Cs) (plan : List Int) : (∀ t, t < plan.length → earlyB c plan t = false) ∨ ∃ j, j < plan.length ∧ (∀ t, t < j → earlyB c plan t = false) ∧ earlyB c plan j = true := by
  rcases first_cases (fun t => !earlyB c plan t) plan.length with h | ⟨j, h1, h2, h3⟩
  · exact .inl fun t ht => by simpa using h t ht
  · exact .inr ⟨j, h1, fun t ht => by simpa using h2 t ht, by simpa using h3⟩
theorem early_zero (c : Cs) (plan : List Int) : earlyB c plan 0 = false := by simp [earlyB, stockAt_zero]
theorem impl_early_step {N : Nat} {c : Cs} {plan : List Int} (h : GoodP c plan) {t : Nat} (ht : t < plan.length) (kx : Int → List Int → Int → Int → Cs → Option ((Int × Int × Bool) × Unit)) :
    impl_Case_early_B1 N kx (stockAt plan c.1 t) plan plan.length t c = bif earlyB c plan t then some (((t : Int), (stockAt plan c.1 t, true)), ()) else kx (stockAt plan c.1 (t + 1)) plan plan.length ((t + 1 : Nat) : Int) c := by
  have h1 := h.n
  have h8 := h.cs.n
  have s1 := h.pl.st (t := t) (by omega)
  have b1 := h.pl.b t ht
  have b2 := h.cs.b0 t (by omega)
  simp only [impl_Case_early_B1, ilt_eq, Int.ofNat_lt, ht, decide_true, cond_true, inB_true ht, inB_true (show t < c.1.length by omega), chk_true', Int.toNat_natCast, iadd_nat (show t < 4611686018427387904 by omega), earlyB]
  rw [isub_in (by omega) (by omega), iadd_in (by omega) (by omega), stockAt_succ ht (by omega)]
  cases decide (0 < gd plan t 0) <;> cases decide (0 < stockAt plan c.1 t) <;> rfl
theorem impl_early_none {N : Nat} {c : Cs} {plan : List Int} (h : GoodP c plan) (hall : ∀ t, t < plan.length → earlyB c plan t = false) (hN : 4194304 ≤ N) : impl_Case_early N c plan = some ((0, (0, false)), ()) := by
  have h1 := h.n
  have h8 := h.cs.n
  have := impl_Case_early_L1_run N (fun t => stockAt plan c.1 t) (fun _ => plan) (fun _ => (plan.length : Int)) (fun t => (t : Int)) (fun _ => c) plan.length (res_ := some ((0, (0, false)), ())) (fun t ht kx => by rw [impl_early_step h ht, hall t ht]; rfl) (fun kx => by simp only [impl_Case_early_B1, impl_Case_early_K1, ilt_eq, Int.lt_irrefl, decide_false, cond_false]) N (by omega)
  rw [stockAt_zero] at this
  exact this
theorem impl_early_at {N : Nat} {c : Cs} {plan : List Int} (h : GoodP c plan) {j : Nat} (hj : j < plan.length) (hb : ∀ t, t < j → earlyB c plan t = false) (he : earlyB c plan j = true) (hN : 4194304 ≤ N) : impl_Case_early N c plan = some (((j : Int), (stockAt plan c.1 j, true)), ()) := by
  have h1 := h.n
  have h8 := h.cs.n
  have := impl_Case_early_L1_run N (fun t => stockAt plan c.1 t) (fun _ => plan) (fun _ => (plan.length : Int)) (fun t => (t : Int)) (fun _ => c) j (res_ := some (((j : Int), (stockAt plan c.1 j, true)), ())) (fun t ht kx => by rw [impl_early_step h (show t < plan.length by omega), hb t ht]; rfl) (fun kx => by rw [impl_early_step h hj, he]; rfl) N (by omega)
  rw [stockAt_zero] at this
  exact this
theorem spec_early_step {N : Nat} {c : Cs} {plan : List Int} (h : GoodP c plan) {t : Nat} (ht0 : 0 < t) (ht : t < plan.length) (kx : List Int → Int → List Int → Option (Int × Unit)) :
    spec_l2Early_B1 N kx plan t (stocksL plan c.1 plan.length) = bif earlyB c plan t then some ((t : Int), ()) else kx plan ((t + 1 : Nat) : Int) (stocksL plan c.1 plan.length) := by
  have h8 := h.cs.n
  have h1 := h.n
  have e1 : isub .i64 (t : Int) 1 = ((t - 1 : Nat) : Int) := by rw [isub_in (by omega) (by omega)]; omega
  have e2 : gd (stocksL plan c.1 plan.length) (t - 1) 0 = stockAt plan c.1 t := by rw [stocksL_gd _ _ (show t - 1 < plan.length by omega), show t - 1 + 1 = t by omega]
  simp only [spec_l2Early_B1, ilt_eq, len_eq, Int.ofNat_lt, ht, decide_true, cond_true, inB_true ht, chk_true', Int.toNat_natCast, e1, chk_of (inB_true (show t - 1 < (stocksL plan c.1 plan.length).length by rw [stocksL_len]; omega)), e2, iadd_nat (show t < 4611686018427387904 by omega), earlyB]
  cases decide (0 < gd plan t 0) <;> cases decide (0 < stockAt plan c.1 t) <;> rfl
theorem spec_early_none {N : Nat} {c : Cs} {plan : List Int} (h : GoodP c plan) (hall : ∀ t, t < plan.length → earlyB c plan t = false) (hN : 4194304 ≤ N) : spec_l2Early N c plan = some (-1, ()) := by
  have h1 := h.n
  have h8 := h.cs.n
  simp only [spec_l2Early, spec_l2Stocks_eq h.pl hN, Option.bind_some]
  refine spec_l2Early_L1_run N (fun _ => plan) (fun k => ((1 + k : Nat) : Int)) (fun _ => stocksL plan c.1 plan.length) (plan.length - 1) (fun k hk kx => by rw [spec_early_step h (show 0 < 1 + k by omega) (by omega), hall (1 + k) (by omega)]; rfl) (fun kx => ?_) N (by omega)
  simp only [spec_l2Early_B1, spec_l2Early_K1, ilt_eq, len_eq, Int.ofNat_lt, show ¬ 1 + (plan.length - 1) < plan.length by omega, decide_false, cond_false]
theorem spec_early_at {N : Nat} {c : Cs} {plan : List Int} (h : GoodP c plan) {j : Nat} (hj : j < plan.length) (hb : ∀ t, t < j → earlyB c plan t = false) (he : earlyB c plan j = true) (hN : 4194304 ≤ N) : spec_l2Early N c plan = some ((j : Int), ()) := by
  have h1 := h.n
  have h8 := h.cs.n
  have h0 : 0 < j := by
    rcases Nat.eq_zero_or_pos j with e | e
    · subst e; rw [early_zero] at he; cases he
    · exact e
  simp only [spec_l2Early, spec_l2Stocks_eq h.pl hN, Option.bind_some]
  refine spec_l2Early_L1_run N (fun _ => plan) (fun k => ((1 + k : Nat) : Int)) (fun _ => stocksL plan c.1 plan.length) (j - 1) (fun k hk kx => by rw [spec_early_step h (show 0 < 1 + k by omega) (by omega), hb (1 + k) (by omega)]; rfl) (fun kx => ?_) N (by omega)
  have : 1 + (j - 1) = j := by omega
  simp only [this]
  rw [spec_early_step h h0 hj, he]; rfl
def lessP (plan : List Int) (k t : Nat) (s : Int) : List Int := List.set (List.set plan k (gd plan k 0 - s)) t (gd plan t 0 + s)
def moreP (plan : List Int) (k t : Nat) : List Int := List.set (List.set plan k (gd plan k 0 + gd plan t 0)) t 0
def smoothP (c : Cs) (plan : List Int) (k t : Nat) : List Int := bif decide (costOf c plan < costOf c (lessP plan k t (stockAt plan c.1 t))) then moreP plan k t else lessP plan k t (stockAt plan c.1 t)
structure Prev (c : Cs) (plan : List Int) (k t : Nat) : Prop where
  kt : k < t
  tn : t < plan.length
  kp : 0 < gd plan k 0
  tp : 0 < gd plan t 0
  ks : stockAt plan c.1 k = 0
  ts : 0 < stockAt plan c.1 t
  z : ∀ q, k < q → q < t → gd plan q 0 = 0
theorem prev_of {c : Cs} {plan : List Int} (h : GoodP c plan) {t : Nat} (ht : t < plan.length) (hb : ∀ q, q < t → earlyB c plan q = false) (he : earlyB c plan t = true) : ∃ k, Prev c plan k t := by
  have h1 := h.n
  simp only [earlyB, Bool.and_eq_true, decide_eq_true_eq] at he
  rcases last_nz plan t with hz | ⟨k, h2, h3, h4⟩
  · have hp : psum plan t = 0 := by
      clear he hb ht
      induction t with
      | zero => exact psum_zero _
      | succ t ih =>
        by_cases hl : t < plan.length
        · rw [psum_succ hl, ih (fun q hq => hz q (by omega)), hz t (by omega)]; rfl
        · have : psum plan (t + 1) = psum plan t := by
            simp only [psum]; rw [List.take_of_length_le (by omega), List.take_of_length_le (by omega)]
          rw [this]; exact ih (fun q hq => hz q (by omega))
    have hn := psum_bd h.cs.b0 t (by omega)
    simp only [stockAt] at he; omega
  · have hk0 := h.p0 k (by omega)
    have hkp : 0 < gd plan k 0 := by omega
    have hke := hb k h2
    have hks := h.st k (by omega)
    simp only [earlyB, decide_eq_true hkp, Bool.true_and, decide_eq_false_iff_not] at hke
    exact ⟨k, h2, ht, hkp, he.1, by omega, he.2, h4⟩
theorem st_down {c : Cs} {plan : List Int} (h : GoodP c plan) {k t : Nat} (p : Prev c plan k t) : ∀ d i, i + d = t → k < i → stockAt plan c.1 t ≤ stockAt plan c.1 i
  | 0, i, hd, _ => by obtain rfl : i = t := by omega
                      exact Int.le_refl _
  | d + 1, i, hd, hk => by
    have ih := st_down h p d (i + 1) (by omega) (by omega)
    have h1 := p.tn
    have h2 := p.z i hk (by omega)
    have h3 := h.cs.b0 i (by have := h.n; omega)
    rw [stockAt_succ (by omega) (by have := h.n; omega)] at ih
    omega
theorem s_le {c : Cs} {plan : List Int} (h : GoodP c plan) {k t : Nat} (p : Prev c plan k t) : stockAt plan c.1 t ≤ gd plan k 0 := by
  have h0 := p.kt
  have h1 := p.tn
  have h2 := h.n
  have h3 := st_down h p (t - (k + 1)) (k + 1) (by omega) (by omega)
  have h4 := h.cs.b0 k (by omega)
  rw [stockAt_succ (by omega) (by omega), p.ks] at h3
  omega
theorem gd_set2 {plan : List Int} {k t : Nat} (u v : Int) (hk : k < plan.length) (ht : t < plan.length) (i : Nat) : gd (List.set (List.set plan k u) t v) i 0 = if i = t then v else if i = k then u else gd plan i 0 := by
  rw [gd_set (by rw [List.length_set]; exact ht), gd_set hk]
theorem st_set2 {c : Cs} {plan : List Int} {k t : Nat} (u v : Int) (hkt : k < t) (ht : t < plan.length) {i : Nat} (hi : i ≤ plan.length) : stockAt (List.set (List.set plan k u) t v) c.1 i = stockAt plan c.1 i + (if k < i then u - gd plan k 0 else 0) + (if t < i then v - gd plan t 0 else 0) := by
  have hg : gd (List.set plan k u) t 0 = gd plan t 0 := by rw [gd_set (show k < plan.length by omega), if_neg (by omega)]
  simp only [stockAt]
  rw [psum_set v (by rw [List.length_set]; exact ht) (by rw [List.length_set]; exact hi), psum_set u (show k < plan.length by omega) hi, hg]; omega
theorem less_good {c : Cs} {plan : List Int} (h : GoodP c plan) {k t : Nat} (p : Prev c plan k t) (hb : ∀ q, q < t → earlyB c plan q = false) : GoodP c (lessP plan k t (stockAt plan c.1 t)) ∧ (∀ q, q < t + 1 → earlyB c (lessP plan k t (stockAt plan c.1 t)) q = false) := by
  have hkt := p.kt
  have htn := p.tn
  have hsl := s_le h p
  have hlen : (lessP plan k t (stockAt plan c.1 t)).length = plan.length := by simp [lessP]
  have hst : ∀ i, i ≤ plan.length → stockAt (lessP plan k t (stockAt plan c.1 t)) c.1 i = stockAt plan c.1 i - (if k < i ∧ i ≤ t then stockAt plan c.1 t else 0) := fun i hi => by
    rw [lessP, st_set2 _ _ hkt htn hi]
    by_cases a1 : k < i
    · by_cases a2 : t < i
      · rw [if_pos a1, if_pos a2, if_neg (by omega)]; omega
      · rw [if_pos a1, if_neg a2, if_pos (by omega)]; omega
    · rw [if_neg a1, if_neg (by omega), if_neg (by omega)]; omega
  have hgd : ∀ i, gd (lessP plan k t (stockAt plan c.1 t)) i 0 = if i = t then gd plan t 0 + stockAt plan c.1 t else if i = k then gd plan k 0 - stockAt plan c.1 t else gd plan i 0 := fun i => gd_set2 _ _ (by omega) htn i
  refine ⟨⟨h.cs, by rw [hlen]; exact h.n, fun i hi => ?_, fun i hi => ?_, ?_⟩, fun q hq => ?_⟩
  · rw [hlen] at hi
    have := h.p0 i hi
    have h5 := p.tp
    have h6 := p.ts
    rw [hgd]
    split
    · omega
    · split <;> omega
  · rw [hlen] at hi
    have h1 := h.st i hi
    rw [hst i hi]
    by_cases a : k < i ∧ i ≤ t
    · have := st_down h p (t - i) i (by omega) a.1
      rw [if_pos a]; omega
    · rw [if_neg a]; omega
  · rw [hlen, hst _ (Nat.le_refl _), if_neg (by omega), h.en]; rfl
  · simp only [earlyB, hgd, hst q (by omega)]
    by_cases a1 : q = t
    · subst a1; rw [if_pos (show k < q ∧ q ≤ q by omega)]; simp
    · rw [if_neg a1]
      by_cases a2 : k < q
      · rw [if_neg (by omega), p.z q a2 (by omega)]; simp
      · rw [if_neg (show ¬ (k < q ∧ q ≤ t) by omega), Int.sub_zero]
        by_cases a3 : q = k
        · subst a3; rw [p.ks]; simp
        · rw [if_neg a3]; exact hb q (by omega)
theorem more_good {c : Cs} {plan : List Int} (h : GoodP c plan) {k t : Nat} (p : Prev c plan k t) (hb : ∀ q, q < t → earlyB c plan q = false) : GoodP c (moreP plan k t) ∧ (∀ q, q < t + 1 → earlyB c (moreP plan k t) q = false) := by
  have hkt := p.kt
  have htn := p.tn
  have hlen : (moreP plan k t).length = plan.length := by simp [moreP]
  have hst : ∀ i, i ≤ plan.length → stockAt (moreP plan k t) c.1 i = stockAt plan c.1 i + (if k < i ∧ i ≤ t then gd plan t 0 else 0) := fun i hi => by
    rw [moreP, st_set2 _ _ hkt htn hi]
    by_cases a1 : k < i
    · by_cases a2 : t < i
      · rw [if_pos a1, if_pos a2, if_neg (by omega)]; omega
      · rw [if_pos a1, if_neg a2, if_pos (by omega)]; omega
    · rw [if_neg a1, if_neg (by omega), if_neg (by omega)]; omega
  have hgd : ∀ i, gd (moreP plan k t) i 0 = if i = t then 0 else if i = k then gd plan k 0 + gd plan t 0 else gd plan i 0 := fun i => gd_set2 _ _ (by omega) htn i
  have h5 := p.tp
  refine ⟨⟨h.cs, by rw [hlen]; exact h.n, fun i hi => ?_, fun i hi => ?_, ?_⟩, fun q hq => ?_⟩
  · rw [hlen] at hi
    have := h.p0 i hi
    have h6 := p.kp
    rw [hgd]
    split
    · omega
    · split <;> omega
  · rw [hlen] at hi
    have h1 := h.st i hi
    rw [hst i hi]
    split <;> omega
  · rw [hlen, hst _ (Nat.le_refl _), if_neg (by omega), h.en]; rfl
  · simp only [earlyB, hgd, hst q (by omega)]
    by_cases a1 : q = t
    · rw [if_pos a1]; simp
    · rw [if_neg a1]
      by_cases a2 : k < q
      · rw [if_neg (by omega), p.z q a2 (by omega)]; simp
      · rw [if_neg (show ¬ (k < q ∧ q ≤ t) by omega), Int.add_zero]
        by_cases a3 : q = k
        · subst a3; rw [p.ks]; simp
        · rw [if_neg a3]; exact hb q (by omega)
theorem smooth_good {c : Cs} {plan : List Int} (h : GoodP c plan) {k t : Nat} (p : Prev c plan k t) (hb : ∀ q, q < t → earlyB c plan q = false) : GoodP c (smoothP c plan k t) ∧ (∀ q, q < t + 1 → earlyB c (smoothP c plan k t) q = false) := by
  simp only [smoothP]
  cases decide (costOf c plan < costOf c (lessP plan k t (stockAt plan c.1 t))) with
  | true => exact more_good h p hb
  | false => exact less_good h p hb
structure SmF (c : Cs) (plan : List Int) (k t : Nat) : Prop where
  i1 : isub .i64 (gd plan k 0) (stockAt plan c.1 t) = gd plan k 0 - stockAt plan c.1 t
  i2 : iadd .i64 (gd plan t 0) (stockAt plan c.1 t) = gd plan t 0 + stockAt plan c.1 t
  i3 : iadd .i64 (gd plan k 0) (gd plan t 0) = gd plan k 0 + gd plan t 0
  g : ∀ v, gd (List.set plan k v) t 0 = gd plan t 0
  kn : k < plan.length
  tn : t < plan.length
  l8 : plan.length ≤ 8
theorem smF {c : Cs} {plan : List Int} (h : GoodP c plan) {k t : Nat} (p : Prev c plan k t) : SmF c plan k t := by
  have hkt := p.kt
  have htn := p.tn
  have h1 := h.pl.b k (by omega)
  have h2 := h.pl.b t (by omega)
  have h3 := h.pl.st (t := t) (by omega)
  exact ⟨isub_in (by omega) (by omega), iadd_in (by omega) (by omega), iadd_in (by omega) (by omega), fun v => by rw [gd_set (show k < plan.length by omega), if_neg (by omega)], by omega, htn, by rw [h.n]; exact h.cs.n⟩
theorem spec_l2Smoother_eq {N : Nat} {c : Cs} {plan : List Int} (h : GoodP c plan) {k t : Nat} (p : Prev c plan k t) (hb : ∀ q, q < t → earlyB c plan q = false) (hN : 4194304 ≤ N) : spec_l2Smoother N c plan t = some (smoothP c plan k t, ()) := by
  have hkt := p.kt
  have F := smF h p
  have h8 := F.l8
  have hlp := (less_good h p hb).1.pl
  have htn := p.tn
  have e1 : isub .i64 (t : Int) 1 = ((t - 1 : Nat) : Int) := by rw [isub_in (by omega) (by omega)]; omega
  have e2 : gd (stocksL plan c.1 plan.length) (t - 1) 0 = stockAt plan c.1 t := by rw [stocksL_gd _ _ (show t - 1 < plan.length by omega), show t - 1 + 1 = t by omega]
  simp only [spec_l2Smoother, spec_l2Stocks_eq h.pl hN, Option.bind_some, e1]
  refine spec_l2Smoother_L1_run N (fun _ => plan) (fun _ => (t : Int)) (fun q => ((t - 1 - q : Nat) : Int)) (fun _ => c) (fun _ => stocksL plan c.1 plan.length) (t - 1 - k) (fun q hq kx => ?_) (fun kx => ?_) N (by omega)
  · have e3 : isub .i64 ((t - 1 - q : Nat) : Int) 1 = ((t - 1 - (q + 1) : Nat) : Int) := by rw [isub_in (by omega) (by omega)]; omega
    simp only [spec_l2Smoother_B1, inB_true (show t - 1 - q < plan.length by omega), chk_true', Int.toNat_natCast, ieq_eq, p.z (t - 1 - q) (by omega) (by omega), decide_true, cond_true, e3]
  · have e4 : t - 1 - (t - 1 - k) = k := by omega
    have hne : ¬ gd plan k 0 = 0 := by have := p.kp; omega
    simp only [e4, spec_l2Smoother_B1, inB_true F.kn, chk_true', Int.toNat_natCast, ieq_eq, hne, decide_false, cond_false, spec_l2Smoother_K1, spec_l1Own_eq (show plan.length < 4194303 by omega), Option.bind_some, e1, e2, List.length_set, inB_true F.tn, chk_of (inB_true (show t - 1 < (stocksL plan c.1 plan.length).length by rw [stocksL_len]; omega)), F.i1, F.g, F.i2, F.i3, ilt_eq]
    have c1 := spec_l2Cost_eq hlp hN
    have c2 := spec_l2Cost_eq h.pl hN
    simp only [lessP] at c1
    simp only [c1, c2, Option.bind_some, smoothP, lessP, moreP]
    by_cases hlt : costOf c plan < costOf c (List.set (List.set plan k (gd plan k 0 - stockAt plan c.1 t)) t (gd plan t 0 + stockAt plan c.1 t)) <;> simp [hlt]
theorem impl_smooth_step {N : Nat} {c : Cs} {plan : List Int} (h : GoodP c plan) {k t : Nat} (p : Prev c plan k t) (hb : ∀ q, q < t → earlyB c plan q = false) (he : earlyB c plan t = true) (kx : List Int → Cs → Option ((List Int × Bool) × Unit)) (hN : 4194304 ≤ N) : impl_SmoothPlan_B2 N kx plan c = kx (smoothP c plan k t) c := by
  have hkt := p.kt
  have F := smF h p
  have h8 := F.l8
  have hlp := (less_good h p hb).1.pl
  have htn := p.tn
  have e1 : isub .i64 (t : Int) 1 = ((t - 1 : Nat) : Int) := by rw [isub_in (by omega) (by omega)]; omega
  simp only [impl_SmoothPlan_B2, impl_early_at h htn hb he hN, Option.bind_some, Bool.not_true, cond_false, e1]
  refine impl_SmoothPlan_L1_run N kx (fun _ => (t : Int)) (fun _ => stockAt plan c.1 t) (fun q => ((t - 1 - q : Nat) : Int)) (fun _ => plan) (fun _ => c) (t - 1 - k) (fun q hq kx => ?_) (fun kx => ?_) N (by omega)
  · have e3 : isub .i64 ((t - 1 - q : Nat) : Int) 1 = ((t - 1 - (q + 1) : Nat) : Int) := by rw [isub_in (by omega) (by omega)]; omega
    simp only [impl_SmoothPlan_B1, inB_true (show t - 1 - q < plan.length by omega), chk_true', Int.toNat_natCast, ieq_eq, p.z (t - 1 - q) (by omega) (by omega), decide_true, cond_true, e3]
  · have e4 : t - 1 - (t - 1 - k) = k := by omega
    have hne : ¬ gd plan k 0 = 0 := by have := p.kp; omega
    simp only [e4, impl_SmoothPlan_B1, inB_true F.kn, chk_true', Int.toNat_natCast, ieq_eq, hne, decide_false, cond_false, impl_SmoothPlan_K1, impl_copied_eq (show plan.length < 4194303 by omega), Option.bind_some, List.length_set, inB_true F.tn, F.i1, F.g, F.i2, F.i3, ilt_eq]
    have c1 := impl_Case_cost_eq hlp hN
    have c2 := impl_Case_cost_eq h.pl hN
    simp only [lessP] at c1
    simp only [c1, c2, Option.bind_some, smoothP, lessP, moreP]
    by_cases hlt : costOf c plan < costOf c (List.set (List.set plan k (gd plan k 0 - stockAt plan c.1 t)) t (gd plan t 0 + stockAt plan c.1 t)) <;> simp [hlt]
theorem smooth_run {N : Nat} {c : Cs} (hN : 4194304 ≤ N) : ∀ d t plan, GoodP c plan → (∀ q, q < t → earlyB c plan q = false) → plan.length - t = d → ∃ out : List Int, out.length = c.1.length ∧
      (∀ m, d < m → impl_SmoothPlan_L2 N m plan c = some ((out, true), ())) ∧
      (∀ m, d < m → ∀ p, spec_l2Early N c plan = some (p, ()) → spec_SmoothPlan_L1 N m p c plan = some ((out, true), ())) := by
  intro d
  induction d using Nat.strongRecOn with
  | ind d ih =>
    intro t plan h hb hd
    rcases early_cases c plan with hall | ⟨j, hj, hbj, hej⟩
    · refine ⟨plan, h.n, fun m hm => ?_, fun m hm p hp => ?_⟩
      · obtain ⟨m, rfl⟩ : ∃ q, m = q + 1 := ⟨m - 1, by omega⟩
        rw [impl_SmoothPlan_L2_succ]
        simp only [impl_SmoothPlan_B2, impl_early_none h hall hN, Option.bind_some, Bool.not_false, cond_true]
      · obtain ⟨m, rfl⟩ : ∃ q, m = q + 1 := ⟨m - 1, by omega⟩
        rw [spec_early_none h hall hN] at hp
        simp only [Option.some.injEq, Prod.mk.injEq, and_true] at hp
        rw [spec_SmoothPlan_L1_succ, ← hp]
        rfl
    · have htj : t ≤ j := by
        rcases Nat.lt_or_ge j t with e | e
        · rw [hb j e] at hej; cases hej
        · exact e
      obtain ⟨k, p⟩ := prev_of h hj hbj hej
      obtain ⟨g1, g2⟩ := smooth_good h p hbj
      have hlen : (smoothP c plan k j).length = plan.length := by rw [g1.n, h.n]
      obtain ⟨out, o1, o2, o3⟩ := ih (plan.length - (j + 1)) (by omega) (j + 1) (smoothP c plan k j) g1 g2 (by rw [hlen])
      refine ⟨out, o1, fun m hm => ?_, fun m hm q hq => ?_⟩
      · obtain ⟨m, rfl⟩ : ∃ q, m = q + 1 := ⟨m - 1, by omega⟩
        rw [impl_SmoothPlan_L2_succ, impl_smooth_step h p hbj hej _ hN]
        exact o2 m (by omega)
      · obtain ⟨m, rfl⟩ : ∃ q, m = q + 1 := ⟨m - 1, by omega⟩
        rw [spec_early_at h hj hbj hej hN] at hq
        simp only [Option.some.injEq, Prod.mk.injEq, and_true] at hq
        obtain ⟨q2, hq2⟩ : ∃ q2, spec_l2Early N c (smoothP c plan k j) = some (q2, ()) := by
          rcases early_cases c (smoothP c plan k j) with hall | ⟨j2, a1, a2, a3⟩
          · exact ⟨_, spec_early_none g1 hall hN⟩
          · exact ⟨_, spec_early_at g1 a1 a2 a3 hN⟩
        rw [spec_SmoothPlan_L1_succ, ← hq]
        simp only [spec_SmoothPlan_B1, ile_eq, show (0 : Int) ≤ (j : Int) by omega, decide_true, cond_true, spec_l2Smoother_eq h p hbj hN, Option.bind_some, hq2]
        exact o3 m (by omega) q2 hq2
theorem good_of {c : Cs} {plan : List Int} (h : (caseB c && planB c plan) = true) : GoodP c plan := by
  have hP := planB_P h
  simp only [Bool.and_eq_true, planB, decide_eq_true_eq] at h
  refine ⟨hP.cs, hP.n, fun i hi => (hP.b i hi).1, fun i hi => ?_, h.2.2.2⟩
  rcases Nat.eq_zero_or_pos i with e | e
  · subst e; rw [stockAt_zero]; exact Int.le_refl _
  · have := rangeB.1 h.2.2.1 (i - 1) (by omega)
    rw [show i - 1 + 1 = i by omega] at this
    simpa using this
theorem smooth_both {N : Nat} {c : Cs} {plan : List Int} (hc : SmC c) (hs : plan.length < 4194303) (hN : 4194304 ≤ N) : ∃ z, impl_SmoothPlan N c plan = some (z, ()) ∧ spec_SmoothPlan N c plan = some (z, ()) ∧ z.1.length < 4194304 := by
  simp only [impl_SmoothPlan, spec_SmoothPlan, impl_planned_eq hc (show plan.length < 4194304 by omega) hN, spec_l2Two_eq hc (show plan.length < 4194304 by omega) hN, Option.bind_some, bif_not]
  cases h : caseB c && planB c plan with
  | false => exact ⟨_, rfl, rfl, by simp⟩
  | true =>
    have g := good_of h
    have h8 := g.cs.n
    have h9 := g.n
    obtain ⟨out, o1, o2, o3⟩ := smooth_run (N := N) hN plan.length 0 plan g (fun q hq => by omega) (by omega)
    obtain ⟨q2, hq2⟩ : ∃ q2, spec_l2Early N c plan = some (q2, ()) := by
      rcases early_cases c plan with hall | ⟨j2, a1, a2, a3⟩
      · exact ⟨_, spec_early_none g hall hN⟩
      · exact ⟨_, spec_early_at g a1 a2 a3 hN⟩
    refine ⟨(out, true), ?_, ?_, by show out.length < 4194304; omega⟩
    · simp only [cond_true, impl_copied_eq hs, Option.bind_some]
      exact o2 N (by omega)
    · simp only [cond_true, spec_l1Own_eq hs, Option.bind_some, hq2]
      exact o3 N (by omega) q2 hq2
theorem laws_FnExactSmoothPlan_law (c : Cs) (p : List Int) (h : RngC c) (hp : RngI p) : ∃ N, laws_FnExactSmoothPlan N c p = some (true, ()) := by
  refine ⟨4194304, ?_⟩
  simp only [laws_FnExactSmoothPlan, ilt_eq, ine_eq, len_eq]
  by_cases hl : (1048576 : Int) < p.length
  · simp [hl]
  have hs2 : p.length < 4194304 := by omega
  have hn := Nat.le_refl 4194304
  obtain ⟨r1, e1, q1⟩ := laws_szCase_eq 4194304 h (show (0 : Int) ≤ 1048576 by omega) (by omega)
  rcases q1 with q1 | ⟨q1, _, hs⟩
  · simp [e1, q1, hl]
  · obtain ⟨z, z1, z2, z3⟩ := smooth_both (N := 4194304) hs (show p.length < 4194303 by omega) hn
    obtain ⟨k1, c1, m1, b1, b1'⟩ := markCase_run (N := 4194304) (k := 1) hs (by omega) (by omega) hn
    obtain ⟨k2, l2, m2, b2, _⟩ := markIntS_run (N := 4194304) (k := k1) hs2 (by omega) (by omega) hn
    obtain ⟨k3, l3, m3, b3, _, f3⟩ := markIntS_ok (N := 4194304) (k := 1) z3 (by omega) (by omega) hn
    have n1 : ¬ k2 < 0 := by omega
    have n2 : ¬ k3 < 0 := by omega
    have n3 : ¬ r1 < 0 := by omega
    simp [e1, n1, n2, n3, hl, laws_toCase_eq hs hn, laws_toIntS_eq hs2 hn, z1, z2, laws_eqIntS_eq z3 hn, laws_eqIntS_eq hs2 hn, laws_eqCase_refl hs hn, m1, m2, m3, f3]
end Go.Rx.Px
