/- This text proves, of the plain functions behind FnExactNewConsole, that the law answers true; no condition beyond the ranges that its arguments have. -/
import Derived.Test.YtplnbkfgedjjkaaPxFnExactNewConsole
set_option linter.unusedVariables false
set_option linter.unusedSimpArgs false
namespace Go.Rx
theorem wrap_in {n : Int} (h1 : -9223372036854775808 ≤ n) (h2 : n < 9223372036854775808) : IntKind.i64.wrap n = n := by
  simp [IntKind.wrap, IntKind.bits, IntKind.signed]
  omega
theorem iadd_in {a b : Int} (h1 : -9223372036854775808 ≤ a + b) (h2 : a + b < 9223372036854775808) : iadd .i64 a b = a + b := wrap_in h1 h2
theorem isub_in {a b : Int} (h1 : -9223372036854775808 ≤ a - b) (h2 : a - b < 9223372036854775808) : isub .i64 a b = a - b := wrap_in h1 h2
theorem iadd_nat {i : Nat} (h : i < 4611686018427387904) : iadd .i64 (i : Int) 1 = ((i + 1 : Nat) : Int) := by rw [iadd_in (by omega) (by omega)]; omega
@[simp] theorem ilt_eq (a b : Int) : ilt a b = decide (a < b) := rfl
@[simp] theorem ile_eq (a b : Int) : ile a b = decide (a ≤ b) := rfl
@[simp] theorem ieq_eq (a b : Int) : ieq a b = decide (a = b) := rfl
@[simp] theorem ine_eq (a b : Int) : ine a b = !decide (a = b) := rfl
@[simp] theorem len_eq {α : Type} (xs : List α) : len xs = (xs.length : Int) := rfl
@[simp] theorem beq_eq (a b : Bool) : Go.Rx.beq a b = (a == b) := rfl
theorem inB_nat (i n : Nat) : inB (i : Int) n = decide (i < n) := by simp [inB]
theorem inB_true {i n : Nat} (h : i < n) : inB (i : Int) n = true := by simp [inB_nat, h]
theorem cutB_in {l h : Int} {n : Nat} (h0 : 0 ≤ l) (h1 : l ≤ h) (h2 : h ≤ n) : cutB l h n = true := by simp [cutB, h0, h1, h2]
theorem fitB_in {n b : Nat} (h : n < 4194304) (hb : b ≤ 1024) : fitB n b = true := by
  have : n * b ≤ 4194304 * 1024 := Nat.mul_le_mul (by omega) hb
  simp only [fitB, Bool.and_eq_true, decide_eq_true_eq]; omega
theorem mkB_in {n b : Nat} (h : n < 4194304) (hb : b ≤ 1024) : mkB (n : Int) b = true := by
  have : n * b ≤ 4194304 * 1024 := Nat.mul_le_mul (by omega) hb
  simp only [mkB, Bool.and_eq_true, decide_eq_true_eq, Int.toNat_natCast]; omega
@[simp] theorem chk_true' {α : Type} (x : Option α) : chk true x = x := rfl
@[simp] theorem chk_false {α : Type} (x : Option α) : chk false x = none := rfl
theorem all_cases {α : Type} (p : α → Bool) (d : α) : ∀ (xs : List α), (xs.all p = true ∧ ∀ i, i < xs.length → p (gd xs i d) = true) ∨ (xs.all p = false ∧ ∃ j, j < xs.length ∧ (∀ i, i < j → p (gd xs i d) = true) ∧ p (gd xs j d) = false)
  | [] => .inl ⟨rfl, fun i h => by simp at h⟩
  | a :: xs => by
    cases ha : p a with
    | false => exact .inr ⟨by simp [ha], 0, by simp, fun i h => by omega, by simpa [gd] using ha⟩
    | true =>
      rcases all_cases p d xs with ⟨h, hall⟩ | ⟨h, j, hj, hb, hat⟩
      · refine .inl ⟨by simp [ha] at h ⊢; exact h, fun i hi => ?_⟩
        cases i with
        | zero => simpa [gd] using ha
        | succ i => simpa [gd] using hall i (by simpa using hi)
      · refine .inr ⟨by rw [List.all_cons, ha, h]; rfl, j + 1, by simpa using hj, fun i hi => ?_, by simpa [gd] using hat⟩
        cases i with
        | zero => simpa [gd] using ha
        | succ i => simpa [gd] using hb i (by omega)
theorem first_cases (p : Nat → Bool) : ∀ (n : Nat), (∀ i, i < n → p i = true) ∨ (∃ j, j < n ∧ (∀ i, i < j → p i = true) ∧ p j = false)
  | 0 => .inl fun i h => by omega
  | n + 1 => by
    rcases first_cases p n with h | ⟨j, hj, hb, hat⟩
    · cases hn : p n with
      | true => exact .inl fun i hi => by by_cases e : i = n; exact e ▸ hn; exact h i (by omega)
      | false => exact .inr ⟨n, by omega, h, hn⟩
    · exact .inr ⟨j, by omega, hb, hat⟩
theorem getD_take {α : Type} (xs : List α) (i j : Nat) (d : α) (h : i < j) : gd (xs.take j) i d = gd xs i d := by simp [gd, List.getD_eq_getElem?_getD, h]
theorem take_succ {α : Type} (xs : List α) (i : Nat) (d : α) (h : i < xs.length) : xs.take (i + 1) = xs.take i ++ [gd xs i d] := by
  rw [List.take_succ_eq_append_getElem h]; simp [gd, List.getD_eq_getElem?_getD, h]
theorem mem_getD {α : Type} {xs : List α} {i : Nat} (d : α) (h : i < xs.length) : gd xs i d ∈ xs := by
  rw [gd, List.getD_eq_getElem?_getD, List.getElem?_eq_getElem h]; simp
theorem drop_eq {α : Type} (xs : List α) (i : Nat) (d : α) (h : i < xs.length) : xs.drop i = gd xs i d :: xs.drop (i + 1) := by
  rw [List.drop_eq_getElem_cons h]; simp [gd, List.getD_eq_getElem?_getD, h]
def inRg (lo hi x : Int) : Bool := decide (lo ≤ x) && decide (x ≤ hi)
def bd (b : Int) (xs : List Int) : Prop := ∀ i, i < xs.length → 0 ≤ gd xs i 0 ∧ gd xs i 0 ≤ b
theorem all_gd {α : Type} {p : α → Bool} {xs : List α} (d : α) (h : xs.all p = true) : ∀ i, i < xs.length → p (gd xs i d) = true := fun _ hi => List.all_eq_true.1 h _ (mem_getD d hi)
theorem bd_of {b : Int} {xs : List Int} (h : xs.all (inRg 0 b) = true) : bd b xs := fun i hi => by
  have := all_gd 0 h i hi
  simpa [inRg] using this
theorem bd_iff {b : Int} {xs : List Int} : xs.all (inRg 0 b) = true ↔ bd b xs := by
  refine ⟨bd_of, fun h => ?_⟩
  rcases all_cases (inRg 0 b) 0 xs with ⟨h1, _⟩ | ⟨_, j, hj, _, hat⟩
  · exact h1
  · have := h j hj
    simp [inRg, this] at hat
def psum (xs : List Int) (i : Nat) : Int := (xs.take i).sum
theorem psum_zero (xs : List Int) : psum xs 0 = 0 := by simp [psum]
theorem psum_succ {xs : List Int} {i : Nat} (h : i < xs.length) : psum xs (i + 1) = psum xs i + gd xs i 0 := by
  unfold psum; rw [take_succ xs i 0 h]; simp
theorem psum_all (xs : List Int) : psum xs xs.length = xs.sum := by simp [psum]
theorem psum_bd {b : Int} {xs : List Int} (h : bd b xs) : ∀ i, i ≤ xs.length → 0 ≤ psum xs i ∧ psum xs i ≤ b * i
  | 0, _ => by simp [psum_zero]
  | i + 1, hi => by
    have h1 := psum_bd h i (by omega)
    have h2 := h i (by omega)
    rw [psum_succ (by omega)]
    have : b * ((i + 1 : Nat) : Int) = b * i + b := by rw [Int.natCast_add, Int.mul_add]; simp
    omega
theorem bd_take {b : Int} {xs : List Int} (h : bd b xs) (n : Nat) : bd b (xs.take n) := fun i hi => by
  have hi' : i < n ∧ i < xs.length := by rw [List.length_take] at hi; omega
  rw [getD_take xs i n 0 hi'.1]; exact h i hi'.2
theorem cut_zero {α : Type} (xs : List α) (n : Nat) : cut xs 0 (n : Int) = xs.take n := by simp [cut]
theorem bif_and (a b : Bool) : (bif a then some (b, ()) else some (false, ())) = some (a && b, ()) := by cases a <;> rfl
theorem bif_not {α : Type} (a : Bool) (x y : α) : (bif !a then x else y) = bif a then y else x := by cases a <;> rfl
def RngI (xs : List Int) : Prop := xs.length ≤ maxLen ∧ ∀ i, i < xs.length → (Lit.int .i64 (xs.getD i 0)).wf = true
def RngZ (x : Int) : Prop := (Lit.int .i64 x).wf = true
theorem RngZ.bd {x : Int} (h : RngZ x) : -9223372036854775808 ≤ x ∧ x ≤ 9223372036854775807 := by
  simpa [RngZ, Lit.wf, IntKind.min, IntKind.max, IntKind.signed, IntKind.bits] using h
theorem RngI.bd {xs : List Int} (h : RngI xs) : ∀ i, i < xs.length → -9223372036854775808 ≤ gd xs i 0 ∧ gd xs i 0 ≤ 9223372036854775807 := fun i hi => RngZ.bd (h.2 i hi)
end Go.Rx
namespace Go.Rx.Px
abbrev Cs := List Int × List Int × List Int × List Int
abbrev Lg := Cs × List Int × Int
theorem impl_within_eq (N : Nat) (x lo hi : Int) : impl_within N x lo hi = some (inRg lo hi x, ()) := by
  simp only [impl_within, ile_eq, inRg]; by_cases h : lo ≤ x <;> simp [h]
theorem spec_l1In_eq (N : Nat) (x lo hi : Int) : spec_l1In N x lo hi = some (inRg lo hi x, ()) := by
  simp only [spec_l1In, ile_eq, inRg]; by_cases h : lo ≤ x <;> simp [h]
theorem impl_allWithin_eq {N : Nat} {xs : List Int} {lo hi : Int} (hl : xs.length < 4194304) (hN : 4194304 ≤ N) : impl_allWithin N xs lo hi = some (xs.all (inRg lo hi), ()) := by
  unfold impl_allWithin
  rcases all_cases (inRg lo hi) 0 xs with ⟨h, hall⟩ | ⟨h, j, hj, hbef, hat⟩
  · refine impl_allWithin_L1_run N (fun _ => lo) (fun _ => hi) (fun _ => xs) (fun _ => xs.length) (fun i => i) xs.length (fun i hi kx => ?_) (fun kx => ?_) N (by omega)
    · simp [impl_allWithin_B1, hi, inB_true hi, impl_within_eq, hall i hi, iadd_nat (show i < 4611686018427387904 by omega)]
    · simp [impl_allWithin_B1, impl_allWithin_K1, h]
  · refine impl_allWithin_L1_run N (fun _ => lo) (fun _ => hi) (fun _ => xs) (fun _ => xs.length) (fun i => i) j (fun i hi kx => ?_) (fun kx => ?_) N (by omega)
    · simp [impl_allWithin_B1, show i < xs.length by omega, inB_true (show i < xs.length by omega), impl_within_eq, hbef i hi, iadd_nat (show i < 4611686018427387904 by omega)]
    · simp [impl_allWithin_B1, hj, inB_true hj, impl_within_eq, hat, h]
theorem spec_l2Row_eq {N : Nat} {xs : List Int} {n hi : Int} (hl : xs.length < 4194304) (hN : 4194304 ≤ N) : spec_l2Row N xs n hi = some (xs.all (inRg 0 hi) && decide ((xs.length : Int) = n), ()) := by
  unfold spec_l2Row
  rcases all_cases (inRg 0 hi) 0 xs with ⟨h, hall⟩ | ⟨h, j, hj, hbef, hat⟩
  · refine spec_l2Row_L1_run N (fun _ => xs) (fun _ => n) (fun _ => hi) (fun i => i) xs.length (fun i hi kx => ?_) (fun kx => ?_) N (by omega)
    · simp [spec_l2Row_B1, hi, inB_true hi, spec_l1In_eq, hall i hi, iadd_nat (show i < 4611686018427387904 by omega)]
    · simp [spec_l2Row_B1, spec_l2Row_K1, h]
  · refine spec_l2Row_L1_run N (fun _ => xs) (fun _ => n) (fun _ => hi) (fun i => i) j (fun i hi kx => ?_) (fun kx => ?_) N (by omega)
    · simp [spec_l2Row_B1, show i < xs.length by omega, inB_true (show i < xs.length by omega), spec_l1In_eq, hbef i hi, iadd_nat (show i < 4611686018427387904 by omega)]
    · simp [spec_l2Row_B1, hj, inB_true hj, spec_l1In_eq, hat, h]
def caseB (c : Cs) : Bool := decide (c.1.length ≤ 8) && (decide (c.2.1.length = c.1.length) && (decide (c.2.2.1.length = c.1.length) && (decide (c.2.2.2.length = c.1.length) && (c.1.all (inRg 0 20) && (c.2.1.all (inRg 0 99) && (c.2.2.1.all (inRg 0 9) && c.2.2.2.all (inRg 0 9)))))))
structure CaseP (c : Cs) : Prop where
  n : c.1.length ≤ 8
  l1 : c.2.1.length = c.1.length
  l2 : c.2.2.1.length = c.1.length
  l3 : c.2.2.2.length = c.1.length
  b0 : bd 20 c.1
  b1 : bd 99 c.2.1
  b2 : bd 9 c.2.2.1
  b3 : bd 9 c.2.2.2
theorem caseB_iff {c : Cs} : caseB c = true ↔ CaseP c := by
  simp only [caseB, Bool.and_eq_true, decide_eq_true_eq, bd_iff]
  exact ⟨fun ⟨a, b, c, d, e, f, g, h⟩ => ⟨a, b, c, d, e, f, g, h⟩, fun ⟨a, b, c, d, e, f, g, h⟩ => ⟨a, b, c, d, e, f, g, h⟩⟩
structure SmC (c : Cs) : Prop where
  s0 : c.1.length < 4194304
  s1 : c.2.1.length < 4194304
  s2 : c.2.2.1.length < 4194304
  s3 : c.2.2.2.length < 4194304
theorem impl_IsCase_eq {N : Nat} {c : Cs} (hc : SmC c) (hN : 4194304 ≤ N) : impl_IsCase N c = some (caseB c, ()) := by
  have e0 : ile (len c.1) 8 = decide (c.1.length ≤ 8) := by simp only [ile_eq, len_eq, decide_eq_decide]; omega
  have e1 : ∀ a b : List Int, ieq (len a) (len b) = decide (a.length = b.length) := fun a b => by simp only [ieq_eq, len_eq, decide_eq_decide]; omega
  simp only [impl_IsCase, impl_allWithin_eq hc.s0 hN, impl_allWithin_eq hc.s1 hN, impl_allWithin_eq hc.s2 hN, impl_allWithin_eq hc.s3 hN, caseB, e0, e1, Option.bind_some, bif_and]
theorem spec_l2Good_eq {N : Nat} {c : Cs} (hc : SmC c) (hN : 4194304 ≤ N) : spec_l2Good N c = some (caseB c, ()) := by
  have e0 : ile (c.1.length : Int) 8 = decide (c.1.length ≤ 8) := by simp only [ile_eq, decide_eq_decide]; omega
  simp only [spec_l2Good, len_eq, spec_l2Row_eq hc.s0 hN, spec_l2Row_eq hc.s1 hN, spec_l2Row_eq hc.s2 hN, spec_l2Row_eq hc.s3 hN, caseB, e0, Option.bind_some, bif_and]
  congr 2
  rw [Bool.eq_iff_iff]
  simp only [Bool.and_eq_true, decide_eq_true_eq]
  constructor
  · rintro ⟨h1, ⟨h2, h3⟩, ⟨h4, h5⟩, ⟨h6, h7⟩, h8, h9⟩; exact ⟨h1, by omega, by omega, by omega, h2, h4, h6, h8⟩
  · rintro ⟨h1, h2, h3, h4, h5, h6, h7, h8⟩; exact ⟨h1, ⟨h5, trivial⟩, ⟨h6, by omega⟩, ⟨h7, by omega⟩, h8, by omega⟩
theorem impl_total_eq {N : Nat} {xs : List Int} {b : Int} (hb : bd b xs) (hb1 : b ≤ 1000000) (hl : xs.length < 4194304) (hN : 4194304 ≤ N) : impl_total N xs = some (xs.sum, ()) := by
  have hp : ∀ i, i ≤ xs.length → 0 ≤ psum xs i ∧ psum xs i ≤ 1000000 * i := psum_bd (fun i hi => ⟨(hb i hi).1, by have := (hb i hi).2; omega⟩)
  refine impl_total_L1_run N (psum xs) (fun _ => xs) (fun _ => xs.length) (fun i => i) xs.length (fun i hi kx => ?_) (fun kx => ?_) N (by omega)
  · have h1 := hp i (by omega)
    have h2 := hb i hi
    simp [impl_total_B1, hi, inB_true hi, iadd_nat (show i < 4611686018427387904 by omega), iadd_in (show -9223372036854775808 ≤ psum xs i + gd xs i 0 by omega) (by omega), psum_succ hi]
  · simp [impl_total_B1, impl_total_K1, psum_all]
def stockAt (plan need : List Int) (t : Nat) : Int := psum plan t - psum need t
structure LedP (l : Lg) : Prop where
  c : CaseP l.1
  n : l.2.1.length = l.1.1.length
  b : bd 200 l.2.1
  now : 0 ≤ l.2.2 ∧ l.2.2 ≤ l.1.1.length
theorem stock_bd {l : Lg} (h : LedP l) {t : Nat} (ht : t ≤ l.2.1.length) : (0 ≤ psum l.2.1 t ∧ psum l.2.1 t ≤ 1600) ∧ (0 ≤ psum l.1.1 t ∧ psum l.1.1 t ≤ 160) := by
  have h1 := psum_bd h.b t ht
  have h2 := psum_bd h.c.b0 t (by have := h.n; omega)
  have h3 := h.c.n
  have h4 := h.n
  omega
theorem impl_Ledger_stock_eq {N : Nat} {l : Lg} (h : LedP l) {t : Nat} (ht : t ≤ l.2.1.length) (hN : 4194304 ≤ N) : impl_Ledger_stock N l t = some (stockAt l.2.1 l.1.1 t, ()) := by
  have h4 := h.n
  have h3 := h.c.n
  have hs := stock_bd h ht
  simp only [impl_Ledger_stock, cut_zero, chk_of (cutB_in (show (0 : Int) ≤ 0 by omega) (show (0 : Int) ≤ t by omega) (show (t : Int) ≤ l.2.1.length by omega)), chk_of (cutB_in (show (0 : Int) ≤ 0 by omega) (show (0 : Int) ≤ t by omega) (show (t : Int) ≤ l.1.1.length by omega)),
    impl_total_eq (bd_take h.b t) (by omega) (by simp; omega) hN, impl_total_eq (bd_take h.c.b0 t) (by omega) (by simp; omega) hN, Option.bind_some]
  have e : ∀ xs : List Int, (xs.take t).sum = psum xs t := fun _ => rfl
  rw [e, e, isub_in (by omega) (by omega), stockAt]
theorem spec_l12Stock_eq {N : Nat} {l : Lg} (h : LedP l) {t : Nat} (ht : t ≤ l.2.1.length) (hN : 4194304 ≤ N) : spec_l12Stock N l t = some (stockAt l.2.1 l.1.1 t, ()) := by
  have h4 := h.n
  have h3 := h.c.n
  refine spec_l12Stock_L1_run N (fun _ => t) (stockAt l.2.1 l.1.1) (fun i => i) (fun _ => l) t (fun i hi kx => ?_) (fun kx => ?_) N (by omega)
  · have h1 := stock_bd h (show i ≤ l.2.1.length by omega)
    have h2 := stock_bd h (show i + 1 ≤ l.2.1.length by omega)
    rw [psum_succ (show i < l.2.1.length by omega), psum_succ (show i < l.1.1.length by omega)] at h2
    have h5 := h.b i (by omega)
    simp only [spec_l12Stock_B1, ilt_eq, Int.ofNat_lt, hi, decide_true, cond_true, inB_true (show i < l.2.1.length by omega), inB_true (show i < l.1.1.length by omega), chk_true', Int.toNat_natCast, iadd_nat (show i < 4611686018427387904 by omega)]
    rw [iadd_in (by simp only [stockAt]; omega) (by simp only [stockAt]; omega), isub_in (by simp only [stockAt]; omega) (by simp only [stockAt]; omega)]
    simp only [stockAt]
    rw [psum_succ (show i < l.2.1.length by omega), psum_succ (show i < l.1.1.length by omega)]
    congr 1; omega
  · simp [spec_l12Stock_B1, spec_l12Stock_K1]
def ledB (l : Lg) : Bool := caseB l.1 && (decide (l.2.1.length = l.1.1.length) && (l.2.1.all (inRg 0 200) && (inRg 0 l.1.1.length l.2.2 && (List.range l.2.2.toNat).all fun i => decide (0 ≤ stockAt l.2.1 l.1.1 (i + 1)))))
theorem led_iff {l : Lg} : ledB l = true ↔ LedP l ∧ ∀ i, i < l.2.2.toNat → 0 ≤ stockAt l.2.1 l.1.1 (i + 1) := by
  simp only [ledB, Bool.and_eq_true, decide_eq_true_eq, caseB_iff, bd_iff]
  rw [List.all_eq_true]
  simp only [inRg, Bool.and_eq_true, decide_eq_true_eq, List.mem_range]
  constructor
  · rintro ⟨h1, h2, h3, ⟨h4, h5⟩, h6⟩; exact ⟨⟨h1, h2, h3, h4, h5⟩, h6⟩
  · rintro ⟨⟨h1, h2, h3, h4, h5⟩, h6⟩; exact ⟨h1, h2, h3, ⟨h4, h5⟩, h6⟩
structure SmL (l : Lg) : Prop where
  c : SmC l.1
  p : l.2.1.length < 4194304
theorem led_loop (l : Lg) (h : LedP l) : (ledB l = true ∧ ∀ i, i < l.2.2.toNat → 0 ≤ stockAt l.2.1 l.1.1 (i + 1)) ∨ (ledB l = false ∧ ∃ j, j < l.2.2.toNat ∧ (∀ i, i < j → 0 ≤ stockAt l.2.1 l.1.1 (i + 1)) ∧ stockAt l.2.1 l.1.1 (j + 1) < 0) := by
  rcases first_cases (fun i => decide (0 ≤ stockAt l.2.1 l.1.1 (i + 1))) l.2.2.toNat with h1 | ⟨j, hj, hb, hat⟩
  · have h1' : ∀ i, i < l.2.2.toNat → 0 ≤ stockAt l.2.1 l.1.1 (i + 1) := fun i hi => by simpa using h1 i hi
    exact .inl ⟨led_iff.2 ⟨h, h1'⟩, h1'⟩
  · have hat' : stockAt l.2.1 l.1.1 (j + 1) < 0 := Int.not_le.1 (by simpa using hat)
    refine .inr ⟨?_, j, hj, fun i hi => by simpa using hb i hi, hat'⟩
    cases hl : ledB l with
    | false => rfl
    | true => have := (led_iff.1 hl).2 j hj; omega
theorem not_led {l : Lg} (h : ¬ LedP l) : ledB l = false := by
  cases hl : ledB l with
  | false => rfl
  | true => exact absurd (led_iff.1 hl).1 h
theorem impl_IsLedger_eq {N : Nat} {l : Lg} (hs : SmL l) (hN : 4194304 ≤ N) : impl_IsLedger N l = some (ledB l, ()) := by
  by_cases h : LedP l
  · have hc := caseB_iff.2 h.c
    have hp := bd_iff.2 h.b
    have hn := h.n
    have hw := h.now
    have h8 := h.c.n
    simp only [impl_IsLedger, impl_IsCase_eq hs.c hN, hc, impl_allWithin_eq hs.p hN, hp, impl_within_eq, Option.bind_some, bif_not, cond_true, ine_eq, len_eq, hn, decide_true, inRg, hw.1, hw.2, Bool.and_self]
    obtain ⟨t, ht⟩ : ∃ t : Nat, l.2.2 = t := ⟨l.2.2.toNat, by omega⟩
    rw [ht]
    rw [ht] at hw
    have htt : l.2.2.toNat = t := by omega
    rcases led_loop l h with ⟨h1, h2⟩ | ⟨h1, j, hj, hb, hat⟩
    · rw [htt] at h2
      refine impl_IsLedger_L1_run N (fun _ => t) (fun i => i) (fun _ => l) t (fun i hi kx => ?_) (fun kx => ?_) N (by omega)
      · have : decide (stockAt l.2.1 l.1.1 (i + 1) < 0) = false := decide_eq_false (Int.not_lt.2 (h2 i hi))
        simp [impl_IsLedger_B1, hi, iadd_nat (show i < 4611686018427387904 by omega), impl_Ledger_stock_eq h (show i + 1 ≤ l.2.1.length by omega) hN, -Int.natCast_add, this]
      · simp [impl_IsLedger_B1, impl_IsLedger_K1, h1]
    · rw [htt] at hj
      refine impl_IsLedger_L1_run N (fun _ => t) (fun i => i) (fun _ => l) j (fun i hi kx => ?_) (fun kx => ?_) N (by omega)
      · have : decide (stockAt l.2.1 l.1.1 (i + 1) < 0) = false := decide_eq_false (Int.not_lt.2 (hb i hi))
        simp [impl_IsLedger_B1, show i < t by omega, iadd_nat (show i < 4611686018427387904 by omega), impl_Ledger_stock_eq h (show i + 1 ≤ l.2.1.length by omega) hN, -Int.natCast_add, this]
      · simp [impl_IsLedger_B1, hj, iadd_nat (show j < 4611686018427387904 by omega), impl_Ledger_stock_eq h (show j + 1 ≤ l.2.1.length by omega) hN, -Int.natCast_add, hat, h1]
  · rw [not_led h]
    simp only [impl_IsLedger, impl_IsCase_eq hs.c hN, impl_allWithin_eq hs.p hN, impl_within_eq, Option.bind_some, bif_not, ine_eq, len_eq]
    cases hc : caseB l.1 with
    | false => rfl
    | true =>
      by_cases hn : l.2.1.length = l.1.1.length
      · cases hp : l.2.1.all (inRg 0 200) with
        | false => simp [hn]
        | true =>
          cases hw : inRg 0 l.2.1.length l.2.2 with
          | false => simp [hn]
          | true =>
            simp only [inRg, Bool.and_eq_true, decide_eq_true_eq] at hw
            exact absurd ⟨caseB_iff.1 hc, hn, bd_iff.1 hp, by omega⟩ h
      · have : decide ((l.2.1.length : Int) = l.1.1.length) = false := by simp; omega
        simp [this]
theorem spec_l12Good_eq {N : Nat} {l : Lg} (hs : SmL l) (hN : 4194304 ≤ N) : spec_l12Good N l = some (ledB l, ()) := by
  by_cases h : LedP l
  · have hc := caseB_iff.2 h.c
    have hp := bd_iff.2 h.b
    have hn := h.n
    have hw := h.now
    have h8 := h.c.n
    simp only [spec_l12Good, len_eq, spec_l2Good_eq hs.c hN, hc, spec_l2Row_eq hs.p hN, hp, spec_l1In_eq, Option.bind_some, bif_not, cond_true, hn, decide_true, inRg, hw.1, hw.2, Bool.and_self]
    obtain ⟨t, ht⟩ : ∃ t : Nat, l.2.2 = t := ⟨l.2.2.toNat, by omega⟩
    rw [ht] at hw
    have htt : l.2.2.toNat = t := by omega
    rcases led_loop l h with ⟨h1, h2⟩ | ⟨h1, j, hj, hb, hat⟩
    · rw [htt] at h2
      refine spec_l12Good_L1_run N (fun i => ((i + 1 : Nat) : Int)) (fun _ => l) t (fun i hi kx => ?_) (fun kx => ?_) N (by omega)
      · have := h2 i hi
        simp only [spec_l12Good_B1, ile_eq, ilt_eq, ht, show ((i + 1 : Nat) : Int) ≤ t by omega, spec_l12Stock_eq h (show i + 1 ≤ l.2.1.length by omega) hN, Option.bind_some, decide_true, cond_true, show ¬ stockAt l.2.1 l.1.1 (i + 1) < 0 by omega, decide_false, cond_false, iadd_nat (show i + 1 < 4611686018427387904 by omega)]
      · simp [spec_l12Good_B1, spec_l12Good_K1, h1, ht, show ¬ ((t : Int) + 1 ≤ t) by omega]
    · rw [htt] at hj
      refine spec_l12Good_L1_run N (fun i => ((i + 1 : Nat) : Int)) (fun _ => l) j (fun i hi kx => ?_) (fun kx => ?_) N (by omega)
      · have := hb i hi
        simp only [spec_l12Good_B1, ile_eq, ilt_eq, ht, show ((i + 1 : Nat) : Int) ≤ t by omega, spec_l12Stock_eq h (show i + 1 ≤ l.2.1.length by omega) hN, Option.bind_some, decide_true, cond_true, show ¬ stockAt l.2.1 l.1.1 (i + 1) < 0 by omega, decide_false, cond_false, iadd_nat (show i + 1 < 4611686018427387904 by omega)]
      · simp only [spec_l12Good_B1, ile_eq, ilt_eq, ht, show ((j + 1 : Nat) : Int) ≤ t by omega, spec_l12Stock_eq h (show j + 1 ≤ l.2.1.length by omega) hN, Option.bind_some, decide_true, cond_true, hat, h1]
  · rw [not_led h]
    simp only [spec_l12Good, len_eq, spec_l2Good_eq hs.c hN, spec_l2Row_eq hs.p hN, spec_l1In_eq, Option.bind_some, bif_not]
    cases hc : caseB l.1 with
    | false => rfl
    | true =>
      cases hp : l.2.1.all (inRg 0 200) with
      | false => simp
      | true =>
        by_cases hn : l.2.1.length = l.1.1.length
        · cases hw : inRg 0 l.1.1.length l.2.2 with
          | false => simp [hn]
          | true =>
            simp only [inRg, Bool.and_eq_true, decide_eq_true_eq] at hw
            exact absurd ⟨caseB_iff.1 hc, hn, bd_iff.1 hp, by omega⟩ h
        · have : decide ((l.2.1.length : Int) = l.1.1.length) = false := by simp; omega
          simp [this]
abbrev RngC (c : Cs) : Prop := RngI c.1 ∧ RngI c.2.1 ∧ RngI c.2.2.1 ∧ RngI c.2.2.2
abbrev RngLg (l : Lg) : Prop := RngC l.1 ∧ RngI l.2.1 ∧ RngZ l.2.2
theorem laws_toIntS_eq {N : Nat} {a : List Int} (hl : a.length < 4194304) (hN : 4194304 ≤ N) : laws_toIntS N a = some (a, ()) := by
  simp only [laws_toIntS, len_eq, chk_of (mkB_in hl (show 8 ≤ 1024 by omega)), Int.toNat_natCast]
  refine laws_toIntS_L1_run N (fun _ => a) (fun i => i) (fun i => a.take i ++ List.replicate (a.length - i) 0) a.length (fun i hi kx => ?_) (fun kx => ?_) N (by omega)
  · simp only [laws_toIntS_B1, ilt_eq, len_eq, Int.ofNat_lt, hi, decide_true, cond_true, inB_true hi, chk_true', Int.toNat_natCast, iadd_nat (show i < 4611686018427387904 by omega)]
    rw [chk_of (inB_true (by simp; omega))]
    congr 1
    rw [take_succ a i 0 hi, List.set_append, if_neg (by simp; omega), List.append_assoc]
    congr 1
    rw [show a.length - i = (a.length - (i + 1)) + 1 by omega, List.replicate_succ]
    simp [Nat.min_eq_left (Nat.le_of_lt hi)]
  · simp [laws_toIntS_B1, laws_toIntS_K1]
theorem laws_eqIntS_eq {N : Nat} {a b : List Int} (hl : a.length < 4194304) (hN : 4194304 ≤ N) : laws_eqIntS N a b = some (decide (a = b), ()) := by
  by_cases hn : a.length = b.length
  · simp only [laws_eqIntS, ine_eq, len_eq, hn, decide_true, bif_not, cond_true]
    rcases first_cases (fun i => decide (gd a i 0 = gd b i 0)) a.length with h | ⟨j, hj, hb, hat⟩
    · have he : a = b := by
        refine List.ext_getElem hn fun i h1 h2 => ?_
        have := h i h1
        simpa [gd, h1, h2] using this
      refine laws_eqIntS_L1_run N (fun _ => a) (fun _ => b) (fun i => i) a.length (fun i hi kx => ?_) (fun kx => ?_) N (by omega)
      · have h3 : gd a i 0 = gd b i 0 := by simpa using h i hi
        simp [laws_eqIntS_B1, hi, inB_true hi, inB_true (show i < b.length by omega), h3, iadd_nat (show i < 4611686018427387904 by omega)]
      · simp [laws_eqIntS_B1, laws_eqIntS_K1, he]
    · have hat' : gd a j 0 ≠ gd b j 0 := by simpa using hat
      have he : a ≠ b := fun e => hat' (by rw [e])
      refine laws_eqIntS_L1_run N (fun _ => a) (fun _ => b) (fun i => i) j (fun i hi kx => ?_) (fun kx => ?_) N (by omega)
      · have h3 : gd a i 0 = gd b i 0 := by simpa using hb i hi
        simp [laws_eqIntS_B1, show i < a.length by omega, inB_true (show i < a.length by omega), inB_true (show i < b.length by omega), h3, iadd_nat (show i < 4611686018427387904 by omega)]
      · simp [laws_eqIntS_B1, hj, inB_true hj, inB_true (show j < b.length by omega), hat', he]
  · have he : a ≠ b := fun e => hn (by rw [e])
    have : decide ((a.length : Int) = b.length) = false := by simp; omega
    simp [laws_eqIntS, this, he]
theorem laws_toCase_eq {N : Nat} {c : Cs} (h : SmC c) (hN : 4194304 ≤ N) : laws_toCase N c = some (c, ()) := by
  simp only [laws_toCase, laws_toIntS_eq h.s0 hN, laws_toIntS_eq h.s1 hN, laws_toIntS_eq h.s2 hN, laws_toIntS_eq h.s3 hN, Option.bind_some]
theorem laws_toLedger_eq {N : Nat} {l : Lg} (h : SmL l) (hN : 4194304 ≤ N) : laws_toLedger N l = some (l, ()) := by
  simp only [laws_toLedger, laws_toCase_eq h.c hN, laws_toIntS_eq h.p hN, Option.bind_some]
theorem laws_eqCase_refl {N : Nat} {c : Cs} (h : SmC c) (hN : 4194304 ≤ N) : laws_eqCase N c c = some (true, ()) := by
  simp [laws_eqCase, laws_eqIntS_eq h.s0 hN, laws_eqIntS_eq h.s1 hN, laws_eqIntS_eq h.s2 hN, laws_eqIntS_eq h.s3 hN]
theorem laws_eqLedger_refl {N : Nat} {l : Lg} (h : SmL l) (hN : 4194304 ≤ N) : laws_eqLedger N l l = some (true, ()) := by
  simp [laws_eqLedger, laws_eqCase_refl h.c hN, laws_eqIntS_eq h.p hN]
theorem laws_szIntS_eq (N : Nat) {a : List Int} {left : Int} (h : a.length ≤ maxLen) (h1 : 0 ≤ left) (h2 : left ≤ 1048576) : ∃ r, laws_szIntS N a left = some (r, ()) ∧ (r < 0 ∨ 0 ≤ r ∧ r ≤ left ∧ (a.length : Int) ≤ left) := by
  unfold maxLen at h
  simp only [laws_szIntS, len_eq, ilt_eq, isub_in (show -9223372036854775808 ≤ left - a.length by omega) (by omega)]
  by_cases h3 : left - a.length < 0
  · exact ⟨-1, by simp [h3], .inl (by omega)⟩
  · exact ⟨left - a.length, by simp [h3], .inr (by omega)⟩
theorem laws_szCase_eq (N : Nat) {c : Cs} {left : Int} (h : RngC c) (h1 : 0 ≤ left) (h2 : left ≤ 1048576) : ∃ r, laws_szCase N c left = some (r, ()) ∧ (r < 0 ∨ 0 ≤ r ∧ r ≤ left ∧ SmC c) := by
  simp only [laws_szCase, ilt_eq]
  obtain ⟨r1, e1, q1⟩ := laws_szIntS_eq N h.1.1 h1 h2
  rcases q1 with q1 | q1
  · exact ⟨-1, by simp [e1, q1], .inl (by omega)⟩
  obtain ⟨r2, e2, q2⟩ := laws_szIntS_eq N h.2.1.1 q1.1 (show r1 ≤ 1048576 by omega)
  have n1 : ¬ r1 < 0 := by omega
  rcases q2 with q2 | q2
  · exact ⟨-1, by simp [e1, e2, q2, n1], .inl (by omega)⟩
  obtain ⟨r3, e3, q3⟩ := laws_szIntS_eq N h.2.2.1.1 q2.1 (show r2 ≤ 1048576 by omega)
  have n2 : ¬ r2 < 0 := by omega
  rcases q3 with q3 | q3
  · exact ⟨-1, by simp [e1, e2, e3, q3, n1, n2], .inl (by omega)⟩
  obtain ⟨r4, e4, q4⟩ := laws_szIntS_eq N h.2.2.2.1 q3.1 (show r3 ≤ 1048576 by omega)
  have n3 : ¬ r3 < 0 := by omega
  rcases q4 with q4 | q4
  · exact ⟨-1, by simp [e1, e2, e3, e4, q4, n1, n2, n3], .inl (by omega)⟩
  have n4 : ¬ r4 < 0 := by omega
  exact ⟨r4, by simp [e1, e2, e3, e4, n1, n2, n3, n4], .inr ⟨by omega, by omega, by omega, by omega, by omega, by omega⟩⟩
theorem laws_szLedger_eq (N : Nat) {l : Lg} {left : Int} (h : RngLg l) (h1 : 0 ≤ left) (h2 : left ≤ 1048576) : ∃ r, laws_szLedger N l left = some (r, ()) ∧ (r < 0 ∨ 0 ≤ r ∧ r ≤ left ∧ SmL l) := by
  simp only [laws_szLedger, ilt_eq]
  obtain ⟨r1, e1, q1⟩ := laws_szCase_eq N h.1 h1 h2
  rcases q1 with q1 | q1
  · exact ⟨-1, by simp [e1, q1], .inl (by omega)⟩
  obtain ⟨r2, e2, q2⟩ := laws_szIntS_eq N h.2.1.1 q1.1 (show r1 ≤ 1048576 by omega)
  have n1 : ¬ r1 < 0 := by omega
  rcases q2 with q2 | q2
  · exact ⟨-1, by simp [e1, e2, q2, n1], .inl (by omega)⟩
  have n2 : ¬ r2 < 0 := by omega
  exact ⟨r2, by simp [e1, e2, n1, n2], .inr ⟨by omega, by omega, q1.2.2, by omega⟩⟩
end Go.Rx.Px
namespace Go.Rx
theorem gd_map_range {α : Type} (f : Nat → α) (d : α) {n i : Nat} (h : i < n) : gd ((List.range n).map f) i d = f i := by
  simp [gd, List.getD_eq_getElem?_getD, h]
theorem map_range_succ {α : Type} (f : Nat → α) (n : Nat) : (List.range (n + 1)).map f = (List.range n).map f ++ [f n] := by simp [List.range_succ]
end Go.Rx
namespace Go.Rx.Px
def mkL (n : Nat) (k : Int) : List Int := (List.range n).map fun (i : Nat) => k + (i : Int)
theorem mkL_len (n : Nat) (k : Int) : (mkL n k).length = n := by simp [mkL]
theorem mkL_succ (n : Nat) (k : Int) : mkL (n + 1) k = mkL n k ++ [k + (n : Int)] := map_range_succ _ _
theorem mkL_gd {n i : Nat} (k : Int) (h : i < n) : gd (mkL n k) i 0 = k + i := gd_map_range _ _ h
theorem laws_markIntS_eq {N : Nat} {a : List Int} {k : Int} (hl : a.length < 4194304) (h0 : 0 ≤ k) (h1 : k ≤ 1000000000000) (hN : 4194304 ≤ N) : laws_markIntS N a k = some (k + a.length, mkL a.length k) := by
  have := laws_markIntS_L1_run N (fun i => k + (i : Int)) (fun i => (i : Int)) (fun i => mkL i k ++ a.drop i) a.length (res_ := some (k + a.length, mkL a.length k)) (fun i hi kx => ?_) (fun kx => ?_) N (by omega)
  · simpa [laws_markIntS, mkL] using this
  · have hlen : (mkL i k ++ a.drop i).length = a.length := by rw [List.length_append, mkL_len, List.length_drop]; omega
    simp only [laws_markIntS_B1, ilt_eq, len_eq, hlen, Int.ofNat_lt, hi, decide_true, cond_true, inB_true hi, chk_true', Int.toNat_natCast, iadd_nat (show i < 4611686018427387904 by omega)]
    rw [iadd_in (by omega) (by omega), List.set_append, if_neg (by rw [mkL_len]; omega), mkL_len, Nat.sub_self, drop_eq a i 0 hi, List.set_cons_zero, mkL_succ, List.append_assoc, Int.add_assoc]
    rfl
  · simp only [laws_markIntS_B1, laws_markIntS_K1, ilt_eq, len_eq, List.drop_length, List.append_nil, mkL_len, Int.lt_irrefl, decide_false, cond_false]
theorem laws_heldIntS_eq {N n : Nat} {k : Int} (hl : n < 4194304) (h0 : 0 ≤ k) (h1 : k ≤ 1000000000000) (hN : 4194304 ≤ N) : laws_heldIntS N (mkL n k) k = some (k + n, ()) := by
  have := laws_heldIntS_L1_run N (fun _ => mkL n k) (fun i => k + (i : Int)) (fun i => (i : Int)) n (res_ := some (k + n, ())) (fun i hi kx => ?_) (fun kx => ?_) N (by omega)
  · simpa [laws_heldIntS] using this
  · simp only [laws_heldIntS_B1, ilt_eq, len_eq, mkL_len, Int.ofNat_lt, hi, decide_true, cond_true, inB_true hi, chk_true', Int.toNat_natCast, mkL_gd k hi, ine_eq, Bool.not_true, cond_false, iadd_nat (show i < 4611686018427387904 by omega)]
    rw [iadd_in (by omega) (by omega), Int.add_assoc]; rfl
  · simp only [laws_heldIntS_B1, laws_heldIntS_K1, ilt_eq, len_eq, mkL_len, Int.lt_irrefl, decide_false, cond_false]
theorem markIntS_ok {N : Nat} {a : List Int} {k : Int} (hl : a.length < 4194304) (h0 : 0 ≤ k) (h1 : k ≤ 1000000000000) (hN : 4194304 ≤ N) : ∃ r a', laws_markIntS N a k = some (r, a') ∧ k ≤ r ∧ r ≤ k + 4194304 ∧ laws_heldIntS N a' k = some (r, ()) :=
  ⟨_, _, laws_markIntS_eq hl h0 h1 hN, by omega, by omega, laws_heldIntS_eq hl h0 h1 hN⟩
theorem markIntS_run {N : Nat} {a : List Int} {k : Int} (hl : a.length < 4194304) (h0 : 0 ≤ k) (h1 : k ≤ 1000000000000) (hN : 4194304 ≤ N) : ∃ r a', laws_markIntS N a k = some (r, a') ∧ k ≤ r ∧ r ≤ k + 4194304 :=
  ⟨_, _, laws_markIntS_eq hl h0 h1 hN, by omega, by omega⟩
theorem markCase_run {N : Nat} {c : Cs} {k : Int} (hc : SmC c) (h0 : 0 ≤ k) (h1 : k ≤ 900000000000) (hN : 4194304 ≤ N) : ∃ r c', laws_markCase N c k = some (r, c') ∧ k ≤ r ∧ r ≤ k + 20000000 := by
  obtain ⟨r1, a1, m1, b1, b1'⟩ := markIntS_run (N := N) hc.s0 h0 (by omega) hN
  obtain ⟨r2, a2, m2, b2, b2'⟩ := markIntS_run (N := N) (k := r1) hc.s1 (by omega) (by omega) hN
  obtain ⟨r3, a3, m3, b3, b3'⟩ := markIntS_run (N := N) (k := r2) hc.s2 (by omega) (by omega) hN
  obtain ⟨r4, a4, m4, b4, b4'⟩ := markIntS_run (N := N) (k := r3) hc.s3 (by omega) (by omega) hN
  exact ⟨r4, (a1, (a2, (a3, a4))), by simp only [laws_markCase, m1, m2, m3, m4, Option.bind_some], by omega, by omega⟩
theorem markLedger_run {N : Nat} {l : Lg} {k : Int} (hl : SmL l) (h0 : 0 ≤ k) (h1 : k ≤ 800000000000) (hN : 4194304 ≤ N) : ∃ r l', laws_markLedger N l k = some (r, l') ∧ k ≤ r ∧ r ≤ k + 30000000 := by
  obtain ⟨r1, a1, m1, b1, b1'⟩ := markCase_run (N := N) hl.c h0 (by omega) hN
  obtain ⟨r2, a2, m2, b2, b2'⟩ := markIntS_run (N := N) (k := r1) hl.p (by omega) (by omega) hN
  exact ⟨r2, (a1, (a2, l.2.2)), by simp only [laws_markLedger, m1, m2, Option.bind_some], by omega, by omega⟩
theorem markCase_ok {N : Nat} {c : Cs} {k : Int} (hc : SmC c) (h0 : 0 ≤ k) (h1 : k ≤ 900000000000) (hN : 4194304 ≤ N) : ∃ r c', laws_markCase N c k = some (r, c') ∧ k ≤ r ∧ r ≤ k + 20000000 ∧ laws_heldCase N c' k = some (r, ()) := by
  obtain ⟨r1, a1, m1, b1, b1', e1⟩ := markIntS_ok (N := N) hc.s0 h0 (by omega) hN
  obtain ⟨r2, a2, m2, b2, b2', e2⟩ := markIntS_ok (N := N) (k := r1) hc.s1 (by omega) (by omega) hN
  obtain ⟨r3, a3, m3, b3, b3', e3⟩ := markIntS_ok (N := N) (k := r2) hc.s2 (by omega) (by omega) hN
  obtain ⟨r4, a4, m4, b4, b4', e4⟩ := markIntS_ok (N := N) (k := r3) hc.s3 (by omega) (by omega) hN
  refine ⟨r4, (a1, (a2, (a3, a4))), by simp only [laws_markCase, m1, m2, m3, m4, Option.bind_some], by omega, by omega, ?_⟩
  simp only [laws_heldCase, e1, e2, e3, e4, Option.bind_some, ilt_eq, show ¬ r1 < 0 by omega, show ¬ r2 < 0 by omega, show ¬ r3 < 0 by omega, show ¬ r4 < 0 by omega, decide_false, cond_false]
theorem markLedger_ok {N : Nat} {l : Lg} {k : Int} (hl : SmL l) (h0 : 0 ≤ k) (h1 : k ≤ 800000000000) (hN : 4194304 ≤ N) : ∃ r l', laws_markLedger N l k = some (r, l') ∧ k ≤ r ∧ r ≤ k + 30000000 ∧ laws_heldLedger N l' k = some (r, ()) := by
  obtain ⟨r1, a1, m1, b1, b1', e1⟩ := markCase_ok (N := N) hl.c h0 (by omega) hN
  obtain ⟨r2, a2, m2, b2, b2', e2⟩ := markIntS_ok (N := N) (k := r1) hl.p (by omega) (by omega) hN
  refine ⟨r2, (a1, (a2, l.2.2)), by simp only [laws_markLedger, m1, m2, Option.bind_some], by omega, by omega, ?_⟩
  simp only [laws_heldLedger, e1, e2, Option.bind_some, ilt_eq, show ¬ r1 < 0 by omega, show ¬ r2 < 0 by omega, decide_false, cond_false]
theorem spec_l1Own_eq {N : Nat} {xs : List Int} (h : xs.length < 4194303) : spec_l1Own N xs = some (xs, ()) := by
  simp only [spec_l1Own, chk_of (fitB_in (n := 0 + xs.length) (b := 8) (by omega) (by omega))]
theorem impl_copied_eq {N : Nat} {xs : List Int} (h : xs.length < 4194303) : impl_copied N xs = some (xs, ()) := by
  simp only [impl_copied, chk_of (fitB_in (n := 0 + xs.length) (b := 8) (by omega) (by omega))]
theorem seq_self (x : ByteArray) : Go.Rx.seq x x = true := by simp [Go.Rx.seq]
def newCon (l : Lg) : (Lg × ByteArray × ByteArray × Int) × Bool := bif ledB l then ((l, ((⟨#[]⟩ : ByteArray), ((⟨#[]⟩ : ByteArray), 0))), true) else ((((([], ([], ([], []))), ([], 0)) : Lg), ((⟨#[]⟩ : ByteArray), ((⟨#[]⟩ : ByteArray), 0))), false)
theorem led_short {l : Lg} (h : ledB l = true) : l.1.1.length < 4194303 ∧ l.1.2.1.length < 4194303 ∧ l.1.2.2.1.length < 4194303 ∧ l.1.2.2.2.length < 4194303 ∧ l.2.1.length < 4194303 := by
  have hl := (led_iff.1 h).1
  have h1 := hl.c.n
  have h2 := hl.c.l1
  have h3 := hl.c.l2
  have h4 := hl.c.l3
  have h5 := hl.n
  exact ⟨by omega, by omega, by omega, by omega, by omega⟩
theorem spec_l12Own_eq {N : Nat} {l : Lg} (h : ledB l = true) : spec_l12Own N l = some (l, ()) := by
  obtain ⟨h1, h2, h3, h4, h5⟩ := led_short h
  simp only [spec_l12Own, spec_l1Own_eq h1, spec_l1Own_eq h2, spec_l1Own_eq h3, spec_l1Own_eq h4, spec_l1Own_eq h5, Option.bind_some]
theorem impl_Ledger_own_eq {N : Nat} {l : Lg} (h : ledB l = true) : impl_Ledger_own N l = some (l, ()) := by
  obtain ⟨h1, h2, h3, h4, h5⟩ := led_short h
  simp only [impl_Ledger_own, impl_copied_eq h1, impl_copied_eq h2, impl_copied_eq h3, impl_copied_eq h4, impl_copied_eq h5, Option.bind_some]
theorem spec_NewConsole_eq {N : Nat} {l : Lg} (hs : SmL l) (hN : 4194304 ≤ N) : spec_NewConsole N l = some (newCon l, ()) := by
  simp only [spec_NewConsole, spec_l12Good_eq hs hN, Option.bind_some, bif_not, newCon]
  cases h : ledB l with
  | false => rfl
  | true => simp only [cond_true, spec_l12Own_eq h, Option.bind_some]
theorem impl_NewConsole_eq {N : Nat} {l : Lg} (hs : SmL l) (hN : 4194304 ≤ N) : impl_NewConsole N l = some (newCon l, ()) := by
  simp only [impl_NewConsole, impl_IsLedger_eq hs hN, Option.bind_some, bif_not, newCon]
  cases h : ledB l with
  | false => rfl
  | true => simp only [cond_true, impl_Ledger_own_eq h, Option.bind_some]
theorem newCon_sm {l : Lg} (hs : SmL l) : SmL (newCon l).1.1 := by
  simp only [newCon]
  cases ledB l with
  | true => exact hs
  | false => exact ⟨⟨by simp, by simp, by simp, by simp⟩, by simp⟩
theorem laws_eqLog_refl (N : Nat) (a : ByteArray × ByteArray × Int) : laws_eqLog N a a = some (true, ()) := by
  simp only [laws_eqLog, seq_self, ine_eq, decide_true, Bool.not_true, cond_false]
theorem laws_eqConsole_refl {N : Nat} {a : Lg × ByteArray × ByteArray × Int} (h : SmL a.1) (hN : 4194304 ≤ N) : laws_eqConsole N a a = some (true, ()) := by
  simp only [laws_eqConsole, laws_eqLedger_refl h hN, laws_eqLog_refl, Option.bind_some, Bool.not_true, cond_false]
theorem markConsole_ok {N : Nat} {a : Lg × ByteArray × ByteArray × Int} {k : Int} (hl : SmL a.1) (h0 : 0 ≤ k) (h1 : k ≤ 800000000000) (hN : 4194304 ≤ N) : ∃ r a', laws_markConsole N a k = some (r, a') ∧ k ≤ r ∧ r ≤ k + 30000000 ∧ laws_heldConsole N a' k = some (r, ()) := by
  obtain ⟨r1, a1, m1, b1, b1', e1⟩ := markLedger_ok (N := N) hl h0 (by omega) hN
  refine ⟨r1, (a1, a.2), by simp only [laws_markConsole, m1, Option.bind_some], by omega, by omega, ?_⟩
  simp only [laws_heldConsole, e1, Option.bind_some, ilt_eq, show ¬ r1 < 0 by omega, decide_false, cond_false]
theorem laws_FnExactNewConsole_law (l : Lg) (h : RngLg l) : ∃ N, laws_FnExactNewConsole N l = some (true, ()) := by
  refine ⟨4194304, ?_⟩
  simp only [laws_FnExactNewConsole, ilt_eq, ine_eq]
  obtain ⟨r1, e1, q1⟩ := laws_szLedger_eq 4194304 h (show (0 : Int) ≤ 1048576 by omega) (by omega)
  rcases q1 with q1 | ⟨q1, _, hs⟩
  · simp [e1, q1]
  · have hn := Nat.le_refl 4194304
    obtain ⟨k1, c1, m1, b1, _⟩ := markLedger_run (N := 4194304) (k := 1) hs (by omega) (by omega) hn
    obtain ⟨k2, l2, m2, b2, _, f2⟩ := markConsole_ok (N := 4194304) (k := 1) (newCon_sm hs) (by omega) (by omega) hn
    have n0 : ¬ r1 < 0 := by omega
    have n1 : ¬ k1 < 0 := by omega
    have n2 : ¬ k2 < 0 := by omega
    simp [e1, n0, n1, n2, laws_toLedger_eq hs hn, spec_NewConsole_eq hs hn, impl_NewConsole_eq hs hn, laws_eqLedger_refl hs hn, laws_eqConsole_refl (newCon_sm hs) hn, m1, m2, f2]
end Go.Rx.Px
