/- This text proves, of the plain functions behind FnExactIsValidConsole, that the law answers true; no condition beyond the ranges that its arguments have. -/
import Derived.Test.YtibdakhenfnoeaaDoorPxFnExactIsValidConsole
set_option linter.unusedVariables false
set_option linter.unusedSimpArgs false
namespace Go.Rx
theorem wrap_in {n : Int} (h1 : -9223372036854775808 ≤ n) (h2 : n < 9223372036854775808) : IntKind.i64.wrap n = n := by
  simp [IntKind.wrap, IntKind.bits, IntKind.signed]
  omega
theorem iadd_in {a b : Int} (h1 : -9223372036854775808 ≤ a + b) (h2 : a + b < 9223372036854775808) : iadd .i64 a b = a + b := wrap_in h1 h2
theorem isub_in {a b : Int} (h1 : -9223372036854775808 ≤ a - b) (h2 : a - b < 9223372036854775808) : isub .i64 a b = a - b := wrap_in h1 h2
theorem imul_in {a b : Int} (h1 : -9223372036854775808 ≤ a * b) (h2 : a * b < 9223372036854775808) : imul .i64 a b = a * b := wrap_in h1 h2
theorem iadd_nat {i : Nat} (h : i < 4611686018427387904) : iadd .i64 (i : Int) 1 = ((i + 1 : Nat) : Int) := by rw [iadd_in (by omega) (by omega)]; omega
@[simp] theorem ilt_eq (a b : Int) : ilt a b = decide (a < b) := rfl
@[simp] theorem ile_eq (a b : Int) : ile a b = decide (a ≤ b) := rfl
@[simp] theorem ieq_eq (a b : Int) : ieq a b = decide (a = b) := rfl
@[simp] theorem ine_eq (a b : Int) : ine a b = !decide (a = b) := rfl
@[simp] theorem len_eq {α : Type} (xs : List α) : len xs = (xs.length : Int) := rfl
@[simp] theorem beq_eq (a b : Bool) : Go.Rx.beq a b = (a == b) := rfl
theorem inB_nat (i n : Nat) : inB (i : Int) n = decide (i < n) := by simp [inB]
theorem inB_true {i n : Nat} (h : i < n) : inB (i : Int) n = true := by simp [inB_nat, h]
theorem cutB_in {l h : Int} {n : Nat} (h0 : 0 ≤ l) (h1 : l ≤ h) (h2 : h ≤ n) : cutB l h n = true := by simp [cutB, h0, h1, h2]
theorem fitB_in {n b : Nat} (h : n < 4194304) (hb : b ≤ 1024) : fitB n b = true := by
  have : n * b ≤ 4194304 * 1024 := Nat.mul_le_mul (by omega) hb
  simp only [fitB, Bool.and_eq_true, decide_eq_true_eq]; omega
theorem mkB_in {n b : Nat} (h : n < 4194304) (hb : b ≤ 1024) : mkB (n : Int) b = true := by
  have : n * b ≤ 4194304 * 1024 := Nat.mul_le_mul (by omega) hb
  simp only [mkB, Bool.and_eq_true, decide_eq_true_eq, Int.toNat_natCast]; omega
@[simp] theorem chk_true' {α : Type} (x : Option α) : chk true x = x := rfl
@[simp] theorem chk_false {α : Type} (x : Option α) : chk false x = none := rfl
theorem all_cases {α : Type} (p : α → Bool) (d : α) : ∀ (xs : List α), (xs.all p = true ∧ ∀ i, i < xs.length → p (gd xs i d) = true) ∨ (xs.all p = false ∧ ∃ j, j < xs.length ∧ (∀ i, i < j → p (gd xs i d) = true) ∧ p (gd xs j d) = false)
  | [] => .inl ⟨rfl, fun i h => by simp at h⟩
  | a :: xs => by
    cases ha : p a with
    | false => exact .inr ⟨by simp [ha], 0, by simp, fun i h => by omega, by simpa [gd] using ha⟩
    | true =>
      rcases all_cases p d xs with ⟨h, hall⟩ | ⟨h, j, hj, hb, hat⟩
      · refine .inl ⟨by simp [ha] at h ⊢; exact h, fun i hi => ?_⟩
        cases i with
        | zero => simpa [gd] using ha
        | succ i => simpa [gd] using hall i (by simpa using hi)
      · refine .inr ⟨by rw [List.all_cons, ha, h]; rfl, j + 1, by simpa using hj, fun i hi => ?_, by simpa [gd] using hat⟩
        cases i with
        | zero => simpa [gd] using ha
        | succ i => simpa [gd] using hb i (by omega)
theorem first_cases (p : Nat → Bool) : ∀ (n : Nat), (∀ i, i < n → p i = true) ∨ (∃ j, j < n ∧ (∀ i, i < j → p i = true) ∧ p j = false)
  | 0 => .inl fun i h => by omega
  | n + 1 => by
    rcases first_cases p n with h | ⟨j, hj, hb, hat⟩
    · cases hn : p n with
      | true => exact .inl fun i hi => by by_cases e : i = n; exact e ▸ hn; exact h i (by omega)
      | false => exact .inr ⟨n, by omega, h, hn⟩
    · exact .inr ⟨j, by omega, hb, hat⟩
theorem getD_take {α : Type} (xs : List α) (i j : Nat) (d : α) (h : i < j) : gd (xs.take j) i d = gd xs i d := by simp [gd, List.getD_eq_getElem?_getD, h]
theorem take_succ {α : Type} (xs : List α) (i : Nat) (d : α) (h : i < xs.length) : xs.take (i + 1) = xs.take i ++ [gd xs i d] := by
  rw [List.take_succ_eq_append_getElem h]; simp [gd, List.getD_eq_getElem?_getD, h]
theorem mem_getD {α : Type} {xs : List α} {i : Nat} (d : α) (h : i < xs.length) : gd xs i d ∈ xs := by
  rw [gd, List.getD_eq_getElem?_getD, List.getElem?_eq_getElem h]; simp
def inRg (lo hi x : Int) : Bool := decide (lo ≤ x) && decide (x ≤ hi)
def bd (b : Int) (xs : List Int) : Prop := ∀ i, i < xs.length → 0 ≤ gd xs i 0 ∧ gd xs i 0 ≤ b
theorem all_gd {α : Type} {p : α → Bool} {xs : List α} (d : α) (h : xs.all p = true) : ∀ i, i < xs.length → p (gd xs i d) = true := fun _ hi => List.all_eq_true.1 h _ (mem_getD d hi)
theorem bd_of {b : Int} {xs : List Int} (h : xs.all (inRg 0 b) = true) : bd b xs := fun i hi => by
  have := all_gd 0 h i hi
  simpa [inRg] using this
theorem bd_iff {b : Int} {xs : List Int} : xs.all (inRg 0 b) = true ↔ bd b xs := by
  refine ⟨bd_of, fun h => ?_⟩
  rcases all_cases (inRg 0 b) 0 xs with ⟨h1, _⟩ | ⟨_, j, hj, _, hat⟩
  · exact h1
  · have := h j hj
    simp [inRg, this] at hat
def psum (xs : List Int) (i : Nat) : Int := (xs.take i).sum
theorem psum_zero (xs : List Int) : psum xs 0 = 0 := by simp [psum]
theorem psum_succ {xs : List Int} {i : Nat} (h : i < xs.length) : psum xs (i + 1) = psum xs i + gd xs i 0 := by
  unfold psum; rw [take_succ xs i 0 h]; simp
theorem psum_all (xs : List Int) : psum xs xs.length = xs.sum := by simp [psum]
theorem psum_bd {b : Int} {xs : List Int} (h : bd b xs) : ∀ i, i ≤ xs.length → 0 ≤ psum xs i ∧ psum xs i ≤ b * i
  | 0, _ => by simp [psum_zero]
  | i + 1, hi => by
    have h1 := psum_bd h i (by omega)
    have h2 := h i (by omega)
    rw [psum_succ (by omega)]
    have : b * ((i + 1 : Nat) : Int) = b * i + b := by rw [Int.natCast_add, Int.mul_add]; simp
    omega
theorem bd_take {b : Int} {xs : List Int} (h : bd b xs) (n : Nat) : bd b (xs.take n) := fun i hi => by
  have hi' : i < n ∧ i < xs.length := by rw [List.length_take] at hi; omega
  rw [getD_take xs i n 0 hi'.1]; exact h i hi'.2
theorem cut_zero {α : Type} (xs : List α) (n : Nat) : cut xs 0 (n : Int) = xs.take n := by simp [cut]
theorem bif_and (a b : Bool) : (bif a then some (b, ()) else some (false, ())) = some (a && b, ()) := by cases a <;> rfl
theorem bif_not {α : Type} (a : Bool) (x y : α) : (bif !a then x else y) = bif a then y else x := by cases a <;> rfl
def RngI (xs : List Int) : Prop := xs.length ≤ maxLen ∧ ∀ i, i < xs.length → (Lit.int .i64 (xs.getD i 0)).wf = true
def RngZ (x : Int) : Prop := (Lit.int .i64 x).wf = true
def RngS (s : ByteArray) : Prop := s.size ≤ maxLen
theorem RngZ.bd {x : Int} (h : RngZ x) : -9223372036854775808 ≤ x ∧ x ≤ 9223372036854775807 := by
  simpa [RngZ, Lit.wf, IntKind.min, IntKind.max, IntKind.signed, IntKind.bits] using h
theorem RngI.bd {xs : List Int} (h : RngI xs) : ∀ i, i < xs.length → -9223372036854775808 ≤ gd xs i 0 ∧ gd xs i 0 ≤ 9223372036854775807 := fun i hi => RngZ.bd (h.2 i hi)
end Go.Rx
namespace Go.Rx.Px
abbrev Cs := List Int × List Int × List Int × List Int
abbrev Lg := Cs × List Int × Int
theorem impl_within_eq (N : Nat) (x lo hi : Int) : impl_within N x lo hi = some (inRg lo hi x, ()) := by
  simp only [impl_within, ile_eq, inRg]; by_cases h : lo ≤ x <;> simp [h]
theorem spec_l1In_eq (N : Nat) (x lo hi : Int) : spec_l1In N x lo hi = some (inRg lo hi x, ()) := by
  simp only [spec_l1In, ile_eq, inRg]; by_cases h : lo ≤ x <;> simp [h]
theorem impl_allWithin_eq {N : Nat} {xs : List Int} {lo hi : Int} (hl : xs.length < 4194304) (hN : 4194304 ≤ N) : impl_allWithin N xs lo hi = some (xs.all (inRg lo hi), ()) := by
  unfold impl_allWithin
  rcases all_cases (inRg lo hi) 0 xs with ⟨h, hall⟩ | ⟨h, j, hj, hbef, hat⟩
  · refine impl_allWithin_L1_run N (fun _ => lo) (fun _ => hi) (fun _ => xs) (fun _ => xs.length) (fun i => i) xs.length (fun i hi kx => ?_) (fun kx => ?_) N (by omega)
    · simp [impl_allWithin_B1, hi, inB_true hi, impl_within_eq, hall i hi, iadd_nat (show i < 4611686018427387904 by omega)]
    · simp [impl_allWithin_B1, impl_allWithin_K1, h]
  · refine impl_allWithin_L1_run N (fun _ => lo) (fun _ => hi) (fun _ => xs) (fun _ => xs.length) (fun i => i) j (fun i hi kx => ?_) (fun kx => ?_) N (by omega)
    · simp [impl_allWithin_B1, show i < xs.length by omega, inB_true (show i < xs.length by omega), impl_within_eq, hbef i hi, iadd_nat (show i < 4611686018427387904 by omega)]
    · simp [impl_allWithin_B1, hj, inB_true hj, impl_within_eq, hat, h]
theorem spec_l2Row_eq {N : Nat} {xs : List Int} {n hi : Int} (hl : xs.length < 4194304) (hN : 4194304 ≤ N) : spec_l2Row N xs n hi = some (xs.all (inRg 0 hi) && decide ((xs.length : Int) = n), ()) := by
  unfold spec_l2Row
  rcases all_cases (inRg 0 hi) 0 xs with ⟨h, hall⟩ | ⟨h, j, hj, hbef, hat⟩
  · refine spec_l2Row_L1_run N (fun _ => xs) (fun _ => n) (fun _ => hi) (fun i => i) xs.length (fun i hi kx => ?_) (fun kx => ?_) N (by omega)
    · simp [spec_l2Row_B1, hi, inB_true hi, spec_l1In_eq, hall i hi, iadd_nat (show i < 4611686018427387904 by omega)]
    · simp [spec_l2Row_B1, spec_l2Row_K1, h]
  · refine spec_l2Row_L1_run N (fun _ => xs) (fun _ => n) (fun _ => hi) (fun i => i) j (fun i hi kx => ?_) (fun kx => ?_) N (by omega)
    · simp [spec_l2Row_B1, show i < xs.length by omega, inB_true (show i < xs.length by omega), spec_l1In_eq, hbef i hi, iadd_nat (show i < 4611686018427387904 by omega)]
    · simp [spec_l2Row_B1, hj, inB_true hj, spec_l1In_eq, hat, h]
def caseB (c : Cs) : Bool := decide (c.1.length ≤ 8) && (decide (c.2.1.length = c.1.length) && (decide (c.2.2.1.length = c.1.length) && (decide (c.2.2.2.length = c.1.length) && (c.1.all (inRg 0 20) && (c.2.1.all (inRg 0 99) && (c.2.2.1.all (inRg 0 9) && c.2.2.2.all (inRg 0 9)))))))
structure CaseP (c : Cs) : Prop where
  n : c.1.length ≤ 8
  l1 : c.2.1.length = c.1.length
  l2 : c.2.2.1.length = c.1.length
  l3 : c.2.2.2.length = c.1.length
  b0 : bd 20 c.1
  b1 : bd 99 c.2.1
  b2 : bd 9 c.2.2.1
  b3 : bd 9 c.2.2.2
theorem caseB_iff {c : Cs} : caseB c = true ↔ CaseP c := by
  simp only [caseB, Bool.and_eq_true, decide_eq_true_eq, bd_iff]
  exact ⟨fun ⟨a, b, c, d, e, f, g, h⟩ => ⟨a, b, c, d, e, f, g, h⟩, fun ⟨a, b, c, d, e, f, g, h⟩ => ⟨a, b, c, d, e, f, g, h⟩⟩
structure SmC (c : Cs) : Prop where
  s0 : c.1.length < 4194304
  s1 : c.2.1.length < 4194304
  s2 : c.2.2.1.length < 4194304
  s3 : c.2.2.2.length < 4194304
theorem impl_IsCase_eq {N : Nat} {c : Cs} (hc : SmC c) (hN : 4194304 ≤ N) : impl_IsCase N c = some (caseB c, ()) := by
  have e0 : ile (len c.1) 8 = decide (c.1.length ≤ 8) := by simp only [ile_eq, len_eq, decide_eq_decide]; omega
  have e1 : ∀ a b : List Int, ieq (len a) (len b) = decide (a.length = b.length) := fun a b => by simp only [ieq_eq, len_eq, decide_eq_decide]; omega
  simp only [impl_IsCase, impl_allWithin_eq hc.s0 hN, impl_allWithin_eq hc.s1 hN, impl_allWithin_eq hc.s2 hN, impl_allWithin_eq hc.s3 hN, caseB, e0, e1, Option.bind_some, bif_and]
theorem spec_l2Good_eq {N : Nat} {c : Cs} (hc : SmC c) (hN : 4194304 ≤ N) : spec_l2Good N c = some (caseB c, ()) := by
  have e0 : ile (c.1.length : Int) 8 = decide (c.1.length ≤ 8) := by simp only [ile_eq, decide_eq_decide]; omega
  simp only [spec_l2Good, len_eq, spec_l2Row_eq hc.s0 hN, spec_l2Row_eq hc.s1 hN, spec_l2Row_eq hc.s2 hN, spec_l2Row_eq hc.s3 hN, caseB, e0, Option.bind_some, bif_and]
  congr 2
  rw [Bool.eq_iff_iff]
  simp only [Bool.and_eq_true, decide_eq_true_eq]
  constructor
  · rintro ⟨h1, ⟨h2, h3⟩, ⟨h4, h5⟩, ⟨h6, h7⟩, h8, h9⟩; exact ⟨h1, by omega, by omega, by omega, h2, h4, h6, h8⟩
  · rintro ⟨h1, h2, h3, h4, h5, h6, h7, h8⟩; exact ⟨h1, ⟨h5, trivial⟩, ⟨h6, by omega⟩, ⟨h7, by omega⟩, h8, by omega⟩
theorem impl_total_eq {N : Nat} {xs : List Int} {b : Int} (hb : bd b xs) (hb1 : b ≤ 1000000) (hl : xs.length < 4194304) (hN : 4194304 ≤ N) : impl_total N xs = some (xs.sum, ()) := by
  have hp : ∀ i, i ≤ xs.length → 0 ≤ psum xs i ∧ psum xs i ≤ 1000000 * i := psum_bd (fun i hi => ⟨(hb i hi).1, by have := (hb i hi).2; omega⟩)
  refine impl_total_L1_run N (psum xs) (fun _ => xs) (fun _ => xs.length) (fun i => i) xs.length (fun i hi kx => ?_) (fun kx => ?_) N (by omega)
  · have h1 := hp i (by omega)
    have h2 := hb i hi
    simp [impl_total_B1, hi, inB_true hi, iadd_nat (show i < 4611686018427387904 by omega), iadd_in (show -9223372036854775808 ≤ psum xs i + gd xs i 0 by omega) (by omega), psum_succ hi]
  · simp [impl_total_B1, impl_total_K1, psum_all]
def stockAt (plan need : List Int) (t : Nat) : Int := psum plan t - psum need t
structure LedP (l : Lg) : Prop where
  c : CaseP l.1
  n : l.2.1.length = l.1.1.length
  b : bd 200 l.2.1
  now : 0 ≤ l.2.2 ∧ l.2.2 ≤ l.1.1.length
theorem stock_bd {l : Lg} (h : LedP l) {t : Nat} (ht : t ≤ l.2.1.length) : (0 ≤ psum l.2.1 t ∧ psum l.2.1 t ≤ 1600) ∧ (0 ≤ psum l.1.1 t ∧ psum l.1.1 t ≤ 160) := by
  have h1 := psum_bd h.b t ht
  have h2 := psum_bd h.c.b0 t (by have := h.n; omega)
  have h3 := h.c.n
  have h4 := h.n
  omega
theorem impl_Ledger_stock_eq {N : Nat} {l : Lg} (h : LedP l) {t : Nat} (ht : t ≤ l.2.1.length) (hN : 4194304 ≤ N) : impl_Ledger_stock N l t = some (stockAt l.2.1 l.1.1 t, ()) := by
  have h4 := h.n
  have h3 := h.c.n
  have hs := stock_bd h ht
  simp only [impl_Ledger_stock, cut_zero, chk_of (cutB_in (show (0 : Int) ≤ 0 by omega) (show (0 : Int) ≤ t by omega) (show (t : Int) ≤ l.2.1.length by omega)), chk_of (cutB_in (show (0 : Int) ≤ 0 by omega) (show (0 : Int) ≤ t by omega) (show (t : Int) ≤ l.1.1.length by omega)),
    impl_total_eq (bd_take h.b t) (by omega) (by simp; omega) hN, impl_total_eq (bd_take h.c.b0 t) (by omega) (by simp; omega) hN, Option.bind_some]
  have e : ∀ xs : List Int, (xs.take t).sum = psum xs t := fun _ => rfl
  rw [e, e, isub_in (by omega) (by omega), stockAt]
theorem spec_l12Stock_eq {N : Nat} {l : Lg} (h : LedP l) {t : Nat} (ht : t ≤ l.2.1.length) (hN : 4194304 ≤ N) : spec_l12Stock N l t = some (stockAt l.2.1 l.1.1 t, ()) := by
  have h4 := h.n
  have h3 := h.c.n
  refine spec_l12Stock_L1_run N (fun _ => t) (stockAt l.2.1 l.1.1) (fun i => i) (fun _ => l) t (fun i hi kx => ?_) (fun kx => ?_) N (by omega)
  · have h1 := stock_bd h (show i ≤ l.2.1.length by omega)
    have h2 := stock_bd h (show i + 1 ≤ l.2.1.length by omega)
    rw [psum_succ (show i < l.2.1.length by omega), psum_succ (show i < l.1.1.length by omega)] at h2
    have h5 := h.b i (by omega)
    simp only [spec_l12Stock_B1, ilt_eq, Int.ofNat_lt, hi, decide_true, cond_true, inB_true (show i < l.2.1.length by omega), inB_true (show i < l.1.1.length by omega), chk_true', Int.toNat_natCast, iadd_nat (show i < 4611686018427387904 by omega)]
    rw [iadd_in (by simp only [stockAt]; omega) (by simp only [stockAt]; omega), isub_in (by simp only [stockAt]; omega) (by simp only [stockAt]; omega)]
    simp only [stockAt]
    rw [psum_succ (show i < l.2.1.length by omega), psum_succ (show i < l.1.1.length by omega)]
    congr 1; omega
  · simp [spec_l12Stock_B1, spec_l12Stock_K1]
def ledB (l : Lg) : Bool := caseB l.1 && (decide (l.2.1.length = l.1.1.length) && (l.2.1.all (inRg 0 200) && (inRg 0 l.1.1.length l.2.2 && (List.range l.2.2.toNat).all fun i => decide (0 ≤ stockAt l.2.1 l.1.1 (i + 1)))))
theorem led_iff {l : Lg} : ledB l = true ↔ LedP l ∧ ∀ i, i < l.2.2.toNat → 0 ≤ stockAt l.2.1 l.1.1 (i + 1) := by
  simp only [ledB, Bool.and_eq_true, decide_eq_true_eq, caseB_iff, bd_iff]
  rw [List.all_eq_true]
  simp only [inRg, Bool.and_eq_true, decide_eq_true_eq, List.mem_range]
  constructor
  · rintro ⟨h1, h2, h3, ⟨h4, h5⟩, h6⟩; exact ⟨⟨h1, h2, h3, h4, h5⟩, h6⟩
  · rintro ⟨⟨h1, h2, h3, h4, h5⟩, h6⟩; exact ⟨h1, h2, h3, ⟨h4, h5⟩, h6⟩
structure SmL (l : Lg) : Prop where
  c : SmC l.1
  p : l.2.1.length < 4194304
theorem led_loop (l : Lg) (h : LedP l) : (ledB l = true ∧ ∀ i, i < l.2.2.toNat → 0 ≤ stockAt l.2.1 l.1.1 (i + 1)) ∨ (ledB l = false ∧ ∃ j, j < l.2.2.toNat ∧ (∀ i, i < j → 0 ≤ stockAt l.2.1 l.1.1 (i + 1)) ∧ stockAt l.2.1 l.1.1 (j + 1) < 0) := by
  rcases first_cases (fun i => decide (0 ≤ stockAt l.2.1 l.1.1 (i + 1))) l.2.2.toNat with h1 | ⟨j, hj, hb, hat⟩
  · have h1' : ∀ i, i < l.2.2.toNat → 0 ≤ stockAt l.2.1 l.1.1 (i + 1) := fun i hi => by simpa using h1 i hi
    exact .inl ⟨led_iff.2 ⟨h, h1'⟩, h1'⟩
  · have hat' : stockAt l.2.1 l.1.1 (j + 1) < 0 := Int.not_le.1 (by simpa using hat)
    refine .inr ⟨?_, j, hj, fun i hi => by simpa using hb i hi, hat'⟩
    cases hl : ledB l with
    | false => rfl
    | true => have := (led_iff.1 hl).2 j hj; omega
theorem not_led {l : Lg} (h : ¬ LedP l) : ledB l = false := by
  cases hl : ledB l with
  | false => rfl
  | true => exact absurd (led_iff.1 hl).1 h
theorem impl_IsLedger_eq {N : Nat} {l : Lg} (hs : SmL l) (hN : 4194304 ≤ N) : impl_IsLedger N l = some (ledB l, ()) := by
  by_cases h : LedP l
  · have hc := caseB_iff.2 h.c
    have hp := bd_iff.2 h.b
    have hn := h.n
    have hw := h.now
    have h8 := h.c.n
    simp only [impl_IsLedger, impl_IsCase_eq hs.c hN, hc, impl_allWithin_eq hs.p hN, hp, impl_within_eq, Option.bind_some, bif_not, cond_true, ine_eq, len_eq, hn, decide_true, inRg, hw.1, hw.2, Bool.and_self]
    obtain ⟨t, ht⟩ : ∃ t : Nat, l.2.2 = t := ⟨l.2.2.toNat, by omega⟩
    rw [ht]
    rw [ht] at hw
    have htt : l.2.2.toNat = t := by omega
    rcases led_loop l h with ⟨h1, h2⟩ | ⟨h1, j, hj, hb, hat⟩
    · rw [htt] at h2
      refine impl_IsLedger_L1_run N (fun _ => t) (fun i => i) (fun _ => l) t (fun i hi kx => ?_) (fun kx => ?_) N (by omega)
      · have : decide (stockAt l.2.1 l.1.1 (i + 1) < 0) = false := decide_eq_false (Int.not_lt.2 (h2 i hi))
        simp [impl_IsLedger_B1, hi, iadd_nat (show i < 4611686018427387904 by omega), impl_Ledger_stock_eq h (show i + 1 ≤ l.2.1.length by omega) hN, -Int.natCast_add, this]
      · simp [impl_IsLedger_B1, impl_IsLedger_K1, h1]
    · rw [htt] at hj
      refine impl_IsLedger_L1_run N (fun _ => t) (fun i => i) (fun _ => l) j (fun i hi kx => ?_) (fun kx => ?_) N (by omega)
      · have : decide (stockAt l.2.1 l.1.1 (i + 1) < 0) = false := decide_eq_false (Int.not_lt.2 (hb i hi))
        simp [impl_IsLedger_B1, show i < t by omega, iadd_nat (show i < 4611686018427387904 by omega), impl_Ledger_stock_eq h (show i + 1 ≤ l.2.1.length by omega) hN, -Int.natCast_add, this]
      · simp [impl_IsLedger_B1, hj, iadd_nat (show j < 4611686018427387904 by omega), impl_Ledger_stock_eq h (show j + 1 ≤ l.2.1.length by omega) hN, -Int.natCast_add, hat, h1]
  · rw [not_led h]
    simp only [impl_IsLedger, impl_IsCase_eq hs.c hN, impl_allWithin_eq hs.p hN, impl_within_eq, Option.bind_some, bif_not, ine_eq, len_eq]
    cases hc : caseB l.1 with
    | false => rfl
    | true =>
      by_cases hn : l.2.1.length = l.1.1.length
      · cases hp : l.2.1.all (inRg 0 200) with
        | false => simp [hn]
        | true =>
          cases hw : inRg 0 l.2.1.length l.2.2 with
          | false => simp [hn]
          | true =>
            simp only [inRg, Bool.and_eq_true, decide_eq_true_eq] at hw
            exact absurd ⟨caseB_iff.1 hc, hn, bd_iff.1 hp, by omega⟩ h
      · have : decide ((l.2.1.length : Int) = l.1.1.length) = false := by simp; omega
        simp [this]
theorem spec_l12Good_eq {N : Nat} {l : Lg} (hs : SmL l) (hN : 4194304 ≤ N) : spec_l12Good N l = some (ledB l, ()) := by
  by_cases h : LedP l
  · have hc := caseB_iff.2 h.c
    have hp := bd_iff.2 h.b
    have hn := h.n
    have hw := h.now
    have h8 := h.c.n
    simp only [spec_l12Good, len_eq, spec_l2Good_eq hs.c hN, hc, spec_l2Row_eq hs.p hN, hp, spec_l1In_eq, Option.bind_some, bif_not, cond_true, hn, decide_true, inRg, hw.1, hw.2, Bool.and_self]
    obtain ⟨t, ht⟩ : ∃ t : Nat, l.2.2 = t := ⟨l.2.2.toNat, by omega⟩
    rw [ht] at hw
    have htt : l.2.2.toNat = t := by omega
    rcases led_loop l h with ⟨h1, h2⟩ | ⟨h1, j, hj, hb, hat⟩
    · rw [htt] at h2
      refine spec_l12Good_L1_run N (fun i => ((i + 1 : Nat) : Int)) (fun _ => l) t (fun i hi kx => ?_) (fun kx => ?_) N (by omega)
      · have := h2 i hi
        simp only [spec_l12Good_B1, ile_eq, ilt_eq, ht, show ((i + 1 : Nat) : Int) ≤ t by omega, spec_l12Stock_eq h (show i + 1 ≤ l.2.1.length by omega) hN, Option.bind_some, decide_true, cond_true, show ¬ stockAt l.2.1 l.1.1 (i + 1) < 0 by omega, decide_false, cond_false, iadd_nat (show i + 1 < 4611686018427387904 by omega)]
      · simp [spec_l12Good_B1, spec_l12Good_K1, h1, ht, show ¬ ((t : Int) + 1 ≤ t) by omega]
    · rw [htt] at hj
      refine spec_l12Good_L1_run N (fun i => ((i + 1 : Nat) : Int)) (fun _ => l) j (fun i hi kx => ?_) (fun kx => ?_) N (by omega)
      · have := hb i hi
        simp only [spec_l12Good_B1, ile_eq, ilt_eq, ht, show ((i + 1 : Nat) : Int) ≤ t by omega, spec_l12Stock_eq h (show i + 1 ≤ l.2.1.length by omega) hN, Option.bind_some, decide_true, cond_true, show ¬ stockAt l.2.1 l.1.1 (i + 1) < 0 by omega, decide_false, cond_false, iadd_nat (show i + 1 < 4611686018427387904 by omega)]
      · simp only [spec_l12Good_B1, ile_eq, ilt_eq, ht, show ((j + 1 : Nat) : Int) ≤ t by omega, spec_l12Stock_eq h (show j + 1 ≤ l.2.1.length by omega) hN, Option.bind_some, decide_true, cond_true, hat, h1]
  · rw [not_led h]
    simp only [spec_l12Good, len_eq, spec_l2Good_eq hs.c hN, spec_l2Row_eq hs.p hN, spec_l1In_eq, Option.bind_some, bif_not]
    cases hc : caseB l.1 with
    | false => rfl
    | true =>
      cases hp : l.2.1.all (inRg 0 200) with
      | false => simp
      | true =>
        by_cases hn : l.2.1.length = l.1.1.length
        · cases hw : inRg 0 l.1.1.length l.2.2 with
          | false => simp [hn]
          | true =>
            simp only [inRg, Bool.and_eq_true, decide_eq_true_eq] at hw
            exact absurd ⟨caseB_iff.1 hc, hn, bd_iff.1 hp, by omega⟩ h
        · have : decide ((l.2.1.length : Int) = l.1.1.length) = false := by simp; omega
          simp [this]
abbrev RngC (c : Cs) : Prop := RngI c.1 ∧ RngI c.2.1 ∧ RngI c.2.2.1 ∧ RngI c.2.2.2
abbrev RngLg (l : Lg) : Prop := RngC l.1 ∧ RngI l.2.1 ∧ RngZ l.2.2
theorem laws_toIntS_eq {N : Nat} {a : List Int} (hl : a.length < 4194304) (hN : 4194304 ≤ N) : laws_toIntS N a = some (a, ()) := by
  simp only [laws_toIntS, len_eq, chk_of (mkB_in hl (show 8 ≤ 1024 by omega)), Int.toNat_natCast]
  refine laws_toIntS_L1_run N (fun _ => a) (fun i => i) (fun i => a.take i ++ List.replicate (a.length - i) 0) a.length (fun i hi kx => ?_) (fun kx => ?_) N (by omega)
  · simp only [laws_toIntS_B1, ilt_eq, len_eq, Int.ofNat_lt, hi, decide_true, cond_true, inB_true hi, chk_true', Int.toNat_natCast, iadd_nat (show i < 4611686018427387904 by omega)]
    rw [chk_of (inB_true (by simp; omega))]
    congr 1
    rw [take_succ a i 0 hi, List.set_append, if_neg (by simp; omega), List.append_assoc]
    congr 1
    rw [show a.length - i = (a.length - (i + 1)) + 1 by omega, List.replicate_succ]
    simp [Nat.min_eq_left (Nat.le_of_lt hi)]
  · simp [laws_toIntS_B1, laws_toIntS_K1]
theorem laws_eqIntS_eq {N : Nat} {a b : List Int} (hl : a.length < 4194304) (hN : 4194304 ≤ N) : laws_eqIntS N a b = some (decide (a = b), ()) := by
  by_cases hn : a.length = b.length
  · simp only [laws_eqIntS, ine_eq, len_eq, hn, decide_true, bif_not, cond_true]
    rcases first_cases (fun i => decide (gd a i 0 = gd b i 0)) a.length with h | ⟨j, hj, hb, hat⟩
    · have he : a = b := by
        refine List.ext_getElem hn fun i h1 h2 => ?_
        have := h i h1
        simpa [gd, h1, h2] using this
      refine laws_eqIntS_L1_run N (fun _ => a) (fun _ => b) (fun i => i) a.length (fun i hi kx => ?_) (fun kx => ?_) N (by omega)
      · have h3 : gd a i 0 = gd b i 0 := by simpa using h i hi
        simp [laws_eqIntS_B1, hi, inB_true hi, inB_true (show i < b.length by omega), h3, iadd_nat (show i < 4611686018427387904 by omega)]
      · simp [laws_eqIntS_B1, laws_eqIntS_K1, he]
    · have hat' : gd a j 0 ≠ gd b j 0 := by simpa using hat
      have he : a ≠ b := fun e => hat' (by rw [e])
      refine laws_eqIntS_L1_run N (fun _ => a) (fun _ => b) (fun i => i) j (fun i hi kx => ?_) (fun kx => ?_) N (by omega)
      · have h3 : gd a i 0 = gd b i 0 := by simpa using hb i hi
        simp [laws_eqIntS_B1, show i < a.length by omega, inB_true (show i < a.length by omega), inB_true (show i < b.length by omega), h3, iadd_nat (show i < 4611686018427387904 by omega)]
      · simp [laws_eqIntS_B1, hj, inB_true hj, inB_true (show j < b.length by omega), hat', he]
  · have he : a ≠ b := fun e => hn (by rw [e])
    have : decide ((a.length : Int) = b.length) = false := by simp; omega
    simp [laws_eqIntS, this, he]
theorem laws_toCase_eq {N : Nat} {c : Cs} (h : SmC c) (hN : 4194304 ≤ N) : laws_toCase N c = some (c, ()) := by
  simp only [laws_toCase, laws_toIntS_eq h.s0 hN, laws_toIntS_eq h.s1 hN, laws_toIntS_eq h.s2 hN, laws_toIntS_eq h.s3 hN, Option.bind_some]
theorem laws_toLedger_eq {N : Nat} {l : Lg} (h : SmL l) (hN : 4194304 ≤ N) : laws_toLedger N l = some (l, ()) := by
  simp only [laws_toLedger, laws_toCase_eq h.c hN, laws_toIntS_eq h.p hN, Option.bind_some]
theorem laws_eqCase_refl {N : Nat} {c : Cs} (h : SmC c) (hN : 4194304 ≤ N) : laws_eqCase N c c = some (true, ()) := by
  simp [laws_eqCase, laws_eqIntS_eq h.s0 hN, laws_eqIntS_eq h.s1 hN, laws_eqIntS_eq h.s2 hN, laws_eqIntS_eq h.s3 hN]
theorem laws_eqLedger_refl {N : Nat} {l : Lg} (h : SmL l) (hN : 4194304 ≤ N) : laws_eqLedger N l l = some (true, ()) := by
  simp [laws_eqLedger, laws_eqCase_refl h.c hN, laws_eqIntS_eq h.p hN]
theorem laws_szIntS_eq (N : Nat) {a : List Int} {left : Int} (h : a.length ≤ maxLen) (h1 : 0 ≤ left) (h2 : left ≤ 1048576) : ∃ r, laws_szIntS N a left = some (r, ()) ∧ (r < 0 ∨ 0 ≤ r ∧ r ≤ left ∧ (a.length : Int) ≤ left) := by
  unfold maxLen at h
  simp only [laws_szIntS, len_eq, ilt_eq, isub_in (show -9223372036854775808 ≤ left - a.length by omega) (by omega)]
  by_cases h3 : left - a.length < 0
  · exact ⟨-1, by simp [h3], .inl (by omega)⟩
  · exact ⟨left - a.length, by simp [h3], .inr (by omega)⟩
theorem laws_szCase_eq (N : Nat) {c : Cs} {left : Int} (h : RngC c) (h1 : 0 ≤ left) (h2 : left ≤ 1048576) : ∃ r, laws_szCase N c left = some (r, ()) ∧ (r < 0 ∨ 0 ≤ r ∧ r ≤ left ∧ SmC c) := by
  simp only [laws_szCase, ilt_eq]
  obtain ⟨r1, e1, q1⟩ := laws_szIntS_eq N h.1.1 h1 h2
  rcases q1 with q1 | q1
  · exact ⟨-1, by simp [e1, q1], .inl (by omega)⟩
  obtain ⟨r2, e2, q2⟩ := laws_szIntS_eq N h.2.1.1 q1.1 (show r1 ≤ 1048576 by omega)
  have n1 : ¬ r1 < 0 := by omega
  rcases q2 with q2 | q2
  · exact ⟨-1, by simp [e1, e2, q2, n1], .inl (by omega)⟩
  obtain ⟨r3, e3, q3⟩ := laws_szIntS_eq N h.2.2.1.1 q2.1 (show r2 ≤ 1048576 by omega)
  have n2 : ¬ r2 < 0 := by omega
  rcases q3 with q3 | q3
  · exact ⟨-1, by simp [e1, e2, e3, q3, n1, n2], .inl (by omega)⟩
  obtain ⟨r4, e4, q4⟩ := laws_szIntS_eq N h.2.2.2.1 q3.1 (show r3 ≤ 1048576 by omega)
  have n3 : ¬ r3 < 0 := by omega
  rcases q4 with q4 | q4
  · exact ⟨-1, by simp [e1, e2, e3, e4, q4, n1, n2, n3], .inl (by omega)⟩
  have n4 : ¬ r4 < 0 := by omega
  exact ⟨r4, by simp [e1, e2, e3, e4, n1, n2, n3, n4], .inr ⟨by omega, by omega, by omega, by omega, by omega, by omega⟩⟩
theorem laws_szLedger_eq (N : Nat) {l : Lg} {left : Int} (h : RngLg l) (h1 : 0 ≤ left) (h2 : left ≤ 1048576) : ∃ r, laws_szLedger N l left = some (r, ()) ∧ (r < 0 ∨ 0 ≤ r ∧ r ≤ left ∧ SmL l) := by
  simp only [laws_szLedger, ilt_eq]
  obtain ⟨r1, e1, q1⟩ := laws_szCase_eq N h.1 h1 h2
  rcases q1 with q1 | q1
  · exact ⟨-1, by simp [e1, q1], .inl (by omega)⟩
  obtain ⟨r2, e2, q2⟩ := laws_szIntS_eq N h.2.1.1 q1.1 (show r1 ≤ 1048576 by omega)
  have n1 : ¬ r1 < 0 := by omega
  rcases q2 with q2 | q2
  · exact ⟨-1, by simp [e1, e2, q2, n1], .inl (by omega)⟩
  have n2 : ¬ r2 < 0 := by omega
  exact ⟨r2, by simp [e1, e2, n1, n2], .inr ⟨by omega, by omega, q1.2.2, by omega⟩⟩
theorem seq_self (x : ByteArray) : Go.Rx.seq x x = true := by simp [Go.Rx.seq]
theorem laws_eqLog_refl (N : Nat) (a : ByteArray × ByteArray × Int) : laws_eqLog N a a = some (true, ()) := by
  simp only [laws_eqLog, seq_self, ine_eq, decide_true, Bool.not_true, cond_false]
theorem laws_eqConsole_refl {N : Nat} {a : Lg × ByteArray × ByteArray × Int} (h : SmL a.1) (hN : 4194304 ≤ N) : laws_eqConsole N a a = some (true, ()) := by
  simp only [laws_eqConsole, laws_eqLedger_refl h hN, laws_eqLog_refl, Option.bind_some, Bool.not_true, cond_false]
end Go.Rx.Px
namespace Go.Rx
def RngB (xs : List Int) : Prop := xs.length ≤ maxLen ∧ ∀ i, i < xs.length → (Lit.int .u8 (xs.getD i 0)).wf = true
theorem u8_bd {x : Int} (h : (Lit.int .u8 x).wf = true) : 0 ≤ x ∧ x ≤ 255 := by
  simpa [Lit.wf, IntKind.min, IntKind.max, IntKind.signed, IntKind.bits] using h
theorem RngB.bd {xs : List Int} (h : RngB xs) : ∀ i, i < xs.length → 0 ≤ gd xs i 0 ∧ gd xs i 0 ≤ 255 := fun i hi => u8_bd (h.2 i hi)
end Go.Rx
namespace Go.Rx.Px
def chr (s : ByteArray) (i : Nat) : Nat := (s[i]?.getD 0).toNat
theorem sbyte_nat (s : ByteArray) (i : Nat) : sbyte s (i : Int) = (chr s i : Int) := rfl
def plB (s : ByteArray) : Bool := (List.range s.size).all fun i => decide (32 ≤ chr s i) && decide (chr s i ≤ 126)
def hasB (s : ByteArray) (c : Nat) : Bool := (List.range s.size).any fun i => decide (chr s i = c)
theorem chr_list (s : ByteArray) (i : Nat) (h : i < s.size) : s.data.toList[i]? = some (s[i]?.getD 0) := by
  have h1 : i < s.data.toList.length := by simpa using h
  rw [List.getElem?_eq_getElem h1]
  simp [h]
  rfl
theorem plB_iff {s : ByteArray} : plB s = true ↔ ∀ i, i < s.size → 32 ≤ chr s i ∧ chr s i ≤ 126 := by
  simp [plB, List.all_eq_true]
theorem hasB_iff {s : ByteArray} {c : Nat} : hasB s c = true ↔ ∃ i, i < s.size ∧ chr s i = c := by
  simp [hasB, List.any_eq_true]
theorem plB_ascii {s : ByteArray} (h : plB s = true) (h2 : s.size < 4194304) : asciiB s = true := by
  simp only [asciiB, Bool.and_eq_true, decide_eq_true_eq, List.all_eq_true]
  refine ⟨by omega, fun b hb => ?_⟩
  obtain ⟨i, hi, e⟩ := List.mem_iff_getElem.1 hb
  have hi' : i < s.size := by simpa using hi
  have h1 := chr_list s i hi'
  rw [List.getElem?_eq_getElem hi, Option.some.injEq, e] at h1
  have := (plB_iff.1 h) i hi'
  unfold chr at this
  rw [← h1] at this
  omega
theorem any_has (s : ByteArray) (cs : List UInt8) : (s.data.toList.any fun b => cs.contains b) = cs.any fun c => hasB s c.toNat := by
  rw [Bool.eq_iff_iff]
  simp only [List.any_eq_true, List.contains_iff_mem, hasB_iff]
  constructor
  · rintro ⟨b, hb, hc⟩
    obtain ⟨i, hi, e⟩ := List.mem_iff_getElem.1 hb
    have hi' : i < s.size := by simpa using hi
    have h1 := chr_list s i hi'
    rw [List.getElem?_eq_getElem hi, Option.some.injEq, e] at h1
    exact ⟨b, hc, i, hi', by unfold chr; rw [← h1]⟩
  · rintro ⟨c, hc, i, hi, e⟩
    have h1 := chr_list s i hi
    have e2 : s[i]?.getD 0 = c := UInt8.toNat_inj.1 e
    rw [e2] at h1
    exact ⟨c, List.mem_of_getElem? h1, hc⟩
theorem impl_isPlain_eq {N : Nat} {s : ByteArray} {most : Int} {o : ByteArray} (hs : s.size < 4194304) (ho : asciiB o = true) (hN : 4194304 ≤ N) :
    impl_isPlain N s most o = some (plB s && (decide ((s.size : Int) ≤ most) && !(o.data.toList.any fun c => hasB s c.toNat)), ()) := by
  simp only [impl_isPlain, slen]
  rcases first_cases (fun i => decide (32 ≤ chr s i) && decide (chr s i ≤ 126)) s.size with h | ⟨j, hj, hb, hat⟩
  · have hp : plB s = true := plB_iff.2 fun i hi => by simpa using h i hi
    refine impl_isPlain_L1_run N (fun _ => s) (fun _ => most) (fun _ => o) (fun _ => (s.size : Int)) (fun i => (i : Int)) s.size (fun i hi kx => ?_) (fun kx => ?_) N (by omega)
    · have h1 := (plB_iff.1 hp) i hi
      simp only [impl_isPlain_B1, ilt_eq, sbyte_nat, Int.ofNat_lt, hi, decide_true, cond_true, inB_true hi, chk_true', decide_eq_false (show ¬ (chr s i : Int) < 32 by omega), decide_eq_false (show ¬ (126 : Int) < (chr s i : Int) by omega), cond_false, iadd_nat (show i < 4611686018427387904 by omega)]
    · simp only [impl_isPlain_B1, impl_isPlain_K1, ilt_eq, ile_eq, slen, Int.lt_irrefl, decide_false, cond_false, strings_ContainsAny, plB_ascii hp hs, ho, Bool.and_self, chk_true', Option.bind_some, hp, Bool.true_and, any_has]
      cases decide ((s.size : Int) ≤ most) <;> rfl
  · have hp : plB s = false := by
      cases e : plB s with
      | false => rfl
      | true => have := (plB_iff.1 e) j hj; simp [this] at hat
    refine impl_isPlain_L1_run N (fun _ => s) (fun _ => most) (fun _ => o) (fun _ => (s.size : Int)) (fun i => (i : Int)) j (fun i hi kx => ?_) (fun kx => ?_) N (by omega)
    · have h1 := hb i hi
      simp only [Bool.and_eq_true, decide_eq_true_eq] at h1
      simp only [impl_isPlain_B1, ilt_eq, sbyte_nat, Int.ofNat_lt, show i < s.size by omega, decide_true, cond_true, inB_true (show i < s.size by omega), chk_true', decide_eq_false (show ¬ (chr s i : Int) < 32 by omega), decide_eq_false (show ¬ (126 : Int) < (chr s i : Int) by omega), cond_false, iadd_nat (show i < 4611686018427387904 by omega)]
    · simp only [impl_isPlain_B1, ilt_eq, sbyte_nat, Int.ofNat_lt, hj, decide_true, cond_true, inB_true hj, chk_true', hp, Bool.false_and]
      by_cases c : chr s j < 32
      · rw [decide_eq_true (show (chr s j : Int) < 32 by omega)]; rfl
      · have c2 : 126 < chr s j := by
          simp only [Bool.and_eq_false_iff, decide_eq_false_iff_not] at hat
          omega
        rw [decide_eq_false (show ¬ (chr s j : Int) < 32 by omega), decide_eq_true (show (126 : Int) < (chr s j : Int) by omega)]; rfl
theorem impl_isCommand_eq {N : Nat} {s : ByteArray} (hs : s.size < 4194304) (hN : 4194304 ≤ N) :
    impl_isCommand N s = some (!(Go.Rx.seq s (⟨#[]⟩ : ByteArray)) && (plB s && (decide ((s.size : Int) ≤ 160) && !(hasB s 35 || hasB s 64))), ()) := by
  simp only [impl_isCommand, impl_isPlain_eq hs (show asciiB (⟨#[35, 64]⟩ : ByteArray) = true by decide) hN, Option.bind_some]
  cases Go.Rx.seq s (⟨#[]⟩ : ByteArray)
  · simp
  · rfl
def recB (e : ByteArray × ByteArray) : Bool := !(Go.Rx.seq e.1 (⟨#[]⟩ : ByteArray)) && (plB e.1 && (decide ((e.1.size : Int) ≤ 160) && (!(hasB e.1 35) && (!(hasB e.1 64) && (plB e.2 && (decide ((e.2.size : Int) ≤ 200) && !(hasB e.2 35)))))))
theorem impl_IsValidRecord_eq {N : Nat} {e : ByteArray × ByteArray} (h1 : e.1.size < 4194304) (h2 : e.2.size < 4194304) (hN : 4194304 ≤ N) : impl_IsValidRecord N e = some (recB e, ()) := by
  simp only [impl_IsValidRecord, impl_isCommand_eq h1 hN, impl_isPlain_eq h2 (show asciiB (⟨#[35]⟩ : ByteArray) = true by decide) hN, Option.bind_some, recB]
  cases Go.Rx.seq e.1 (⟨#[]⟩ : ByteArray) <;> cases plB e.1 <;> cases decide ((e.1.size : Int) ≤ 160) <;> cases hasB e.1 35 <;> cases hasB e.1 64 <;> simp
theorem icv_chr (n : Nat) (h : n < 256) : icv .i64 (n : Int) = (n : Int) := by
  simp only [icv]; exact wrap_in (by omega) (by omega)
theorem chr_lt (s : ByteArray) (i : Nat) : chr s i < 256 := UInt8.toNat_lt _
theorem spec_l12Bytes_eq {N : Nat} {s : ByteArray} {most : Int} (hs : s.size < 4194304) (hN : 4194304 ≤ N) :
    spec_l12Bytes N s most = some (plB s && (!(hasB s 35) && decide ((s.size : Int) ≤ most)), ()) := by
  simp only [spec_l12Bytes]
  rcases first_cases (fun i => (decide (32 ≤ chr s i) && decide (chr s i ≤ 126)) && !decide (chr s i = 35)) s.size with h | ⟨j, hj, hb, hat⟩
  · have hh : ∀ i, i < s.size → (32 ≤ chr s i ∧ chr s i ≤ 126) ∧ ¬ chr s i = 35 := fun i hi => by simpa using h i hi
    have hp : plB s = true := plB_iff.2 fun i hi => (hh i hi).1
    have hq : hasB s 35 = false := by
      cases e : hasB s 35 with
      | false => rfl
      | true => obtain ⟨i, hi, e2⟩ := hasB_iff.1 e; exact absurd e2 (hh i hi).2
    refine spec_l12Bytes_L1_run N (fun _ => s) (fun _ => most) (fun i => (i : Int)) s.size (fun i hi kx => ?_) (fun kx => ?_) N (by omega)
    · have h1 := hh i hi
      simp only [spec_l12Bytes_B1, slen, ilt_eq, ieq_eq, sbyte_nat, icv_chr _ (chr_lt s i), spec_l1In_eq, inRg, Int.ofNat_lt, hi, decide_true, cond_true, inB_true hi, chk_true', Option.bind_some, decide_eq_true (show (32 : Int) ≤ (chr s i : Int) by omega), decide_eq_true (show (chr s i : Int) ≤ 126 by omega), Bool.and_self, Bool.not_true, decide_eq_false (show ¬ (chr s i : Int) = 35 by omega), cond_false, iadd_nat (show i < 4611686018427387904 by omega)]
    · simp only [spec_l12Bytes_B1, spec_l12Bytes_K1, slen, ilt_eq, ile_eq, Int.lt_irrefl, decide_false, cond_false, hp, hq, Bool.true_and, Bool.not_false]
  · have hat' : ¬ ((32 ≤ chr s j ∧ chr s j ≤ 126) ∧ ¬ chr s j = 35) := fun h => by simp [h.1.1, h.1.2, h.2] at hat
    have hp : (plB s && (!(hasB s 35) && decide ((s.size : Int) ≤ most))) = false := by
      cases e : plB s with
      | false => rfl
      | true =>
        have h1 := (plB_iff.1 e) j hj
        rw [hasB_iff.2 ⟨j, hj, by omega⟩]; rfl
    rw [hp]
    refine spec_l12Bytes_L1_run N (fun _ => s) (fun _ => most) (fun i => (i : Int)) j (fun i hi kx => ?_) (fun kx => ?_) N (by omega)
    · have h1 := hb i hi
      simp only [Bool.and_eq_true, decide_eq_true_eq, Bool.not_eq_true', decide_eq_false_iff_not] at h1
      simp only [spec_l12Bytes_B1, slen, ilt_eq, ieq_eq, sbyte_nat, icv_chr _ (chr_lt s i), spec_l1In_eq, inRg, Int.ofNat_lt, show i < s.size by omega, decide_true, cond_true, inB_true (show i < s.size by omega), chk_true', Option.bind_some, decide_eq_true (show (32 : Int) ≤ (chr s i : Int) by omega), decide_eq_true (show (chr s i : Int) ≤ 126 by omega), Bool.and_self, Bool.not_true, decide_eq_false (show ¬ (chr s i : Int) = 35 by omega), cond_false, iadd_nat (show i < 4611686018427387904 by omega)]
    · simp only [spec_l12Bytes_B1, slen, ilt_eq, ieq_eq, sbyte_nat, icv_chr _ (chr_lt s j), spec_l1In_eq, inRg, Int.ofNat_lt, hj, decide_true, cond_true, inB_true hj, chk_true', Option.bind_some]
      by_cases c : 32 ≤ chr s j ∧ chr s j ≤ 126
      · have c2 : chr s j = 35 := by omega
        rw [c2]; rfl
      · by_cases c1 : 32 ≤ chr s j
        · rw [decide_eq_true (show (32 : Int) ≤ (chr s j : Int) by omega), decide_eq_false (show ¬ (chr s j : Int) ≤ 126 by omega)]; rfl
        · rw [decide_eq_false (show ¬ (32 : Int) ≤ (chr s j : Int) by omega)]; rfl
theorem spec_l1Stands_eq {N : Nat} {s : ByteArray} {c : Nat} (hs : s.size < 4194304) (hN : 4194304 ≤ N) :
    spec_l1Stands N s (c : Int) = some (hasB s c, ()) := by
  simp only [spec_l1Stands]
  rcases first_cases (fun i => !decide (chr s i = c)) s.size with h | ⟨j, hj, hb, hat⟩
  · have hh : ∀ i, i < s.size → ¬ chr s i = c := fun i hi => by simpa using h i hi
    have hq : hasB s c = false := by
      cases e : hasB s c with
      | false => rfl
      | true => obtain ⟨i, hi, e2⟩ := hasB_iff.1 e; exact absurd e2 (hh i hi)
    refine spec_l1Stands_L1_run N (fun _ => s) (fun _ => (c : Int)) (fun i => (i : Int)) s.size (fun i hi kx => ?_) (fun kx => ?_) N (by omega)
    · have h1 := hh i hi
      simp only [spec_l1Stands_B1, slen, ilt_eq, ieq_eq, sbyte_nat, Int.ofNat_lt, hi, decide_true, cond_true, inB_true hi, chk_true', decide_eq_false (show ¬ (chr s i : Int) = c by omega), cond_false, iadd_nat (show i < 4611686018427387904 by omega)]
    · simp only [spec_l1Stands_B1, spec_l1Stands_K1, slen, ilt_eq, Int.lt_irrefl, decide_false, cond_false, hq]
  · have hat' : chr s j = c := by simpa using hat
    refine spec_l1Stands_L1_run N (fun _ => s) (fun _ => (c : Int)) (fun i => (i : Int)) j (fun i hi kx => ?_) (fun kx => ?_) N (by omega)
    · have h1 : ¬ chr s i = c := by simpa using hb i hi
      simp only [spec_l1Stands_B1, slen, ilt_eq, ieq_eq, sbyte_nat, Int.ofNat_lt, show i < s.size by omega, decide_true, cond_true, inB_true (show i < s.size by omega), chk_true', decide_eq_false (show ¬ (chr s i : Int) = c by omega), cond_false, iadd_nat (show i < 4611686018427387904 by omega)]
    · rw [hasB_iff.2 ⟨j, hj, hat'⟩]
      simp only [spec_l1Stands_B1, slen, ilt_eq, ieq_eq, sbyte_nat, Int.ofNat_lt, hj, decide_true, cond_true, inB_true hj, chk_true', hat']
theorem spec_l12Record_eq {N : Nat} {e : ByteArray × ByteArray} (h1 : e.1.size < 4194304) (h2 : e.2.size < 4194304) (hN : 4194304 ≤ N) : spec_l12Record N e = some (recB e, ()) := by
  simp only [spec_l12Record, spec_l12Bytes_eq h1 hN, spec_l12Bytes_eq h2 hN, show spec_l1Stands N e.1 64 = some (hasB e.1 64, ()) from spec_l1Stands_eq (c := 64) h1 hN, Option.bind_some, recB]
  cases Go.Rx.seq e.1 (⟨#[]⟩ : ByteArray) <;> cases plB e.1 <;> cases hasB e.1 35 <;> cases decide ((e.1.size : Int) ≤ 160) <;> cases hasB e.1 64 <;> cases plB e.2 <;> cases hasB e.2 35 <;> cases decide ((e.2.size : Int) ≤ 200) <;> rfl
def bts (s : ByteArray) : List UInt8 := s.data.toList
def txt (l : List UInt8) : ByteArray := ⟨l.toArray⟩
theorem bts_txt (l : List UInt8) : bts (txt l) = l := rfl
theorem txt_ext {x y : ByteArray} (h : bts x = bts y) : x = y := ByteArray.ext (Array.ext' h)
theorem size_bts (s : ByteArray) : s.size = (bts s).length := rfl
theorem seq_iff {x y : ByteArray} : Go.Rx.seq x y = decide (x = y) := by
  unfold Go.Rx.seq
  rw [ByteArray.toList_eq, ByteArray.toList_eq]
  by_cases h : x = y
  · subst h; simp
  · rw [decide_eq_false h, beq_eq_false_iff_ne]; exact fun e => h (txt_ext e)
theorem scat_txt (a b : List UInt8) : scat (txt a) (txt b) = txt (a ++ b) := txt_ext (by simp [scat, bts, txt])
theorem scat_bts (a b : ByteArray) : bts (scat a b) = bts a ++ bts b := by simp [scat, bts]
theorem scut_bts (x : ByteArray) (l h : Nat) : bts (scut x l h) = ((bts x).take h).drop l := by
  simp [scut, bts, List.extract_eq_take_drop, List.drop_take]
theorem sfit_in {x y : ByteArray} (h : x.size + y.size < 4194304) : sfit x y = true := decide_eq_true (by omega)
theorem chr_bts (s : ByteArray) (i : Nat) (h : i < s.size) : (bts s)[i]? = some (s[i]?.getD 0) := chr_list s i h
theorem mem_chr {s : ByteArray} {c : UInt8} : c ∈ bts s ↔ hasB s c.toNat = true := by
  rw [hasB_iff]
  constructor
  · intro hb
    obtain ⟨i, hi, e⟩ := List.mem_iff_getElem.1 hb
    have hi' : i < s.size := hi
    have h1 := chr_bts s i hi'
    rw [List.getElem?_eq_getElem hi, Option.some.injEq, e] at h1
    exact ⟨i, hi', by unfold chr; rw [← h1]⟩
  · rintro ⟨i, hi, e⟩
    have h1 := chr_bts s i hi
    have e2 : s[i]?.getD 0 = c := UInt8.toNat_inj.1 e
    rw [e2] at h1
    exact List.mem_of_getElem? h1
def csN (l : List UInt8) : Nat := l.foldl (fun h b => (41 * h + b.toNat + 1) % 999979) 7
theorem foldl_lt (l : List UInt8) : ∀ h : Nat, h < 999979 → l.foldl (fun h b => (41 * h + b.toNat + 1) % 999979) h < 999979 := by
  induction l with
  | nil => exact fun h hh => hh
  | cons b l ih => exact fun h _ => ih _ (Nat.mod_lt _ (by omega))
theorem csN_lt (l : List UInt8) : csN l < 999979 := foldl_lt l 7 (by omega)
theorem csN_step (s : ByteArray) (i : Nat) (h : i < s.size) : csN ((bts s).take (i + 1)) = (41 * csN ((bts s).take i) + chr s i + 1) % 999979 := by
  have hl : i < (bts s).length := h
  have h1 := chr_bts s i h
  rw [List.getElem?_eq_getElem hl, Option.some.injEq] at h1
  unfold csN
  rw [List.take_succ_eq_append_getElem hl, List.foldl_append, h1]
  rfl
theorem cs_word {s : ByteArray} {i : Nat} (h : i < s.size) : irem (iadd .i64 (iadd .i64 (imul .i64 41 (csN ((bts s).take i) : Nat)) (icv .i64 (sbyte s i))) 1) 999979 = ((csN ((bts s).take (i + 1)) : Nat) : Int) := by
  have h1 := csN_lt ((bts s).take i)
  have h2 := chr_lt s i
  have e1 : imul .i64 41 (csN ((bts s).take i) : Nat) = 41 * ((csN ((bts s).take i) : Nat) : Int) := imul_in (by omega) (by omega)
  have e2 : iadd .i64 (41 * ((csN ((bts s).take i) : Nat) : Int)) (chr s i : Int) = 41 * ((csN ((bts s).take i) : Nat) : Int) + (chr s i : Int) := iadd_in (by omega) (by omega)
  have e3 : iadd .i64 (41 * ((csN ((bts s).take i) : Nat) : Int) + (chr s i : Int)) 1 = 41 * ((csN ((bts s).take i) : Nat) : Int) + (chr s i : Int) + 1 := iadd_in (by omega) (by omega)
  rw [sbyte_nat, icv_chr _ h2, e1, e2, e3, csN_step s i h]
  simp only [irem]
  rw [Int.tmod_eq_emod_of_nonneg (by omega)]
  omega
theorem spec_l1Sum_eq {N : Nat} {s : ByteArray} (hs : s.size < 4194304) (hN : 4194304 ≤ N) : spec_l1Sum N s = some (((csN (bts s) : Nat) : Int), ()) := by
  simp only [spec_l1Sum]
  refine (spec_l1Sum_L1_run N (fun _ => s) (fun i => ((csN ((bts s).take i) : Nat) : Int)) (fun i => (i : Int)) s.size (fun i hi kx => ?_) (fun kx => ?_) N (by omega))
  · simp only [spec_l1Sum_B1, slen, ilt_eq, Int.ofNat_lt, hi, decide_true, cond_true, inB_true hi, chk_true', show ine 999979 0 = true from rfl, cs_word hi, iadd_nat (show i < 4611686018427387904 by omega)]
  · simp only [spec_l1Sum_B1, spec_l1Sum_K1, slen, ilt_eq, Int.lt_irrefl, decide_false, cond_false, size_bts, List.take_length]
theorem impl_checksum_eq {N : Nat} {s : ByteArray} (hs : s.size < 4194304) (hN : 4194304 ≤ N) : impl_checksum N s = some (((csN (bts s) : Nat) : Int), ()) := by
  simp only [impl_checksum]
  refine (impl_checksum_L1_run N (fun _ => s) (fun i => ((csN ((bts s).take i) : Nat) : Int)) (fun _ => slen s) (fun i => (i : Int)) s.size (fun i hi kx => ?_) (fun kx => ?_) N (by omega))
  · simp only [impl_checksum_B1, slen, ilt_eq, Int.ofNat_lt, hi, decide_true, cond_true, inB_true hi, chk_true', show ine 999979 0 = true from rfl, cs_word hi, iadd_nat (show i < 4611686018427387904 by omega)]
  · simp only [impl_checksum_B1, impl_checksum_K1, slen, ilt_eq, Int.lt_irrefl, decide_false, cond_false, size_bts, List.take_length]
theorem ten_word {d : Nat} (h : d < 10) : scut (⟨#[48, 49, 50, 51, 52, 53, 54, 55, 56, 57]⟩ : ByteArray) (d : Int) (((d + 1 : Nat)) : Int) = txt [UInt8.ofNat (48 + d)] := by
  refine txt_ext ?_
  rw [scut_bts]
  have : d = 0 ∨ d = 1 ∨ d = 2 ∨ d = 3 ∨ d = 4 ∨ d = 5 ∨ d = 6 ∨ d = 7 ∨ d = 8 ∨ d = 9 := by omega
  rcases this with rfl | rfl | rfl | rfl | rfl | rfl | rfl | rfl | rfl | rfl <;> rfl
theorem dec_len (u : Nat) : ∀ d : Nat, u < 10 ^ (d + 1) → (Lib.decDigits u).length ≤ d + 1 := by
  intro d
  induction d generalizing u with
  | zero => intro h; rw [Lib.decDigits_one (by omega)]; simp
  | succ d ih =>
    intro h
    rw [Lib.decDigits]
    by_cases c : u < 10
    · rw [dif_pos c]; simp
    · rw [dif_neg c, List.length_append]
      have := ih (u / 10) (by rw [Nat.pow_succ] at h; omega)
      simp; omega
theorem num_pos (N : Nat) : ∀ (d u m : Nat), u < 10 ^ (d + 1) → d ≤ 17 → d + 1 ≤ m → spec_l1Num_R N m (u : Int) = some (txt (Lib.decDigits u), ()) := by
  intro d
  induction d with
  | zero =>
    intro u m h _ hm
    obtain ⟨q, rfl⟩ : ∃ q, m = q + 1 := ⟨m - 1, by omega⟩
    have hu : u < 10 := by omega
    rw [spec_l1Num_R_succ]
    simp only [spec_l1Num_F, ilt_eq, decide_eq_false (show ¬ (u : Int) < 0 by omega), decide_eq_true (show (u : Int) < 10 by omega), cond_false, cond_true, iadd_nat (show u < 4611686018427387904 by omega)]
    rw [cutB_in (by omega) (by omega) (by show ((u + 1 : Nat) : Int) ≤ ((10 : Nat) : Int); omega), chk_true', ten_word hu, Lib.decDigits_one hu]
  | succ d ih =>
    intro u m h hd hm
    obtain ⟨q, rfl⟩ : ∃ q, m = q + 1 := ⟨m - 1, by omega⟩
    by_cases hu : u < 10
    · rw [spec_l1Num_R_succ]
      simp only [spec_l1Num_F, ilt_eq, decide_eq_false (show ¬ (u : Int) < 0 by omega), decide_eq_true (show (u : Int) < 10 by omega), cond_false, cond_true, iadd_nat (show u < 4611686018427387904 by omega)]
      rw [cutB_in (by omega) (by omega) (by show ((u + 1 : Nat) : Int) ≤ ((10 : Nat) : Int); omega), chk_true', ten_word hu, Lib.decDigits_one hu]
    · have hb : (10 : Nat) ^ (d + 1 + 1) ≤ 10 ^ 19 := Nat.pow_le_pow_right (by omega) (by omega)
      have hb2 : (10 : Nat) ^ 19 = 10000000000000000000 := by decide
      have hdl := dec_len (u / 10) d (by rw [Nat.pow_succ] at h; omega)
      have hq : iquo .i64 (u : Int) 10 = ((u / 10 : Nat) : Int) := by
        simp only [iquo]
        rw [Int.tdiv_eq_ediv_of_nonneg (by omega), wrap_in (by omega) (by omega)]
        omega
      have hr : irem (u : Int) 10 = ((u % 10 : Nat) : Int) := by
        simp only [irem]
        rw [Int.tmod_eq_emod_of_nonneg (by omega)]
        omega
      have h10 : u % 10 < 10 := Nat.mod_lt _ (by omega)
      rw [spec_l1Num_R_succ]
      simp only [spec_l1Num_F, ilt_eq, decide_eq_false (show ¬ (u : Int) < 0 by omega), decide_eq_false (show ¬ (u : Int) < 10 by omega), cond_false, show ine 10 0 = true from rfl, chk_true', hq, ih (u / 10) q (by rw [Nat.pow_succ] at h; omega) (by omega) (by omega), Option.bind_some, hr, iadd_nat (show u % 10 < 4611686018427387904 by omega)]
      rw [cutB_in (by omega) (by omega) (by show ((u % 10 + 1 : Nat) : Int) ≤ ((10 : Nat) : Int); omega), chk_true', ten_word h10]
      rw [sfit_in (by rw [size_bts, size_bts, bts_txt, bts_txt]; simp; omega), chk_true', scat_txt]
      conv => rhs; rw [Lib.decDigits, dif_neg hu]
def numT (n : Int) : List UInt8 := Lib.itoa n
theorem numT_nat (u : Nat) : numT (u : Int) = Lib.decDigits u := Lib.itoa_nonneg u
theorem spec_l1Num_eq {N : Nat} {n : Int} (h1 : -1000000000000000000 < n) (h2 : n < 1000000000000000000) (hN : 4194304 ≤ N) : spec_l1Num N n = some (txt (numT n), ()) := by
  simp only [spec_l1Num]
  by_cases hn : n < 0
  · obtain ⟨u, rfl⟩ : ∃ u : Nat, n = -(u : Int) := ⟨n.natAbs, by omega⟩
    obtain ⟨q, rfl⟩ : ∃ q, N = q + 1 := ⟨N - 1, by omega⟩
    have hdl := dec_len u 17 (by omega)
    rw [spec_l1Num_R_succ]
    simp only [spec_l1Num_F, ilt_eq, decide_eq_true hn, cond_true, isub_in (show -9223372036854775808 ≤ 0 - -(u : Int) by omega) (by omega), show (0 : Int) - -(u : Int) = (u : Int) by omega, num_pos (q + 1) 17 u q (by omega) (by omega) (by omega), Option.bind_some]
    rw [show (⟨#[45]⟩ : ByteArray) = txt [45] from rfl, sfit_in (by rw [size_bts, size_bts, bts_txt, bts_txt]; simp; omega), chk_true', scat_txt]
    unfold numT
    rw [Lib.itoa_neg u (by omega)]; rfl
  · obtain ⟨u, rfl⟩ : ∃ u : Nat, n = (u : Int) := ⟨n.toNat, by omega⟩
    rw [num_pos N 17 u N (by omega) (by omega) (by omega), numT_nat]
theorem strconv_Itoa_eq {N : Nat} {n : Int} (h1 : -1000000000000000000 < n) (h2 : n < 1000000000000000000) : strconv_Itoa N n = some (txt (numT n), ()) := by
  simp only [strconv_Itoa, decide_eq_true (show -9223372036854775808 ≤ n by omega), decide_eq_true (show n ≤ 9223372036854775807 by omega), Bool.and_self, chk_true', numT]
  rfl
theorem dec_digit (u : Nat) : ∀ c ∈ Lib.decDigits u, 48 ≤ c.toNat ∧ c.toNat ≤ 57 := by
  induction u using Nat.strongRecOn with
  | _ u ih =>
    intro c hc
    have key : ∀ d : Nat, d < 10 → (UInt8.ofNat (48 + d)).toNat = 48 + d := fun d hd => by
      rw [UInt8.toNat_ofNat']; omega
    rw [Lib.decDigits] at hc
    by_cases hu : u < 10
    · rw [dif_pos hu, List.mem_singleton] at hc
      subst hc
      rw [key u hu]; omega
    · rw [dif_neg hu, List.mem_append, List.mem_singleton] at hc
      rcases hc with hc | rfl
      · exact ih (u / 10) (by omega) c hc
      · rw [key _ (Nat.mod_lt _ (by omega))]; omega
def sealT (t : List UInt8) : List UInt8 := t ++ [35] ++ numT (csN t)
def textT (k : Int) (a b : List UInt8) : List UInt8 := numT k ++ [32] ++ a ++ [64] ++ b
def lineT (k : Int) (a b : List UInt8) : List UInt8 := sealT (textT k a b) ++ [10]
theorem numT_len {k : Int} (h0 : 0 ≤ k) (h1 : k < 1000000) : (numT k).length ≤ 6 := by
  obtain ⟨u, rfl⟩ : ∃ u : Nat, k = (u : Int) := ⟨k.toNat, by omega⟩
  rw [numT_nat]; exact dec_len u 5 (by omega)
theorem spec_l1Seal_eq {N : Nat} {t : List UInt8} (ht : t.length < 4000000) (hN : 4194304 ≤ N) : spec_l1Seal N (txt t) = some (txt (sealT t), ()) := by
  have h1 := csN_lt t
  have h2 := numT_len (k := (csN t : Nat)) (by omega) (by omega)
  have hsz : (txt t).size = t.length := rfl
  simp only [spec_l1Seal, show (⟨#[35]⟩ : ByteArray) = txt [35] from rfl]
  rw [sfit_in (by rw [size_bts, size_bts, bts_txt, bts_txt]; simp; omega), chk_true', spec_l1Sum_eq (by rw [hsz]; omega) hN]
  simp only [Option.bind_some, bts_txt, spec_l1Num_eq (n := (csN t : Nat)) (by omega) (by omega) hN, scat_txt]
  rw [sfit_in (by rw [size_bts, size_bts, bts_txt, bts_txt]; simp; omega), chk_true']
  rfl
theorem spec_l12Line_eq {N : Nat} {k : Int} {e : ByteArray × ByteArray} (h0 : 0 ≤ k) (h1 : k < 1000000) (ha : e.1.size < 1000000) (hb : e.2.size < 1000000) (hN : 4194304 ≤ N) : spec_l12Line N k e = some (txt (lineT k (bts e.1) (bts e.2)), ()) := by
  obtain ⟨a, b⟩ := e
  have h3 := numT_len h0 h1
  have ha' : (bts a).length < 1000000 := ha
  have hb' : (bts b).length < 1000000 := hb
  have e1 : a = txt (bts a) := rfl
  have e2 : b = txt (bts b) := rfl
  simp only [spec_l12Line, spec_l1Num_eq (n := k) (by omega) (by omega) hN, Option.bind_some, show (⟨#[32]⟩ : ByteArray) = txt [32] from rfl, show (⟨#[64]⟩ : ByteArray) = txt [64] from rfl, show (⟨#[10]⟩ : ByteArray) = txt [10] from rfl]
  rw [e1, e2]
  simp only [scat_txt, bts_txt]
  rw [sfit_in (by rw [size_bts, size_bts, bts_txt, bts_txt]; simp; omega), chk_true', sfit_in (by rw [size_bts, size_bts, bts_txt, bts_txt]; simp only [List.length_append, List.length_singleton]; omega), chk_true',
    sfit_in (by rw [size_bts, size_bts, bts_txt, bts_txt]; simp only [List.length_append, List.length_singleton]; omega), chk_true', sfit_in (by rw [size_bts, size_bts, bts_txt, bts_txt]; simp only [List.length_append, List.length_singleton]; omega), chk_true']
  have h5 := csN_lt (textT k (bts a) (bts b))
  have h4 := numT_len (k := (csN (textT k (bts a) (bts b)) : Nat)) (by omega) (by omega)
  rw [show numT k ++ [32] ++ bts a ++ [64] ++ bts b = textT k (bts a) (bts b) from rfl, spec_l1Seal_eq (by simp only [textT, List.length_append, List.length_singleton]; omega) hN]
  simp only [Option.bind_some, scat_txt]
  rw [sfit_in (by rw [size_bts, size_bts, bts_txt, bts_txt]; simp only [sealT, List.length_append, List.length_singleton]; simp only [textT, List.length_append, List.length_singleton] at h4 ⊢; omega), chk_true']
  rfl
theorem contains_one (l : List UInt8) (c : UInt8) : Lib.contains l [c] = decide (c ∈ l) := by
  unfold Lib.contains
  rw [Lib.index_one]
  induction l with
  | nil => rfl
  | cons b l ih =>
    rw [decide_eq_decide] at ih ⊢
    have hge := Lib.indexByte_ge l c
    simp only [Lib.indexByte, List.mem_cons]
    by_cases h : (b == c) = true
    · rw [if_pos h]
      have : b = c := by simpa using h
      subst this
      simp
    · rw [if_neg h]
      have hne : ¬ c = b := fun e => h (by simp [e])
      by_cases h2 : (Lib.indexByte l c == -1) = true
      · rw [if_pos h2]
        have h3 : Lib.indexByte l c = -1 := by simpa using h2
        simp only [hne, false_or, ← ih, h3]
      · rw [if_neg h2]
        have h3 : Lib.indexByte l c ≠ -1 := by simpa using h2
        simp only [hne, false_or, ← ih]
        omega
theorem impl_AppendChecksum_eq {N : Nat} {t : List UInt8} (ht : t.length ≤ 3900) (hn : (35 : UInt8) ∉ t) (hN : 4194304 ≤ N) : impl_AppendChecksum N (txt t) = some ((txt (sealT t), true), ()) := by
  have h1 := csN_lt t
  have h2 := numT_len (k := (csN t : Nat)) (by omega) (by omega)
  have hsz : (txt t).size = t.length := rfl
  simp only [impl_AppendChecksum, slen, ilt_eq, hsz, decide_eq_false (show ¬ (4000 : Int) < (t.length : Int) by omega), cond_false, strings_Contains, shortB, decide_eq_true (show t.length < 4294967281 by omega), chk_true', Option.bind_some,
    show (txt t).data.toList = t from rfl, show (⟨#[35]⟩ : ByteArray) = txt [35] from rfl, show (txt [35]).data.toList = [35] from rfl, contains_one, decide_eq_false hn]
  rw [sfit_in (by rw [size_bts, size_bts, bts_txt, bts_txt]; simp; omega), chk_true', impl_checksum_eq (by rw [hsz]; omega) hN]
  simp only [Option.bind_some, bts_txt, strconv_Itoa_eq (n := (csN t : Nat)) (by omega) (by omega), scat_txt]
  rw [sfit_in (by rw [size_bts, size_bts, bts_txt, bts_txt]; simp; omega), chk_true']
  have h3 : (txt (t ++ [35] ++ numT (csN t : Nat))).size = t.length + 1 + (numT (csN t : Nat)).length := by rw [size_bts, bts_txt]; simp only [List.length_append, List.length_singleton]
  rw [h3, decide_eq_false (by omega)]
  rfl
structure RecP (e : ByteArray × ByteArray) : Prop where
  some : e.1 ≠ ⟨#[]⟩
  pl1 : ∀ c ∈ bts e.1, 32 ≤ c.toNat ∧ c.toNat ≤ 126 ∧ c ≠ 35 ∧ c ≠ 64
  n1 : (bts e.1).length ≤ 160
  pl2 : ∀ c ∈ bts e.2, 32 ≤ c.toNat ∧ c.toNat ≤ 126 ∧ c ≠ 35
  n2 : (bts e.2).length ≤ 200
theorem plB_mem {s : ByteArray} : plB s = true ↔ ∀ c ∈ bts s, 32 ≤ c.toNat ∧ c.toNat ≤ 126 := by
  rw [plB_iff]
  constructor
  · intro h c hc
    obtain ⟨i, hi, e⟩ := hasB_iff.1 (mem_chr.1 hc)
    have := h i hi
    omega
  · intro h i hi
    exact h _ (List.mem_of_getElem? (chr_bts s i hi))
theorem recB_iff {e : ByteArray × ByteArray} : recB e = true ↔ RecP e := by
  have hh : ∀ (s : ByteArray) (c : UInt8), hasB s c.toNat = false ↔ c ∉ bts s := fun s c => by rw [mem_chr]; simp
  simp only [recB, Bool.and_eq_true, Bool.not_eq_true', decide_eq_true_eq, seq_iff, decide_eq_false_iff_not, plB_mem]
  rw [show hasB e.1 35 = hasB e.1 (35 : UInt8).toNat from rfl, show hasB e.1 64 = hasB e.1 (64 : UInt8).toNat from rfl, show hasB e.2 35 = hasB e.2 (35 : UInt8).toNat from rfl, hh, hh, hh]
  constructor
  · rintro ⟨h1, h2, h3, h4, h5, h6, h7, h8⟩
    exact ⟨h1, fun c hc => ⟨(h2 c hc).1, (h2 c hc).2, fun e' => h4 (e' ▸ hc), fun e' => h5 (e' ▸ hc)⟩, by rw [size_bts] at h3; omega, fun c hc => ⟨(h6 c hc).1, (h6 c hc).2, fun e' => h8 (e' ▸ hc)⟩, by rw [size_bts] at h7; omega⟩
  · rintro ⟨h1, h2, h3, h4, h5⟩
    exact ⟨h1, fun c hc => ⟨(h2 c hc).1, (h2 c hc).2.1⟩, by rw [size_bts]; omega, fun hc => (h2 35 hc).2.2.1 rfl, fun hc => (h2 64 hc).2.2.2 rfl, fun c hc => ⟨(h4 c hc).1, (h4 c hc).2.1⟩, by rw [size_bts]; omega, fun hc => (h4 35 hc).2.2 rfl⟩
theorem numT_mem {k : Int} (h0 : 0 ≤ k) : ∀ c ∈ numT k, 48 ≤ c.toNat ∧ c.toNat ≤ 57 := by
  obtain ⟨u, rfl⟩ : ∃ u : Nat, k = (u : Int) := ⟨k.toNat, by omega⟩
  rw [numT_nat]; exact dec_digit u
theorem text_no {k : Int} {e : ByteArray × ByteArray} (h0 : 0 ≤ k) (h : RecP e) : (35 : UInt8) ∉ textT k (bts e.1) (bts e.2) := by
  simp only [textT, List.mem_append, List.mem_singleton]
  rintro ((((hc | hc) | hc) | hc) | hc)
  · have := (numT_mem h0 _ hc).1; simp at this
  · cases hc
  · exact (h.pl1 _ hc).2.2.1 rfl
  · cases hc
  · exact (h.pl2 _ hc).2.2 rfl
def encT (k : Int) (e : ByteArray × ByteArray) : ByteArray × Bool := if inRg 0 59 k = true ∧ recB e = true then (txt (lineT k (bts e.1) (bts e.2)), true) else (⟨#[]⟩, false)
theorem impl_EncodeRecord_eq {N : Nat} {k : Int} {e : ByteArray × ByteArray} (h1 : e.1.size < 4194304) (h2 : e.2.size < 4194304) (hN : 4194304 ≤ N) : impl_EncodeRecord N k e = some (encT k e, ()) := by
  simp only [impl_EncodeRecord, impl_within_eq, Option.bind_some, impl_IsValidRecord_eq h1 h2 hN, encT]
  cases hk : inRg 0 59 k with
  | false => rfl
  | true =>
    cases hb : recB e with
    | false => rfl
    | true =>
      obtain ⟨a, b⟩ := e
      have hp := recB_iff.1 hb
      simp only [inRg, Bool.and_eq_true, decide_eq_true_eq] at hk
      have n1 : (bts a).length ≤ 160 := hp.n1
      have n2 : (bts b).length ≤ 200 := hp.n2
      have e1 : a = txt (bts a) := rfl
      have e2 : b = txt (bts b) := rfl
      have h3 := numT_len (k := k) (by omega) (by omega)
      have hno : (35 : UInt8) ∉ textT k (bts a) (bts b) := text_no hk.1 hp
      simp only [Bool.not_true, cond_false, strconv_Itoa_eq (n := k) (by omega) (by omega), Option.bind_some, show (⟨#[32]⟩ : ByteArray) = txt [32] from rfl, show (⟨#[64]⟩ : ByteArray) = txt [64] from rfl, show (⟨#[10]⟩ : ByteArray) = txt [10] from rfl]
      rw [e1, e2]
      simp only [scat_txt, bts_txt]
      rw [sfit_in (by rw [size_bts, size_bts, bts_txt, bts_txt]; simp; omega), chk_true', sfit_in (by rw [size_bts, size_bts, bts_txt, bts_txt]; simp only [List.length_append, List.length_singleton]; omega), chk_true',
        sfit_in (by rw [size_bts, size_bts, bts_txt, bts_txt]; simp only [List.length_append, List.length_singleton]; omega), chk_true', sfit_in (by rw [size_bts, size_bts, bts_txt, bts_txt]; simp only [List.length_append, List.length_singleton]; omega), chk_true']
      have h5 := csN_lt (textT k (bts a) (bts b))
      have h4 := numT_len (k := (csN (textT k (bts a) (bts b)) : Nat)) (by omega) (by omega)
      rw [show numT k ++ [32] ++ bts a ++ [64] ++ bts b = textT k (bts a) (bts b) from rfl, impl_AppendChecksum_eq (by simp only [textT, List.length_append, List.length_singleton]; omega) hno hN]
      simp only [Option.bind_some, scat_txt]
      rw [sfit_in (by rw [size_bts, size_bts, bts_txt, bts_txt]; simp only [sealT, List.length_append, List.length_singleton]; simp only [textT, List.length_append, List.length_singleton] at h4 ⊢; omega), chk_true']
      simp [lineT]
def bef (c : UInt8) (l : List UInt8) : List UInt8 := l.takeWhile fun b => b != c
def aft (c : UInt8) (l : List UInt8) : List UInt8 := (l.dropWhile fun b => b != c).drop 1
theorem bef_cons (c b : UInt8) (l : List UInt8) : bef c (b :: l) = if b = c then [] else b :: bef c l := by
  by_cases h : b = c
  · subst h; simp [bef]
  · simp [bef, h]
theorem aft_cons (c b : UInt8) (l : List UInt8) : aft c (b :: l) = if b = c then l else aft c l := by
  by_cases h : b = c
  · subst h; simp [aft]
  · simp [aft, h]
theorem bef_not (c : UInt8) : ∀ l : List UInt8, c ∉ bef c l
  | [] => by simp [bef]
  | b :: l => by
    rw [bef_cons]
    by_cases h : b = c
    · rw [if_pos h]; simp
    · rw [if_neg h, List.mem_cons]
      rintro (e | e)
      · exact h e.symm
      · exact bef_not c l e
theorem bef_aft {c : UInt8} : ∀ {l : List UInt8}, c ∈ l → l = bef c l ++ [c] ++ aft c l
  | [], h => by cases h
  | b :: l, h => by
    rw [bef_cons, aft_cons]
    by_cases e : b = c
    · subst e; simp
    · rw [if_neg e, if_neg e]
      have h2 : c ∈ l := (List.mem_cons.1 h).resolve_left fun e2 => e e2.symm
      have := bef_aft h2
      simp only [List.cons_append, List.append_assoc] at this ⊢
      rw [← this]
theorem bef_all {c : UInt8} : ∀ {l : List UInt8}, c ∉ l → bef c l = l ∧ aft c l = []
  | [], _ => ⟨rfl, rfl⟩
  | b :: l, h => by
    rw [List.mem_cons, not_or] at h
    rw [bef_cons, aft_cons, if_neg (fun e => h.1 e.symm), if_neg (fun e => h.1 e.symm)]
    obtain ⟨h1, h2⟩ := bef_all h.2
    exact ⟨by rw [h1], h2⟩
theorem bef_at {c : UInt8} : ∀ {t r : List UInt8}, c ∉ t → bef c (t ++ [c] ++ r) = t ∧ aft c (t ++ [c] ++ r) = r
  | [], r, _ => by simp [bef_cons, aft_cons]
  | b :: t, r, h => by
    rw [List.mem_cons, not_or] at h
    simp only [List.cons_append]
    rw [bef_cons, aft_cons, if_neg (fun e => h.1 e.symm), if_neg (fun e => h.1 e.symm)]
    obtain ⟨h1, h2⟩ := bef_at (r := r) h.2
    exact ⟨by rw [h1], h2⟩
theorem bef_len (c : UInt8) (l : List UInt8) : (bef c l).length ≤ l.length := (List.takeWhile_prefix _).length_le
theorem aft_len (c : UInt8) (l : List UInt8) : (aft c l).length ≤ l.length := by
  unfold aft
  have := (List.dropWhile_suffix (l := l) fun b => b != c).length_le
  simp only [List.length_drop]; omega
theorem drop_bef {c : UInt8} {l : List UInt8} (h : c ∈ l) : l.drop ((bef c l).length + 1) = aft c l := by
  have h1 := bef_aft h
  have h3 : (bef c l ++ [c] ++ aft c l).drop ((bef c l).length + 1) = aft c l := by
    rw [List.drop_append, show (bef c l).length + 1 - (bef c l ++ [c]).length = 0 by simp, List.drop_eq_nil_of_le (by simp)]; simp
  rwa [← h1] at h3
theorem cut_one (l : List UInt8) (c : UInt8) : Lib.cut l [c] = (bef c l, aft c l, decide (c ∈ l)) := by
  unfold Lib.cut
  rw [Lib.index_one]
  have key : ∀ l : List UInt8, (0 ≤ Lib.indexByte l c ↔ c ∈ l) ∧ (c ∈ l → Lib.indexByte l c = ((bef c l).length : Int)) := by
    intro l
    induction l with
    | nil => exact ⟨by simp [Lib.indexByte], fun h => by cases h⟩
    | cons b l ih =>
      have hge := Lib.indexByte_ge l c
      simp only [Lib.indexByte, List.mem_cons]
      by_cases h : (b == c) = true
      · rw [if_pos h]
        have e : b = c := by simpa using h
        exact ⟨⟨fun _ => .inl e.symm, fun _ => Int.le_refl _⟩, fun _ => by rw [bef_cons, if_pos e]; rfl⟩
      · rw [if_neg h]
        have e : ¬ b = c := fun e => h (by simp [e])
        have e' : ¬ c = b := fun x => e x.symm
        simp only [e', false_or]
        by_cases h2 : (Lib.indexByte l c == -1) = true
        · rw [if_pos h2]
          have h3 : Lib.indexByte l c = -1 := by simpa using h2
          have h4 : c ∉ l := fun hc => by have := ih.1.2 hc; omega
          exact ⟨⟨fun h => by omega, fun h => absurd h h4⟩, fun h => absurd h h4⟩
        · rw [if_neg h2]
          have h3 : Lib.indexByte l c ≠ -1 := by simpa using h2
          have h4 : c ∈ l := ih.1.1 (by omega)
          refine ⟨⟨fun _ => h4, fun _ => by omega⟩, fun _ => ?_⟩
          rw [bef_cons, if_neg e, ih.2 h4]
          simp
  by_cases h : c ∈ l
  · rw [if_pos ((key l).1.2 h), (key l).2 h, decide_eq_true h]
    have h1 := bef_aft h
    have h2 : (bef c l ++ [c] ++ aft c l).take (bef c l).length = bef c l := by simp
    have h3 : (bef c l ++ [c] ++ aft c l).drop ((bef c l).length + 1) = aft c l := by
      rw [List.drop_append, show (bef c l).length + 1 - (bef c l ++ [c]).length = 0 by simp, List.drop_eq_nil_of_le (by simp)]; simp
    rw [← h1] at h2 h3
    simp only [Int.toNat_natCast, List.length_singleton, h2, h3]
  · rw [if_neg (fun h2 => h ((key l).1.1 h2)), decide_eq_false h, (bef_all h).1, (bef_all h).2]
theorem strings_Cut_one {N : Nat} {l : List UInt8} {c : UInt8} (h : l.length < 4294967281) : strings_Cut N (txt l) (txt [c]) = some ((txt (bef c l), txt (aft c l), decide (c ∈ l)), ()) := by
  simp only [strings_Cut, shortB, show (txt l).size = l.length from rfl, decide_eq_true h, chk_true', show (txt l).data.toList = l from rfl, show (txt [c]).data.toList = [c] from rfl, cut_one]
  rfl
theorem scut_txt (x : ByteArray) (l h : Nat) : scut x (l : Int) (h : Int) = txt (((bts x).take h).drop l) := txt_ext (scut_bts x l h)
def spl (c : UInt8) : List UInt8 → List UInt8 → List (List UInt8)
  | a, [] => [a]
  | a, b :: l => if b = c then a :: spl c [] l else spl c (a ++ [b]) l
theorem spl_head (c : UInt8) : ∀ (l a : List UInt8), gd ((spl c a l).map txt) 0 ⟨#[]⟩ = txt (a ++ bef c l)
  | [], a => by simp [spl, bef, gd]
  | b :: l, a => by
    rw [spl, bef_cons]
    by_cases h : b = c
    · rw [if_pos h, if_pos h]; simp [gd]
    · rw [if_neg h, if_neg h, spl_head c l (a ++ [b])]; simp
theorem spl_pos (c : UInt8) : ∀ (l a : List UInt8), 1 ≤ (spl c a l).length
  | [], a => by simp [spl]
  | b :: l, a => by
    rw [spl]
    split
    · simp
    · exact spl_pos c l _
theorem spl_two (c : UInt8) : ∀ (l a : List UInt8), 2 ≤ (spl c a l).length ↔ c ∈ l
  | [], a => by simp [spl]
  | b :: l, a => by
    rw [spl, List.mem_cons]
    by_cases h : b = c
    · have := spl_pos c l []
      rw [if_pos h, List.length_cons]
      exact ⟨fun _ => .inl h.symm, fun _ => by omega⟩
    · rw [if_neg h, spl_two c l (a ++ [b])]
      exact ⟨.inr, fun hh => hh.resolve_left fun e => h e.symm⟩
theorem split_loop {N : Nat} {s : ByteArray} {c : UInt8} (hs : (bts s).length < 2000000) : ∀ (d i f : Nat) (out : List ByteArray), i + d = (bts s).length → f ≤ i → out.length ≤ i → ∀ m, d < m →
    spec_l1Split_L1 N m s (c.toNat : Int) f i out = some (out ++ (spl c (((bts s).take i).drop f) ((bts s).drop i)).map txt, ()) := by
  intro d
  induction d with
  | zero =>
    intro i f out hi hf ho m hm
    obtain ⟨q, rfl⟩ : ∃ q, m = q + 1 := ⟨m - 1, by omega⟩
    have hil : i = (bts s).length := by omega
    rw [spec_l1Split_L1_succ]
    simp only [spec_l1Split_B1, spec_l1Split_K1, show slen s = (((bts s).length : Nat) : Int) from rfl, ilt_eq, hil, Int.lt_irrefl, decide_false, cond_false]
    rw [cutB_in (by omega) (by omega) (by rw [size_bts]; omega), chk_true', fitB_in (by omega) (by omega), chk_true', scut_txt, List.take_length, List.drop_length]
    rfl
  | succ d ih =>
    intro i f out hi hf ho m hm
    obtain ⟨q, rfl⟩ : ∃ q, m = q + 1 := ⟨m - 1, by omega⟩
    have hil : i < (bts s).length := by omega
    have hil' : i < s.size := hil
    obtain ⟨x, hx⟩ : ∃ x, (bts s)[i]? = some x := ⟨_, List.getElem?_eq_getElem hil⟩
    have h1 := chr_bts s i hil'
    rw [hx, Option.some.injEq] at h1
    have hdr : (bts s).drop i = x :: (bts s).drop (i + 1) := by
      rw [List.drop_eq_getElem_cons hil]
      rw [List.getElem?_eq_getElem hil, Option.some.injEq] at hx
      rw [hx]
    have htk : (bts s).take (i + 1) = (bts s).take i ++ [x] := by
      rw [List.take_add_one, hx]; rfl
    have hch : chr s i = x.toNat := by unfold chr; rw [h1]
    rw [spec_l1Split_L1_succ, hdr, spl]
    simp only [spec_l1Split_B1, show slen s = (((bts s).length : Nat) : Int) from rfl, ilt_eq, ieq_eq, Int.ofNat_lt, hil, decide_true, cond_true, inB_true hil', chk_true', sbyte_nat, hch, iadd_nat (show i < 4611686018427387904 by omega)]
    by_cases hc : x = c
    · rw [if_pos hc, hc, decide_eq_true rfl]
      simp only [cond_true]
      rw [cutB_in (by omega) (by omega) (by rw [size_bts]; omega), chk_true', fitB_in (by omega) (by omega), chk_true', scut_txt, ih (i + 1) (i + 1) _ (by omega) (by omega) (by simp; omega) q (by omega)]
      simp
    · rw [if_neg hc, decide_eq_false (fun e => hc (UInt8.toNat_inj.1 (by omega)))]
      simp only [cond_false]
      rw [ih (i + 1) f out (by omega) (by omega) (by omega) q (by omega), htk, List.drop_append_of_le_length (by simp; omega)]
theorem spec_l1Split_eq {N : Nat} {l : List UInt8} {c : UInt8} (hs : l.length < 2000000) (hN : 4194304 ≤ N) : spec_l1Split N (txt l) (c.toNat : Int) = some ((spl c [] l).map txt, ()) := by
  simp only [spec_l1Split]
  have := split_loop (N := N) (s := txt l) (c := c) (by rw [bts_txt]; exact hs) l.length 0 0 [] (by rw [bts_txt]; omega) (by omega) (by simp) N (by omega)
  rw [show ((0 : Nat) : Int) = 0 from rfl] at this
  rw [this, bts_txt]
  simp
theorem impl_AppendChecksum_any {N : Nat} {t : List UInt8} (ht : t.length < 2000000) (hN : 4194304 ≤ N) :
    impl_AppendChecksum N (txt t) = some ((if t.length ≤ 4000 ∧ (35 : UInt8) ∉ t ∧ (sealT t).length ≤ 4000 then (txt (sealT t), true) else (⟨#[]⟩, false)), ()) := by
  have h1 := csN_lt t
  have h2 := numT_len (k := (csN t : Nat)) (by omega) (by omega)
  have hsz : (txt t).size = t.length := rfl
  simp only [impl_AppendChecksum, slen, ilt_eq, hsz]
  by_cases c1 : t.length ≤ 4000
  · rw [decide_eq_false (show ¬ (4000 : Int) < (t.length : Int) by omega)]
    simp only [cond_false, strings_Contains, shortB, hsz, decide_eq_true (show t.length < 4294967281 by omega), chk_true', Option.bind_some,
      show (txt t).data.toList = t from rfl, show (⟨#[35]⟩ : ByteArray) = txt [35] from rfl, show (txt [35]).data.toList = [35] from rfl, contains_one]
    by_cases c2 : (35 : UInt8) ∈ t
    · rw [decide_eq_true c2, if_neg (fun h => h.2.1 c2)]; rfl
    · rw [decide_eq_false c2]
      simp only [cond_false]
      rw [sfit_in (by rw [size_bts, size_bts, bts_txt, bts_txt]; simp; omega), chk_true', impl_checksum_eq (by rw [hsz]; omega) hN]
      simp only [Option.bind_some, bts_txt, strconv_Itoa_eq (n := (csN t : Nat)) (by omega) (by omega), scat_txt]
      rw [sfit_in (by rw [size_bts, size_bts, bts_txt, bts_txt]; simp; omega), chk_true']
      have h3 : (txt (t ++ [35] ++ numT (csN t : Nat))).size = (sealT t).length := rfl
      rw [h3]
      by_cases c3 : (sealT t).length ≤ 4000
      · rw [decide_eq_false (show ¬ (4000 : Int) < ((sealT t).length : Int) by omega), if_pos ⟨c1, c2, c3⟩]; rfl
      · rw [decide_eq_true (show (4000 : Int) < ((sealT t).length : Int) by omega), if_neg (fun h => c3 h.2.2)]; rfl
  · rw [decide_eq_true (show (4000 : Int) < (t.length : Int) by omega), if_neg (fun h => c1 h.1)]; rfl
def verB (l : List UInt8) : Bool := decide ((bef 35 l).length ≤ 4000 ∧ (sealT (bef 35 l)).length ≤ 4000 ∧ sealT (bef 35 l) = l)
theorem impl_VerifyChecksum_eq {N : Nat} {l : List UInt8} (ht : l.length < 2000000) (hN : 4194304 ≤ N) :
    impl_VerifyChecksum N (txt l) = some ((if verB l = true then (txt (bef 35 l), true) else (⟨#[]⟩, false)), ()) := by
  have hb := bef_len 35 l
  simp only [impl_VerifyChecksum, show (⟨#[35]⟩ : ByteArray) = txt [35] from rfl, strings_Cut_one (c := 35) (show l.length < 4294967281 by omega), Option.bind_some, impl_AppendChecksum_any (show (bef 35 l).length < 2000000 by omega) hN, bef_not, not_false_eq_true, true_and, verB, decide_eq_true_eq]
  by_cases c : (bef 35 l).length ≤ 4000 ∧ (sealT (bef 35 l)).length ≤ 4000
  · rw [if_pos c]
    simp only [seq_iff, Bool.not_true, cond_false]
    by_cases c2 : sealT (bef 35 l) = l
    · rw [if_pos ⟨c.1, c.2, c2⟩, c2, decide_eq_true rfl]; rfl
    · rw [if_neg (fun h => c2 h.2.2), decide_eq_false (fun e => c2 (by rw [← bts_txt (sealT (bef 35 l)), e, bts_txt]))]; rfl
  · rw [if_neg c, if_neg (fun h => c ⟨h.1, h.2.1⟩)]; rfl
def parI (l : List UInt8) : ByteArray × ByteArray := (txt (bef 64 (aft 32 (if verB l = true then bef 35 l else []))), txt (aft 64 (aft 32 (if verB l = true then bef 35 l else []))))
def decI (k : Nat) (l : List UInt8) : Option (ByteArray × ByteArray) := if encT k (parI l) = (txt (l ++ [10]), true) then some (parI l) else none
structure Line (k : Nat) (l : List UInt8) (e : ByteArray × ByteArray) : Prop where
  hk : k < 60
  hr : RecP e
  heq : lineT k (bts e.1) (bts e.2) = l ++ [10]
theorem txt_inj {a b : List UInt8} (h : txt a = txt b) : a = b := by rw [← bts_txt a, h, bts_txt]
theorem Line.sealed {k : Nat} {l : List UInt8} {e : ByteArray × ByteArray} (h : Line k l e) : l = sealT (textT k (bts e.1) (bts e.2)) := by
  have := h.heq
  unfold lineT at this
  exact ((List.append_inj_left' this rfl)).symm
theorem Line.text {k : Nat} {l : List UInt8} {e : ByteArray × ByteArray} (h : Line k l e) : bef 35 l = textT k (bts e.1) (bts e.2) := by
  rw [h.sealed]
  exact (bef_at (text_no (by omega) h.hr)).1
theorem Line.len {k : Nat} {l : List UInt8} {e : ByteArray × ByteArray} (h : Line k l e) : (textT k (bts e.1) (bts e.2)).length ≤ 400 ∧ l.length ≤ 410 := by
  have h1 := h.hr.n1
  have h2 := h.hr.n2
  have h3 := numT_len (k := (k : Int)) (by omega) (by have := h.hk; omega)
  have h4 := csN_lt (textT k (bts e.1) (bts e.2))
  have h5 := numT_len (k := (csN (textT k (bts e.1) (bts e.2)) : Nat)) (by omega) (by omega)
  have h6 : (textT k (bts e.1) (bts e.2)).length ≤ 400 := by simp only [textT, List.length_append, List.length_singleton]; omega
  refine ⟨h6, ?_⟩
  rw [h.sealed]
  simp only [sealT, List.length_append, List.length_singleton]; omega
theorem Line.ver {k : Nat} {l : List UInt8} {e : ByteArray × ByteArray} (h : Line k l e) : verB l = true := by
  have h1 := h.len
  simp only [verB, decide_eq_true_eq, h.text, ← h.sealed, and_true]
  omega
theorem Line.parI {k : Nat} {l : List UInt8} {e : ByteArray × ByteArray} (h : Line k l e) : parI l = e := by
  have h1 : (32 : UInt8) ∉ numT k := fun hc => by have := (numT_mem (show (0 : Int) ≤ k by omega) _ hc).1; simp at this
  have h2 : (64 : UInt8) ∉ bts e.1 := fun hc => (h.hr.pl1 _ hc).2.2.2 rfl
  have h3 : aft 32 (textT k (bts e.1) (bts e.2)) = bts e.1 ++ [64] ++ bts e.2 := by
    unfold textT
    rw [List.append_assoc, List.append_assoc (numT k ++ [32])]
    rw [(bef_at h1).2]; simp
  unfold Px.parI
  rw [if_pos h.ver, h.text, h3, (bef_at h2).1, (bef_at h2).2]
  rfl
theorem decI_iff {k : Nat} {l : List UInt8} {e : ByteArray × ByteArray} : decI k l = some e ↔ Line k l e := by
  constructor
  · intro h
    unfold decI at h
    split at h
    · rename_i h1
      cases h
      unfold encT at h1
      split at h1
      · rename_i h2
        have h3 := txt_inj (Prod.mk.inj h1).1
        have h4 := h2.1
        simp only [inRg, Bool.and_eq_true, decide_eq_true_eq] at h4
        exact ⟨by omega, recB_iff.1 h2.2, h3⟩
      · cases (Prod.mk.inj h1).2
    · cases h
  · intro h
    have h1 : inRg 0 59 (k : Int) = true := by have := h.hk; simp only [inRg, Bool.and_eq_true, decide_eq_true_eq]; omega
    unfold decI
    rw [h.parI, if_pos]
    unfold encT
    rw [if_pos ⟨h1, recB_iff.2 h.hr⟩, h.heq]
theorem aft_text {k : Nat} {e : ByteArray × ByteArray} : (textT k (bts e.1) (bts e.2)).take (numT k ++ [32]).length = numT k ++ [32] ∧ (textT k (bts e.1) (bts e.2)).drop (numT k ++ [32]).length = bts e.1 ++ [64] ++ bts e.2 := by
  unfold textT
  rw [List.append_assoc, List.append_assoc (numT k ++ [32])]
  exact ⟨List.take_left .., by rw [List.drop_left]; simp⟩
theorem spec_l12Decode_eq {N : Nat} {l : List UInt8} {k : Nat} (hl : l.length < 1000000) (hk : k < 60) (hN : 4194304 ≤ N) :
    ∃ e b, spec_l12Decode N (txt l) k = some ((e, b), ()) ∧ (b = true → decI k l = some e) ∧ (b = false → decI k l = none) := by
  have hb := bef_len 35 l
  have hn := numT_len (k := (k : Int)) (by omega) (by omega)
  have ha : (numT k ++ [32]).length = (numT k).length + 1 := by simp
  have none_of : (∀ e, ¬ Line k l e) → decI k l = none := fun h => by
    cases hd : decI k l with
    | none => rfl
    | some e => exact absurd (decI_iff.1 hd) (h e)
  have hsp : 0 < ((spl 35 [] l).map txt).length := by have := spl_pos 35 l []; simp; omega
  simp only [spec_l12Decode, spec_l1Num_eq (n := (k : Int)) (by omega) (by omega) hN, Option.bind_some, show (⟨#[32]⟩ : ByteArray) = txt [32] from rfl, scat_txt]
  rw [sfit_in (by rw [size_bts, size_bts, bts_txt, bts_txt]; simp; omega), chk_true', show (35 : Int) = ((35 : UInt8).toNat : Int) from rfl, spec_l1Split_eq (c := 35) (by omega) hN]
  simp only [Option.bind_some]
  rw [show (0 : Int) = ((0 : Nat) : Int) from rfl, inB_true hsp, chk_true', show ((0 : Nat) : Int) = 0 from rfl]
  simp only [spl_head, List.nil_append, show ∀ x : List UInt8, slen (txt x) = (x.length : Int) from fun _ => rfl, ilt_eq]
  by_cases c1 : (bef 35 l).length < (numT k ++ [32]).length
  · rw [decide_eq_true (by omega)]
    refine ⟨_, _, rfl, (fun h => by cases h), fun _ => none_of fun e he => ?_⟩
    have := he.text
    have h2 := (aft_text (k := k) (e := e)).1
    rw [this] at c1
    have h3 := congrArg List.length h2
    rw [List.length_take] at h3
    omega
  rw [decide_eq_false (by omega)]
  simp only [cond_false]
  rw [cutB_in (by omega) (by omega) (by show _ ≤ ((bef 35 l).length : Int); omega), chk_true', show (0 : Int) = ((0 : Nat) : Int) from rfl, scut_txt, bts_txt, List.drop_zero]
  simp only [seq_iff]
  rcases (Classical.em ((bef 35 l).take (numT k ++ [32]).length = numT k ++ [32])).symm with c2 | c2
  · rw [decide_eq_false (fun e => c2 (txt_inj e))]
    refine ⟨_, _, rfl, (fun h => by cases h), fun _ => none_of fun e he => c2 ?_⟩
    rw [he.text]; exact (aft_text (k := k) (e := e)).1
  rw [decide_eq_true (by rw [c2])]
  simp only [Bool.not_true, cond_false]
  rw [cutB_in (by omega) (by omega) (by show _ ≤ ((bef 35 l).length : Int); omega), chk_true', scut_txt, bts_txt, List.take_length]
  generalize hR : (bef 35 l).drop (numT k ++ [32]).length = R
  have hRl : R.length < 1000000 := by rw [← hR, List.length_drop]; omega
  have hb2 := bef_len 64 R
  have hsp2 : 0 < ((spl 64 [] R).map txt).length := by have := spl_pos 64 R []; simp; omega
  rw [show (64 : Int) = ((64 : UInt8).toNat : Int) from rfl, spec_l1Split_eq (c := 64) (by omega) hN]
  simp only [Option.bind_some]
  rw [inB_true hsp2, chk_true']
  simp only [spl_head, List.nil_append, ieq_eq, show ∀ x : List UInt8, slen (txt x) = (x.length : Int) from fun _ => rfl]
  by_cases c3 : (bef 64 R).length = R.length
  · rw [decide_eq_true (by omega)]
    refine ⟨_, _, rfl, (fun h => by cases h), fun _ => none_of fun e he => ?_⟩
    have h2 := (aft_text (k := k) (e := e)).2
    rw [← he.text, hR] at h2
    have h3 : (64 : UInt8) ∉ bts e.1 := fun hc => (he.hr.pl1 _ hc).2.2.2 rfl
    rw [h2, (bef_at h3).1] at c3
    simp only [List.length_append, List.length_singleton] at c3; omega
  have h64 : (64 : UInt8) ∈ R := by
    by_cases h : (64 : UInt8) ∈ R
    · exact h
    · exact absurd (congrArg List.length (bef_all h).1) c3
  have hlt : (bef 64 R).length + 1 ≤ R.length := by omega
  rw [decide_eq_false (by omega), iadd_in (by omega) (by omega), show ((bef 64 R).length : Int) + 1 = (((bef 64 R).length + 1 : Nat) : Int) by omega]
  simp only [cond_false]
  rw [cutB_in (by omega) (by omega) (by show _ ≤ (R.length : Int); omega), chk_true', scut_txt, bts_txt, List.take_length]
  have hdr : R.drop ((bef 64 R).length + 1) = aft 64 R := drop_bef h64
  rw [hdr]
  have haf := aft_len 64 R
  generalize hE : ((txt (bef 64 R), txt (aft 64 R)) : ByteArray × ByteArray) = E
  have hE1 : E.1.size = (bef 64 R).length := by rw [← hE]; rfl
  have hE2 : E.2.size = (aft 64 R).length := by rw [← hE]; rfl
  rw [spec_l12Record_eq (by omega) (by omega) hN]
  simp only [Option.bind_some]
  have hEq : ∀ e, Line k l e → E = e := fun e he => by
    have h2 := (aft_text (k := k) (e := e)).2
    rw [← he.text, hR] at h2
    have h3 : (64 : UInt8) ∉ bts e.1 := fun hc => (he.hr.pl1 _ hc).2.2.2 rfl
    rw [← hE, h2, (bef_at h3).1, (bef_at h3).2]; rfl
  cases hrec : recB E with
  | false =>
    refine ⟨_, _, rfl, (fun h => by cases h), fun _ => none_of fun e he => ?_⟩
    rw [hEq e he] at hrec
    rw [recB_iff.2 he.hr] at hrec; cases hrec
  | true =>
    have hp := recB_iff.1 hrec
    simp only [cond_true]
    rw [spec_l12Line_eq (e := E) (by omega) (by omega) (by omega) (by omega) hN]
    simp only [Option.bind_some, show (⟨#[10]⟩ : ByteArray) = txt [10] from rfl]
    rw [sfit_in (by rw [size_bts, size_bts, bts_txt, bts_txt]; simp; omega), chk_true', scat_txt]
    by_cases c4 : lineT k (bts E.1) (bts E.2) = l ++ [10]
    · rw [c4, decide_eq_true rfl]
      exact ⟨_, _, rfl, fun _ => decI_iff.2 ⟨hk, hp, c4⟩, fun h => by cases h⟩
    · rw [decide_eq_false (fun e => c4 (txt_inj e))]
      refine ⟨_, _, rfl, (fun h => by cases h), fun _ => none_of fun e he => c4 ?_⟩
      rw [hEq e he]; exact he.heq
def nxR (k : Nat) (l : List UInt8) : Option (ByteArray × ByteArray) := if (10 : UInt8) ∈ l then decI k (bef 10 l) else none
def rdR : Nat → Nat → List UInt8 → List (ByteArray × ByteArray)
  | 0, _, _ => []
  | n + 1, k, l => match nxR k l with
    | some e => e :: rdR n (k + 1) (aft 10 l)
    | none => []
def rdE : Nat → Nat → List UInt8 → Nat → List Nat
  | 0, _, _, _ => []
  | n + 1, k, l, a => match nxR k l with
    | some _ => (a + ((bef 10 l).length + 1)) :: rdE n (k + 1) (aft 10 l) (a + ((bef 10 l).length + 1))
    | none => []
def rdC : Nat → Nat → List UInt8 → Nat
  | 0, _, _ => 0
  | n + 1, k, l => match nxR k l with
    | some _ => (bef 10 l).length + 1 + rdC n (k + 1) (aft 10 l)
    | none => 0
theorem nxR_nl {k : Nat} {l : List UInt8} {e : ByteArray × ByteArray} (h : nxR k l = some e) : (10 : UInt8) ∈ l ∧ decI k (bef 10 l) = some e := by
  unfold nxR at h
  split at h
  · rename_i h1; exact ⟨h1, h⟩
  · cases h
theorem rdE_len (n k : Nat) (l : List UInt8) (a : Nat) : (rdE n k l a).length = (rdR n k l).length := by
  induction n generalizing k l a with
  | zero => rfl
  | succ n ih =>
    simp only [rdE, rdR]
    cases nxR k l with
    | none => rfl
    | some e => simp [ih]
theorem rdR_len (n k : Nat) (l : List UInt8) : (rdR n k l).length ≤ n := by
  induction n generalizing k l with
  | zero => simp [rdR]
  | succ n ih =>
    simp only [rdR]
    cases nxR k l with
    | none => simp
    | some e => have := ih (k + 1) (aft 10 l); simp; omega
theorem aft_eq {l : List UInt8} (h : (10 : UInt8) ∈ l) : l.length = (bef 10 l).length + 1 + (aft 10 l).length := by
  have := congrArg List.length (bef_aft h)
  simp at this
  omega
theorem rdE_last (n k : Nat) (l : List UInt8) (a : Nat) : (a :: rdE n k l a)[(rdR n k l).length]? = some (a + rdC n k l) := by
  induction n generalizing k l a with
  | zero => rfl
  | succ n ih =>
    simp only [rdE, rdR, rdC]
    cases h : nxR k l with
    | none => simp
    | some e =>
      simp only [List.length_cons, List.getElem?_cons_succ]
      rw [ih (k + 1) (aft 10 l) (a + ((bef 10 l).length + 1))]
      simp only [Option.some.injEq]; omega
theorem rdE_ge (n k : Nat) (l : List UInt8) (a : Nat) : ∀ x ∈ rdE n k l a, a < x ∧ x ≤ a + l.length := by
  induction n generalizing k l a with
  | zero => intro x hx; cases hx
  | succ n ih =>
    intro x hx
    simp only [rdE] at hx
    cases h : nxR k l with
    | none => rw [h] at hx; cases hx
    | some e =>
      rw [h] at hx
      have h1 := aft_eq (nxR_nl h).1
      rcases List.mem_cons.1 hx with rfl | hx
      · omega
      · have := ih (k + 1) (aft 10 l) _ x hx; omega
abbrev ints (l : List Nat) : List Int := l.map fun x : Nat => (x : Int)
theorem read_loop {N : Nat} {s : ByteArray} (hs : (bts s).length ≤ 1000000) (hN : 4194304 ≤ N) : ∀ (n at_ : Nat) (v4 : List (ByteArray × ByteArray)) (v5 : List Int), v4.length + n = 60 → v5.length ≤ v4.length + 1 → at_ ≤ (bts s).length → ∀ m, n < m →
    impl_readRecords_L1 N m s (at_ : Int) v4 v5 = some ((v4 ++ rdR n v4.length ((bts s).drop at_), v5 ++ ints (rdE n v4.length ((bts s).drop at_) at_)), ()) := by
  intro n
  induction n with
  | zero =>
    intro at_ v4 v5 h4 h5 ha m hm
    obtain ⟨q, rfl⟩ : ∃ q, m = q + 1 := ⟨m - 1, by omega⟩
    rw [impl_readRecords_L1_succ]
    simp only [impl_readRecords_B1, impl_readRecords_K1, ilt_eq, len_eq, decide_eq_false (show ¬ (v4.length : Int) < 60 by omega), cond_false, rdR, rdE, ints, List.map_nil, List.append_nil]
  | succ n ih =>
    intro at_ v4 v5 h4 h5 ha m hm
    obtain ⟨q, rfl⟩ : ∃ q, m = q + 1 := ⟨m - 1, by omega⟩
    generalize hl : (bts s).drop at_ = l
    have hll : l.length ≤ 1000000 := by rw [← hl, List.length_drop]; omega
    have hbl := bef_len 10 l
    rw [impl_readRecords_L1_succ]
    simp only [impl_readRecords_B1, impl_readRecords_K1, ilt_eq, len_eq, decide_eq_true (show (v4.length : Int) < 60 by omega), cond_true]
    rw [show slen s = (((bts s).length : Nat) : Int) from rfl, cutB_in (by omega) (by omega) (by rw [size_bts]; omega), chk_true', scut_txt, List.take_length, hl]
    simp only [show (⟨#[10]⟩ : ByteArray) = txt [10] from rfl, show (⟨#[32]⟩ : ByteArray) = txt [32] from rfl, show (⟨#[64]⟩ : ByteArray) = txt [64] from rfl, strings_Cut_one (c := 10) (show l.length < 4294967281 by omega), Option.bind_some, rdR, rdE, nxR]
    rcases Classical.em ((10 : UInt8) ∈ l) with h10 | h10
    · have hbl2 := bef_len 35 (bef 10 l)
      generalize hT : (if verB (bef 10 l) = true then bef 35 (bef 10 l) else []) = T
      have hTl : T.length ≤ 1000000 := by rw [← hT]; split <;> (try simp) <;> omega
      have hv : ∃ b, impl_VerifyChecksum N (txt (bef 10 l)) = some ((txt T, b), ()) := by
        rw [impl_VerifyChecksum_eq (by omega) hN, ← hT]
        split
        · exact ⟨_, rfl⟩
        · exact ⟨_, rfl⟩
      obtain ⟨b, hv⟩ := hv
      have haf := aft_len 32 T
      have hpar : ((txt (bef 64 (aft 32 T)), txt (aft 64 (aft 32 T))) : ByteArray × ByteArray) = parI (bef 10 l) := by rw [← hT]; rfl
      have hb6 := bef_len 64 (aft 32 T)
      have ha6 := aft_len 64 (aft 32 T)
      rw [decide_eq_true h10, if_pos h10]
      simp only [Bool.not_true, cond_false, hv, Option.bind_some, strings_Cut_one (c := 32) (show T.length < 4294967281 by omega), strings_Cut_one (c := 64) (show (aft 32 T).length < 4294967281 by omega)]
      rw [impl_EncodeRecord_eq (by show (bef 64 (aft 32 T)).length < 4194304; omega) (by show (aft 64 (aft 32 T)).length < 4194304; omega) hN, hpar]
      simp only [Option.bind_some, decI, seq_iff, scat_txt]
      cases he2 : (encT (v4.length : Nat) (parI (bef 10 l))).2 with
      | false =>
        rw [if_neg (fun e => by rw [e] at he2; cases he2)]
        simp only [Bool.not_false, cond_true, List.append_nil, ints, List.map_nil]
      | true =>
        simp only [Bool.not_true, cond_false]
        rw [sfit_in (by rw [size_bts, size_bts, bts_txt, bts_txt]; simp; omega), chk_true']
        by_cases he1 : (encT (v4.length : Nat) (parI (bef 10 l))).1 = txt (bef 10 l ++ [10])
        · rw [if_pos (Prod.ext he1 he2), decide_eq_true he1]
          simp only [Bool.not_true, cond_false]
          have haf2 := aft_eq h10
          have hat : at_ + ((bef 10 l).length + 1) ≤ (bts s).length := by
            have : l.length = (bts s).length - at_ := by rw [← hl, List.length_drop]
            omega
          have hw : iadd .i64 (at_ : Int) (iadd .i64 (slen (txt (bef 10 l))) 1) = ((at_ + ((bef 10 l).length + 1) : Nat) : Int) := by
            rw [show slen (txt (bef 10 l)) = (((bef 10 l).length : Nat) : Int) from rfl, iadd_nat (show (bef 10 l).length < 4611686018427387904 by omega), iadd_in (by omega) (by omega)]
            omega
          have hdr : (bts s).drop (at_ + ((bef 10 l).length + 1)) = aft 10 l := by
            rw [← List.drop_drop, hl, drop_bef h10]
          rw [hw, fitB_in (by omega) (by omega), chk_true', fitB_in (by omega) (by omega), chk_true', ih _ _ _ (by simp; omega) (by simp; omega) hat q (by omega), hdr]
          simp only [List.length_append, List.length_singleton, List.append_assoc, List.singleton_append, ints, List.map_cons]
        · rw [if_neg (fun e => he1 (Prod.mk.inj e).1), decide_eq_false he1]
          simp only [Bool.not_false, cond_true, List.append_nil, ints, List.map_nil]
    · rw [decide_eq_false h10, if_neg h10]
      simp only [Bool.not_false, cond_true, List.append_nil, ints, List.map_nil]
theorem impl_readRecords_eq {N : Nat} {s : ByteArray} (hs : (bts s).length ≤ 1000000) (hN : 4194304 ≤ N) : impl_readRecords N s = some ((rdR 60 0 (bts s), (0 : Int) :: ints (rdE 60 0 (bts s) 0)), ()) := by
  have := read_loop hs hN 60 0 [] [0] (by simp) (by simp) (by omega) N (by omega)
  simp only [impl_readRecords]
  rw [show ((0 : Nat) : Int) = 0 from rfl] at this
  rw [this]; rfl
theorem open_loop {N : Nat} {s : ByteArray} (hs : (bts s).length ≤ 900000) (hN : 4194304 ≤ N) : ∀ (n at_ : Nat) (v4 : List (ByteArray × ByteArray)), v4.length + n = 60 → at_ ≤ (bts s).length → ∀ m, n < m →
    spec_l12Open_L1 N m s (at_ : Int) v4 = some ((v4 ++ rdR n v4.length ((bts s).drop at_), ((at_ + rdC n v4.length ((bts s).drop at_) : Nat) : Int)), ()) := by
  intro n
  induction n with
  | zero =>
    intro at_ v4 h4 ha m hm
    obtain ⟨q, rfl⟩ : ∃ q, m = q + 1 := ⟨m - 1, by omega⟩
    rw [spec_l12Open_L1_succ]
    simp only [spec_l12Open_B1, spec_l12Open_K1, ilt_eq, len_eq, decide_eq_false (show ¬ (v4.length : Int) < 60 by omega), cond_false, rdR, rdC, List.append_nil, Nat.add_zero]
    cases decide ((at_ : Int) < slen s) <;> rfl
  | succ n ih =>
    intro at_ v4 h4 ha m hm
    obtain ⟨q, rfl⟩ : ∃ q, m = q + 1 := ⟨m - 1, by omega⟩
    generalize hl : (bts s).drop at_ = l
    have hl2 : l.length = (bts s).length - at_ := by rw [← hl, List.length_drop]
    have hbl := bef_len 10 l
    rw [spec_l12Open_L1_succ]
    simp only [spec_l12Open_B1, spec_l12Open_K1, ilt_eq, len_eq, decide_eq_true (show (v4.length : Int) < 60 by omega), cond_true]
    rw [show slen s = (((bts s).length : Nat) : Int) from rfl]
    by_cases hat : at_ < (bts s).length
    · rw [decide_eq_true (by omega)]
      simp only [cond_true]
      have hsp : 0 < ((spl 10 [] l).map txt).length := by have := spl_pos 10 l []; simp; omega
      rw [cutB_in (by omega) (by omega) (by rw [size_bts]; omega), chk_true', scut_txt, List.take_length, hl, show (10 : Int) = ((10 : UInt8).toNat : Int) from rfl, spec_l1Split_eq (c := 10) (by omega) hN]
      simp only [Option.bind_some]
      rw [show (0 : Int) = ((0 : Nat) : Int) from rfl, inB_true hsp, chk_true']
      simp only [spl_head, List.nil_append]
      obtain ⟨e, b, h1, h2, h3⟩ := spec_l12Decode_eq (N := N) (l := bef 10 l) (k := v4.length) (by omega) (by omega) hN
      rw [h1]
      simp only [Option.bind_some, List.length_map]
      by_cases h10 : (10 : UInt8) ∈ l
      · have h11 := (spl_two 10 l []).2 h10
        rw [decide_eq_false (by omega)]
        simp only [cond_false, rdR, rdC, nxR, if_pos h10]
        cases b with
        | false => rw [h3 rfl]; simp
        | true =>
          rw [h2 rfl]
          simp only [Bool.not_true, cond_false]
          have haf2 := aft_eq h10
          have hw : iadd .i64 (iadd .i64 (at_ : Int) (slen (txt (bef 10 l)))) 1 = ((at_ + ((bef 10 l).length + 1) : Nat) : Int) := by
            have e1 : iadd .i64 (at_ : Int) (slen (txt (bef 10 l))) = (at_ : Int) + ((bef 10 l).length : Int) := iadd_in (by show -9223372036854775808 ≤ (at_ : Int) + ((bef 10 l).length : Int); omega) (by show (at_ : Int) + ((bef 10 l).length : Int) < _; omega)
            rw [e1, iadd_in (by omega) (by omega)]
            omega
          have hdr : (bts s).drop (at_ + ((bef 10 l).length + 1)) = aft 10 l := by
            rw [← List.drop_drop, hl, drop_bef h10]
          rw [hw, fitB_in (by omega) (by omega), chk_true', ih _ _ (by simp; omega) (by omega) q (by omega), hdr]
          simp only [List.length_append, List.length_singleton, List.append_assoc, List.singleton_append, chk_true', Option.some.injEq, Prod.mk.injEq, and_true, true_and]
          omega
      · have h11 : ¬ 2 ≤ (spl 10 [] l).length := fun h => h10 ((spl_two 10 l []).1 h)
        rw [decide_eq_true (by omega)]
        simp [rdR, rdC, nxR, h10]
    · rw [decide_eq_false (by omega)]
      have : l = [] := List.eq_nil_of_length_eq_zero (by omega)
      subst this
      simp [rdR, rdC, nxR]
theorem spec_l12Open_eq {N : Nat} {s : ByteArray} (hs : (bts s).length ≤ 900000) (hN : 4194304 ≤ N) : spec_l12Open N s = some ((rdR 60 0 (bts s), ((rdC 60 0 (bts s) : Nat) : Int)), ()) := by
  have := open_loop hs hN 60 0 [] (by simp) (by omega) N (by omega)
  simp only [spec_l12Open]
  rw [show ((0 : Nat) : Int) = 0 from rfl] at this
  rw [this]; simp
theorem gd_last (l : List UInt8) : gd ((0 : Int) :: ints (rdE 60 0 l 0)) (rdR 60 0 l).length 0 = ((rdC 60 0 l : Nat) : Int) := by
  have h := rdE_last 60 0 l 0
  have h2 : ((0 : Int) :: ints (rdE 60 0 l 0)) = ints (0 :: rdE 60 0 l 0) := rfl
  rw [h2, gd, List.getD_eq_getElem?_getD, List.getElem?_map, h]
  simp
theorem ends_len (l : List UInt8) : ((0 : Int) :: ints (rdE 60 0 l 0)).length = (rdR 60 0 l).length + 1 := by simp [rdE_len]
theorem bef_app {c : UInt8} {D P : List UInt8} (h : c ∈ D) : bef c (D ++ P) = bef c D ∧ aft c (D ++ P) = aft c D ++ P := by
  have h1 := bef_aft h
  have h2 := bef_at (r := aft c D ++ P) (bef_not c D)
  have h3 : bef c D ++ [c] ++ (aft c D ++ P) = D ++ P := by
    conv => rhs; rw [h1]
    simp
  rw [h3] at h2; exact h2
theorem bef_pass {c : UInt8} : ∀ {D P : List UInt8}, c ∉ D → bef c (D ++ P) = D ++ bef c P
  | [], _, _ => rfl
  | b :: D, P, h => by
    rw [List.mem_cons, not_or] at h
    rw [List.cons_append, bef_cons, if_neg (fun e => h.1 e.symm), bef_pass h.2]; rfl
theorem rdE_first (n k : Nat) (l : List UInt8) (a : Nat) : ∀ x ∈ rdE n k l a, a + (bef 10 l).length + 1 ≤ x := by
  intro x hx
  cases n with
  | zero => cases hx
  | succ n =>
    simp only [rdE] at hx
    cases h : nxR k l with
    | none => rw [h] at hx; cases hx
    | some e =>
      rw [h] at hx
      rcases List.mem_cons.1 hx with rfl | hx
      · omega
      · have := (rdE_ge n (k + 1) (aft 10 l) _ x hx).1; omega
theorem durable (P : List UInt8) : ∀ (n k : Nat) (D : List UInt8) (a : Nat), rdC n k D = D.length ↔ a + D.length ∈ a :: rdE n k (D ++ P) a := by
  intro n
  induction n with
  | zero =>
    intro k D a
    simp only [rdC, rdE, List.mem_singleton]
    omega
  | succ n ih =>
    intro k D a
    by_cases h10 : (10 : UInt8) ∈ D
    · obtain ⟨h1, h2⟩ := bef_app (P := P) h10
      have h3 : nxR k (D ++ P) = nxR k D := by unfold nxR; rw [if_pos (List.mem_append_left _ h10), if_pos h10, h1]
      have h4 := aft_eq h10
      simp only [rdC, rdE, h3, h1, h2]
      cases nxR k D with
      | none =>
        simp only [List.mem_singleton]
        omega
      | some e =>
        simp only [List.mem_cons]
        have := ih (k + 1) (aft 10 D) (a + ((bef 10 D).length + 1))
        rw [List.mem_cons, show a + ((bef 10 D).length + 1) + (aft 10 D).length = a + D.length by omega] at this
        rw [← this]
        omega
    · by_cases hD : D = []
      · subst hD
        have : nxR k [] = none := by simp [nxR]
        simp [rdC, this]
      · have h0 : 0 < D.length := List.length_pos_iff.2 hD
        have h1 : nxR k D = none := by unfold nxR; rw [if_neg h10]
        have h2 : a + D.length ∉ a :: rdE (n + 1) k (D ++ P) a := by
          rw [List.mem_cons, not_or]
          refine ⟨by omega, fun hx => ?_⟩
          have := rdE_first (n + 1) k (D ++ P) a _ hx
          rw [bef_pass h10, List.length_append] at this
          omega
        have h3 : rdC (n + 1) k D = 0 := by simp [rdC, h1]
        rw [h3]
        exact ⟨fun h => by omega, fun h => absurd h h2⟩
theorem slices_Contains_eq {N : Nat} {s : List Int} {v : Int} (hs : s.length < 4194304) (hN : 4194304 ≤ N) : slices_Contains_int_int N s v = some (decide (v ∈ s), ()) := by
  have key : ∃ r, slices_Index_int_int N s v = some (r, ()) ∧ (0 ≤ r ↔ v ∈ s) := by
    simp only [slices_Index_int_int, len_eq]
    rcases first_cases (fun i => !decide (v = gd s i 0)) s.length with h | ⟨j, hj, hb, hat⟩
    · have hh : ∀ i, i < s.length → ¬ v = gd s i 0 := fun i hi => by simpa using h i hi
      refine ⟨-1, ?_, ⟨fun h => by omega, fun hm => ?_⟩⟩
      · refine slices_Index_int_int_L1_run N (fun _ => s) (fun _ => v) (fun _ => (s.length : Int)) (fun i => (i : Int)) s.length (fun i hi kx => ?_) (fun kx => ?_) N (by omega)
        · simp only [slices_Index_int_int_B1, ilt_eq, ieq_eq, Int.ofNat_lt, hi, decide_true, cond_true, inB_true hi, chk_true', Int.toNat_natCast, decide_eq_false (hh i hi), cond_false, iadd_nat (show i < 4611686018427387904 by omega)]
        · simp only [slices_Index_int_int_B1, slices_Index_int_int_K1, ilt_eq, Int.lt_irrefl, decide_false, cond_false]
      · obtain ⟨i, hi, e⟩ := List.mem_iff_getElem.1 hm
        exact absurd (by simp [gd, List.getD_eq_getElem?_getD, hi, e]) (hh i hi)
    · have hat' : v = gd s j 0 := by simpa using hat
      refine ⟨(j : Int), ?_, ⟨fun _ => hat' ▸ mem_getD 0 hj, fun _ => by omega⟩⟩
      refine slices_Index_int_int_L1_run N (fun _ => s) (fun _ => v) (fun _ => (s.length : Int)) (fun i => (i : Int)) j (fun i hi kx => ?_) (fun kx => ?_) N (by omega)
      · have h1 : ¬ v = gd s i 0 := by simpa using hb i hi
        simp only [slices_Index_int_int_B1, ilt_eq, ieq_eq, Int.ofNat_lt, show i < s.length by omega, decide_true, cond_true, inB_true (show i < s.length by omega), chk_true', Int.toNat_natCast, decide_eq_false h1, cond_false, iadd_nat (show i < 4611686018427387904 by omega)]
      · simp only [slices_Index_int_int_B1, ilt_eq, ieq_eq, Int.ofNat_lt, hj, decide_true, cond_true, inB_true hj, chk_true', Int.toNat_natCast, decide_eq_true hat']
  obtain ⟨r, h1, h2⟩ := key
  simp only [slices_Contains_int_int, h1, Option.bind_some, ile_eq]
  rw [decide_eq_decide.2 h2]
abbrev Lo : Type := ByteArray × ByteArray × Int
def logB (l : Lo) : Bool := decide (l.1.size + l.2.1.size ≤ 30000) && (decide (rdC 60 0 (bts l.1 ++ bts l.2.1) = l.1.size + l.2.1.size) && (decide (rdC 60 0 (bts l.1) = l.1.size) && decide (l.2.2 = ((rdR 60 0 (bts l.1 ++ bts l.2.1)).length : Int))))
theorem scat_eq (a b : ByteArray) : scat a b = txt (bts a ++ bts b) := txt_ext (scat_bts a b)
theorem impl_IsValidLog_eq {N : Nat} {l : Lo} (h1 : l.1.size < 4194304) (h2 : l.2.1.size < 4194304) (hN : 4194304 ≤ N) : impl_IsValidLog N l = some (logB l, ()) := by
  obtain ⟨D, P, n⟩ := l
  simp only at h1 h2
  simp only [impl_IsValidLog, slen, ilt_eq, logB, iadd_in (show -9223372036854775808 ≤ (D.size : Int) + P.size by omega) (by omega)]
  by_cases c : D.size + P.size ≤ 30000
  · have hlen : (bts D ++ bts P).length = D.size + P.size := by rw [List.length_append, size_bts, size_bts]
    have hR := rdR_len 60 0 (bts D ++ bts P)
    rw [decide_eq_false (by omega), decide_eq_true c, scat_eq]
    simp only [cond_false]
    rw [sfit_in (by omega), chk_true', impl_readRecords_eq (by rw [bts_txt]; omega) hN]
    simp only [Option.bind_some, bts_txt, len_eq, Int.toNat_natCast, gd_last, ieq_eq, Bool.true_and]
    rw [inB_true (by rw [ends_len]; omega), chk_true', slices_Contains_eq (by rw [ends_len]; omega) hN]
    have hd := durable (bts P) 60 0 (bts D) 0
    rw [Nat.zero_add, ← size_bts] at hd
    have hm : ((D.size : Nat) : Int) ∈ (0 : Int) :: ints (rdE 60 0 (bts D ++ bts P) 0) ↔ D.size ∈ 0 :: rdE 60 0 (bts D ++ bts P) 0 := by
      rw [show ((0 : Int) :: ints (rdE 60 0 (bts D ++ bts P) 0)) = ints (0 :: rdE 60 0 (bts D ++ bts P) 0) from rfl, List.mem_map]
      exact ⟨fun ⟨x, hx, e⟩ => by obtain rfl : x = D.size := by omega
                                  exact hx, fun h => ⟨_, h, rfl⟩⟩
    have e1 : decide (((D.size : Nat) : Int) ∈ (0 : Int) :: ints (rdE 60 0 (bts D ++ bts P) 0)) = decide (rdC 60 0 (bts D) = D.size) := decide_eq_decide.2 (hm.trans hd.symm)
    rw [e1]
    by_cases e2 : rdC 60 0 (bts D ++ bts P) = D.size + P.size
    · rw [decide_eq_true (show ((rdC 60 0 (bts D ++ bts P) : Nat) : Int) = (D.size : Int) + P.size by omega), decide_eq_true e2]
      cases decide (n = ((rdR 60 0 (bts D ++ bts P)).length : Int)) <;> cases decide (rdC 60 0 (bts D) = D.size) <;> rfl
    · rw [decide_eq_false (show ¬ ((rdC 60 0 (bts D ++ bts P) : Nat) : Int) = (D.size : Int) + P.size by omega), decide_eq_false e2]; rfl
  · rw [decide_eq_true (by omega), decide_eq_false c]; rfl
theorem spec_l12Valid_eq {N : Nat} {l : Lo} (h1 : l.1.size < 4194304) (h2 : l.2.1.size < 4194304) (hN : 4194304 ≤ N) : spec_l12Valid N l = some (logB l, ()) := by
  obtain ⟨D, P, n⟩ := l
  simp only at h1 h2
  simp only [spec_l12Valid, slen, ilt_eq, logB, iadd_in (show -9223372036854775808 ≤ (D.size : Int) + P.size by omega) (by omega)]
  by_cases c : D.size + P.size ≤ 30000
  · have hlen : (bts D ++ bts P).length = D.size + P.size := by rw [List.length_append, size_bts, size_bts]
    have hlD : (bts D).length = D.size := rfl
    rw [decide_eq_false (by omega), decide_eq_true c, scat_eq]
    simp only [cond_false]
    rw [sfit_in (by omega), chk_true', spec_l12Open_eq (by rw [bts_txt]; omega) hN]
    simp only [Option.bind_some, spec_l12Open_eq (s := D) (by omega) hN, bts_txt, len_eq, ieq_eq, Bool.true_and]
    by_cases e2 : rdC 60 0 (bts D ++ bts P) = D.size + P.size
    · rw [decide_eq_true (show ((rdC 60 0 (bts D ++ bts P) : Nat) : Int) = (D.size : Int) + P.size by omega), decide_eq_true e2]
      by_cases e3 : rdC 60 0 (bts D) = D.size
      · rw [decide_eq_true (show ((rdC 60 0 (bts D) : Nat) : Int) = (D.size : Int) by omega), decide_eq_true e3]
        simp only [cond_true, Bool.true_and, eq_comm]
      · rw [decide_eq_false (show ¬ ((rdC 60 0 (bts D) : Nat) : Int) = (D.size : Int) by omega), decide_eq_false e3]; rfl
    · rw [decide_eq_false (show ¬ ((rdC 60 0 (bts D ++ bts P) : Nat) : Int) = (D.size : Int) + P.size by omega), decide_eq_false e2]; rfl
  · rw [decide_eq_true (by omega), decide_eq_false c]; rfl
abbrev RngLo (l : Lo) : Prop := RngS l.1 ∧ RngS l.2.1 ∧ RngZ l.2.2
theorem laws_szLog_eq (N : Nat) {l : Lo} {left : Int} (h : RngLo l) (h1 : 0 ≤ left) (h2 : left ≤ 1048576) : ∃ r, laws_szLog N l left = some (r, ()) ∧ (r < 0 ∨ 0 ≤ r ∧ r ≤ left ∧ (l.1.size : Int) ≤ left ∧ (l.2.1.size : Int) ≤ left) := by
  obtain ⟨a, b, _⟩ := h
  unfold RngS maxLen at a b
  simp only [laws_szLog, slen, ilt_eq, isub_in (show -9223372036854775808 ≤ left - l.1.size by omega) (by omega)]
  by_cases c : left - (l.1.size : Int) < 0
  · exact ⟨-1, by simp [c], .inl (by omega)⟩
  · rw [isub_in (show -9223372036854775808 ≤ left - (l.1.size : Int) - l.2.1.size by omega) (by omega)]
    by_cases c2 : left - (l.1.size : Int) - l.2.1.size < 0
    · exact ⟨-1, by simp [c, c2], .inl (by omega)⟩
    · exact ⟨left - l.1.size - l.2.1.size, by simp [c, c2], .inr (by omega)⟩
abbrev RngCon (c : Lg × Lo) : Prop := RngLg c.1 ∧ RngLo c.2
theorem laws_FnExactIsValidConsole_law (c : Lg × Lo) (h : RngCon c) : ∃ N, laws_FnExactIsValidConsole N c = some (true, ()) := by
  refine ⟨4194304, ?_⟩
  have hn := Nat.le_refl 4194304
  simp only [laws_FnExactIsValidConsole, laws_szConsole, ilt_eq]
  obtain ⟨r1, e1, q1⟩ := laws_szLedger_eq 4194304 h.1 (show (0 : Int) ≤ 1048576 by omega) (by omega)
  rcases q1 with q1 | ⟨q1, q2, hs⟩
  · simp [e1, q1]
  obtain ⟨r2, e2, p⟩ := laws_szLog_eq 4194304 h.2 q1 q2
  have n0 : ¬ r1 < 0 := by omega
  rcases p with p | ⟨p, p1, p2, p3⟩
  · simp [e1, n0, e2, p]
  · have n1 : ¬ r2 < 0 := by omega
    have s1 : c.2.1.size < 4194304 := by omega
    have s2 : c.2.2.1.size < 4194304 := by omega
    simp only [e1, Option.bind_some, decide_eq_false n0, cond_false, e2, decide_eq_false n1, laws_toConsole, laws_toLedger_eq hs hn, laws_toLog, spec_IsValidConsole, impl_IsValidConsole, spec_l12Good_eq hs hn, impl_IsLedger_eq hs hn,
      spec_l12Valid_eq (l := (c.2.1, c.2.2.1, c.2.2.2)) s1 s2 hn, impl_IsValidLog_eq (l := (c.2.1, c.2.2.1, c.2.2.2)) s1 s2 hn, laws_eqConsole_refl (N := 4194304) (a := (c.1, c.2.1, c.2.2.1, c.2.2.2)) hs hn]
    cases ledB c.1 <;> cases logB (c.2.1, c.2.2.1, c.2.2.2) <;> rfl
end Go.Rx.Px
