/- This text proves, of the plain functions behind FnExactEncodeRecord, that the law answers true; no condition beyond the ranges that its arguments have. -/
import Derived.Test.YtkahcjhdjnaecaaDoorPxFnExactEncodeRecord
set_option linter.unusedVariables false
set_option linter.unusedSimpArgs false
namespace Go.Rx
theorem wrap_in {n : Int} (h1 : -9223372036854775808 ≤ n) (h2 : n < 9223372036854775808) : IntKind.i64.wrap n = n := by
  simp [IntKind.wrap, IntKind.bits, IntKind.signed]
  omega
theorem iadd_in {a b : Int} (h1 : -9223372036854775808 ≤ a + b) (h2 : a + b < 9223372036854775808) : iadd .i64 a b = a + b := wrap_in h1 h2
theorem isub_in {a b : Int} (h1 : -9223372036854775808 ≤ a - b) (h2 : a - b < 9223372036854775808) : isub .i64 a b = a - b := wrap_in h1 h2
theorem imul_in {a b : Int} (h1 : -9223372036854775808 ≤ a * b) (h2 : a * b < 9223372036854775808) : imul .i64 a b = a * b := wrap_in h1 h2
theorem iadd_nat {i : Nat} (h : i < 4611686018427387904) : iadd .i64 (i : Int) 1 = ((i + 1 : Nat) : Int) := by rw [iadd_in (by omega) (by omega)]; omega
@[simp] theorem ilt_eq (a b : Int) : ilt a b = decide (a < b) := rfl
@[simp] theorem ile_eq (a b : Int) : ile a b = decide (a ≤ b) := rfl
@[simp] theorem ieq_eq (a b : Int) : ieq a b = decide (a = b) := rfl
@[simp] theorem ine_eq (a b : Int) : ine a b = !decide (a = b) := rfl
@[simp] theorem len_eq {α : Type} (xs : List α) : len xs = (xs.length : Int) := rfl
@[simp] theorem beq_eq (a b : Bool) : Go.Rx.beq a b = (a == b) := rfl
theorem inB_nat (i n : Nat) : inB (i : Int) n = decide (i < n) := by simp [inB]
theorem inB_true {i n : Nat} (h : i < n) : inB (i : Int) n = true := by simp [inB_nat, h]
theorem cutB_in {l h : Int} {n : Nat} (h0 : 0 ≤ l) (h1 : l ≤ h) (h2 : h ≤ n) : cutB l h n = true := by simp [cutB, h0, h1, h2]
@[simp] theorem chk_true' {α : Type} (x : Option α) : chk true x = x := rfl
@[simp] theorem chk_false {α : Type} (x : Option α) : chk false x = none := rfl
theorem first_cases (p : Nat → Bool) : ∀ (n : Nat), (∀ i, i < n → p i = true) ∨ (∃ j, j < n ∧ (∀ i, i < j → p i = true) ∧ p j = false)
  | 0 => .inl fun i h => by omega
  | n + 1 => by
    rcases first_cases p n with h | ⟨j, hj, hb, hat⟩
    · cases hn : p n with
      | true => exact .inl fun i hi => by by_cases e : i = n; exact e ▸ hn; exact h i (by omega)
      | false => exact .inr ⟨n, by omega, h, hn⟩
    · exact .inr ⟨j, by omega, hb, hat⟩
def inRg (lo hi x : Int) : Bool := decide (lo ≤ x) && decide (x ≤ hi)
def RngZ (x : Int) : Prop := (Lit.int .i64 x).wf = true
def RngS (s : ByteArray) : Prop := s.size ≤ maxLen
end Go.Rx
namespace Go.Rx.Px
theorem impl_within_eq (N : Nat) (x lo hi : Int) : impl_within N x lo hi = some (inRg lo hi x, ()) := by
  simp only [impl_within, ile_eq, inRg]; by_cases h : lo ≤ x <;> simp [h]
theorem spec_l1In_eq (N : Nat) (x lo hi : Int) : spec_l1In N x lo hi = some (inRg lo hi x, ()) := by
  simp only [spec_l1In, ile_eq, inRg]; by_cases h : lo ≤ x <;> simp [h]
def chr (s : ByteArray) (i : Nat) : Nat := (s[i]?.getD 0).toNat
theorem sbyte_nat (s : ByteArray) (i : Nat) : sbyte s (i : Int) = (chr s i : Int) := rfl
def plB (s : ByteArray) : Bool := (List.range s.size).all fun i => decide (32 ≤ chr s i) && decide (chr s i ≤ 126)
def hasB (s : ByteArray) (c : Nat) : Bool := (List.range s.size).any fun i => decide (chr s i = c)
theorem chr_list (s : ByteArray) (i : Nat) (h : i < s.size) : s.data.toList[i]? = some (s[i]?.getD 0) := by
  have h1 : i < s.data.toList.length := by simpa using h
  rw [List.getElem?_eq_getElem h1]
  simp [h]
  rfl
theorem plB_iff {s : ByteArray} : plB s = true ↔ ∀ i, i < s.size → 32 ≤ chr s i ∧ chr s i ≤ 126 := by
  simp [plB, List.all_eq_true]
theorem hasB_iff {s : ByteArray} {c : Nat} : hasB s c = true ↔ ∃ i, i < s.size ∧ chr s i = c := by
  simp [hasB, List.any_eq_true]
theorem plB_ascii {s : ByteArray} (h : plB s = true) (h2 : s.size < 4194304) : asciiB s = true := by
  simp only [asciiB, Bool.and_eq_true, decide_eq_true_eq, List.all_eq_true]
  refine ⟨by omega, fun b hb => ?_⟩
  obtain ⟨i, hi, e⟩ := List.mem_iff_getElem.1 hb
  have hi' : i < s.size := by simpa using hi
  have h1 := chr_list s i hi'
  rw [List.getElem?_eq_getElem hi, Option.some.injEq, e] at h1
  have := (plB_iff.1 h) i hi'
  unfold chr at this
  rw [← h1] at this
  omega
theorem any_has (s : ByteArray) (cs : List UInt8) : (s.data.toList.any fun b => cs.contains b) = cs.any fun c => hasB s c.toNat := by
  rw [Bool.eq_iff_iff]
  simp only [List.any_eq_true, List.contains_iff_mem, hasB_iff]
  constructor
  · rintro ⟨b, hb, hc⟩
    obtain ⟨i, hi, e⟩ := List.mem_iff_getElem.1 hb
    have hi' : i < s.size := by simpa using hi
    have h1 := chr_list s i hi'
    rw [List.getElem?_eq_getElem hi, Option.some.injEq, e] at h1
    exact ⟨b, hc, i, hi', by unfold chr; rw [← h1]⟩
  · rintro ⟨c, hc, i, hi, e⟩
    have h1 := chr_list s i hi
    have e2 : s[i]?.getD 0 = c := UInt8.toNat_inj.1 e
    rw [e2] at h1
    exact ⟨c, List.mem_of_getElem? h1, hc⟩
theorem impl_isPlain_eq {N : Nat} {s : ByteArray} {most : Int} {o : ByteArray} (hs : s.size < 4194304) (ho : asciiB o = true) (hN : 4194304 ≤ N) :
    impl_isPlain N s most o = some (plB s && (decide ((s.size : Int) ≤ most) && !(o.data.toList.any fun c => hasB s c.toNat)), ()) := by
  simp only [impl_isPlain, slen]
  rcases first_cases (fun i => decide (32 ≤ chr s i) && decide (chr s i ≤ 126)) s.size with h | ⟨j, hj, hb, hat⟩
  · have hp : plB s = true := plB_iff.2 fun i hi => by simpa using h i hi
    refine impl_isPlain_L1_run N (fun _ => s) (fun _ => most) (fun _ => o) (fun _ => (s.size : Int)) (fun i => (i : Int)) s.size (fun i hi kx => ?_) (fun kx => ?_) N (by omega)
    · have h1 := (plB_iff.1 hp) i hi
      simp only [impl_isPlain_B1, ilt_eq, sbyte_nat, Int.ofNat_lt, hi, decide_true, cond_true, inB_true hi, chk_true', decide_eq_false (show ¬ (chr s i : Int) < 32 by omega), decide_eq_false (show ¬ (126 : Int) < (chr s i : Int) by omega), cond_false, iadd_nat (show i < 4611686018427387904 by omega)]
    · simp only [impl_isPlain_B1, impl_isPlain_K1, ilt_eq, ile_eq, slen, Int.lt_irrefl, decide_false, cond_false, strings_ContainsAny, plB_ascii hp hs, ho, Bool.and_self, chk_true', Option.bind_some, hp, Bool.true_and, any_has]
      cases decide ((s.size : Int) ≤ most) <;> rfl
  · have hp : plB s = false := by
      cases e : plB s with
      | false => rfl
      | true => have := (plB_iff.1 e) j hj; simp [this] at hat
    refine impl_isPlain_L1_run N (fun _ => s) (fun _ => most) (fun _ => o) (fun _ => (s.size : Int)) (fun i => (i : Int)) j (fun i hi kx => ?_) (fun kx => ?_) N (by omega)
    · have h1 := hb i hi
      simp only [Bool.and_eq_true, decide_eq_true_eq] at h1
      simp only [impl_isPlain_B1, ilt_eq, sbyte_nat, Int.ofNat_lt, show i < s.size by omega, decide_true, cond_true, inB_true (show i < s.size by omega), chk_true', decide_eq_false (show ¬ (chr s i : Int) < 32 by omega), decide_eq_false (show ¬ (126 : Int) < (chr s i : Int) by omega), cond_false, iadd_nat (show i < 4611686018427387904 by omega)]
    · simp only [impl_isPlain_B1, ilt_eq, sbyte_nat, Int.ofNat_lt, hj, decide_true, cond_true, inB_true hj, chk_true', hp, Bool.false_and]
      by_cases c : chr s j < 32
      · rw [decide_eq_true (show (chr s j : Int) < 32 by omega)]; rfl
      · have c2 : 126 < chr s j := by
          simp only [Bool.and_eq_false_iff, decide_eq_false_iff_not] at hat
          omega
        rw [decide_eq_false (show ¬ (chr s j : Int) < 32 by omega), decide_eq_true (show (126 : Int) < (chr s j : Int) by omega)]; rfl
theorem impl_isCommand_eq {N : Nat} {s : ByteArray} (hs : s.size < 4194304) (hN : 4194304 ≤ N) :
    impl_isCommand N s = some (!(Go.Rx.seq s (⟨#[]⟩ : ByteArray)) && (plB s && (decide ((s.size : Int) ≤ 160) && !(hasB s 35 || hasB s 64))), ()) := by
  simp only [impl_isCommand, impl_isPlain_eq hs (show asciiB (⟨#[35, 64]⟩ : ByteArray) = true by decide) hN, Option.bind_some]
  cases Go.Rx.seq s (⟨#[]⟩ : ByteArray)
  · simp
  · rfl
def recB (e : ByteArray × ByteArray) : Bool := !(Go.Rx.seq e.1 (⟨#[]⟩ : ByteArray)) && (plB e.1 && (decide ((e.1.size : Int) ≤ 160) && (!(hasB e.1 35) && (!(hasB e.1 64) && (plB e.2 && (decide ((e.2.size : Int) ≤ 200) && !(hasB e.2 35)))))))
theorem impl_IsValidRecord_eq {N : Nat} {e : ByteArray × ByteArray} (h1 : e.1.size < 4194304) (h2 : e.2.size < 4194304) (hN : 4194304 ≤ N) : impl_IsValidRecord N e = some (recB e, ()) := by
  simp only [impl_IsValidRecord, impl_isCommand_eq h1 hN, impl_isPlain_eq h2 (show asciiB (⟨#[35]⟩ : ByteArray) = true by decide) hN, Option.bind_some, recB]
  cases Go.Rx.seq e.1 (⟨#[]⟩ : ByteArray) <;> cases plB e.1 <;> cases decide ((e.1.size : Int) ≤ 160) <;> cases hasB e.1 35 <;> cases hasB e.1 64 <;> simp
theorem icv_chr (n : Nat) (h : n < 256) : icv .i64 (n : Int) = (n : Int) := by
  simp only [icv]; exact wrap_in (by omega) (by omega)
theorem chr_lt (s : ByteArray) (i : Nat) : chr s i < 256 := UInt8.toNat_lt _
theorem spec_l12Bytes_eq {N : Nat} {s : ByteArray} {most : Int} (hs : s.size < 4194304) (hN : 4194304 ≤ N) :
    spec_l12Bytes N s most = some (plB s && (!(hasB s 35) && decide ((s.size : Int) ≤ most)), ()) := by
  simp only [spec_l12Bytes]
  rcases first_cases (fun i => (decide (32 ≤ chr s i) && decide (chr s i ≤ 126)) && !decide (chr s i = 35)) s.size with h | ⟨j, hj, hb, hat⟩
  · have hh : ∀ i, i < s.size → (32 ≤ chr s i ∧ chr s i ≤ 126) ∧ ¬ chr s i = 35 := fun i hi => by simpa using h i hi
    have hp : plB s = true := plB_iff.2 fun i hi => (hh i hi).1
    have hq : hasB s 35 = false := by
      cases e : hasB s 35 with
      | false => rfl
      | true => obtain ⟨i, hi, e2⟩ := hasB_iff.1 e; exact absurd e2 (hh i hi).2
    refine spec_l12Bytes_L1_run N (fun _ => s) (fun _ => most) (fun i => (i : Int)) s.size (fun i hi kx => ?_) (fun kx => ?_) N (by omega)
    · have h1 := hh i hi
      simp only [spec_l12Bytes_B1, slen, ilt_eq, ieq_eq, sbyte_nat, icv_chr _ (chr_lt s i), spec_l1In_eq, inRg, Int.ofNat_lt, hi, decide_true, cond_true, inB_true hi, chk_true', Option.bind_some, decide_eq_true (show (32 : Int) ≤ (chr s i : Int) by omega), decide_eq_true (show (chr s i : Int) ≤ 126 by omega), Bool.and_self, Bool.not_true, decide_eq_false (show ¬ (chr s i : Int) = 35 by omega), cond_false, iadd_nat (show i < 4611686018427387904 by omega)]
    · simp only [spec_l12Bytes_B1, spec_l12Bytes_K1, slen, ilt_eq, ile_eq, Int.lt_irrefl, decide_false, cond_false, hp, hq, Bool.true_and, Bool.not_false]
  · have hat' : ¬ ((32 ≤ chr s j ∧ chr s j ≤ 126) ∧ ¬ chr s j = 35) := fun h => by simp [h.1.1, h.1.2, h.2] at hat
    have hp : (plB s && (!(hasB s 35) && decide ((s.size : Int) ≤ most))) = false := by
      cases e : plB s with
      | false => rfl
      | true =>
        have h1 := (plB_iff.1 e) j hj
        rw [hasB_iff.2 ⟨j, hj, by omega⟩]; rfl
    rw [hp]
    refine spec_l12Bytes_L1_run N (fun _ => s) (fun _ => most) (fun i => (i : Int)) j (fun i hi kx => ?_) (fun kx => ?_) N (by omega)
    · have h1 := hb i hi
      simp only [Bool.and_eq_true, decide_eq_true_eq, Bool.not_eq_true', decide_eq_false_iff_not] at h1
      simp only [spec_l12Bytes_B1, slen, ilt_eq, ieq_eq, sbyte_nat, icv_chr _ (chr_lt s i), spec_l1In_eq, inRg, Int.ofNat_lt, show i < s.size by omega, decide_true, cond_true, inB_true (show i < s.size by omega), chk_true', Option.bind_some, decide_eq_true (show (32 : Int) ≤ (chr s i : Int) by omega), decide_eq_true (show (chr s i : Int) ≤ 126 by omega), Bool.and_self, Bool.not_true, decide_eq_false (show ¬ (chr s i : Int) = 35 by omega), cond_false, iadd_nat (show i < 4611686018427387904 by omega)]
    · simp only [spec_l12Bytes_B1, slen, ilt_eq, ieq_eq, sbyte_nat, icv_chr _ (chr_lt s j), spec_l1In_eq, inRg, Int.ofNat_lt, hj, decide_true, cond_true, inB_true hj, chk_true', Option.bind_some]
      by_cases c : 32 ≤ chr s j ∧ chr s j ≤ 126
      · have c2 : chr s j = 35 := by omega
        rw [c2]; rfl
      · by_cases c1 : 32 ≤ chr s j
        · rw [decide_eq_true (show (32 : Int) ≤ (chr s j : Int) by omega), decide_eq_false (show ¬ (chr s j : Int) ≤ 126 by omega)]; rfl
        · rw [decide_eq_false (show ¬ (32 : Int) ≤ (chr s j : Int) by omega)]; rfl
theorem spec_l1Stands_eq {N : Nat} {s : ByteArray} {c : Nat} (hs : s.size < 4194304) (hN : 4194304 ≤ N) :
    spec_l1Stands N s (c : Int) = some (hasB s c, ()) := by
  simp only [spec_l1Stands]
  rcases first_cases (fun i => !decide (chr s i = c)) s.size with h | ⟨j, hj, hb, hat⟩
  · have hh : ∀ i, i < s.size → ¬ chr s i = c := fun i hi => by simpa using h i hi
    have hq : hasB s c = false := by
      cases e : hasB s c with
      | false => rfl
      | true => obtain ⟨i, hi, e2⟩ := hasB_iff.1 e; exact absurd e2 (hh i hi)
    refine spec_l1Stands_L1_run N (fun _ => s) (fun _ => (c : Int)) (fun i => (i : Int)) s.size (fun i hi kx => ?_) (fun kx => ?_) N (by omega)
    · have h1 := hh i hi
      simp only [spec_l1Stands_B1, slen, ilt_eq, ieq_eq, sbyte_nat, Int.ofNat_lt, hi, decide_true, cond_true, inB_true hi, chk_true', decide_eq_false (show ¬ (chr s i : Int) = c by omega), cond_false, iadd_nat (show i < 4611686018427387904 by omega)]
    · simp only [spec_l1Stands_B1, spec_l1Stands_K1, slen, ilt_eq, Int.lt_irrefl, decide_false, cond_false, hq]
  · have hat' : chr s j = c := by simpa using hat
    refine spec_l1Stands_L1_run N (fun _ => s) (fun _ => (c : Int)) (fun i => (i : Int)) j (fun i hi kx => ?_) (fun kx => ?_) N (by omega)
    · have h1 : ¬ chr s i = c := by simpa using hb i hi
      simp only [spec_l1Stands_B1, slen, ilt_eq, ieq_eq, sbyte_nat, Int.ofNat_lt, show i < s.size by omega, decide_true, cond_true, inB_true (show i < s.size by omega), chk_true', decide_eq_false (show ¬ (chr s i : Int) = c by omega), cond_false, iadd_nat (show i < 4611686018427387904 by omega)]
    · rw [hasB_iff.2 ⟨j, hj, hat'⟩]
      simp only [spec_l1Stands_B1, slen, ilt_eq, ieq_eq, sbyte_nat, Int.ofNat_lt, hj, decide_true, cond_true, inB_true hj, chk_true', hat']
theorem spec_l12Record_eq {N : Nat} {e : ByteArray × ByteArray} (h1 : e.1.size < 4194304) (h2 : e.2.size < 4194304) (hN : 4194304 ≤ N) : spec_l12Record N e = some (recB e, ()) := by
  simp only [spec_l12Record, spec_l12Bytes_eq h1 hN, spec_l12Bytes_eq h2 hN, show spec_l1Stands N e.1 64 = some (hasB e.1 64, ()) from spec_l1Stands_eq (c := 64) h1 hN, Option.bind_some, recB]
  cases Go.Rx.seq e.1 (⟨#[]⟩ : ByteArray) <;> cases plB e.1 <;> cases hasB e.1 35 <;> cases decide ((e.1.size : Int) ≤ 160) <;> cases hasB e.1 64 <;> cases plB e.2 <;> cases hasB e.2 35 <;> cases decide ((e.2.size : Int) ≤ 200) <;> rfl
abbrev RngR (e : ByteArray × ByteArray) : Prop := RngS e.1 ∧ RngS e.2
theorem laws_szLogRecord_eq (N : Nat) {e : ByteArray × ByteArray} {left : Int} (h : RngR e) (h1 : 0 ≤ left) (h2 : left ≤ 1048576) : ∃ r, laws_szLogRecord N e left = some (r, ()) ∧ (r < 0 ∨ 0 ≤ r ∧ r ≤ left ∧ (e.1.size : Int) ≤ left ∧ (e.2.size : Int) ≤ left) := by
  obtain ⟨a, b⟩ := h
  unfold RngS maxLen at a b
  simp only [laws_szLogRecord, slen, ilt_eq, isub_in (show -9223372036854775808 ≤ left - e.1.size by omega) (by omega)]
  by_cases c : left - (e.1.size : Int) < 0
  · exact ⟨-1, by simp [c], .inl (by omega)⟩
  · rw [isub_in (show -9223372036854775808 ≤ left - (e.1.size : Int) - e.2.size by omega) (by omega)]
    by_cases c2 : left - (e.1.size : Int) - e.2.size < 0
    · exact ⟨-1, by simp [c, c2], .inl (by omega)⟩
    · exact ⟨left - e.1.size - e.2.size, by simp [c, c2], .inr (by omega)⟩
def bts (s : ByteArray) : List UInt8 := s.data.toList
def txt (l : List UInt8) : ByteArray := ⟨l.toArray⟩
theorem bts_txt (l : List UInt8) : bts (txt l) = l := rfl
theorem txt_ext {x y : ByteArray} (h : bts x = bts y) : x = y := ByteArray.ext (Array.ext' h)
theorem size_bts (s : ByteArray) : s.size = (bts s).length := rfl
theorem seq_iff {x y : ByteArray} : Go.Rx.seq x y = decide (x = y) := by
  unfold Go.Rx.seq
  rw [ByteArray.toList_eq, ByteArray.toList_eq]
  by_cases h : x = y
  · subst h; simp
  · rw [decide_eq_false h, beq_eq_false_iff_ne]; exact fun e => h (txt_ext e)
theorem scat_txt (a b : List UInt8) : scat (txt a) (txt b) = txt (a ++ b) := txt_ext (by simp [scat, bts, txt])
theorem scut_bts (x : ByteArray) (l h : Nat) : bts (scut x l h) = ((bts x).take h).drop l := by
  simp [scut, bts, List.extract_eq_take_drop, List.drop_take]
theorem sfit_in {x y : ByteArray} (h : x.size + y.size < 4194304) : sfit x y = true := decide_eq_true (by omega)
theorem chr_bts (s : ByteArray) (i : Nat) (h : i < s.size) : (bts s)[i]? = some (s[i]?.getD 0) := chr_list s i h
theorem mem_chr {s : ByteArray} {c : UInt8} : c ∈ bts s ↔ hasB s c.toNat = true := by
  rw [hasB_iff]
  constructor
  · intro hb
    obtain ⟨i, hi, e⟩ := List.mem_iff_getElem.1 hb
    have hi' : i < s.size := hi
    have h1 := chr_bts s i hi'
    rw [List.getElem?_eq_getElem hi, Option.some.injEq, e] at h1
    exact ⟨i, hi', by unfold chr; rw [← h1]⟩
  · rintro ⟨i, hi, e⟩
    have h1 := chr_bts s i hi
    have e2 : s[i]?.getD 0 = c := UInt8.toNat_inj.1 e
    rw [e2] at h1
    exact List.mem_of_getElem? h1
def csN (l : List UInt8) : Nat := l.foldl (fun h b => (41 * h + b.toNat + 1) % 999979) 7
theorem foldl_lt (l : List UInt8) : ∀ h : Nat, h < 999979 → l.foldl (fun h b => (41 * h + b.toNat + 1) % 999979) h < 999979 := by
  induction l with
  | nil => exact fun h hh => hh
  | cons b l ih => exact fun h _ => ih _ (Nat.mod_lt _ (by omega))
theorem csN_lt (l : List UInt8) : csN l < 999979 := foldl_lt l 7 (by omega)
theorem csN_step (s : ByteArray) (i : Nat) (h : i < s.size) : csN ((bts s).take (i + 1)) = (41 * csN ((bts s).take i) + chr s i + 1) % 999979 := by
  have hl : i < (bts s).length := h
  have h1 := chr_bts s i h
  rw [List.getElem?_eq_getElem hl, Option.some.injEq] at h1
  unfold csN
  rw [List.take_succ_eq_append_getElem hl, List.foldl_append, h1]
  rfl
theorem cs_word {s : ByteArray} {i : Nat} (h : i < s.size) : irem (iadd .i64 (iadd .i64 (imul .i64 41 (csN ((bts s).take i) : Nat)) (icv .i64 (sbyte s i))) 1) 999979 = ((csN ((bts s).take (i + 1)) : Nat) : Int) := by
  have h1 := csN_lt ((bts s).take i)
  have h2 := chr_lt s i
  have e1 : imul .i64 41 (csN ((bts s).take i) : Nat) = 41 * ((csN ((bts s).take i) : Nat) : Int) := imul_in (by omega) (by omega)
  have e2 : iadd .i64 (41 * ((csN ((bts s).take i) : Nat) : Int)) (chr s i : Int) = 41 * ((csN ((bts s).take i) : Nat) : Int) + (chr s i : Int) := iadd_in (by omega) (by omega)
  have e3 : iadd .i64 (41 * ((csN ((bts s).take i) : Nat) : Int) + (chr s i : Int)) 1 = 41 * ((csN ((bts s).take i) : Nat) : Int) + (chr s i : Int) + 1 := iadd_in (by omega) (by omega)
  rw [sbyte_nat, icv_chr _ h2, e1, e2, e3, csN_step s i h]
  simp only [irem]
  rw [Int.tmod_eq_emod_of_nonneg (by omega)]
  omega
theorem spec_l1Sum_eq {N : Nat} {s : ByteArray} (hs : s.size < 4194304) (hN : 4194304 ≤ N) : spec_l1Sum N s = some (((csN (bts s) : Nat) : Int), ()) := by
  simp only [spec_l1Sum]
  refine (spec_l1Sum_L1_run N (fun _ => s) (fun i => ((csN ((bts s).take i) : Nat) : Int)) (fun i => (i : Int)) s.size (fun i hi kx => ?_) (fun kx => ?_) N (by omega))
  · simp only [spec_l1Sum_B1, slen, ilt_eq, Int.ofNat_lt, hi, decide_true, cond_true, inB_true hi, chk_true', show ine 999979 0 = true from rfl, cs_word hi, iadd_nat (show i < 4611686018427387904 by omega)]
  · simp only [spec_l1Sum_B1, spec_l1Sum_K1, slen, ilt_eq, Int.lt_irrefl, decide_false, cond_false, size_bts, List.take_length]
theorem impl_checksum_eq {N : Nat} {s : ByteArray} (hs : s.size < 4194304) (hN : 4194304 ≤ N) : impl_checksum N s = some (((csN (bts s) : Nat) : Int), ()) := by
  simp only [impl_checksum]
  refine (impl_checksum_L1_run N (fun _ => s) (fun i => ((csN ((bts s).take i) : Nat) : Int)) (fun _ => slen s) (fun i => (i : Int)) s.size (fun i hi kx => ?_) (fun kx => ?_) N (by omega))
  · simp only [impl_checksum_B1, slen, ilt_eq, Int.ofNat_lt, hi, decide_true, cond_true, inB_true hi, chk_true', show ine 999979 0 = true from rfl, cs_word hi, iadd_nat (show i < 4611686018427387904 by omega)]
  · simp only [impl_checksum_B1, impl_checksum_K1, slen, ilt_eq, Int.lt_irrefl, decide_false, cond_false, size_bts, List.take_length]
theorem ten_word {d : Nat} (h : d < 10) : scut (⟨#[48, 49, 50, 51, 52, 53, 54, 55, 56, 57]⟩ : ByteArray) (d : Int) (((d + 1 : Nat)) : Int) = txt [UInt8.ofNat (48 + d)] := by
  refine txt_ext ?_
  rw [scut_bts]
  have : d = 0 ∨ d = 1 ∨ d = 2 ∨ d = 3 ∨ d = 4 ∨ d = 5 ∨ d = 6 ∨ d = 7 ∨ d = 8 ∨ d = 9 := by omega
  rcases this with rfl | rfl | rfl | rfl | rfl | rfl | rfl | rfl | rfl | rfl <;> rfl
theorem dec_len (u : Nat) : ∀ d : Nat, u < 10 ^ (d + 1) → (Lib.decDigits u).length ≤ d + 1 := by
  intro d
  induction d generalizing u with
  | zero => intro h; rw [Lib.decDigits_one (by omega)]; simp
  | succ d ih =>
    intro h
    rw [Lib.decDigits]
    by_cases c : u < 10
    · rw [dif_pos c]; simp
    · rw [dif_neg c, List.length_append]
      have := ih (u / 10) (by rw [Nat.pow_succ] at h; omega)
      simp; omega
theorem num_pos (N : Nat) : ∀ (d u m : Nat), u < 10 ^ (d + 1) → d ≤ 17 → d + 1 ≤ m → spec_l1Num_R N m (u : Int) = some (txt (Lib.decDigits u), ()) := by
  intro d
  induction d with
  | zero =>
    intro u m h _ hm
    obtain ⟨q, rfl⟩ : ∃ q, m = q + 1 := ⟨m - 1, by omega⟩
    have hu : u < 10 := by omega
    rw [spec_l1Num_R_succ]
    simp only [spec_l1Num_F, ilt_eq, decide_eq_false (show ¬ (u : Int) < 0 by omega), decide_eq_true (show (u : Int) < 10 by omega), cond_false, cond_true, iadd_nat (show u < 4611686018427387904 by omega)]
    rw [cutB_in (by omega) (by omega) (by show ((u + 1 : Nat) : Int) ≤ ((10 : Nat) : Int); omega), chk_true', ten_word hu, Lib.decDigits_one hu]
  | succ d ih =>
    intro u m h hd hm
    obtain ⟨q, rfl⟩ : ∃ q, m = q + 1 := ⟨m - 1, by omega⟩
    by_cases hu : u < 10
    · rw [spec_l1Num_R_succ]
      simp only [spec_l1Num_F, ilt_eq, decide_eq_false (show ¬ (u : Int) < 0 by omega), decide_eq_true (show (u : Int) < 10 by omega), cond_false, cond_true, iadd_nat (show u < 4611686018427387904 by omega)]
      rw [cutB_in (by omega) (by omega) (by show ((u + 1 : Nat) : Int) ≤ ((10 : Nat) : Int); omega), chk_true', ten_word hu, Lib.decDigits_one hu]
    · have hb : (10 : Nat) ^ (d + 1 + 1) ≤ 10 ^ 19 := Nat.pow_le_pow_right (by omega) (by omega)
      have hb2 : (10 : Nat) ^ 19 = 10000000000000000000 := by decide
      have hdl := dec_len (u / 10) d (by rw [Nat.pow_succ] at h; omega)
      have hq : iquo .i64 (u : Int) 10 = ((u / 10 : Nat) : Int) := by
        simp only [iquo]
        rw [Int.tdiv_eq_ediv_of_nonneg (by omega), wrap_in (by omega) (by omega)]
        omega
      have hr : irem (u : Int) 10 = ((u % 10 : Nat) : Int) := by
        simp only [irem]
        rw [Int.tmod_eq_emod_of_nonneg (by omega)]
        omega
      have h10 : u % 10 < 10 := Nat.mod_lt _ (by omega)
      rw [spec_l1Num_R_succ]
      simp only [spec_l1Num_F, ilt_eq, decide_eq_false (show ¬ (u : Int) < 0 by omega), decide_eq_false (show ¬ (u : Int) < 10 by omega), cond_false, show ine 10 0 = true from rfl, chk_true', hq, ih (u / 10) q (by rw [Nat.pow_succ] at h; omega) (by omega) (by omega), Option.bind_some, hr, iadd_nat (show u % 10 < 4611686018427387904 by omega)]
      rw [cutB_in (by omega) (by omega) (by show ((u % 10 + 1 : Nat) : Int) ≤ ((10 : Nat) : Int); omega), chk_true', ten_word h10]
      rw [sfit_in (by rw [size_bts, size_bts, bts_txt, bts_txt]; simp; omega), chk_true', scat_txt]
      conv => rhs; rw [Lib.decDigits, dif_neg hu]
def numT (n : Int) : List UInt8 := Lib.itoa n
theorem numT_nat (u : Nat) : numT (u : Int) = Lib.decDigits u := Lib.itoa_nonneg u
theorem spec_l1Num_eq {N : Nat} {n : Int} (h1 : -1000000000000000000 < n) (h2 : n < 1000000000000000000) (hN : 4194304 ≤ N) : spec_l1Num N n = some (txt (numT n), ()) := by
  simp only [spec_l1Num]
  by_cases hn : n < 0
  · obtain ⟨u, rfl⟩ : ∃ u : Nat, n = -(u : Int) := ⟨n.natAbs, by omega⟩
    obtain ⟨q, rfl⟩ : ∃ q, N = q + 1 := ⟨N - 1, by omega⟩
    have hdl := dec_len u 17 (by omega)
    rw [spec_l1Num_R_succ]
    simp only [spec_l1Num_F, ilt_eq, decide_eq_true hn, cond_true, isub_in (show -9223372036854775808 ≤ 0 - -(u : Int) by omega) (by omega), show (0 : Int) - -(u : Int) = (u : Int) by omega, num_pos (q + 1) 17 u q (by omega) (by omega) (by omega), Option.bind_some]
    rw [show (⟨#[45]⟩ : ByteArray) = txt [45] from rfl, sfit_in (by rw [size_bts, size_bts, bts_txt, bts_txt]; simp; omega), chk_true', scat_txt]
    unfold numT
    rw [Lib.itoa_neg u (by omega)]; rfl
  · obtain ⟨u, rfl⟩ : ∃ u : Nat, n = (u : Int) := ⟨n.toNat, by omega⟩
    rw [num_pos N 17 u N (by omega) (by omega) (by omega), numT_nat]
theorem strconv_Itoa_eq {N : Nat} {n : Int} (h1 : -1000000000000000000 < n) (h2 : n < 1000000000000000000) : strconv_Itoa N n = some (txt (numT n), ()) := by
  simp only [strconv_Itoa, decide_eq_true (show -9223372036854775808 ≤ n by omega), decide_eq_true (show n ≤ 9223372036854775807 by omega), Bool.and_self, chk_true', numT]
  rfl
theorem dec_digit (u : Nat) : ∀ c ∈ Lib.decDigits u, 48 ≤ c.toNat ∧ c.toNat ≤ 57 := by
  induction u using Nat.strongRecOn with
  | _ u ih =>
    intro c hc
    have key : ∀ d : Nat, d < 10 → (UInt8.ofNat (48 + d)).toNat = 48 + d := fun d hd => by
      rw [UInt8.toNat_ofNat']; omega
    rw [Lib.decDigits] at hc
    by_cases hu : u < 10
    · rw [dif_pos hu, List.mem_singleton] at hc
      subst hc
      rw [key u hu]; omega
    · rw [dif_neg hu, List.mem_append, List.mem_singleton] at hc
      rcases hc with hc | rfl
      · exact ih (u / 10) (by omega) c hc
      · rw [key _ (Nat.mod_lt _ (by omega))]; omega
def sealT (t : List UInt8) : List UInt8 := t ++ [35] ++ numT (csN t)
def textT (k : Int) (a b : List UInt8) : List UInt8 := numT k ++ [32] ++ a ++ [64] ++ b
def lineT (k : Int) (a b : List UInt8) : List UInt8 := sealT (textT k a b) ++ [10]
theorem numT_len {k : Int} (h0 : 0 ≤ k) (h1 : k < 1000000) : (numT k).length ≤ 6 := by
  obtain ⟨u, rfl⟩ : ∃ u : Nat, k = (u : Int) := ⟨k.toNat, by omega⟩
  rw [numT_nat]; exact dec_len u 5 (by omega)
theorem spec_l1Seal_eq {N : Nat} {t : List UInt8} (ht : t.length < 4000000) (hN : 4194304 ≤ N) : spec_l1Seal N (txt t) = some (txt (sealT t), ()) := by
  have h1 := csN_lt t
  have h2 := numT_len (k := (csN t : Nat)) (by omega) (by omega)
  have hsz : (txt t).size = t.length := rfl
  simp only [spec_l1Seal, show (⟨#[35]⟩ : ByteArray) = txt [35] from rfl]
  rw [sfit_in (by rw [size_bts, size_bts, bts_txt, bts_txt]; simp; omega), chk_true', spec_l1Sum_eq (by rw [hsz]; omega) hN]
  simp only [Option.bind_some, bts_txt, spec_l1Num_eq (n := (csN t : Nat)) (by omega) (by omega) hN, scat_txt]
  rw [sfit_in (by rw [size_bts, size_bts, bts_txt, bts_txt]; simp; omega), chk_true']
  rfl
theorem spec_l12Line_eq {N : Nat} {k : Int} {e : ByteArray × ByteArray} (h0 : 0 ≤ k) (h1 : k < 1000000) (ha : e.1.size < 1000000) (hb : e.2.size < 1000000) (hN : 4194304 ≤ N) : spec_l12Line N k e = some (txt (lineT k (bts e.1) (bts e.2)), ()) := by
  obtain ⟨a, b⟩ := e
  have h3 := numT_len h0 h1
  have ha' : (bts a).length < 1000000 := ha
  have hb' : (bts b).length < 1000000 := hb
  have e1 : a = txt (bts a) := rfl
  have e2 : b = txt (bts b) := rfl
  simp only [spec_l12Line, spec_l1Num_eq (n := k) (by omega) (by omega) hN, Option.bind_some, show (⟨#[32]⟩ : ByteArray) = txt [32] from rfl, show (⟨#[64]⟩ : ByteArray) = txt [64] from rfl, show (⟨#[10]⟩ : ByteArray) = txt [10] from rfl]
  rw [e1, e2]
  simp only [scat_txt, bts_txt]
  rw [sfit_in (by rw [size_bts, size_bts, bts_txt, bts_txt]; simp; omega), chk_true', sfit_in (by rw [size_bts, size_bts, bts_txt, bts_txt]; simp only [List.length_append, List.length_singleton]; omega), chk_true',
    sfit_in (by rw [size_bts, size_bts, bts_txt, bts_txt]; simp only [List.length_append, List.length_singleton]; omega), chk_true', sfit_in (by rw [size_bts, size_bts, bts_txt, bts_txt]; simp only [List.length_append, List.length_singleton]; omega), chk_true']
  have h5 := csN_lt (textT k (bts a) (bts b))
  have h4 := numT_len (k := (csN (textT k (bts a) (bts b)) : Nat)) (by omega) (by omega)
  rw [show numT k ++ [32] ++ bts a ++ [64] ++ bts b = textT k (bts a) (bts b) from rfl, spec_l1Seal_eq (by simp only [textT, List.length_append, List.length_singleton]; omega) hN]
  simp only [Option.bind_some, scat_txt]
  rw [sfit_in (by rw [size_bts, size_bts, bts_txt, bts_txt]; simp only [sealT, List.length_append, List.length_singleton]; simp only [textT, List.length_append, List.length_singleton] at h4 ⊢; omega), chk_true']
  rfl
theorem contains_one (l : List UInt8) (c : UInt8) : Lib.contains l [c] = decide (c ∈ l) := by
  unfold Lib.contains
  rw [Lib.index_one]
  induction l with
  | nil => rfl
  | cons b l ih =>
    rw [decide_eq_decide] at ih ⊢
    have hge := Lib.indexByte_ge l c
    simp only [Lib.indexByte, List.mem_cons]
    by_cases h : (b == c) = true
    · rw [if_pos h]
      have : b = c := by simpa using h
      subst this
      simp
    · rw [if_neg h]
      have hne : ¬ c = b := fun e => h (by simp [e])
      by_cases h2 : (Lib.indexByte l c == -1) = true
      · rw [if_pos h2]
        have h3 : Lib.indexByte l c = -1 := by simpa using h2
        simp only [hne, false_or, ← ih, h3]
      · rw [if_neg h2]
        have h3 : Lib.indexByte l c ≠ -1 := by simpa using h2
        simp only [hne, false_or, ← ih]
        omega
theorem impl_AppendChecksum_eq {N : Nat} {t : List UInt8} (ht : t.length ≤ 3900) (hn : (35 : UInt8) ∉ t) (hN : 4194304 ≤ N) : impl_AppendChecksum N (txt t) = some ((txt (sealT t), true), ()) := by
  have h1 := csN_lt t
  have h2 := numT_len (k := (csN t : Nat)) (by omega) (by omega)
  have hsz : (txt t).size = t.length := rfl
  simp only [impl_AppendChecksum, slen, ilt_eq, hsz, decide_eq_false (show ¬ (4000 : Int) < (t.length : Int) by omega), cond_false, strings_Contains, shortB, decide_eq_true (show t.length < 4294967281 by omega), chk_true', Option.bind_some,
    show (txt t).data.toList = t from rfl, show (⟨#[35]⟩ : ByteArray) = txt [35] from rfl, show (txt [35]).data.toList = [35] from rfl, contains_one, decide_eq_false hn]
  rw [sfit_in (by rw [size_bts, size_bts, bts_txt, bts_txt]; simp; omega), chk_true', impl_checksum_eq (by rw [hsz]; omega) hN]
  simp only [Option.bind_some, bts_txt, strconv_Itoa_eq (n := (csN t : Nat)) (by omega) (by omega), scat_txt]
  rw [sfit_in (by rw [size_bts, size_bts, bts_txt, bts_txt]; simp; omega), chk_true']
  have h3 : (txt (t ++ [35] ++ numT (csN t : Nat))).size = t.length + 1 + (numT (csN t : Nat)).length := by rw [size_bts, bts_txt]; simp only [List.length_append, List.length_singleton]
  rw [h3, decide_eq_false (by omega)]
  rfl
structure RecP (e : ByteArray × ByteArray) : Prop where
  some : e.1 ≠ ⟨#[]⟩
  pl1 : ∀ c ∈ bts e.1, 32 ≤ c.toNat ∧ c.toNat ≤ 126 ∧ c ≠ 35 ∧ c ≠ 64
  n1 : (bts e.1).length ≤ 160
  pl2 : ∀ c ∈ bts e.2, 32 ≤ c.toNat ∧ c.toNat ≤ 126 ∧ c ≠ 35
  n2 : (bts e.2).length ≤ 200
theorem plB_mem {s : ByteArray} : plB s = true ↔ ∀ c ∈ bts s, 32 ≤ c.toNat ∧ c.toNat ≤ 126 := by
  rw [plB_iff]
  constructor
  · intro h c hc
    obtain ⟨i, hi, e⟩ := hasB_iff.1 (mem_chr.1 hc)
    have := h i hi
    omega
  · intro h i hi
    exact h _ (List.mem_of_getElem? (chr_bts s i hi))
theorem recB_iff {e : ByteArray × ByteArray} : recB e = true ↔ RecP e := by
  have hh : ∀ (s : ByteArray) (c : UInt8), hasB s c.toNat = false ↔ c ∉ bts s := fun s c => by rw [mem_chr]; simp
  simp only [recB, Bool.and_eq_true, Bool.not_eq_true', decide_eq_true_eq, seq_iff, decide_eq_false_iff_not, plB_mem]
  rw [show hasB e.1 35 = hasB e.1 (35 : UInt8).toNat from rfl, show hasB e.1 64 = hasB e.1 (64 : UInt8).toNat from rfl, show hasB e.2 35 = hasB e.2 (35 : UInt8).toNat from rfl, hh, hh, hh]
  constructor
  · rintro ⟨h1, h2, h3, h4, h5, h6, h7, h8⟩
    exact ⟨h1, fun c hc => ⟨(h2 c hc).1, (h2 c hc).2, fun e' => h4 (e' ▸ hc), fun e' => h5 (e' ▸ hc)⟩, by rw [size_bts] at h3; omega, fun c hc => ⟨(h6 c hc).1, (h6 c hc).2, fun e' => h8 (e' ▸ hc)⟩, by rw [size_bts] at h7; omega⟩
  · rintro ⟨h1, h2, h3, h4, h5⟩
    exact ⟨h1, fun c hc => ⟨(h2 c hc).1, (h2 c hc).2.1⟩, by rw [size_bts]; omega, fun hc => (h2 35 hc).2.2.1 rfl, fun hc => (h2 64 hc).2.2.2 rfl, fun c hc => ⟨(h4 c hc).1, (h4 c hc).2.1⟩, by rw [size_bts]; omega, fun hc => (h4 35 hc).2.2 rfl⟩
theorem numT_mem {k : Int} (h0 : 0 ≤ k) : ∀ c ∈ numT k, 48 ≤ c.toNat ∧ c.toNat ≤ 57 := by
  obtain ⟨u, rfl⟩ : ∃ u : Nat, k = (u : Int) := ⟨k.toNat, by omega⟩
  rw [numT_nat]; exact dec_digit u
theorem text_no {k : Int} {e : ByteArray × ByteArray} (h0 : 0 ≤ k) (h : RecP e) : (35 : UInt8) ∉ textT k (bts e.1) (bts e.2) := by
  simp only [textT, List.mem_append, List.mem_singleton]
  rintro ((((hc | hc) | hc) | hc) | hc)
  · have := (numT_mem h0 _ hc).1; simp at this
  · cases hc
  · exact (h.pl1 _ hc).2.2.1 rfl
  · cases hc
  · exact (h.pl2 _ hc).2.2 rfl
def encT (k : Int) (e : ByteArray × ByteArray) : ByteArray × Bool := if inRg 0 59 k = true ∧ recB e = true then (txt (lineT k (bts e.1) (bts e.2)), true) else (⟨#[]⟩, false)
theorem spec_EncodeRecord_eq {N : Nat} {k : Int} {e : ByteArray × ByteArray} (h1 : e.1.size < 4194304) (h2 : e.2.size < 4194304) (hN : 4194304 ≤ N) : spec_EncodeRecord N k e = some (encT k e, ()) := by
  have hr : spec_l12Record N e = some (recB e, ()) := spec_l12Record_eq h1 h2 hN
  simp only [spec_EncodeRecord, spec_l1In_eq, Option.bind_some, hr, encT]
  cases hk : inRg 0 59 k with
  | false => rfl
  | true =>
    cases hb : recB e with
    | false => rfl
    | true =>
      have hp := recB_iff.1 hb
      simp only [inRg, Bool.and_eq_true, decide_eq_true_eq] at hk
      have n1 := hp.n1
      have n2 := hp.n2
      rw [spec_l12Line_eq (by omega) (by omega) (by rw [size_bts]; omega) (by rw [size_bts]; omega) hN]
      simp
theorem impl_EncodeRecord_eq {N : Nat} {k : Int} {e : ByteArray × ByteArray} (h1 : e.1.size < 4194304) (h2 : e.2.size < 4194304) (hN : 4194304 ≤ N) : impl_EncodeRecord N k e = some (encT k e, ()) := by
  simp only [impl_EncodeRecord, impl_within_eq, Option.bind_some, impl_IsValidRecord_eq h1 h2 hN, encT]
  cases hk : inRg 0 59 k with
  | false => rfl
  | true =>
    cases hb : recB e with
    | false => rfl
    | true =>
      obtain ⟨a, b⟩ := e
      have hp := recB_iff.1 hb
      simp only [inRg, Bool.and_eq_true, decide_eq_true_eq] at hk
      have n1 : (bts a).length ≤ 160 := hp.n1
      have n2 : (bts b).length ≤ 200 := hp.n2
      have e1 : a = txt (bts a) := rfl
      have e2 : b = txt (bts b) := rfl
      have h3 := numT_len (k := k) (by omega) (by omega)
      have hno : (35 : UInt8) ∉ textT k (bts a) (bts b) := text_no hk.1 hp
      simp only [Bool.not_true, cond_false, strconv_Itoa_eq (n := k) (by omega) (by omega), Option.bind_some, show (⟨#[32]⟩ : ByteArray) = txt [32] from rfl, show (⟨#[64]⟩ : ByteArray) = txt [64] from rfl, show (⟨#[10]⟩ : ByteArray) = txt [10] from rfl]
      rw [e1, e2]
      simp only [scat_txt, bts_txt]
      rw [sfit_in (by rw [size_bts, size_bts, bts_txt, bts_txt]; simp; omega), chk_true', sfit_in (by rw [size_bts, size_bts, bts_txt, bts_txt]; simp only [List.length_append, List.length_singleton]; omega), chk_true',
        sfit_in (by rw [size_bts, size_bts, bts_txt, bts_txt]; simp only [List.length_append, List.length_singleton]; omega), chk_true', sfit_in (by rw [size_bts, size_bts, bts_txt, bts_txt]; simp only [List.length_append, List.length_singleton]; omega), chk_true']
      have h5 := csN_lt (textT k (bts a) (bts b))
      have h4 := numT_len (k := (csN (textT k (bts a) (bts b)) : Nat)) (by omega) (by omega)
      rw [show numT k ++ [32] ++ bts a ++ [64] ++ bts b = textT k (bts a) (bts b) from rfl, impl_AppendChecksum_eq (by simp only [textT, List.length_append, List.length_singleton]; omega) hno hN]
      simp only [Option.bind_some, scat_txt]
      rw [sfit_in (by rw [size_bts, size_bts, bts_txt, bts_txt]; simp only [sealT, List.length_append, List.length_singleton]; simp only [textT, List.length_append, List.length_singleton] at h4 ⊢; omega), chk_true']
      simp [lineT]
theorem laws_FnExactEncodeRecord_law (k : Int) (e : ByteArray × ByteArray) (_hk : RngZ k) (h : RngR e) : ∃ N, laws_FnExactEncodeRecord N k e = some (true, ()) := by
  refine ⟨4194304, ?_⟩
  obtain ⟨r, e1, q⟩ := laws_szLogRecord_eq 4194304 h (show (0 : Int) ≤ 1048576 by omega) (by omega)
  simp only [laws_FnExactEncodeRecord, e1, Option.bind_some, ilt_eq]
  rcases q with q | ⟨q, q1, q2, q3⟩
  · rw [decide_eq_true q]; rfl
  · have hn := Nat.le_refl 4194304
    rw [decide_eq_false (show ¬ r < 0 by omega)]
    simp only [cond_false, laws_toLogRecord, Option.bind_some, spec_EncodeRecord_eq (k := k) (e := (e.1, e.2)) (show e.1.size < 4194304 by omega) (show e.2.size < 4194304 by omega) hn, impl_EncodeRecord_eq (k := k) (e := (e.1, e.2)) (show e.1.size < 4194304 by omega) (show e.2.size < 4194304 by omega) hn, seq_iff]
    cases (encT k (e.1, e.2)).2 <;> simp
end Go.Rx.Px
