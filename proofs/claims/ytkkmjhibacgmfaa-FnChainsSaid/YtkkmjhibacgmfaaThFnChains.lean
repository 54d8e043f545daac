/- This text proves, of the plain functions behind FnChains, that the law answers true (part 2 of 2); no condition beyond the ranges that its arguments have. -/
import Derived.Test.YtkkmjhibacgmfaaThAFnChains
set_option linter.unusedVariables false
set_option linter.unusedSimpArgs false
namespace Go.Rx.Px
theorem allC_eq {c : Ch} (hc : ChainP c) {B : Nat → Nat → Bool} (hcov : ∀ s, s < c.2.1.length → covS (B s) c.1 = true) : allC c B 0 c.1.length = nestCost c B := by
  have hnn : ∀ i, i < c.1.length → 0 ≤ gd c.1 i 0 := fun i hi => (hc.b0 i hi).1
  have hx : ∀ r u, u ≤ c.1.length → clip 0 c.1.length (nb c B r u) = nb c B r u := fun r u hu => by
    have := nb_ge c B r hu
    unfold clip; omega
  have hnbs : ∀ s, s < c.2.1.length → ∀ u, nb c B s u = nx (B s) c.1.length u := fun s hs u => by unfold nb; rw [if_pos hs]
  rw [← nest_cost]
  simp only [allC, costCh, nestPlan_len]
  refine rsum_congr fun s hs => ?_
  have ec : rsum (cellC c (nestPlan c B) s) c.1.length = rsum (fun t => ifpos (gd (gd (nestPlan c B) s []) t 0) (gd c.2.1 s 0)) c.1.length + gd c.2.2 s 0 * rsum (fun t => stS c (nestPlan c B) s (t + 1)) c.1.length := by
    rw [← rsum_smul, ← rsum_add]; rfl
  rw [ec]
  congr 1
  · simp only [Jn]
    rw [sumF_rsum, ← rsum_smul]
    refine rsum_congr fun t ht => ?_
    rw [nestPlan_gd c B hs, planS_gd (hcov s hs) hnn ht]
    unfold jmp
    rw [hx s t (by omega), hx s (t + 1) (by omega), hnbs s hs, hnbs s hs]
    show _ = ifpos (dem c (nx (B s) c.1.length t) (nx (B s) c.1.length (t + 1))) _
    generalize dem c (nx (B s) c.1.length t) (nx (B s) c.1.length (t + 1)) = z
    unfold ifpos
    split <;> omega
  · congr 1
    simp only [Hn]
    rw [sumF_rsum, sumF_rsum]
    have e1 : rsum (fun t => stS c (nestPlan c B) s (t + 1)) c.1.length + rsum (fun u => dem c (clip 0 c.1.length (nb c B s (u + 1))) c.1.length) c.1.length = rsum (fun u => dem c (clip 0 c.1.length (nb c B (s + 1) (u + 1))) c.1.length) c.1.length := by
      rw [← rsum_add]
      refine rsum_congr fun t ht => ?_
      rw [hx s (t + 1) (by omega), hx (s + 1) (t + 1) (by omega), hnbs s hs]
      simp only [stS, nxt, nestPlan_len, nestPlan_gd c B hs, stockAt, planS_psum (hcov s hs) hnn (show t + 1 ≤ c.1.length by omega), dem]
      by_cases e : s + 1 < c.2.1.length
      · rw [if_pos e, nestPlan_gd c B e, planS_psum (hcov _ e) hnn (show t + 1 ≤ c.1.length by omega), hnbs _ e]; omega
      · rw [if_neg e]
        unfold nb
        rw [if_neg e]; omega
    omega
theorem outV_nest {c : Ch} (hc : ChainP c) {A : Nat → Nat → Bool} (hA : NestedA A c.1.length c.2.1.length) (hcov : ∀ s, s < c.2.1.length → covS (A s) c.1 = true) : outV c 0 ≤ nestCost c A := by
  have hs1 := hc.s1
  have hB := moveS_nested hc hA
  have hcB : ∀ s, s < c.2.1.length → covS (moveS (A s) c.1) c.1 = true := fun s hs => moveS_cov hc.b0 (hcov s hs)
  have h1 := outV_le hc hB (fun p _ h => moveS_pos h) c.1.length 0 (by omega) (by
    unfold nb
    rw [if_pos (by omega)]
    simp only [dem]
    rw [nx_of_cov hc.b0 (hcB 0 (by omega)), psum_zero]; rfl)
  rw [allC_eq hc hcB] at h1
  refine Int.le_trans h1 ?_
  simp only [nestCost]
  refine rsum_le fun s hs => move_cost hc.b0 (hcov s hs) (hc.b1 s hs).1 (echel_bd hc (by have := hc.l; omega)).1
def bestCh (c : Ch) : Int × Bool := bif chainB c then (outV c 0, true) else (0, false)
end Go.Rx.Px
namespace Go.Rx
def cmpG {α : Type} (f : α → α → Int) : List α → List α → Int
  | [], [] => 0
  | [], _ :: _ => -1
  | _ :: _, [] => 1
  | x :: xs, y :: ys => if f x y = 0 then cmpG f xs ys else f x y
structure CmpOk {α : Type} (f : α → α → Int) : Prop where
  eq : ∀ x y, f x y = 0 → x = y
  self : ∀ x, f x x = 0
  anti : ∀ x y, f y x = -f x y
  trans : ∀ x y z, f x y < 0 → f y z < 0 → f x z < 0
theorem cmpG_self {α : Type} {f : α → α → Int} (h : CmpOk f) : ∀ xs, cmpG f xs xs = 0
  | [] => rfl
  | x :: xs => by simp only [cmpG, h.self, if_true]; exact cmpG_self h xs
theorem cmpG_eq {α : Type} {f : α → α → Int} (h : CmpOk f) : ∀ xs ys, cmpG f xs ys = 0 → xs = ys
  | [], [], _ => rfl
  | [], _ :: _, e => by simp [cmpG] at e
  | _ :: _, [], e => by simp [cmpG] at e
  | x :: xs, y :: ys, e => by
    simp only [cmpG] at e
    by_cases q : f x y = 0
    · rw [if_pos q] at e; rw [h.eq x y q, cmpG_eq h xs ys e]
    · rw [if_neg q] at e; exact absurd e q
theorem cmpG_anti {α : Type} {f : α → α → Int} (h : CmpOk f) : ∀ xs ys, cmpG f ys xs = -cmpG f xs ys
  | [], [] => rfl
  | [], _ :: _ => rfl
  | _ :: _, [] => rfl
  | x :: xs, y :: ys => by
    simp only [cmpG]
    have h1 := h.anti x y
    by_cases q : f x y = 0
    · rw [if_pos q, if_pos (by omega)]; exact cmpG_anti h xs ys
    · rw [if_neg q, if_neg (by omega)]; exact h1
theorem cmpG_trans {α : Type} {f : α → α → Int} (h : CmpOk f) : ∀ xs ys zs, cmpG f xs ys < 0 → cmpG f ys zs < 0 → cmpG f xs zs < 0
  | [], [], _, a, _ => by simp [cmpG] at a
  | [], _ :: _, [], _, b => by simp [cmpG] at b
  | [], _ :: _, _ :: _, _, _ => by simp [cmpG]
  | _ :: _, [], _, a, _ => by simp [cmpG] at a
  | _ :: _, _ :: _, [], _, b => by simp [cmpG] at b
  | x :: xs, y :: ys, z :: zs, a, b => by
    simp only [cmpG] at a b ⊢
    by_cases q1 : f x y = 0
    · rw [if_pos q1] at a
      have e := h.eq x y q1
      subst e
      by_cases q2 : f x z = 0
      · rw [if_pos q2] at b ⊢; exact cmpG_trans h xs ys zs a b
      · rw [if_neg q2] at b ⊢; exact b
    · rw [if_neg q1] at a
      by_cases q2 : f y z = 0
      · have e := h.eq y z q2
        subst e
        rw [if_neg q1]; exact a
      · rw [if_neg q2] at b
        have h3 := h.trans x y z a b
        rw [if_neg (by omega)]; exact h3
theorem cmpG_ok {α : Type} {f : α → α → Int} (h : CmpOk f) : CmpOk (cmpG f) := ⟨cmpG_eq h, cmpG_self h, cmpG_anti h, cmpG_trans h⟩
def cmpI (x y : Int) : Int := if x < y then -1 else if y < x then 1 else 0
theorem cmpI_ok : CmpOk cmpI := by
  refine ⟨fun x y h => ?_, fun x => ?_, fun x y => ?_, fun x y z h1 h2 => ?_⟩
  · unfold cmpI at h; split at h
    · omega
    · split at h <;> omega
  · unfold cmpI; simp
  · unfold cmpI
    by_cases a : x < y
    · rw [if_pos a, if_neg (by omega), if_pos a]; rfl
    · by_cases b : y < x
      · rw [if_pos b, if_neg a, if_pos b]
      · rw [if_neg a, if_neg b, if_neg b, if_neg a]; rfl
  · unfold cmpI at h1 h2 ⊢
    have a1 : x < y := by
      rcases Int.lt_or_le x y with q | q
      · exact q
      · rw [if_neg (by omega)] at h1; split at h1 <;> omega
    have a2 : y < z := by
      rcases Int.lt_or_le y z with q | q
      · exact q
      · rw [if_neg (by omega)] at h2; split at h2 <;> omega
    rw [if_pos (by omega)]; omega
abbrev cmpL : List Int → List Int → Int := cmpG cmpI
abbrev cmpLL : List (List Int) → List (List Int) → Int := cmpG cmpL
theorem cmpL_ok : CmpOk cmpL := cmpG_ok cmpI_ok
theorem cmpLL_ok : CmpOk cmpLL := cmpG_ok cmpL_ok
theorem drop_gd {α : Type} {xs : List α} {i : Nat} (d : α) (h : i < xs.length) : xs.drop i = gd xs i d :: xs.drop (i + 1) := by
  rw [List.drop_eq_getElem_cons h]
  simp [gd, List.getD_eq_getElem?_getD, List.getElem?_eq_getElem h]
theorem drop_out {α : Type} {xs : List α} {i : Nat} (h : xs.length ≤ i) : xs.drop i = [] := List.drop_eq_nil_of_le h
end Go.Rx
namespace Go.Rx.Px
theorem slices_Compare_loop (N : Nat) {a b : List Int} (ha : a.length < 4194304) : ∀ d i, a.length - i = d → i ≤ a.length → ∀ m, d < m → Q42_L1 N m a b a (a.length : Int) (i : Nat) = some (cmpL (a.drop i) (b.drop i), ())
  | d, i, hd, hi, 0, hm => by omega
  | d, i, hd, hi, m + 1, hm => by
    rw [Q42_L1_succ]
    simp only [Q42_B1, ilt_eq, Int.ofNat_lt, len_eq, ile_eq, Int.ofNat_le, cmp_Compare_int_eq, Option.bind_some, Int.toNat_natCast]
    by_cases h : i < a.length
    · rw [drop_gd 0 h]
      simp only [h, decide_true, cond_true, inB_true h, chk_true']
      by_cases h2 : b.length ≤ i
      · rw [drop_out h2]; simp only [h2, decide_true, cond_true]; rfl
      · have h3 : i < b.length := by omega
        rw [drop_gd 0 h3]
        simp only [h2, decide_false, cond_false, inB_true h3, chk_true', iadd_nat (show i < 4611686018427387904 by omega), ine_eq]
        have ih := slices_Compare_loop N (b := b) ha (d - 1) (i + 1) (by omega) (by omega) m (by omega)
        rw [ih]
        show _ = some (if cmpI (gd a i 0) (gd b i 0) = 0 then cmpL (a.drop (i + 1)) (b.drop (i + 1)) else cmpI (gd a i 0) (gd b i 0), ())
        show (bif !decide (cmpI (gd a i 0) (gd b i 0) = 0) then some (cmpI (gd a i 0) (gd b i 0), ()) else _) = _
        by_cases q : cmpI (gd a i 0) (gd b i 0) = 0
        · simp [q]
        · simp [q]
    · have e : i = a.length := by omega
      rw [drop_out (xs := a) (by omega)]
      simp only [h, decide_false, cond_false, Q42_K1, ilt_eq, len_eq, Int.ofNat_lt]
      by_cases h2 : a.length < b.length
      · rw [drop_gd 0 (show i < b.length by omega)]; simp only [h2, decide_true, cond_true]; rfl
      · rw [drop_out (xs := b) (by omega)]; simp only [h2, decide_false, cond_false]; rfl
theorem slices_Compare_eq {N : Nat} {a b : List Int} (ha : a.length < 4194304) (hN : 4194304 ≤ N) : Q42 N a b = some (cmpL a b, ()) := by
  have := slices_Compare_loop N (b := b) ha a.length 0 (by omega) (Nat.zero_le _) N (by omega)
  simpa [Q42] using this
theorem CompareFunc_loop (N : Nat) {a b : Pl} (ha : SmPl a) (hN : 4194304 ≤ N) : ∀ d i, a.length - i = d → i ≤ a.length → ∀ m, d < m → Q41_L1 N m a b a (a.length : Int) (i : Nat) = some (cmpLL (a.drop i) (b.drop i), ())
  | d, i, hd, hi, 0, hm => by omega
  | d, i, hd, hi, m + 1, hm => by
    have hal := ha.l
    rw [Q41_L1_succ]
    simp only [Q41_B1, ilt_eq, Int.ofNat_lt, len_eq, ile_eq, Int.ofNat_le, Int.toNat_natCast]
    by_cases h : i < a.length
    · rw [drop_gd [] h]
      simp only [h, decide_true, cond_true, inB_true h, chk_true', Q12, slices_Compare_eq (ha.r i h) hN, Option.bind_some]
      by_cases h2 : b.length ≤ i
      · rw [drop_out h2]; simp only [h2, decide_true, cond_true]; rfl
      · have h3 : i < b.length := by omega
        rw [drop_gd [] h3]
        simp only [h2, decide_false, cond_false, inB_true h3, chk_true', iadd_nat (show i < 4611686018427387904 by omega), ine_eq]
        have ih := CompareFunc_loop N (b := b) ha hN (d - 1) (i + 1) (by omega) (by omega) m (by omega)
        rw [ih]
        show _ = some (if cmpL (gd a i []) (gd b i []) = 0 then cmpLL (a.drop (i + 1)) (b.drop (i + 1)) else cmpL (gd a i []) (gd b i []), ())
        by_cases q : cmpL (gd a i []) (gd b i []) = 0
        · simp [q]
        · simp [q]
    · have e : i = a.length := by omega
      rw [drop_out (xs := a) (by omega)]
      simp only [h, decide_false, cond_false, Q41_K1, ilt_eq, len_eq, Int.ofNat_lt]
      by_cases h2 : a.length < b.length
      · rw [drop_gd [] (show i < b.length by omega)]; simp only [h2, decide_true, cond_true]; rfl
      · rw [drop_out (xs := b) (by omega)]; simp only [h2, decide_false, cond_false]; rfl
theorem CompareFunc_eq {N : Nat} {a b : Pl} (ha : SmPl a) (hN : 4194304 ≤ N) : Q41 N a b = some (cmpLL a b, ()) := by
  have := CompareFunc_loop N (b := b) ha hN a.length 0 (by omega) (Nat.zero_le _) N (by have := ha.l; omega)
  simpa [Q41] using this
def famL (A : Nat → Nat → Bool) (K n : Nat) : Pl := (List.range K).map fun s => pns (A s) n
theorem famL_len (A : Nat → Nat → Bool) (K n : Nat) : (famL A K n).length = K := map_range_len _ _
theorem famL_gd (A : Nat → Nat → Bool) (K n : Nat) {s : Nat} (h : s < K) : gd (famL A K n) s [] = pns (A s) n := gd_map_range _ [] h
theorem famL_sm (A : Nat → Nat → Bool) {K n : Nat} (hK : K < 4194304) (hn : n < 4194304) : SmPl (famL A K n) := ⟨by rw [famL_len]; exact hK, fun s hs => by
  rw [famL_len] at hs
  rw [famL_gd A K n hs]
  have := cnt_le (A s) n
  unfold cnt at this; omega⟩
def covAll (c : Ch) (A : Nat → Nat → Bool) : Bool := (List.range c.2.1.length).all fun s => covS (A s) c.1
theorem covAll_iff {c : Ch} {A : Nat → Nat → Bool} : covAll c A = true ↔ ∀ s, s < c.2.1.length → covS (A s) c.1 = true := rangeB
theorem range_take {α : Type} (f : Nat → α) : ∀ n, (List.range (n + 1)).map f = (List.range n).map f ++ [f n] := fun n => by rw [List.range_succ, List.map_append]; rfl
theorem evenC0_P {c : Ch} (hc : ChainP c) : CaseP (evenC c.1 0 0) := evenC_P hc.n hc.b0 (by omega) (by omega)
theorem impl_Chain_nested_eq {N : Nat} {c : Ch} (hc : ChainP c) (A : Nat → Nat → Bool) (hN : 4194304 ≤ N) : Q15 N c (famL A c.2.1.length c.1.length) = some (bif covAll c A then (nestPlan c A, true) else ([], false), ()) := by
  have h3 := hc.s3
  have hn := hc.n
  have step : ∀ s, s < c.2.1.length → ∀ kx out, out.length < 1000 → Q15_B1 N kx (famL A c.2.1.length c.1.length) (c.2.1.length : Int) (s : Nat) c out = bif covS (A s) c.1 then kx (famL A c.2.1.length c.1.length) (c.2.1.length : Int) ((s + 1 : Nat) : Int) c (out ++ [planS (A s) c.1]) else some (([], false), ()) := fun s hs kx out ho => by
    have hpf := impl_Case_planFrom_eq (evenC0_P hc) (A s) hN
    have e1 : (evenC c.1 0 0).1 = c.1 := rfl
    rw [e1] at hpf
    simp only [Q15_B1, ilt_eq, Int.ofNat_lt, hs, decide_true, cond_true, inB_true (show s < (famL A c.2.1.length c.1.length).length by rw [famL_len]; exact hs), chk_true', impl_evenCase_eq 0 0 hn hN, Option.bind_some, Int.toNat_natCast, famL_gd A _ _ hs, hpf, bif_not, iadd_nat (show s < 4611686018427387904 by omega)]
    cases covS (A s) c.1 with
    | false => rfl
    | true => simp only [cond_true, chk_of (fitB_in (n := out.length + 1) (b := 24) (by omega) (by omega))]
  simp only [Q15, len_eq, famL_len]
  rcases range_cases (fun s => covS (A s) c.1) c.2.1.length with ⟨h1, h2⟩ | ⟨h1, j, h2, h4, h5⟩
  · have h1' : covAll c A = true := h1
    rw [h1']
    refine Q15_L1_run N (fun _ => famL A c.2.1.length c.1.length) (fun _ => (c.2.1.length : Int)) (fun s => (s : Int)) (fun _ => c) (fun s => (List.range s).map fun s => planS (A s) c.1) c.2.1.length (fun s hs kx => ?_) (fun kx => ?_) N (by omega)
    · rw [step s hs kx _ (by simp; omega), h2 s hs]; simp only [cond_true, range_take]
    · simp only [Q15_B1, Q15_K1, ilt_eq, Int.lt_irrefl, decide_false, cond_false, cond_true]; rfl
  · have h1' : covAll c A = false := h1
    rw [h1']
    refine Q15_L1_run N (fun _ => famL A c.2.1.length c.1.length) (fun _ => (c.2.1.length : Int)) (fun s => (s : Int)) (fun _ => c) (fun s => (List.range s).map fun s => planS (A s) c.1) j (fun s hs kx => ?_) (fun kx => ?_) N (by omega)
    · rw [step s (by omega) kx _ (by simp; omega), h4 s hs]; simp only [cond_true, range_take]
    · rw [step j h2 kx _ (by simp; omega), h5]; rfl
def digB (B k i : Nat) : Nat := k / B ^ i % B
def codeA (K k : Nat) (s i : Nat) : Bool := decide (K ≤ s + digB (K + 1) k i)
theorem codeA_nested (K k n : Nat) : NestedA (codeA K k) n K := fun s _ p _ h => by
  simp only [codeA, decide_eq_true_eq] at h ⊢; omega
theorem digits {B : Nat} (hB : 0 < B) : ∀ (n : Nat) (d : Nat → Nat), (∀ i, i < n → d i < B) → ∃ k, k < B ^ n ∧ ∀ i, i < n → digB B k i = d i
  | 0, _, _ => ⟨0, by simp, fun i hi => by omega⟩
  | n + 1, d, h => by
    obtain ⟨k, h1, h2⟩ := digits hB n (fun i => d (i + 1)) (fun i hi => h (i + 1) (by omega))
    have hd := h 0 (by omega)
    refine ⟨d 0 + B * k, ?_, fun i hi => ?_⟩
    · have : B * k + B ≤ B * B ^ n := by rw [← Nat.mul_succ]; exact Nat.mul_le_mul_left B h1
      rw [Nat.pow_succ, Nat.mul_comm (B ^ n)]; omega
    · cases i with
      | zero => simp only [digB, Nat.pow_zero, Nat.div_one, Nat.add_mul_mod_self_left]; exact Nat.mod_eq_of_lt hd
      | succ i =>
        have := h2 i (by omega)
        simp only [digB] at this ⊢
        rw [Nat.pow_succ, Nat.mul_comm (B ^ i), ← Nat.div_div_eq_div_mul, Nat.add_mul_div_left _ _ hB, Nat.div_eq_of_lt hd, Nat.zero_add]
        exact this
theorem code_nested {A : Nat → Nat → Bool} {n K : Nat} (hA : NestedA A n K) : ∃ k, k < (K + 1) ^ n ∧ ∀ s, s < K → ∀ i, i < n → codeA K k s i = A s i := by
  have hcount : ∀ i, i < n → ∃ d, d ≤ K ∧ ∀ s, s < K → (A s i = true ↔ K ≤ s + d) := fun i hi => by
    have key : ∀ m, m ≤ K → ∃ d, d ≤ m ∧ ∀ s, s < K → K ≤ s + m → (A s i = true ↔ K ≤ s + d) := by
      intro m
      induction m with
      | zero => intro _; exact ⟨0, Nat.le_refl _, fun s h1 h2 => by omega⟩
      | succ m ih =>
        intro hm
        obtain ⟨d, h1, h2⟩ := ih (by omega)
        by_cases e : A (K - (m + 1)) i = true
        · have hall : ∀ j s, s = K - (m + 1) + j → s < K → A s i = true := by
            intro j
            induction j with
            | zero => intro s hs _; rw [hs]; exact e
            | succ j ihj =>
              intro s hs hsK
              have := ihj (s - 1) (by omega) (by omega)
              have := hA (s - 1) (by omega) i hi this
              rwa [show s - 1 + 1 = s by omega] at this
          exact ⟨m + 1, Nat.le_refl _, fun s hs1 hs2 => ⟨fun _ => hs2, fun _ => hall (s - (K - (m + 1))) s (by omega) hs1⟩⟩
        · refine ⟨d, by omega, fun s hs1 hs2 => ?_⟩
          by_cases e2 : s = K - (m + 1)
          · subst e2
            exact ⟨fun h => absurd h e, fun h => by omega⟩
          · exact h2 s hs1 (by omega)
    obtain ⟨d, h1, h2⟩ := key K (Nat.le_refl _)
    exact ⟨d, h1, fun s hs => h2 s hs (by omega)⟩
  let d : Nat → Nat := fun i => if h : i < n then Classical.choose (hcount i h) else 0
  obtain ⟨k, h1, h2⟩ := digits (B := K + 1) (by omega) n d (fun i hi => by
    have := (Classical.choose_spec (hcount i hi)).1
    simp only [d, dif_pos hi]; omega)
  refine ⟨k, h1, fun s hs i hi => ?_⟩
  have h3 := (Classical.choose_spec (hcount i hi)).2 s hs
  have h4 := h2 i hi
  simp only [d, dif_pos hi] at h4
  rw [codeA, h4, Bool.eq_iff_iff, decide_eq_true_eq]
  exact h3.symm
theorem iquo_nat {a b : Nat} (ha : a < 4611686018427387904) : iquo .i64 (a : Int) (b : Int) = ((a / b : Nat) : Int) := by
  have h : (a : Int).tdiv (b : Int) = ((a / b : Nat) : Int) := (Int.ofNat_tdiv a b).symm
  have h2 : a / b ≤ a := Nat.div_le_self a b
  unfold iquo
  rw [h]
  generalize a / b = q at h2
  exact wrap_in (by omega) (by omega)
theorem irem_nat (a b : Nat) : irem (a : Int) (b : Int) = ((a % b : Nat) : Int) := (Int.ofNat_tmod a b).symm
theorem impl_power_eq {N a n : Nat} (ha : a ≤ 4) (hn : n ≤ 6) (hN : 4194304 ≤ N) : Q26 N (a : Nat) (n : Nat) = some (((a ^ n : Nat) : Int), ()) := by
  have hp : ∀ i, i ≤ n → a ^ i ≤ 4096 := fun i hi => Nat.le_trans (Nat.pow_le_pow_left ha i) (Nat.le_trans (Nat.pow_le_pow_right (by omega) (show i ≤ 6 by omega)) (by decide))
  refine Q26_L1_run N (fun _ => (a : Int)) (fun i => ((a ^ i : Nat) : Int)) (fun _ => (n : Int)) (fun i => (i : Int)) n (fun i hi kx => ?_) (fun kx => ?_) N (by omega)
  · have h1 := hp i (by omega)
    have h2 := hp (i + 1) (by omega)
    have e : ((a ^ i : Nat) : Int) * (a : Nat) = ((a ^ (i + 1) : Nat) : Int) := by rw [Nat.pow_succ]; exact (Int.natCast_mul _ _).symm
    simp only [Q26_B1, ilt_eq, Int.ofNat_lt, hi, decide_true, cond_true, iadd_nat (show i < 4611686018427387904 by omega)]
    rw [imul_in (by rw [e]; omega) (by rw [e]; omega), e]
  · simp only [Q26_B1, Q26_K1, ilt_eq, Int.lt_irrefl, decide_false, cond_false]
def sumD (B k : Nat) : Nat → Nat
  | 0 => 0
  | i + 1 => sumD B k i + digB B k i
def perR (K k i st : Nat) : Pl := (List.range K).map fun s => pns (codeA K k s) i ++ (if codeA K k s i = true ∧ s < st then [(i : Int)] else [])
theorem dig_le (K k i : Nat) : digB (K + 1) k i ≤ K := by have := Nat.mod_lt (k / (K + 1) ^ i) (show 0 < K + 1 by omega); unfold digB; omega
theorem perR_len (K k i st : Nat) : (perR K k i st).length = K := map_range_len _ _
theorem perR_gd (K k i st : Nat) {s : Nat} (h : s < K) : gd (perR K k i st) s [] = pns (codeA K k s) i ++ (if codeA K k s i = true ∧ s < st then [(i : Int)] else []) := gd_map_range _ [] h
theorem gdl_ext {xs ys : Pl} (hl : xs.length = ys.length) (h : ∀ i, i < xs.length → gd xs i [] = gd ys i []) : xs = ys := by
  apply List.ext_getElem hl
  intro i h1 h2
  have := h i h1
  simpa [gd, List.getD_eq_getElem?_getD, List.getElem?_eq_getElem h1, List.getElem?_eq_getElem h2] using this
theorem gdl_set {xs : Pl} {i j : Nat} {v : List Int} (hi : i < xs.length) : gd (List.set xs i v) j [] = if j = i then v else gd xs j [] := by
  by_cases e : j = i
  · subst e; rw [if_pos rfl]; simp [gd, List.getD_eq_getElem?_getD, hi]
  · rw [if_neg e]; simp [gd, List.getD_eq_getElem?_getD, List.getElem?_set_ne (Ne.symm e)]
theorem perR_zero (K k i : Nat) : perR K k i (K - digB (K + 1) k i) = famL (codeA K k) K i := gdl_ext (by rw [perR_len, famL_len]) fun s hs => by
  rw [perR_len] at hs
  have := dig_le K k i
  rw [perR_gd _ _ _ _ hs, famL_gd _ _ _ hs, if_neg (fun h => by have := h.1; simp only [codeA, decide_eq_true_eq] at this; omega), List.append_nil]
theorem perR_all (K k i : Nat) : perR K k i K = famL (codeA K k) K (i + 1) := gdl_ext (by rw [perR_len, famL_len]) fun s hs => by
  rw [perR_len] at hs
  rw [perR_gd _ _ _ _ hs, famL_gd _ _ _ hs, pns_succ]
  congr 1
  by_cases e : codeA K k s i = true
  · rw [if_pos ⟨e, hs⟩, if_pos e]
  · rw [if_neg (fun h => e h.1), if_neg e]
theorem perR_step {K k i st : Nat} (h1 : K ≤ st + digB (K + 1) k i) (h2 : st < K) : List.set (perR K k i st) st (gd (perR K k i st) st [] ++ [(i : Int)]) = perR K k i (st + 1) := gdl_ext (by simp [perR_len]) fun s hs => by
  simp only [List.length_set, perR_len] at hs
  have hc : codeA K k st i = true := by simp only [codeA, decide_eq_true_eq]; exact h1
  rw [gdl_set (by rw [perR_len]; exact h2)]
  by_cases e : s = st
  · subst e
    rw [if_pos rfl, perR_gd _ _ _ _ h2, perR_gd _ _ _ _ h2, if_neg (fun h => by omega), if_pos ⟨hc, by omega⟩, List.append_nil]
  · rw [if_neg e, perR_gd _ _ _ _ hs, perR_gd _ _ _ _ hs]
    congr 1
    by_cases q : codeA K k s i = true ∧ s < st
    · rw [if_pos q, if_pos ⟨q.1, by omega⟩]
    · rw [if_neg q, if_neg (fun h => q ⟨h.1, by omega⟩)]
theorem bn_stages {N K k i : Nat} (hK : K ≤ 3) (hi : i ≤ 6) (hN : 4194304 ≤ N) (kx1 : Int → Int → Int → Int → Int → Int → Int → Int → Int → Int → Ch → Pl → Pl → Option ((Pl × Int) × Unit)) (n least length code sum ii v28 v29 v34 v35 : Int) (hii : ii = (i : Nat)) (c : Ch) (best : Pl) :
    Q11_L1 N N kx1 n (K : Nat) least length code sum ii ((digB (K + 1) k i : Nat) : Int) ((K - digB (K + 1) k i : Nat) : Int) v28 v29 v34 v35 c best (famL (codeA K k) K i) =
      kx1 n (K : Nat) least length code (iadd .i64 sum ((digB (K + 1) k i : Nat) : Int)) v28 v29 v34 (iadd .i64 v35 1) c best (famL (codeA K k) K (i + 1)) := by
  subst hii
  have hd := dig_le K k i
  have hlen : ∀ s st, s < K → (gd (perR K k i st) s []).length ≤ 7 := fun s st hs => by
    rw [perR_gd _ _ _ _ hs, List.length_append]
    have := cnt_le (codeA K k s) i
    unfold cnt at this
    split <;> simp <;> omega
  have key := Q11_L1_run N kx1 (fun _ => n) (fun _ => (K : Int)) (fun _ => least) (fun _ => length) (fun _ => code) (fun _ => sum) (fun _ => (i : Int)) (fun _ => ((digB (K + 1) k i : Nat) : Int)) (fun j => ((K - digB (K + 1) k i + j : Nat) : Int)) (fun _ => v28) (fun _ => v29) (fun _ => v34) (fun _ => v35) (fun _ => c) (fun _ => best) (fun j => perR K k i (K - digB (K + 1) k i + j)) (digB (K + 1) k i)
    (res_ := kx1 n (K : Nat) least length code (iadd .i64 sum ((digB (K + 1) k i : Nat) : Int)) v28 v29 v34 (iadd .i64 v35 1) c best (famL (codeA K k) K (i + 1))) (fun j hj kx2 => by
      have hlt : K - digB (K + 1) k i + j < K := by omega
      have h7 := hlen _ (K - digB (K + 1) k i + j) hlt
      have hn : natEq (K - digB (K + 1) k i + j) (K - digB (K + 1) k i + j) = true := by simp [natEq]
      simp only [Q11_B1, ilt_eq, Int.ofNat_lt, hlt, decide_true, cond_true, inB_true (show K - digB (K + 1) k i + j < (perR K k i (K - digB (K + 1) k i + j)).length by rw [perR_len]; exact hlt), chk_true', Int.toNat_natCast, chk_of (fitB_in (n := (gd (perR K k i (K - digB (K + 1) k i + j)) (K - digB (K + 1) k i + j) []).length + 1) (b := 8) (by omega) (by omega)), hn, iadd_nat (show K - digB (K + 1) k i + j < 4611686018427387904 by omega)]
      rw [perR_step (by omega) hlt]; rfl)
    (fun kx2 => by
      rw [show K - digB (K + 1) k i + digB (K + 1) k i = K by omega]
      simp only [Q11_B1, Q11_K1, ilt_eq, Int.lt_irrefl, decide_false, cond_false, perR_all]) N (by omega)
  simp only [Nat.add_zero, perR_zero] at key
  exact key
theorem sumD_le (K k : Nat) : ∀ i, sumD (K + 1) k i ≤ K * i
  | 0 => Nat.zero_le _
  | i + 1 => by have := sumD_le K k i; have := dig_le K k i; simp only [sumD, Nat.mul_succ]; omega
theorem bn_periods {N : Nat} {c : Ch} (hc : ChainP c) {k : Nat} (hk : k < 4096) (hN : 4194304 ≤ N) (kx : Int → Int → Int → Int → Int → Int → Ch → Pl → Option ((Pl × Int) × Unit)) (least length v28 v29 : Int) (best : Pl) :
    Q11_L2 N N kx (c.1.length : Int) (c.2.1.length : Int) least length (k : Nat) 0 v28 v29 (c.1.length : Int) 0 c best (famL (codeA c.2.1.length k) c.2.1.length 0) =
      Q11_K3 N kx (c.1.length : Int) (c.2.1.length : Int) least length ((sumD (c.2.1.length + 1) k c.1.length : Nat) : Int) v28 v29 c best (famL (codeA c.2.1.length k) c.2.1.length c.1.length) := by
  have hn := hc.n
  have h3 := hc.s3
  refine Q11_L2_run N kx (fun _ => (c.1.length : Int)) (fun _ => (c.2.1.length : Int)) (fun _ => least) (fun _ => length) (fun _ => ((k : Nat) : Int)) (fun i => ((sumD (c.2.1.length + 1) k i : Nat) : Int)) (fun _ => v28) (fun _ => v29) (fun _ => (c.1.length : Int)) (fun i => (i : Int)) (fun _ => c) (fun _ => best) (fun i => famL (codeA c.2.1.length k) c.2.1.length i) c.1.length (fun i hi kx1 => ?_) (fun kx1 => ?_) N (by omega)
  · have hp : 0 < (c.2.1.length + 1) ^ i := Nat.pow_pos (by omega)
    have hd := dig_le c.2.1.length k i
    have hsd := sumD_le c.2.1.length k i
    have hsd2 : c.2.1.length * i ≤ 3 * 6 := Nat.mul_le_mul h3 (by omega)
    have e1 : iadd .i64 ((c.2.1.length : Nat) : Int) 1 = ((c.2.1.length + 1 : Nat) : Int) := iadd_nat (by omega)
    have e2 : irem (iquo .i64 ((k : Nat) : Int) (((c.2.1.length + 1) ^ i : Nat) : Int)) ((c.2.1.length + 1 : Nat) : Int) = ((digB (c.2.1.length + 1) k i : Nat) : Int) := by
      rw [iquo_nat (by omega), irem_nat]; rfl
    have e3 : isub .i64 ((c.2.1.length : Nat) : Int) ((digB (c.2.1.length + 1) k i : Nat) : Int) = ((c.2.1.length - digB (c.2.1.length + 1) k i : Nat) : Int) := by rw [isub_in (by omega) (by omega)]; omega
    simp only [Q11_B2, ilt_eq, Int.ofNat_lt, hi, decide_true, cond_true, e1, impl_power_eq (show c.2.1.length + 1 ≤ 4 by omega) (show i ≤ 6 by omega) hN, Option.bind_some, ine_eq]
    rw [show decide ((((c.2.1.length + 1) ^ i : Nat) : Int) = 0) = false from decide_eq_false (by omega), show decide (((c.2.1.length + 1 : Nat) : Int) = 0) = false from decide_eq_false (by omega)]
    simp only [Bool.not_false, chk_true', e2, e3]
    rw [bn_stages h3 (by omega) hN kx1 _ _ _ _ _ _ _ _ _ _ rfl]
    rw [iadd_in (a := ((sumD (c.2.1.length + 1) k i : Nat) : Int)) (by omega) (by omega), iadd_nat (show i < 4611686018427387904 by omega)]
    rfl
  · simp only [Q11_B2, ilt_eq, Int.lt_irrefl, decide_false, cond_false]
def famK (c : Ch) (k : Nat) : Pl := famL (codeA c.2.1.length k) c.2.1.length c.1.length
def cstK (c : Ch) (k : Nat) : Int := nestCost c (codeA c.2.1.length k)
def smK (c : Ch) (k : Nat) : Nat := sumD (c.2.1.length + 1) k c.1.length
def covK (c : Ch) (k : Nat) : Bool := covAll c (codeA c.2.1.length k)
def betterB (cx cy : Int) (mx my : Nat) (x y : Pl) : Bool := decide (cx < cy) || (decide (cx = cy) && (decide (mx < my) || (decide (mx = my) && decide (cmpLL x y < 0))))
def bestNo (c : Ch) : Nat → Option Nat
  | 0 => none
  | k + 1 => if covK c k then (match bestNo c k with
    | none => some k
    | some j => if betterB (cstK c k) (cstK c j) (smK c k) (smK c j) (famK c k) (famK c j) then some k else some j) else bestNo c k
theorem nestPlan_ch {c : Ch} (hc : ChainP c) (hcb : chainB c = true) {A : Nat → Nat → Bool} (hA : NestedA A c.1.length c.2.1.length) (hcov : ∀ s, s < c.2.1.length → covS (A s) c.1 = true) : ChPl c (nestPlan c A) := chPl (by rw [hcb, nest_ok hc hA hcov]; rfl)
theorem nestCost_bd {c : Ch} (hc : ChainP c) (hcb : chainB c = true) {A : Nat → Nat → Bool} (hA : NestedA A c.1.length c.2.1.length) (hcov : ∀ s, s < c.2.1.length → covS (A s) c.1 = true) : 0 ≤ nestCost c A ∧ nestCost c A ≤ 118422 := by
  have h := totC_bd (nestPlan_ch hc hcb hA hcov) (Nat.le_refl _)
  have h3 := hc.s3
  have e : rsum (fun s => rsum (cellC c (nestPlan c A) s) c.1.length) (nestPlan c A).length = nestCost c A := nest_cost c A
  rw [e, nestPlan_len] at h
  omega
theorem nestPlan_sm {c : Ch} (hc : ChainP c) (A : Nat → Nat → Bool) : SmPl (nestPlan c A) := ⟨by rw [nestPlan_len]; have := hc.s3; omega, fun s hs => by
  rw [nestPlan_len] at hs
  rw [nestPlan_gd c A hs, planS_len]
  have := hc.n; omega⟩
def encP (c : Ch) : Option Nat → Pl | none => [] | some j => famK c j
def encC (c : Ch) : Option Nat → Int | none => 1099511627776 | some j => cstK c j
def encM (c : Ch) : Option Nat → Int | none => 0 | some j => ((smK c j : Nat) : Int)
theorem bn_step {N : Nat} {c : Ch} (hc : ChainP c) (hcb : chainB c = true) (hs : SmCh c) {k : Nat} (hk : k < 4096) (hN : 4194304 ≤ N) (kx : Int → Int → Int → Int → Int → Int → Ch → Pl → Option ((Pl × Int) × Unit)) (v28 : Int) :
    Q11_K3 N kx (c.1.length : Int) (c.2.1.length : Int) (encC c (bestNo c k)) (encM c (bestNo c k)) ((smK c k : Nat) : Int) v28 (k : Nat) c (encP c (bestNo c k)) (famK c k) =
      kx (c.1.length : Int) (c.2.1.length : Int) (encC c (bestNo c (k + 1))) (encM c (bestNo c (k + 1))) v28 ((k + 1 : Nat) : Int) c (encP c (bestNo c (k + 1))) := by
  have hn := hc.n
  have h3 := hc.s3
  have hne := impl_Chain_nested_eq (N := N) hc (codeA c.2.1.length k) hN
  have hA := codeA_nested c.2.1.length k c.1.length
  have hsm : SmPl (famK c k) := famL_sm _ (by omega) (by omega)
  simp only [Q11_K3, bestNo]
  rw [show Q15 N c (famK c k) = _ from hne]
  simp only [Option.bind_some, covK, bif_not, iadd_nat (show k < 4611686018427387904 by omega)]
  by_cases hcv : covAll c (codeA c.2.1.length k) = true
  case neg =>
    have hcv' : covAll c (codeA c.2.1.length k) = false := by simpa using hcv
    simp only [hcv', cond_false, Bool.false_eq_true, if_false]
  case pos =>
    have hcov := covAll_iff.1 hcv
    have hcost : Q13 N c (nestPlan c (codeA c.2.1.length k)) = some (cstK c k, ()) := by
      rw [impl_Chain_cost_eq (nest_ok hc hA hcov) (nestPlan_ch hc hcb hA hcov) hs (nestPlan_sm hc _) hN, nest_cost]; rfl
    have hbd : 0 ≤ cstK c k ∧ cstK c k ≤ 118422 := nestCost_bd hc hcb hA hcov
    have hcmp : ∀ y, Q41 N (famK c k) y = some (cmpLL (famK c k) y, ()) := fun y => CompareFunc_eq hsm hN
    simp only [hcv, cond_true, hcost, Option.bind_some, hcmp, ilt_eq, ieq_eq, Q11_K2, iadd_nat (show k < 4611686018427387904 by omega), if_true]
    cases hb : bestNo c k with
    | none =>
      simp only [encC, encM, encP, show cstK c k < 1099511627776 by omega, decide_true, cond_true]
      by_cases q1 : ((smK c k : Nat) : Int) < 0
      · omega
      · simp only [q1, decide_false, cond_false]
        by_cases q2 : ((smK c k : Nat) : Int) = 0 <;> simp [q2]
    | some j =>
      simp only [encC, encM, encP, betterB, Int.ofNat_lt]
      simp only [Int.natCast_inj]
      by_cases q1 : cstK c k < cstK c j
      · by_cases q2 : smK c k < smK c j
        · simp [q1, q2]
        · by_cases q3 : smK c k = smK c j <;> simp [q1, q2, q3]
      · by_cases q0 : cstK c k = cstK c j
        · by_cases q2 : smK c k < smK c j
          · simp [eq_false q1, eq_true q0, q2]
          · by_cases q3 : smK c k = smK c j
            · by_cases q4 : cmpLL (famK c k) (famK c j) < 0 <;> simp [eq_false q1, eq_true q0, eq_false q2, eq_true q3, q4]
            · simp [eq_false q1, eq_true q0, eq_false q2, eq_false q3]
        · by_cases q2 : smK c k < smK c j
          · simp [eq_false q1, eq_false q0, q2]
          · by_cases q3 : smK c k = smK c j
            · simp [eq_false q1, eq_false q0, eq_false q2, eq_true q3]
            · simp [eq_false q1, eq_false q0, eq_false q2, eq_false q3]
noncomputable def allNo (c : Ch) : Nat := (c.2.1.length + 1) ^ c.1.length
theorem allNo_le {c : Ch} (hc : ChainP c) : allNo c ≤ 4096 := by
  have h3 := hc.s3
  exact Nat.le_trans (Nat.pow_le_pow_left (show c.2.1.length + 1 ≤ 4 by omega) _) (Nat.le_trans (Nat.pow_le_pow_right (by omega) hc.n) (by decide))
theorem impl_bestNested_eq {N : Nat} {c : Ch} (hc : ChainP c) (hcb : chainB c = true) (hs : SmCh c) (hN : 4194304 ≤ N) : Q11 N c = some ((encP c (bestNo c (allNo c)), encC c (bestNo c (allNo c))), ()) := by
  have hn := hc.n
  have h3 := hc.s3
  have hal := allNo_le hc
  have e1 : iadd .i64 ((c.2.1.length : Nat) : Int) 1 = ((c.2.1.length + 1 : Nat) : Int) := iadd_nat (by omega)
  simp only [Q11, len_eq, e1, impl_power_eq (show c.2.1.length + 1 ≤ 4 by omega) hn hN, Option.bind_some]
  refine Q11_L3_run N (fun _ => (c.1.length : Int)) (fun _ => (c.2.1.length : Int)) (fun k => encC c (bestNo c k)) (fun k => encM c (bestNo c k)) (fun _ => ((allNo c : Nat) : Int)) (fun k => (k : Int)) (fun _ => c) (fun k => encP c (bestNo c k)) (allNo c) (fun k hk kx => ?_) (fun kx => ?_) N (by omega)
  · have e2 : List.replicate c.2.1.length ([] : List Int) = famL (codeA c.2.1.length k) c.2.1.length 0 := gdl_ext (by simp [famL_len]) fun s hs' => by
      simp only [List.length_replicate] at hs'
      rw [famL_gd _ _ _ hs']
      simp [gd, List.getD_eq_getElem?_getD, hs', pns]
    simp only [Q11_B3, ilt_eq, Int.ofNat_lt, hk, decide_true, cond_true, chk_of (mkB_in (n := c.2.1.length) (b := 24) (by omega) (by omega)), Int.toNat_natCast, e2]
    rw [bn_periods hc (by omega) hN]
    exact bn_step hc hcb hs (by omega) hN kx _
  · simp only [Q11_B3, Q11_K4, ilt_eq, Int.lt_irrefl, decide_false, cond_false]
theorem betterB_iff {cx cy : Int} {mx my : Nat} {x y : Pl} : betterB cx cy mx my x y = true ↔ cx < cy ∨ cx = cy ∧ (mx < my ∨ mx = my ∧ cmpLL x y < 0) := by
  simp only [betterB, Bool.or_eq_true, Bool.and_eq_true, decide_eq_true_eq]
theorem betterB_trans {cx cy cz : Int} {mx my mz : Nat} {x y z : Pl} (h1 : betterB cx cy mx my x y = true) (h2 : betterB cy cz my mz y z = true) : betterB cx cz mx mz x z = true := by
  rw [betterB_iff] at *
  rcases h1 with a | ⟨a, b⟩
  · rcases h2 with d | ⟨d, _⟩
    · left; omega
    · left; omega
  · rcases h2 with d | ⟨d, e⟩
    · left; omega
    · right
      refine ⟨a.trans d, ?_⟩
      rcases b with b | ⟨b, b2⟩
      · rcases e with e | ⟨e, _⟩
        · left; omega
        · left; omega
      · rcases e with e | ⟨e, e2⟩
        · left; omega
        · exact .inr ⟨b.trans e, cmpLL_ok.trans x y z b2 e2⟩
theorem better_self {cx : Int} {mx : Nat} {x : Pl} : betterB cx cx mx mx x x = false := by
  cases h : betterB cx cx mx mx x x with
  | false => rfl
  | true =>
    rw [betterB_iff] at h
    rcases h with h | ⟨_, h | ⟨_, h⟩⟩
    · omega
    · omega
    · rw [cmpLL_ok.self] at h; omega
theorem bestNo_is (c : Ch) : ∀ k, (bestNo c k = none ∧ ∀ j, j < k → covK c j = false) ∨ (∃ j, j < k ∧ bestNo c k = some j ∧ covK c j = true ∧ ∀ i, i < k → covK c i = true → betterB (cstK c i) (cstK c j) (smK c i) (smK c j) (famK c i) (famK c j) = false)
  | 0 => .inl ⟨rfl, fun j h => by omega⟩
  | k + 1 => by
    have ih := bestNo_is c k
    simp only [bestNo]
    by_cases hk : covK c k = true
    · rw [if_pos hk]
      rcases ih with ⟨h1, h2⟩ | ⟨j, h1, h2, h3, h4⟩
      · rw [h1]
        refine .inr ⟨k, by omega, rfl, hk, fun i hi hc => ?_⟩
        by_cases e : i = k
        · rw [e]; exact better_self
        · rw [h2 i (by omega)] at hc; cases hc
      · rw [h2]
        simp only
        by_cases hb : betterB (cstK c k) (cstK c j) (smK c k) (smK c j) (famK c k) (famK c j) = true
        · rw [if_pos hb]
          refine .inr ⟨k, by omega, rfl, hk, fun i hi hc => ?_⟩
          by_cases e : i = k
          · rw [e]; exact better_self
          · cases hq : betterB (cstK c i) (cstK c k) (smK c i) (smK c k) (famK c i) (famK c k) with
            | false => rfl
            | true =>
              have := betterB_trans hq hb
              rw [h4 i (by omega) hc] at this; cases this
        · rw [if_neg hb]
          refine .inr ⟨j, by omega, rfl, h3, fun i hi hc => ?_⟩
          by_cases e : i = k
          · rw [e]; simpa using hb
          · exact h4 i (by omega) hc
    · rw [if_neg hk]
      rcases ih with ⟨h1, h2⟩ | ⟨j, h1, h2, h3, h4⟩
      · refine .inl ⟨h1, fun j hj => ?_⟩
        by_cases e : j = k
        · rw [e]; simpa using hk
        · exact h2 j (by omega)
      · refine .inr ⟨j, by omega, h2, h3, fun i hi hc => ?_⟩
        by_cases e : i = k
        · rw [e] at hc; exact absurd hc hk
        · exact h4 i (by omega) hc
theorem nestCost_ext {c : Ch} {A B : Nat → Nat → Bool} (h : ∀ s, s < c.2.1.length → ∀ i, i < c.1.length → A s i = B s i) : nestCost c A = nestCost c B ∧ covAll c A = covAll c B ∧ famL A c.2.1.length c.1.length = famL B c.2.1.length c.1.length := by
  refine ⟨rsum_congr fun s hs => by rw [planS_ext (h s hs)], ?_, ?_⟩
  · rw [Bool.eq_iff_iff, covAll_iff, covAll_iff]
    exact ⟨fun g s hs => by rw [← covS_ext (h s hs)]; exact g s hs, fun g s hs => by rw [covS_ext (h s hs)]; exact g s hs⟩
  · exact gdl_ext (by rw [famL_len, famL_len]) fun s hs => by
      rw [famL_len] at hs
      rw [famL_gd _ _ _ hs, famL_gd _ _ _ hs, pns_ext (h s hs)]
theorem bestNo_end {c : Ch} (hc : ChainP c) : ∃ j, j < allNo c ∧ bestNo c (allNo c) = some j ∧ covK c j = true ∧ cstK c j = outV c 0 ∧ ∀ i, i < allNo c → covK c i = true → betterB (cstK c i) (cstK c j) (smK c i) (smK c j) (famK c i) (famK c j) = false := by
  obtain ⟨A, a1, a2, a3⟩ := out_ge hc
  obtain ⟨k, k1, k2⟩ := code_nested a1
  obtain ⟨e1, e2, _⟩ := nestCost_ext (c := c) k2
  have hcov : covK c k = true := by show covAll c (codeA c.2.1.length k) = true; rw [e2]; exact covAll_iff.2 a2
  rcases bestNo_is c (allNo c) with ⟨_, h2⟩ | ⟨j, h1, h2, h3, h4⟩
  · rw [h2 k k1] at hcov; cases hcov
  · refine ⟨j, h1, h2, h3, ?_, h4⟩
    have hle : outV c 0 ≤ cstK c j := outV_nest hc (codeA_nested _ _ _) (covAll_iff.1 h3)
    have hge : cstK c j ≤ cstK c k := by
      rcases Int.lt_or_le (cstK c k) (cstK c j) with e | e
      · have := h4 k k1 hcov
        rw [betterB_iff.2 (.inl e)] at this; cases this
      · exact e
    have : cstK c k = nestCost c A := e1
    omega
theorem impl_BestChainCost_eq {N : Nat} {c : Ch} (hs : SmCh c) (hN : 4194304 ≤ N) : Q3 N c = some (bestCh c, ()) := by
  simp only [Q3, impl_IsChain_eq hs hN, Option.bind_some, bif_not, bestCh]
  cases h : chainB c with
  | false => rfl
  | true =>
    obtain ⟨j, _, h2, _, h4, _⟩ := bestNo_end (chainP h)
    simp only [cond_true, impl_bestNested_eq (chainP h) h hs hN, Option.bind_some, h2, encC, h4]
theorem n7_fill {N : Nat} : ∀ d (k : Nat) (cu : Cu) (out : List Int), out.length + d = 8 → Bud cu (k + 2 * (d + 1)) → ∃ out' c', (∀ m, d < m → Q36_L1 N m cu out = some (out', c')) ∧ Bud c' k ∧ out'.length ≤ 8 := by
  intro d
  induction d with
  | zero =>
    intro k cu out hl h
    obtain ⟨v, c1, e1, b1, v0, v1⟩ := pick_ok (N := N) 2 (h.mono (show k + 2 ≤ k + 2 * (0 + 1) by omega))
    refine ⟨out, c1, fun m hm => ?_, b1, by omega⟩
    obtain ⟨m, rfl⟩ : ∃ q, m = q + 1 := ⟨m - 1, by omega⟩
    rw [Q36_L1_succ]
    have hv : iadd .i64 6 v = 6 + v := iadd_in (by omega) (by omega)
    simp only [Q36_B1, e1, Option.bind_some, ilt_eq, len_eq, hv, show ¬ (out.length : Int) < 6 + v by omega, decide_false, cond_false, Q36_K1]
  | succ d ih =>
    intro k cu out hl h
    obtain ⟨v, c1, e1, b1, v0, v1⟩ := pick_ok (N := N) 2 (h.mono (show k + 2 * (d + 1) + 2 ≤ k + 2 * (d + 1 + 1) by omega))
    have hv : iadd .i64 6 v = 6 + v := iadd_in (by omega) (by omega)
    by_cases hc : (out.length : Int) < 6 + v
    · obtain ⟨out', c', o1, o2, o3⟩ := ih k c1 (out ++ [1]) (by simp; omega) b1
      refine ⟨out', c', fun m hm => ?_, o2, o3⟩
      obtain ⟨m, rfl⟩ : ∃ q, m = q + 1 := ⟨m - 1, by omega⟩
      rw [Q36_L1_succ]
      simp only [Q36_B1, e1, Option.bind_some, ilt_eq, len_eq, hv, hc, decide_true, cond_true, chk_of (fitB_in (n := out.length + 1) (b := 8) (by omega) (by omega))]
      exact o1 m (by omega)
    · refine ⟨out, c1, fun m hm => ?_, b1.mono (by omega), by omega⟩
      obtain ⟨m, rfl⟩ : ∃ q, m = q + 1 := ⟨m - 1, by omega⟩
      rw [Q36_L1_succ]
      simp only [Q36_B1, e1, Option.bind_some, ilt_eq, len_eq, hv, hc, decide_false, cond_false, Q36_K1]
theorem n7_end {N : Nat} (hN : 4194304 ≤ N) {k : Nat} {cu : Cu} {out : List Int} (hl : out.length ≤ 5) (h : Bud cu (k + 22)) : ∃ out' c', Q36_K2 N cu out = some (out', c') ∧ Bud c' k ∧ out'.length ≤ 8 := by
  obtain ⟨v, c1, e1, b1, v0, v1⟩ := pick_ok (N := N) 40 (h.mono (show k + 20 + 2 ≤ k + 22 by omega))
  simp only [Q36_K2, e1, Option.bind_some, ieq_eq]
  by_cases q0 : v = 0
  · obtain ⟨r, c2, e2, b2, _⟩ := among_ok (N := N) (list := [(-1), 20, 21]) (-1) 21 (by decide) (by decide) (b1.mono (show k + 2 ≤ k + 20 by omega))
    refine ⟨out ++ [r], c2, ?_, b2, by simp; omega⟩
    simp only [q0, decide_true, cond_true, e2, Option.bind_some, chk_of (fitB_in (n := out.length + 1) (b := 8) (by omega) (by omega))]
  · by_cases q1 : v = 1
    · obtain ⟨out', c', o1, o2, o3⟩ := n7_fill (N := N) (8 - out.length) k c1 out (by omega) (b1.mono (by omega))
      refine ⟨out', c', ?_, o2, o3⟩
      simp only [q0, q1, decide_true, decide_false, cond_true, cond_false]
      rw [show decide ((1 : Int) = 0) = false from rfl]
      simp only [cond_false]
      exact o1 N (by omega)
    · refine ⟨out, c1, ?_, b1.mono (by omega), by omega⟩
      simp only [q0, q1, decide_false, cond_false]
theorem n7_loop {N : Nat} (hN : 4194304 ≤ N) : ∀ d (k : Nat) (cu : Cu) (out : List Int) (n : Int), n.toNat = d → 0 ≤ n → out.length + d ≤ 5 → Bud cu (k + 22 + 2 * d) → ∃ out' c', (∀ m, d < m → Q36_L2 N m n cu out = some (out', c')) ∧ Bud c' k ∧ out'.length ≤ 8 := by
  intro d
  induction d with
  | zero =>
    intro k cu out n hn h0 hl h
    obtain ⟨out', c', o1, o2, o3⟩ := n7_end hN (by omega) (h.mono (show k + 22 ≤ k + 22 + 2 * 0 by omega))
    refine ⟨out', c', fun m hm => ?_, o2, o3⟩
    obtain ⟨m, rfl⟩ : ∃ q, m = q + 1 := ⟨m - 1, by omega⟩
    rw [Q36_L2_succ]
    simp only [Q36_B2, ilt_eq, show ¬ (0 : Int) < n by omega, decide_false, cond_false, o1]
  | succ d ih =>
    intro k cu out n hn h0 hl h
    obtain ⟨r, c1, e1, b1, _⟩ := among_ok (N := N) (list := [1, 2, 0, 3, 5, 8]) 0 8 (by decide) (by decide) (h.mono (show k + 22 + 2 * d + 2 ≤ k + 22 + 2 * (d + 1) by omega))
    obtain ⟨out', c', o1, o2, o3⟩ := ih k c1 (out ++ [r]) (n - 1) (by omega) (by omega) (by simp; omega) b1
    refine ⟨out', c', fun m hm => ?_, o2, o3⟩
    obtain ⟨m, rfl⟩ : ∃ q, m = q + 1 := ⟨m - 1, by omega⟩
    rw [Q36_L2_succ]
    simp only [Q36_B2, ilt_eq, show (0 : Int) < n by omega, decide_true, cond_true, e1, Option.bind_some, chk_of (fitB_in (n := out.length + 1) (b := 8) (by omega) (by omega))]
    rw [isub_in (by omega) (by omega)]
    exact o1 m (by omega)
theorem needs7_ok {N : Nat} (hN : 4194304 ≤ N) {k : Nat} {cu : Cu} (h : Bud cu (k + 40)) : ∃ out c', Q36 N cu = some (out, c') ∧ Bud c' k ∧ out.length ≤ 8 := by
  obtain ⟨v, c1, e1, b1, v0, v1⟩ := among_ok (N := N) (list := [4, 3, 5, 2, 1, 0]) 0 5 (by decide) (by decide) (h.mono (show k + 36 + 2 ≤ k + 40 by omega))
  obtain ⟨out', c', o1, o2, o3⟩ := n7_loop hN v.toNat k c1 [] v rfl v0 (by simp; omega) (b1.mono (by omega))
  refine ⟨out', c', ?_, o2, o3⟩
  simp only [Q36, e1, Option.bind_some]
  exact o1 N (by omega)
structure ChLen (c : Ch) : Prop where
  l0 : c.1.length ≤ 8
  l1 : c.2.1.length ≤ 3
  l2 : c.2.2.length ≤ 4
theorem ChLen.sm {c : Ch} (h : ChLen c) : SmCh c := ⟨by have := h.l0; omega, by have := h.l1; omega, by have := h.l2; omega⟩
theorem chain_end {N : Nat} {k : Nat} {cu : Cu} {v : Ch} {out : Ch} {n : Nat} (hn : 1 ≤ n ∧ n ≤ 3) (h0 : out.1.length ≤ 8) (h1 : out.2.1.length = n) (h2 : out.2.2.length = n) (h : Bud cu (k + 4)) : ∃ out' c', Q34_K1 N cu v out = some (out', c') ∧ Bud c' k ∧ ChLen out' := by
  obtain ⟨r, c1, e1, b1, v0, v1⟩ := pick_ok (N := N) 48 (h.mono (show k + 2 + 2 ≤ k + 4 by omega))
  simp only [Q34_K1, e1, Option.bind_some, ieq_eq]
  by_cases q0 : r = 0
  · refine ⟨(out.1, (out.2.1, out.2.2 ++ [9])), c1, by simp only [q0, decide_true, cond_true, chk_of (fitB_in (n := out.2.2.length + 1) (b := 8) (by omega) (by omega))], b1.mono (by omega), ⟨h0, by simp only [h1]; omega, by simp [h2]; omega⟩⟩
  · by_cases q1 : r = 1
    · obtain ⟨x, c2, e2, b2, _⟩ := among_ok (N := N) (list := [(-1), 9, 10]) (-1) 10 (by decide) (by decide) b1
      refine ⟨(out.1, (out.2.1, List.set out.2.2 0 x)), c2, by simp only [q1, show decide ((1 : Int) = 0) = false from rfl, decide_true, cond_false, cond_true, e2, Option.bind_some, chk_of (inB_in (i := 0) (n := out.2.2.length) (by omega) (by omega))], b2, ⟨h0, by simp only [h1]; omega, by simp [h2]; omega⟩⟩
    · by_cases q2 : r = 2
      · obtain ⟨x, c2, e2, b2, _⟩ := among_ok (N := N) (list := [(-1), 99, 100]) (-1) 100 (by decide) (by decide) b1
        refine ⟨(out.1, (List.set out.2.1 0 x, out.2.2)), c2, by simp only [q2, show decide ((2 : Int) = 0) = false from rfl, show decide ((2 : Int) = 1) = false from rfl, decide_true, cond_false, cond_true, e2, Option.bind_some, chk_of (inB_in (i := 0) (n := out.2.1.length) (by omega) (by omega))], b2, ⟨h0, by simp [h1]; omega, by simp only [h2]; omega⟩⟩
      · by_cases q3 : r = 3
        · refine ⟨(out.1, ([], out.2.2)), c1, by simp only [q0, q1, q2, q3, decide_true, decide_false, cond_false, cond_true, show decide ((3 : Int) = 0) = false from rfl, show decide ((3 : Int) = 1) = false from rfl, show decide ((3 : Int) = 2) = false from rfl], b1.mono (by omega), ⟨h0, by simp, by simp only [h2]; omega⟩⟩
        · refine ⟨out, c1, by simp only [q0, q1, q2, q3, decide_false, cond_false], b1.mono (by omega), ⟨h0, by omega, by omega⟩⟩
theorem chain_loop {N : Nat} {n : Nat} (hn : 1 ≤ n ∧ n ≤ 3) : ∀ d i, i + d = n → ∀ (k : Nat) (cu : Cu) (hold r : Int) (v out : Ch), r = (d : Int) → out.1.length ≤ 8 → out.2.1.length = i → out.2.2.length = i → Bud cu (k + 4 + 4 * d) → ∃ out' c', (∀ m, d < m → Q34_L1 N m hold r cu v out = some (out', c')) ∧ Bud c' k ∧ ChLen out' := by
  intro d
  induction d with
  | zero =>
    intro i hi k cu hold r v out hr h0 h1 h2 h
    obtain ⟨out', c', o1, o2, o3⟩ := chain_end (N := N) (v := v) hn h0 (by omega) (by omega) (h.mono (show k + 4 ≤ k + 4 + 4 * 0 by omega))
    refine ⟨out', c', fun m hm => ?_, o2, o3⟩
    obtain ⟨m, rfl⟩ : ∃ q, m = q + 1 := ⟨m - 1, by omega⟩
    rw [Q34_L1_succ]
    simp only [Q34_B1, ilt_eq, show ¬ (0 : Int) < r by omega, decide_false, cond_false, o1]
  | succ d ih =>
    intro i hi k cu hold r v out hr h0 h1 h2 h
    obtain ⟨x, c1, e1, b1, _⟩ := among_ok (N := N) (list := [5, 8, 3, 12, 0, 20]) 0 20 (by decide) (by decide) (h.mono (show k + 4 + 4 * d + 2 + 2 ≤ k + 4 + 4 * (d + 1) by omega))
    obtain ⟨y, c2, e2, b2, _⟩ := among_ok (N := N) (list := [1, 0, 1, 2]) 0 2 (by decide) (by decide) b1
    obtain ⟨out', c', o1, o2, o3⟩ := ih (i + 1) (by omega) k c2 (iadd .i64 hold y) (d : Int) v (out.1, (out.2.1 ++ [x], out.2.2 ++ [iadd .i64 hold y])) rfl h0 (by simp [h1]) (by simp [h2]) b2
    refine ⟨out', c', fun m hm => ?_, o2, o3⟩
    obtain ⟨m, rfl⟩ : ∃ q, m = q + 1 := ⟨m - 1, by omega⟩
    rw [Q34_L1_succ]
    simp only [Q34_B1, ilt_eq, show (0 : Int) < r by omega, decide_true, cond_true, e1, e2, Option.bind_some, chk_of (fitB_in (n := out.2.1.length + 1) (b := 8) (by omega) (by omega)), chk_of (fitB_in (n := out.2.2.length + 1) (b := 8) (by omega) (by omega))]
    rw [show isub .i64 r 1 = (d : Int) by rw [isub_in (by omega) (by omega)]; omega]
    exact o1 m (by omega)
theorem chain_ok {N : Nat} (hN : 4194304 ≤ N) {k : Nat} {cu : Cu} (h : Bud cu (k + 70)) : ∃ out c', Q34 N cu = some (out, c') ∧ Bud c' k ∧ ChLen out := by
  obtain ⟨x, c1, e1, b1, l1⟩ := needs7_ok hN (h.mono (show k + 20 + 2 + 40 ≤ k + 70 by omega))
  obtain ⟨v, c2, e2, b2, v0, v1⟩ := among_ok (N := N) (list := [2, 3, 2, 1]) 1 3 (by decide) (by decide) b1
  obtain ⟨out', c', o1, o2, o3⟩ := chain_loop (N := N) (n := v.toNat) (by omega) v.toNat 0 (by omega) k c2 0 v ([], ([], [])) (x, ([], [])) (by omega) l1 rfl rfl (b2.mono (by omega))
  refine ⟨out', c', ?_, o2, o3⟩
  simp only [Q34, e1, e2, Option.bind_some]
  exact o1 N (by omega)
theorem pns_rise {S : Nat → Bool} {n i : Nat} (hi : i < (pns S n).length) : 0 ≤ gd (pns S n) i 0 ∧ gd (pns S n) i 0 ≤ (n : Int) - 1 ∧ (0 < i → gd (pns S n) (i - 1) 0 < gd (pns S n) i 0) := by
  obtain ⟨p, h1, h2, h3, h4⟩ := pns_get hi
  refine ⟨by omega, by omega, fun h0 => ?_⟩
  obtain ⟨q, g1, g2, g3, g4⟩ := pns_get (show i - 1 < (pns S n).length by omega)
  rw [h4, g4]
  rcases Nat.lt_or_ge q p with e | e
  · omega
  · have := cnt_mono S e; omega
theorem spec_l1Rising_pns {N n : Nat} (S : Nat → Bool) (hn : n < 1000) (hN : 4194304 ≤ N) : Q59 N (pns S n) 0 ((n : Int) - 1) = some (true, ()) := by
  have hl : (pns S n).length ≤ n := cnt_le S n
  refine Q59_L1_run N (fun _ => pns S n) (fun _ => 0) (fun _ => (n : Int) - 1) (fun i => (i : Int)) (pns S n).length (fun i hi kx => ?_) (fun kx => ?_) N (by omega)
  · obtain ⟨h1, h2, h3⟩ := pns_rise hi
    have hr : inRg 0 ((n : Int) - 1) (gd (pns S n) i 0) = true := by simp only [inRg, Bool.and_eq_true, decide_eq_true_eq]; exact ⟨h1, h2⟩
    simp only [Q59_B1, ilt_eq, len_eq, Int.ofNat_lt, hi, decide_true, cond_true, inB_true hi, chk_true', Int.toNat_natCast, spec_l1In_eq, hr, Option.bind_some, Bool.not_true, cond_false, iadd_nat (show i < 4611686018427387904 by omega)]
    by_cases h0 : (0 : Int) < (i : Int)
    · obtain ⟨j, rfl⟩ : ∃ j, i = j + 1 := ⟨i - 1, by omega⟩
      have e : isub .i64 ((j + 1 : Nat) : Int) 1 = (j : Int) := by rw [isub_in (by omega) (by omega)]; omega
      have h4 := h3 (by omega)
      rw [Nat.add_sub_cancel] at h4
      simp only [h0, decide_true, cond_true, e, inB_true (show j < (pns S n).length by omega), chk_true', Int.toNat_natCast, ile_eq, show ¬ gd (pns S n) (j + 1) 0 ≤ gd (pns S n) j 0 by omega, decide_false, cond_false]
    · simp only [h0, decide_false, cond_false]
  · simp only [Q59_B1, Q59_K1, ilt_eq, len_eq, Int.lt_irrefl, decide_false, cond_false]
theorem spec_l1Has_eq {N : Nat} {xs : List Int} (v : Int) (hl : xs.length < 4194304) (hN : 4194304 ≤ N) : Q55 N xs v = some (decide (∃ i, i < xs.length ∧ gd xs i 0 = v), ()) := by
  have step : ∀ i, i < xs.length → gd xs i 0 ≠ v → ∀ kx, Q55_B1 N kx xs v (i : Nat) = kx xs v ((i + 1 : Nat) : Int) := fun i hi hne kx => by
    simp only [Q55_B1, ilt_eq, len_eq, Int.ofNat_lt, hi, decide_true, cond_true, inB_true hi, chk_true', Int.toNat_natCast, ieq_eq, hne, decide_false, cond_false, iadd_nat (show i < 4611686018427387904 by omega)]
  rcases first_cases (fun i => !decide (gd xs i 0 = v)) xs.length with h | ⟨j, hj, hb, hat⟩
  · have hno : ∀ i, i < xs.length → gd xs i 0 ≠ v := fun i hi => by simpa using h i hi
    rw [decide_eq_false (fun ⟨i, h1, h2⟩ => hno i h1 h2)]
    refine Q55_L1_run N (fun _ => xs) (fun _ => v) (fun i => (i : Int)) xs.length (fun i hi kx => step i hi (hno i hi) kx) (fun kx => ?_) N (by omega)
    simp only [Q55_B1, Q55_K1, ilt_eq, len_eq, Int.lt_irrefl, decide_false, cond_false]
  · have hat' : gd xs j 0 = v := by simpa using hat
    rw [decide_eq_true (⟨j, hj, hat'⟩ : ∃ i, i < xs.length ∧ gd xs i 0 = v)]
    refine Q55_L1_run N (fun _ => xs) (fun _ => v) (fun i => (i : Int)) j (fun i hi kx => step i (by omega) (by simpa using hb i hi) kx) (fun kx => ?_) N (by omega)
    simp only [Q55_B1, ilt_eq, len_eq, Int.ofNat_lt, hj, decide_true, cond_true, inB_true hj, chk_true', Int.toNat_natCast, ieq_eq, hat']
theorem has_pns {S : Nat → Bool} {n p : Nat} : (∃ i, i < (pns S n).length ∧ gd (pns S n) i 0 = (p : Int)) ↔ p < n ∧ S p = true := by
  constructor
  · rintro ⟨i, h1, h2⟩
    obtain ⟨q, g1, g2, _, g4⟩ := pns_get h1
    rw [g4] at h2
    have : q = p := by omega
    subst this; exact ⟨g1, g2⟩
  · rintro ⟨h1, h2⟩
    obtain ⟨g1, g2⟩ := pns_at h1 h2
    exact ⟨_, g1, g2⟩
def subS (S T : Nat → Bool) (n : Nat) : Bool := (List.range n).all fun p => !S p || T p
theorem subS_iff {S T : Nat → Bool} {n : Nat} : subS S T n = true ↔ ∀ p, p < n → S p = true → T p = true := by
  simp only [subS, List.all_eq_true, List.mem_range, Bool.or_eq_true, Bool.not_eq_true']
  constructor
  · intro h p hp hS; rcases h p hp with g | g
    · rw [hS] at g; cases g
    · exact g
  · intro h p hp
    cases hS : S p with
    | false => exact .inl rfl
    | true => exact .inr (h p hp hS)
theorem spec_l7Within_pns {N n : Nat} (S T : Nat → Bool) (hn : n < 1000) (hN : 4194304 ≤ N) : Q82 N (pns S n) (pns T n) = some (subS S T n, ()) := by
  have hl : (pns S n).length ≤ n := cnt_le S n
  have hl2 : (pns T n).length ≤ n := cnt_le T n
  have step : ∀ i, i < (pns S n).length → ∀ kx, Q82_B1 N kx (pns S n) (pns T n) (i : Nat) = bif decide (∃ q, q < (pns T n).length ∧ gd (pns T n) q 0 = gd (pns S n) i 0) then kx (pns S n) (pns T n) ((i + 1 : Nat) : Int) else some (false, ()) := fun i hi kx => by
    simp only [Q82_B1, ilt_eq, len_eq, Int.ofNat_lt, hi, decide_true, cond_true, inB_true hi, chk_true', Int.toNat_natCast, spec_l1Has_eq _ (show (pns T n).length < 4194304 by omega) hN, Option.bind_some, bif_not, iadd_nat (show i < 4611686018427387904 by omega)]
  rcases first_cases (fun i => decide (∃ q, q < (pns T n).length ∧ gd (pns T n) q 0 = gd (pns S n) i 0)) (pns S n).length with h | ⟨j, hj, hb, hat⟩
  · have hs : subS S T n = true := subS_iff.2 fun p hp hS => by
      obtain ⟨g1, g2⟩ := pns_at hp hS
      have := of_decide_eq_true (h _ g1)
      rw [g2] at this
      exact (has_pns.1 this).2
    rw [hs]
    refine Q82_L1_run N (fun _ => pns S n) (fun _ => pns T n) (fun i => (i : Int)) (pns S n).length (fun i hi kx => by rw [step i hi, h i hi]; rfl) (fun kx => ?_) N (by omega)
    simp only [Q82_B1, Q82_K1, ilt_eq, len_eq, Int.lt_irrefl, decide_false, cond_false]
  · have hs : subS S T n = false := by
      cases hq : subS S T n with
      | false => rfl
      | true =>
        obtain ⟨p, g1, g2, _, g4⟩ := pns_get hj
        have : ∃ q, q < (pns T n).length ∧ gd (pns T n) q 0 = gd (pns S n) j 0 := by rw [g4]; exact has_pns.2 ⟨g1, subS_iff.1 hq p g1 g2⟩
        rw [decide_eq_true this] at hat; cases hat
    rw [hs]
    exact Q82_L1_run N (fun _ => pns S n) (fun _ => pns T n) (fun i => (i : Int)) j (fun i hi kx => by rw [step i (by omega), hb i hi]; rfl) (fun kx => by rw [step j hj, hat]; rfl) N (by omega)
theorem spec_l7Periods_nested {N : Nat} {c : Ch} (hc : ChainP c) {A : Nat → Nat → Bool} (hA : NestedA A c.1.length c.2.1.length) (hN : 4194304 ≤ N) : Q77 N c (famL A c.2.1.length c.1.length) = some (true, ()) := by
  have hn := hc.n
  have h3 := hc.s3
  refine Q77_L1_run N (fun _ => famL A c.2.1.length c.1.length) (fun s => (s : Int)) (fun _ => c) c.2.1.length (fun s hs kx => ?_) (fun kx => ?_) N (by omega)
  · have hl : s < (famL A c.2.1.length c.1.length).length := by rw [famL_len]; exact hs
    have e1 : isub .i64 ((c.1.length : Nat) : Int) 1 = (c.1.length : Int) - 1 := isub_in (by omega) (by omega)
    simp only [Q77_B1, ilt_eq, len_eq, famL_len, Int.ofNat_lt, hs, decide_true, cond_true, inB_true hl, inB_true hs, chk_true', Int.toNat_natCast, famL_gd A _ _ hs, e1, spec_l1Rising_pns (A s) (show c.1.length < 1000 by omega) hN, Option.bind_some, Bool.not_true, cond_false, iadd_nat (show s < 4611686018427387904 by omega)]
    by_cases h0 : (0 : Int) < (s : Int)
    · obtain ⟨j, rfl⟩ : ∃ j, s = j + 1 := ⟨s - 1, by omega⟩
      have e : isub .i64 ((j + 1 : Nat) : Int) 1 = (j : Int) := by rw [isub_in (by omega) (by omega)]; omega
      have hw : subS (A j) (A (j + 1)) c.1.length = true := subS_iff.2 fun p hp h => hA j hs p hp h
      simp only [h0, decide_true, cond_true, e, inB_true (show j < c.2.1.length by omega), chk_true', Int.toNat_natCast, famL_gd A _ _ (show j < c.2.1.length by omega), spec_l7Within_pns (A j) (A (j + 1)) (show c.1.length < 1000 by omega) hN, Option.bind_some, hw, Bool.not_true, cond_false]
    · simp only [h0, decide_false, cond_false]
  · simp only [Q77_B1, Q77_K1, ilt_eq, len_eq, famL_len, Int.lt_irrefl, decide_false, cond_false, ieq_eq, decide_true]
theorem spec_NestedPlan_nested {N : Nat} {c : Ch} (hc : ChainP c) (hcb : chainB c = true) (hs : SmCh c) {A : Nat → Nat → Bool} (hA : NestedA A c.1.length c.2.1.length) (hN : 4194304 ≤ N) : Q54 N c (famL A c.2.1.length c.1.length) = some (bif covAll c A then (nestPlan c A, true) else ([], false), ()) := by
  have hn := hc.n
  have h3 := hc.s3
  have step : ∀ s, s < c.2.1.length → ∀ kx out, out.length < 1000 → Q54_B1 N kx (famL A c.2.1.length c.1.length) (s : Nat) c out = bif covS (A s) c.1 then kx (famL A c.2.1.length c.1.length) ((s + 1 : Nat) : Int) c (out ++ [planS (A s) c.1]) else some (([], false), ()) := fun s hs kx out ho => by
    simp only [Q54_B1, ilt_eq, len_eq, famL_len, Int.ofNat_lt, hs, decide_true, cond_true, inB_true hs, chk_true', Int.toNat_natCast, famL_gd A _ _ hs, spec_l7Fed_eq hc.b0 hn hN, Option.bind_some, bif_not, iadd_nat (show s < 4611686018427387904 by omega)]
    by_cases hcv : covS (A s) c.1 = true
    · simp only [hcv, cond_true, spec_l7Row_eq hc.b0 (by omega) hn hcv hN, Option.bind_some, chk_of (fitB_in (n := out.length + 1) (b := 24) (by omega) (by omega))]
    · have : covS (A s) c.1 = false := by simpa using hcv
      simp only [this, cond_false]
  simp only [Q54, spec_l7Good_eq hs hN, hcb, Option.bind_some, Bool.not_true, cond_false, spec_l7Periods_nested hc hA hN]
  rcases range_cases (fun s => covS (A s) c.1) c.2.1.length with ⟨h1, h2⟩ | ⟨h1, j, h2, h4, h5⟩
  · have h1' : covAll c A = true := h1
    rw [h1']
    refine Q54_L1_run N (fun _ => famL A c.2.1.length c.1.length) (fun s => (s : Int)) (fun _ => c) (fun s => (List.range s).map fun s => planS (A s) c.1) c.2.1.length (fun s hs kx => ?_) (fun kx => ?_) N (by omega)
    · rw [step s hs kx _ (by simp; omega), h2 s hs]; simp only [cond_true, range_take]
    · simp only [Q54_B1, Q54_K1, ilt_eq, len_eq, famL_len, Int.lt_irrefl, decide_false, cond_false, cond_true]; rfl
  · have h1' : covAll c A = false := h1
    rw [h1']
    refine Q54_L1_run N (fun _ => famL A c.2.1.length c.1.length) (fun s => (s : Int)) (fun _ => c) (fun s => (List.range s).map fun s => planS (A s) c.1) j (fun s hs kx => ?_) (fun kx => ?_) N (by omega)
    · rw [step s (by omega) kx _ (by simp; omega), h4 s hs]; simp only [cond_true, range_take]
    · rw [step j h2 kx _ (by simp; omega), h5]; rfl
def manyN (A : Nat → Nat → Bool) (n : Nat) : Nat → Nat
  | 0 => 0
  | s + 1 => manyN A n s + cnt (A s) n
theorem cnt_stage (K k i : Nat) (n : Nat) : manyN (codeA K k) (n + 1) K = manyN (codeA K k) n K + digB (K + 1) k n := by
  have hd := dig_le K k n
  have key : ∀ m, m ≤ K → manyN (codeA K k) (n + 1) m = manyN (codeA K k) n m + (m - (K - digB (K + 1) k n)) := by
    intro m
    induction m with
    | zero => intro _; simp [manyN]
    | succ m ih =>
      intro hm
      simp only [manyN, ih (by omega), cnt_succ]
      by_cases e : codeA K k m n = true
      · rw [if_pos e]
        simp only [codeA, decide_eq_true_eq] at e
        omega
      · rw [if_neg e]
        simp only [codeA, decide_eq_true_eq] at e
        omega
  rw [key K (Nat.le_refl _)]; omega
theorem sumD_many (K k : Nat) : ∀ n, sumD (K + 1) k n = manyN (codeA K k) n K
  | 0 => by
    have : ∀ m, manyN (codeA K k) 0 m = 0 := fun m => by
      induction m with
      | zero => rfl
      | succ m ih => simp only [manyN, ih, cnt_zero]
    rw [this]; rfl
  | n + 1 => by rw [sumD, sumD_many K k n, cnt_stage K k 0 n]
abbrev Fam := Nat → Nat → Bool
def betA (c : Ch) (A B : Fam) : Bool := betterB (nestCost c A) (nestCost c B) (manyN A c.1.length c.2.1.length) (manyN B c.1.length c.2.1.length) (famL A c.2.1.length c.1.length) (famL B c.2.1.length c.1.length)
def validA (c : Ch) (A : Fam) : Prop := NestedA A c.1.length c.2.1.length ∧ covAll c A = true
theorem bet_ext {c : Ch} {A B X : Fam} (h : ∀ s, s < c.2.1.length → ∀ p, p < c.1.length → A s p = B s p) : betA c A X = betA c B X := by
  obtain ⟨h1, _, h3⟩ := nestCost_ext h
  have h4 : ∀ m, m ≤ c.2.1.length → manyN A c.1.length m = manyN B c.1.length m := by
    intro m
    induction m with
    | zero => intro _; rfl
    | succ m ih =>
      intro hm
      simp only [manyN, ih (by omega)]
      have : pns (A m) c.1.length = pns (B m) c.1.length := pns_ext (h m (by omega))
      unfold cnt
      rw [this]
  unfold betA
  rw [h1, h3, h4 _ (Nat.le_refl _)]
structure TinyP (a : Pl) : Prop where
  l : a.length ≤ 1000
  r : ∀ s, s < a.length → (gd a s []).length ≤ 1000
theorem TinyP.sm {a : Pl} (h : TinyP a) : SmPl a := ⟨by have := h.l; omega, fun s hs => by have := h.r s hs; omega⟩
def riseAt (n : Nat) (l : List Int) (i : Nat) : Bool := inRg 0 ((n : Int) - 1) (gd l i 0) && (decide (i = 0) || decide (gd l (i - 1) 0 < gd l i 0))
def riseB (n : Nat) (l : List Int) : Bool := (List.range l.length).all (riseAt n l)
theorem riseAt_iff {n : Nat} {l : List Int} {i : Nat} : riseAt n l i = true ↔ (0 ≤ gd l i 0 ∧ gd l i 0 ≤ (n : Int) - 1) ∧ (i = 0 ∨ gd l (i - 1) 0 < gd l i 0) := by
  simp only [riseAt, inRg, Bool.and_eq_true, Bool.or_eq_true, decide_eq_true_eq]
theorem mem_gd {l : List Int} {v : Int} : (∃ i, i < l.length ∧ gd l i 0 = v) ↔ v ∈ l := by
  rw [List.mem_iff_getElem]
  constructor
  · rintro ⟨i, h1, h2⟩; exact ⟨i, h1, by rw [← h2]; simp [gd, List.getD_eq_getElem?_getD, h1]⟩
  · rintro ⟨i, h1, h2⟩; exact ⟨i, h1, by rw [← h2]; simp [gd, List.getD_eq_getElem?_getD, h1]⟩
theorem rise_lt {n : Nat} {l : List Int} (h : riseB n l = true) : ∀ d i, i + d + 1 < l.length → gd l i 0 < gd l (i + d + 1) 0
  | 0, i, hi => by
    rcases (riseAt_iff.1 (rangeB.1 h (i + 1) hi)).2 with g | g
    · omega
    · exact g
  | d + 1, i, hi => by
    have h1 := rise_lt h d i (by omega)
    rcases (riseAt_iff.1 (rangeB.1 h (i + d + 1 + 1) hi)).2 with g | g
    · omega
    · rw [Nat.add_sub_cancel] at g; rw [show i + (d + 1) + 1 = i + d + 1 + 1 by omega]; omega
theorem gd_left {l m : List Int} {i : Nat} (h : i < l.length) : gd (l ++ m) i 0 = gd l i 0 := by
  simp only [gd, List.getD_eq_getElem?_getD]; rw [List.getElem?_append_left h]
theorem rise_front {n m : Nat} {l : List Int} {a : Int} (h : riseB n (l ++ [a]) = true) (hm : ∀ i, i < l.length → gd l i 0 ≤ (m : Int) - 1) : riseB m l = true := rangeB.2 fun i hi => by
  obtain ⟨h1, h2⟩ := riseAt_iff.1 (rangeB.1 h i (by simp; omega))
  rw [gd_left hi] at h1 h2
  rw [gd_left (show i - 1 < l.length by omega)] at h2
  exact riseAt_iff.2 ⟨⟨h1.1, hm i hi⟩, h2⟩
theorem rise_ex : ∀ (n : Nat) (l : List Int), riseB n l = true → ∃ S, l = pns S n
  | 0, l, h => by
    cases l with
    | nil => exact ⟨fun _ => false, rfl⟩
    | cons a l =>
      have := (riseAt_iff.1 (rangeB.1 h 0 (by simp))).1
      omega
  | n + 1, l, h => by
    rcases List.eq_nil_or_concat l with rfl | ⟨l', a, rfl⟩
    · obtain ⟨S, hS⟩ := rise_ex n [] (by simp [riseB])
      refine ⟨fun p => S p && decide (p < n), ?_⟩
      rw [pns_succ]
      have : pns (fun p => S p && decide (p < n)) n = pns S n := by
        simp only [pns]; congr 1; apply List.filter_congr; intro p hp; rw [List.mem_range] at hp; simp [hp]
      rw [this, ← hS]; simp
    · rw [List.concat_eq_append] at h ⊢
      have hlast : gd (l' ++ [a]) l'.length 0 = a := by simp [gd, List.getD_eq_getElem?_getD]
      have ha := (riseAt_iff.1 (rangeB.1 h l'.length (by simp))).1
      rw [hlast] at ha
      have hlt : ∀ i, i < l'.length → gd l' i 0 < a := fun i hi => by
        have := rise_lt h (l'.length - i - 1) i (by simp; omega)
        rw [show i + (l'.length - i - 1) + 1 = l'.length by omega, hlast, gd_left hi] at this
        exact this
      by_cases e : a = (n : Int)
      · obtain ⟨S, hS⟩ := rise_ex n l' (rise_front h fun i hi => by have := hlt i hi; omega)
        refine ⟨fun p => S p && decide (p < n) || decide (p = n), ?_⟩
        rw [pns_succ]
        have : pns (fun p => S p && decide (p < n) || decide (p = n)) n = pns S n := by
          simp only [pns]; congr 1; apply List.filter_congr; intro p hp; rw [List.mem_range] at hp; simp [hp, show p ≠ n by omega]
        rw [this, ← hS, e]; simp
      · have hr : riseB n (l' ++ [a]) = true := rangeB.2 fun i hi => by
          obtain ⟨h1, h2⟩ := riseAt_iff.1 (rangeB.1 h i hi)
          refine riseAt_iff.2 ⟨⟨h1.1, ?_⟩, h2⟩
          by_cases e2 : i = l'.length
          · subst e2; rw [hlast]; omega
          · have hi2 : i < l'.length := by simp at hi; omega
            have := hlt i hi2
            rw [gd_left hi2]; omega
        obtain ⟨S, hS⟩ := rise_ex n _ hr
        refine ⟨fun p => S p && decide (p < n), ?_⟩
        rw [pns_succ]
        have : pns (fun p => S p && decide (p < n)) n = pns S n := by
          simp only [pns]; congr 1; apply List.filter_congr; intro p hp; rw [List.mem_range] at hp; simp [hp]
        rw [this, ← hS]; simp
def memS (l : List Int) (p : Nat) : Bool := decide ((p : Int) ∈ l)
theorem rise_pns {n : Nat} {l : List Int} (h : riseB n l = true) : l = pns (memS l) n := by
  obtain ⟨S, hS⟩ := rise_ex n l h
  have : pns (memS l) n = pns S n := by
    simp only [pns]; congr 1; apply List.filter_congr; intro p hp; rw [List.mem_range] at hp
    rw [Bool.eq_iff_iff]
    simp only [memS, decide_eq_true_eq]
    rw [← mem_gd]
    rw [hS]
    rw [has_pns]
    exact ⟨fun h => h.2, fun h => ⟨hp, h⟩⟩
  rw [this]; exact hS
def subR (a b : List Int) : Bool := (List.range a.length).all fun i => decide (gd a i 0 ∈ b)
theorem spec_l1Rising_eq {N n : Nat} {l : List Int} (hl : l.length < 4194304) (hN : 4194304 ≤ N) : Q59 N l 0 ((n : Int) - 1) = some (riseB n l, ()) := by
  have step : ∀ i, i < l.length → ∀ kx, Q59_B1 N kx l 0 ((n : Int) - 1) (i : Nat) = bif riseAt n l i then kx l 0 ((n : Int) - 1) ((i + 1 : Nat) : Int) else some (false, ()) := fun i hi kx => by
    simp only [Q59_B1, ilt_eq, len_eq, Int.ofNat_lt, hi, decide_true, cond_true, inB_true hi, chk_true', Int.toNat_natCast, spec_l1In_eq, Option.bind_some, bif_not, iadd_nat (show i < 4611686018427387904 by omega), riseAt]
    cases hr : inRg 0 ((n : Int) - 1) (gd l i 0) with
    | false => rfl
    | true =>
      by_cases h0 : (0 : Int) < (i : Int)
      · obtain ⟨j, rfl⟩ : ∃ j, i = j + 1 := ⟨i - 1, by omega⟩
        have e : isub .i64 ((j + 1 : Nat) : Int) 1 = (j : Int) := by rw [isub_in (by omega) (by omega)]; omega
        simp only [h0, decide_true, cond_true, e, inB_true (show j < l.length by omega), chk_true', Int.toNat_natCast, ile_eq, Bool.true_and, Nat.add_sub_cancel, show ¬ j + 1 = 0 by omega, decide_false, Bool.false_or]
        by_cases q : gd l (j + 1) 0 ≤ gd l j 0
        · simp only [q, decide_true, cond_true, show ¬ gd l j 0 < gd l (j + 1) 0 by omega, decide_false, cond_false]
        · simp only [q, decide_false, cond_false, show gd l j 0 < gd l (j + 1) 0 by omega, decide_true, cond_true]
      · have : i = 0 := by omega
        subst this
        simp
  rcases range_cases (riseAt n l) l.length with ⟨h1, h2⟩ | ⟨h1, j, h2, h4, h5⟩
  · rw [show riseB n l = true from h1]
    refine Q59_L1_run N (fun _ => l) (fun _ => 0) (fun _ => (n : Int) - 1) (fun i => (i : Int)) l.length (fun i hi kx => by rw [step i hi, h2 i hi]; rfl) (fun kx => ?_) N (by omega)
    simp only [Q59_B1, Q59_K1, ilt_eq, len_eq, Int.lt_irrefl, decide_false, cond_false]
  · rw [show riseB n l = false from h1]
    exact Q59_L1_run N (fun _ => l) (fun _ => 0) (fun _ => (n : Int) - 1) (fun i => (i : Int)) j (fun i hi kx => by rw [step i (by omega), h4 i hi]; rfl) (fun kx => by rw [step j h2, h5]; rfl) N (by omega)
theorem spec_l7Within_eq {N : Nat} {a b : List Int} (ha : a.length < 4194304) (hb : b.length < 4194304) (hN : 4194304 ≤ N) : Q82 N a b = some (subR a b, ()) := by
  have step : ∀ i, i < a.length → ∀ kx, Q82_B1 N kx a b (i : Nat) = bif decide (gd a i 0 ∈ b) then kx a b ((i + 1 : Nat) : Int) else some (false, ()) := fun i hi kx => by
    simp only [Q82_B1, ilt_eq, len_eq, Int.ofNat_lt, hi, decide_true, cond_true, inB_true hi, chk_true', Int.toNat_natCast, spec_l1Has_eq _ hb hN, Option.bind_some, bif_not, iadd_nat (show i < 4611686018427387904 by omega), mem_gd]
  rcases range_cases (fun i => decide (gd a i 0 ∈ b)) a.length with ⟨h1, h2⟩ | ⟨h1, j, h2, h4, h5⟩
  · rw [show subR a b = true from h1]
    refine Q82_L1_run N (fun _ => a) (fun _ => b) (fun i => (i : Int)) a.length (fun i hi kx => by rw [step i hi, h2 i hi]; rfl) (fun kx => ?_) N (by omega)
    simp only [Q82_B1, Q82_K1, ilt_eq, len_eq, Int.lt_irrefl, decide_false, cond_false]
  · rw [show subR a b = false from h1]
    exact Q82_L1_run N (fun _ => a) (fun _ => b) (fun i => (i : Int)) j (fun i hi kx => by rw [step i (by omega), h4 i hi]; rfl) (fun kx => by rw [step j h2, h5]; rfl) N (by omega)
def perAt (n : Nat) (P : Pl) (s : Nat) : Bool := riseB n (gd P s []) && (decide (s = 0) || subR (gd P (s - 1) []) (gd P s []))
def perAll (n : Nat) (P : Pl) : Bool := (List.range P.length).all (perAt n P)
theorem spec_l7Periods_eq {N : Nat} {c : Ch} {P : Pl} (hn : c.1.length < 1000) (hP : SmPl P) (hN : 4194304 ≤ N) : Q77 N c P = some (perAll c.1.length P && decide (P.length = c.2.1.length), ()) := by
  have hl := hP.l
  have e1 : isub .i64 ((c.1.length : Nat) : Int) 1 = (c.1.length : Int) - 1 := isub_in (by omega) (by omega)
  have step : ∀ s, s < P.length → ∀ kx, Q77_B1 N kx P (s : Nat) c = bif perAt c.1.length P s then kx P ((s + 1 : Nat) : Int) c else some (false, ()) := fun s hs kx => by
    simp only [Q77_B1, ilt_eq, len_eq, Int.ofNat_lt, hs, decide_true, cond_true, inB_true hs, chk_true', Int.toNat_natCast, e1, spec_l1Rising_eq (n := c.1.length) (hP.r s hs) hN, Option.bind_some, bif_not, iadd_nat (show s < 4611686018427387904 by omega), perAt]
    cases hr : riseB c.1.length (gd P s []) with
    | false => rfl
    | true =>
      by_cases h0 : (0 : Int) < (s : Int)
      · obtain ⟨j, rfl⟩ : ∃ j, s = j + 1 := ⟨s - 1, by omega⟩
        have e : isub .i64 ((j + 1 : Nat) : Int) 1 = (j : Int) := by rw [isub_in (by omega) (by omega)]; omega
        simp only [h0, decide_true, cond_true, e, inB_true (show j < P.length by omega), chk_true', Int.toNat_natCast, spec_l7Within_eq (hP.r j (by omega)) (hP.r (j + 1) hs) hN, Option.bind_some, Bool.true_and, Nat.add_sub_cancel, show ¬ j + 1 = 0 by omega, decide_false, Bool.false_or]
      · have : s = 0 := by omega
        subst this
        simp
  rcases range_cases (perAt c.1.length P) P.length with ⟨h1, h2⟩ | ⟨h1, j, h2, h4, h5⟩
  · rw [show perAll c.1.length P = true from h1, Bool.true_and]
    refine Q77_L1_run N (fun _ => P) (fun s => (s : Int)) (fun _ => c) P.length (fun s hs kx => by rw [step s hs, h2 s hs]; rfl) (fun kx => ?_) N (by omega)
    simp only [Q77_B1, Q77_K1, ilt_eq, len_eq, Int.lt_irrefl, decide_false, cond_false, ieq_eq, Int.ofNat_inj]
  · rw [show perAll c.1.length P = false from h1, Bool.false_and]
    exact Q77_L1_run N (fun _ => P) (fun s => (s : Int)) (fun _ => c) j (fun s hs kx => by rw [step s (by omega), h4 s hs]; rfl) (fun kx => by rw [step j h2, h5]; rfl) N (by omega)
def rowsA (P : Pl) (s p : Nat) : Bool := memS (gd P s []) p
theorem per_fam {n : Nat} {P : Pl} (h : perAll n P = true) : P = famL (rowsA P) P.length n ∧ NestedA (rowsA P) n P.length := by
  have hr : ∀ s, s < P.length → riseB n (gd P s []) = true := fun s hs => by
    have := rangeB.1 h s hs; simp only [perAt, Bool.and_eq_true] at this; exact this.1
  refine ⟨gdl_ext (by rw [famL_len]) fun s hs => by rw [famL_gd _ _ _ hs]; exact rise_pns (hr s hs), fun s hs p hp hA => ?_⟩
  have h2 := rangeB.1 h (s + 1) hs
  simp only [perAt, Bool.and_eq_true, Bool.or_eq_true, decide_eq_true_eq, Nat.add_sub_cancel] at h2
  have h3 : subR (gd P s []) (gd P (s + 1) []) = true := h2.2.resolve_left (by omega)
  simp only [rowsA, memS, decide_eq_true_eq] at hA ⊢
  obtain ⟨i, g1, g2⟩ := mem_gd.2 hA
  have := rangeB.1 h3 i g1
  rw [g2] at this
  exact of_decide_eq_true this
def nestOf (c : Ch) (P : Pl) : Pl × Bool := bif chainB c && (decide (P.length = c.2.1.length) && (perAll c.1.length P && covAll c (rowsA P))) then (nestPlan c (rowsA P), true) else ([], false)
theorem spec_NestedPlan_eq {N : Nat} {c : Ch} {P : Pl} (hs : SmCh c) (hP : SmPl P) (hN : 4194304 ≤ N) : Q54 N c P = some (nestOf c P, ()) := by
  cases hcb : chainB c with
  | false => simp only [Q54, spec_l7Good_eq hs hN, hcb, Option.bind_some, Bool.not_false, cond_true, nestOf, Bool.false_and, cond_false]
  | true =>
    have hc := chainP hcb
    have hn := hc.n
    cases hl : decide (P.length = c.2.1.length) with
    | false => simp only [Q54, spec_l7Good_eq hs hN, hcb, Option.bind_some, Bool.not_true, cond_false, spec_l7Periods_eq (show c.1.length < 1000 by omega) hP hN, hl, Bool.and_false, Bool.not_false, cond_true, nestOf, Bool.false_and]
    | true =>
      cases hp : perAll c.1.length P with
      | false => simp only [Q54, spec_l7Good_eq hs hN, hcb, Option.bind_some, Bool.not_true, cond_false, spec_l7Periods_eq (show c.1.length < 1000 by omega) hP hN, hl, hp, Bool.and_true, Bool.not_false, cond_true, nestOf, Bool.false_and, Bool.and_false]
      | true =>
        obtain ⟨h1, h2⟩ := per_fam hp
        have hl' := of_decide_eq_true hl
        rw [hl'] at h1 h2
        have := spec_NestedPlan_nested hc hcb hs h2 hN
        rw [← h1] at this
        rw [this]
        simp only [nestOf, hcb, hl, hp, Bool.true_and]
theorem l1Put_ok {N : Nat} {l : List Int} (v : Int) (hl : l.length < 1000) (hN : 4194304 ≤ N) : ∃ l', Q58 N l v = some (l', ()) ∧ l'.length ≤ l.length + 1 := by
  have step : ∀ i, i < l.length → gd l i 0 < v → ∀ kx, Q58_B1 N kx v (i : Nat) l = kx v ((i + 1 : Nat) : Int) l := fun i hi hv kx => by
    simp only [Q58_B1, ilt_eq, len_eq, Int.ofNat_lt, hi, decide_true, cond_true, inB_true hi, chk_true', Int.toNat_natCast, hv, iadd_nat (show i < 4611686018427387904 by omega)]
  have hk : ∀ j, j ≤ l.length → ∃ l', Q58_K1 N v (j : Nat) l = some (l', ()) ∧ l'.length ≤ l.length + 1 := fun j hj => by
    have g1 : (List.take (((j : Nat) : Int).toNat - 0) (List.drop 0 l)).length = j := by simp; omega
    have g2 : (List.take ((len l).toNat - ((j : Nat) : Int).toNat) (List.drop ((j : Nat) : Int).toNat l)).length = l.length - j := by simp [len_eq]
    have c1 : cutB 0 ((j : Nat) : Int) l.length = true := cutB_in (by omega) (by omega) (by omega)
    have c2 : cutB ((j : Nat) : Int) (len l) l.length = true := cutB_in (by omega) (by rw [len_eq]; omega) (by rw [len_eq]; exact Int.le_refl _)
    have hend : ∃ l', (chk (cutB 0 ((j : Nat) : Int) l.length) <| chk (fitB (0 + (List.take (((j : Nat) : Int).toNat - 0) (List.drop 0 l)).length) 8) <| chk (fitB ((List.take (((j : Nat) : Int).toNat - 0) (List.drop 0 l)).length + 1) 8) <| chk (cutB ((j : Nat) : Int) (len l) l.length) <|
        chk (fitB (((List.take (((j : Nat) : Int).toNat - 0) (List.drop 0 l)) ++ [v]).length + (List.take ((len l).toNat - ((j : Nat) : Int).toNat) (List.drop ((j : Nat) : Int).toNat l)).length) 8) <|
        some (((List.take (((j : Nat) : Int).toNat - 0) (List.drop 0 l)) ++ [v]) ++ (List.take ((len l).toNat - ((j : Nat) : Int).toNat) (List.drop ((j : Nat) : Int).toNat l)), ())) = some (l', ()) ∧ l'.length ≤ l.length + 1 := by
      rw [c1, c2]
      simp only [chk_true']
      rw [chk_of (fitB_in (by rw [g1]; omega) (by omega)), chk_of (fitB_in (by rw [g1]; omega) (by omega)), chk_of (fitB_in (by rw [List.length_append, g1, g2]; simp; omega) (by omega))]
      exact ⟨_, rfl, by rw [List.length_append, List.length_append, g1, g2]; simp; omega⟩
    simp only [Q58_K1]
    by_cases hj2 : ((j : Nat) : Int) < len l
    · have hj3 : j < l.length := by rw [len_eq] at hj2; omega
      simp only [ilt_eq, hj2, decide_true, cond_true, inB_true hj3, chk_true', ieq_eq]
      by_cases e : gd l ((j : Nat) : Int).toNat 0 = v
      · simp only [e, decide_true, cond_true]; exact ⟨l, rfl, by omega⟩
      · simp only [e, decide_false, cond_false]; exact hend
    · simp only [ilt_eq, hj2, decide_false, cond_false]; exact hend
  rcases first_cases (fun i => decide (gd l i 0 < v)) l.length with h | ⟨j, hj, hb, hat⟩
  · obtain ⟨l', e1, e2⟩ := hk l.length (Nat.le_refl _)
    refine ⟨l', ?_, e2⟩
    refine Q58_L1_run N (fun _ => v) (fun i => (i : Int)) (fun _ => l) l.length (fun i hi kx => step i hi (of_decide_eq_true (h i hi)) kx) (fun kx => ?_) N (by omega)
    simp only [Q58_B1, ilt_eq, len_eq, Int.lt_irrefl, decide_false, cond_false]
    exact e1
  · obtain ⟨l', e1, e2⟩ := hk j (by omega)
    refine ⟨l', ?_, e2⟩
    refine Q58_L1_run N (fun _ => v) (fun i => (i : Int)) (fun _ => l) j (fun i hi kx => step i (by omega) (of_decide_eq_true (hb i hi)) kx) (fun kx => ?_) N (by omega)
    simp only [Q58_B1, ilt_eq, len_eq, Int.ofNat_lt, hj, decide_true, cond_true, inB_true hj, chk_true', Int.toNat_natCast, of_decide_eq_false hat, decide_false, cond_false]
    exact e1
theorem p7_fewer {N : Nat} {c : Ch} (s : Int) (last : List Int) (out : Pl) (hl : last.length ≤ 100) : ∀ d i, i + d = last.length → ∀ (k : Nat) (cu : Cu) (fewer : List Int), fewer.length ≤ i → Bud cu (k + 4 * d) →
    ∃ fewer' cu', (∀ (kx4 : Int → Cu → Ch → List Int → Pl → Option (Pl × Cu)) m, d < m → Q39_L1 N m kx4 0 s (i : Int) cu c ([last] ++ out) fewer = kx4 (iadd .i64 s 1) cu' c fewer' ([last] ++ out)) ∧ Bud cu' k ∧ fewer'.length ≤ last.length := by
  have e0 : gd ([last] ++ out) 0 [] = last := rfl
  intro d
  induction d with
  | zero =>
    intro i hi k cu fewer hf h
    refine ⟨fewer, cu, fun kx4 m hm => ?_, h, by omega⟩
    obtain ⟨m, rfl⟩ : ∃ q, m = q + 1 := ⟨m - 1, by omega⟩
    rw [Q39_L1_succ]
    simp only [Q39_B1, e0, ilt_eq, len_eq, Int.ofNat_lt, show ¬ i < last.length by omega, decide_false, cond_false, Q39_K1]
  | succ d ih =>
    intro i hi k cu fewer hf h
    have hi' : i < last.length := by omega
    have hfit : fitB (fewer.length + 1) 8 = true := fitB_in (by omega) (by omega)
    by_cases h0 : i = 0
    · obtain ⟨b, c1, e1, b1⟩ := one_ok (N := N) 16 (h.mono (show k + 4 * d + 2 ≤ k + 4 * (d + 1) by omega))
      cases b with
      | false =>
        obtain ⟨f', c', o1, o2⟩ := ih (i + 1) (by omega) k c1 (fewer ++ [gd last i 0]) (by simp; omega) b1
        refine ⟨f', c', fun kx4 m hm => ?_, o2⟩
        obtain ⟨m, rfl⟩ : ∃ q, m = q + 1 := ⟨m - 1, by omega⟩
        rw [Q39_L1_succ]
        simp only [Q39_B1, e0, ilt_eq, len_eq, show (i : Int) = 0 by omega, show (0 : Int) < last.length by omega, decide_true, cond_true, ieq_eq, e1, Option.bind_some, Bool.not_false, show inB (0 : Int) last.length = true from inB_in (by omega) (by omega), chk_true', hfit, show (0 : Int).toNat = i by omega]
        have := o1 kx4 m (by omega)
        rw [show (iadd .i64 (0 : Int) 1) = ((i + 1 : Nat) : Int) by rw [h0]; exact iadd_nat (show 0 < 4611686018427387904 by omega)]
        exact this
      | true =>
        obtain ⟨f', c', o1, o2⟩ := ih (i + 1) (by omega) k c1 fewer (by omega) b1
        refine ⟨f', c', fun kx4 m hm => ?_, o2⟩
        obtain ⟨m, rfl⟩ : ∃ q, m = q + 1 := ⟨m - 1, by omega⟩
        rw [Q39_L1_succ]
        simp only [Q39_B1, e0, ilt_eq, len_eq, show (i : Int) = 0 by omega, show (0 : Int) < last.length by omega, decide_true, cond_true, ieq_eq, e1, Option.bind_some, Bool.not_true, cond_false, Int.lt_irrefl, decide_false]
        have := o1 kx4 m (by omega)
        rw [show (iadd .i64 (0 : Int) 1) = ((i + 1 : Nat) : Int) by rw [h0]; exact iadd_nat (show 0 < 4611686018427387904 by omega)]
        exact this
    · obtain ⟨b, c1, e1, b1⟩ := one_ok (N := N) 2 (h.mono (show k + 4 * d + 2 ≤ k + 4 * (d + 1) by omega))
      cases b with
      | true =>
        obtain ⟨f', c', o1, o2⟩ := ih (i + 1) (by omega) k c1 (fewer ++ [gd last i 0]) (by simp; omega) b1
        refine ⟨f', c', fun kx4 m hm => ?_, o2⟩
        obtain ⟨m, rfl⟩ : ∃ q, m = q + 1 := ⟨m - 1, by omega⟩
        rw [Q39_L1_succ]
        simp only [Q39_B1, e0, ilt_eq, len_eq, Int.ofNat_lt, hi', decide_true, cond_true, ieq_eq, show ¬ (i : Int) = 0 by omega, decide_false, cond_false, show (0 : Int) < i by omega, e1, Option.bind_some, inB_true hi', chk_true', hfit, Int.toNat_natCast, iadd_nat (show i < 4611686018427387904 by omega)]
        exact o1 kx4 m (by omega)
      | false =>
        obtain ⟨f', c', o1, o2⟩ := ih (i + 1) (by omega) k c1 fewer (by omega) b1
        refine ⟨f', c', fun kx4 m hm => ?_, o2⟩
        obtain ⟨m, rfl⟩ : ∃ q, m = q + 1 := ⟨m - 1, by omega⟩
        rw [Q39_L1_succ]
        simp only [Q39_B1, e0, ilt_eq, len_eq, Int.ofNat_lt, hi', decide_true, cond_true, ieq_eq, show ¬ (i : Int) = 0 by omega, decide_false, cond_false, show (0 : Int) < i by omega, e1, Option.bind_some, iadd_nat (show i < 4611686018427387904 by omega)]
        exact o1 kx4 m (by omega)
structure PerLen (P : Pl) (n : Nat) : Prop where
  l : P.length ≤ n
  r : ∀ s, s < P.length → (gd P s []).length ≤ 16
theorem PerLen.sm {P : Pl} {n : Nat} (h : PerLen P n) (hn : n ≤ 1000) : SmPl P := ⟨by have := h.l; omega, fun s hs => by have := h.r s hs; omega⟩
theorem PerLen.cons {P : Pl} {n : Nat} {l : List Int} (h : PerLen P n) (hl : l.length ≤ 16) : PerLen ([l] ++ P) (n + 1) := ⟨by have := h.l; simp; omega, fun s hs => by
  cases s with
  | zero => exact hl
  | succ s => exact h.r s (by simp at hs; omega)⟩
theorem PerLen.set {P : Pl} {n : Nat} {l : List Int} (h : PerLen P n) (h0 : 0 < P.length) (hl : l.length ≤ 16) : PerLen (List.set P 0 l) n := ⟨by have := h.l; simp; omega, fun s hs => by
  rw [List.length_set] at hs
  rw [gdl_set h0]
  split
  · exact hl
  · exact h.r s hs⟩
theorem p7_end {N : Nat} {k n : Nat} {cu : Cu} {out : Pl} (hP : PerLen out n) (hr : ∀ s, s < out.length → (gd out s []).length ≤ 15) (h : Bud cu (k + 4)) : ∃ P c', Q39_K2 N cu out = some (P, c') ∧ Bud c' k ∧ PerLen P n := by
  simp only [Q39_K2, ilt_eq, len_eq]
  by_cases h0 : (0 : Int) < (out.length : Int)
  · have h0' : 0 < out.length := by omega
    obtain ⟨b, c1, e1, b1⟩ := one_ok (N := N) 24 (h.mono (show k + 2 + 2 ≤ k + 4 by omega))
    simp only [h0, decide_true, cond_true, e1, Option.bind_some]
    cases b with
    | false => exact ⟨out, c1, rfl, b1.mono (by omega), hP⟩
    | true =>
      obtain ⟨x, c2, e2, b2, _⟩ := among_ok (N := N) (list := [(-1), 0, 6]) (-1) 6 (by decide) (by decide) b1
      have hrl := hr 0 h0'
      simp only [cond_true, show inB (0 : Int) out.length = true from inB_in (by omega) h0, chk_true', e2, Option.bind_some, chk_of (fitB_in (n := (gd out 0 []).length + 1) (b := 8) (by omega) (by omega))]
      exact ⟨_, c2, rfl, b2, hP.set h0' (by simp; omega)⟩
  · simp only [h0, decide_false, cond_false]
    exact ⟨out, cu, rfl, h.mono (by omega), hP⟩
theorem p7_loop {N : Nat} (hN : 4194304 ≤ N) {c : Ch} (hc : ChLen c) : ∀ d s, s + d = c.2.1.length → ∀ (k : Nat) (cu : Cu) (last : List Int) (out : Pl), last.length ≤ 15 → out.length = s → (∀ s, s < out.length → (gd out s []).length ≤ 15) → Bud cu (k + 4 + 60 * d) →
    ∃ P c', (∀ m, d < m → Q39_L2 N m (s : Int) cu c last out = some (P, c')) ∧ Bud c' k ∧ PerLen P 3 := by
  have h3 := hc.l1
  intro d
  induction d with
  | zero =>
    intro s hs k cu last out hl ho hr h
    obtain ⟨P, c', e1, e2, e3⟩ := p7_end (N := N) (n := 3) (k := k) ⟨by omega, fun s hs => by have := hr s hs; omega⟩ hr (h.mono (by omega))
    refine ⟨P, c', fun m hm => ?_, e2, e3⟩
    obtain ⟨m, rfl⟩ : ∃ q, m = q + 1 := ⟨m - 1, by omega⟩
    rw [Q39_L2_succ]
    simp only [Q39_B2, ilt_eq, len_eq, Int.ofNat_lt, show ¬ s < c.2.1.length by omega, decide_false, cond_false]
    exact e1
  | succ d ih =>
    intro s hs k cu last out hl ho hr h
    have hfit : fitB (1 + out.length) 24 = true := fitB_in (by omega) (by omega)
    obtain ⟨f', c1, o1, o2, o3⟩ := p7_fewer (N := N) (c := c) (s : Int) last out (by omega) last.length 0 (by omega) (k + 4 + 60 * d) cu [] (by simp) (h.mono (by omega))
    obtain ⟨P, c', g1, g2, g3⟩ := ih (s + 1) (by omega) k c1 f' ([last] ++ out) (by omega) (by simp; omega) (fun s hs => by
      cases s with
      | zero => exact hl
      | succ s => exact hr s (by simp at hs; omega)) o2
    refine ⟨P, c', fun m hm => ?_, g2, g3⟩
    obtain ⟨m, rfl⟩ : ∃ q, m = q + 1 := ⟨m - 1, by omega⟩
    rw [Q39_L2_succ]
    simp only [Q39_B2, ilt_eq, len_eq, Int.ofNat_lt, show s < c.2.1.length by omega, decide_true, cond_true, hfit, chk_true']
    have := o1 (fun s c3 kx3 last2 out => Q39_L2 N m s c3 kx3 last2 out) N (by omega)
    rw [iadd_nat (show s < 4611686018427387904 by omega)] at this
    exact this.trans (g1 m (by omega))
theorem periods7_ok {N : Nat} (hN : 4194304 ≤ N) {k : Nat} {cu : Cu} {c : Ch} (hc : ChLen c) (h : Bud cu (k + 200)) : ∃ P c', Q39 N cu c = some (P, c') ∧ Bud c' k ∧ PerLen P 3 := by
  have h0 := hc.l0
  have h1 := hc.l1
  obtain ⟨n, hn, hn6⟩ : ∃ n : Nat, imin (len c.1) 6 = (n : Int) ∧ n ≤ 6 := by
    have := imin_bd (x := len c.1) (y := 6)
    rw [len_eq] at this ⊢
    exact ⟨(imin (c.1.length : Int) 6).toNat, by omega, by omega⟩
  obtain ⟨v, c1, e1, b1, v0, v1⟩ := pick_ok (N := N) (((2 ^ n : Nat)) : Int) (h.mono (show k + 198 + 2 ≤ k + 200 by omega))
  have hp : 2 ^ n ≤ 2 ^ 6 := Nat.pow_le_pow_right (by omega) hn6
  have hv : v = ((v.toNat : Nat) : Int) := by omega
  have e2 := spec_l2Bits_eq (N := N) (n := n) (k := v.toNat) (by omega) (by omega) hN
  rw [← hv] at e2
  have hlen : (pns (bitS v.toNat) n).length ≤ n := cnt_le _ _
  have rest : ∀ (cu : Cu) (last : List Int), last.length ≤ 15 → Bud cu (k + 190) → ∃ P c', Q39_K3 N cu c last = some (P, c') ∧ Bud c' k ∧ PerLen P 3 := fun cu last hl hb => by
    obtain ⟨P, c', g1, g2⟩ := p7_loop hN hc c.2.1.length 0 (by omega) k cu last [] hl rfl (fun s hs => absurd hs (by simp)) (hb.mono (by omega))
    exact ⟨P, c', g1 N (by omega), g2⟩
  have put : ∀ (b : Bool) (cu : Cu) (last : List Int), last.length ≤ 14 → Bud cu (k + 190) → ∃ P c', Q39_K4 N b cu c last = some (P, c') ∧ Bud c' k ∧ PerLen P 3 := fun b cu last hl hb => by
    simp only [Q39_K4]
    cases b with
    | false => exact rest cu last (by omega) hb
    | true =>
      obtain ⟨l', p1, p2⟩ := l1Put_ok (N := N) (l := last) 0 (by omega) hN
      simp only [cond_true, p1, Option.bind_some]
      exact rest cu l' (by omega) hb
  simp only [Q39, spec_l1Least_eq, Option.bind_some, hn, ile_eq, show (0 : Int) ≤ (n : Int) by omega, decide_true, chk_true', ishl_one (show n ≤ 30 by omega), e1, e2, ilt_eq]
  by_cases q : (0 : Int) < (n : Int)
  · simp only [q, decide_true, cond_true, spec_l1Has_eq 0 (show (pns (bitS v.toNat) n).length < 4194304 by omega) hN, Option.bind_some]
    by_cases q2 : ∃ i, i < (pns (bitS v.toNat) n).length ∧ gd (pns (bitS v.toNat) n) i 0 = 0
    · simp only [q2, decide_true, Bool.not_true, cond_false]
      exact put false c1 _ (by omega) (b1.mono (by omega))
    · obtain ⟨b, c2, e3, b2⟩ := one_ok (N := N) 6 (b1.mono (show k + 190 + 2 ≤ k + 198 by omega))
      simp only [q2, decide_false, Bool.not_false, cond_true, e3, Option.bind_some]
      exact put (!b) c2 _ (by omega) b2
  · simp only [q, decide_false, cond_false]
    exact put false c1 _ (by omega) (b1.mono (by omega))
theorem best_min {c : Ch} (hc : ChainP c) : ∃ j, bestNo c (allNo c) = some j ∧ validA c (codeA c.2.1.length j) ∧ nestCost c (codeA c.2.1.length j) = outV c 0 ∧ ∀ X, validA c X → betA c X (codeA c.2.1.length j) = false := by
  obtain ⟨j, h1, h2, h3, h4, h5⟩ := bestNo_end hc
  refine ⟨j, h2, ⟨codeA_nested _ _ _, h3⟩, h4, fun X hX => ?_⟩
  obtain ⟨k, k1, k2⟩ := code_nested hX.1
  have hk : covK c k = true := by show covAll c (codeA c.2.1.length k) = true; rw [(nestCost_ext k2).2.1]; exact hX.2
  have hb := h5 k k1 hk
  have e1 : betA c (codeA c.2.1.length k) (codeA c.2.1.length j) = false := by
    unfold betA
    rw [← sumD_many, ← sumD_many]
    exact hb
  rw [bet_ext k2] at e1
  exact e1
def nesT (plan : Pl) (s t : Nat) : Bool := !(decide (0 < gd (gd plan s []) t 0) && decide (gd (gd plan (s + 1) []) t 0 = 0))
def nesS (n : Nat) (plan : Pl) (s : Nat) : Bool := (List.range n).all (nesT plan s)
def nestedB (n : Nat) (plan : Pl) : Bool := (List.range (plan.length - 1)).all (nesS n plan)
def isNest (c : Ch) (plan : Pl) : Bool × Bool := bif chainB c && chPlanB c plan then (nestedB c.1.length plan, true) else (false, false)
theorem impl_IsNestedPlan_eq {N : Nat} {c : Ch} {plan : Pl} (hs : SmCh c) (hp : SmPl plan) (hN : 4194304 ≤ N) : Q21 N c plan = some (isNest c plan, ()) := by
  simp only [Q21, impl_linked_eq hs hp hN, Option.bind_some, bif_not, isNest]
  cases hb : chainB c && chPlanB c plan with
  | false => rfl
  | true =>
    simp only [cond_true]
    have h := chPl hb
    have hc := h.cs
    have hn := hc.n
    have hl := h.l
    have h3 := hc.s3
    have h1 := hc.s1
    have hrl : ∀ s, s < plan.length → (gd plan s []).length = c.1.length := fun s hs => (rowOk_out (h.r s hs)).1
    have inner : ∀ s, s + 1 < plan.length → ∀ kx, Q21_L1 N N kx plan ((s + 1 : Nat) : Int) (gd plan s []) (c.1.length : Int) 0 = bif nesS c.1.length plan s then kx plan ((s + 2 : Nat) : Int) else some ((false, true), ()) := fun s hs kx => by
      have l1 := hrl s (by omega)
      have l2 := hrl (s + 1) hs
      have step : ∀ t, t < c.1.length → ∀ kx1, Q21_B1 N kx kx1 plan ((s + 1 : Nat) : Int) (gd plan s []) (c.1.length : Int) (t : Nat) = bif nesT plan s t then kx1 plan ((s + 1 : Nat) : Int) (gd plan s []) (c.1.length : Int) ((t + 1 : Nat) : Int) else some ((false, true), ()) := fun t ht kx1 => by
        simp only [Q21_B1, ilt_eq, Int.ofNat_lt, ht, decide_true, cond_true, inB_true (show t < (gd plan s []).length by omega), inB_true (show t < (gd plan (s + 1) []).length by omega), inB_true hs, chk_true', Int.toNat_natCast, ieq_eq, iadd_nat (show t < 4611686018427387904 by omega), nesT]
        by_cases q1 : 0 < gd (gd plan s []) t 0
        · by_cases q2 : gd (gd plan (s + 1) []) t 0 = 0
          · simp [q1, q2]
          · simp [q1, q2]
        · simp [q1]
      rcases range_cases (nesT plan s) c.1.length with ⟨g1, g2⟩ | ⟨g1, j, g2, g4, g5⟩
      · rw [show nesS c.1.length plan s = true from g1]
        refine Q21_L1_run N kx (fun _ => plan) (fun _ => ((s + 1 : Nat) : Int)) (fun _ => gd plan s []) (fun _ => (c.1.length : Int)) (fun t => (t : Int)) c.1.length (fun t ht kx1 => by rw [step t ht, g2 t ht]; rfl) (fun kx1 => ?_) N (by omega)
        simp only [Q21_B1, Q21_K1, ilt_eq, Int.lt_irrefl, decide_false, cond_false, cond_true, iadd_nat (show s + 1 < 4611686018427387904 by omega)]
      · rw [show nesS c.1.length plan s = false from g1]
        exact Q21_L1_run N kx (fun _ => plan) (fun _ => ((s + 1 : Nat) : Int)) (fun _ => gd plan s []) (fun _ => (c.1.length : Int)) (fun t => (t : Int)) j (fun t ht kx1 => by rw [step t (by omega), g4 t ht]; rfl) (fun kx1 => by rw [step j g2, g5]; rfl) N (by omega)
    have step : ∀ s, s + 1 < plan.length → ∀ kx, Q21_B2 N kx plan ((s + 1 : Nat) : Int) = bif nesS c.1.length plan s then kx plan ((s + 1 + 1 : Nat) : Int) else some ((false, true), ()) := fun s hs kx => by
      have e : isub .i64 ((s + 1 : Nat) : Int) 1 = (s : Int) := by rw [isub_in (by omega) (by omega)]; omega
      simp only [Q21_B2, ilt_eq, len_eq, Int.ofNat_lt, hs, decide_true, cond_true, e, inB_true (show s < plan.length by omega), chk_true', Int.toNat_natCast, hrl s (by omega), inner s hs]
    rcases range_cases (nesS c.1.length plan) (plan.length - 1) with ⟨g1, g2⟩ | ⟨g1, j, g2, g4, g5⟩
    · rw [show nestedB c.1.length plan = true from g1]
      refine Q21_L2_run N (fun _ => plan) (fun s => ((s + 1 : Nat) : Int)) (plan.length - 1) (fun s hs kx => by rw [step s (by omega), g2 s hs]; rfl) (fun kx => ?_) N (by omega)
      simp only [Q21_B2, Q21_K2, ilt_eq, len_eq, Int.ofNat_lt, show ¬ (plan.length - 1 + 1 < plan.length) by omega, decide_false, cond_false]
    · rw [show nestedB c.1.length plan = false from g1]
      exact Q21_L2_run N (fun _ => plan) (fun s => ((s + 1 : Nat) : Int)) j (fun s hs kx => by rw [step s (by omega), g4 s hs]; rfl) (fun kx => by rw [step j (by omega), g5]; rfl) N (by omega)
theorem laws_vPlan_refl {N : Nat} {P : Pl} (h : SmPl P) (hN : 4194304 ≤ N) : Q31 N P P = some (true, ()) := by
  have hl := h.l
  have key : Q32 N P P = some (true, ()) := by
    simp only [Q32, ine_eq, len_eq, decide_true, Bool.not_true, cond_false]
    refine Q32_L1_run N (fun _ => P) (fun _ => P) (fun i => (i : Int)) P.length (fun i hi kx => ?_) (fun kx => ?_) N (by omega)
    · simp only [Q32_B1, ilt_eq, len_eq, Int.ofNat_lt, hi, decide_true, cond_true, inB_true hi, chk_true', Int.toNat_natCast, laws_vInts_refl (h.r i hi) hN, Option.bind_some, Bool.not_true, cond_false, iadd_nat (show i < 4611686018427387904 by omega)]
    · simp only [Q32_B1, Q32_K1, ilt_eq, len_eq, Int.lt_irrefl, decide_false, cond_false]
  simp only [Q31, key, Option.bind_some]
theorem nil_sm : SmPl ([] : Pl) := ⟨by simp, fun s hs => absurd hs (by simp)⟩
theorem plan_out {c : Ch} {plan : Pl} (hb : (chainB c && chPlanB c plan) = true) : chCost c plan = (costCh c plan, true) ∧ outV c 0 ≤ costCh c plan := by
  have h := chPl hb
  obtain ⟨A, a1, a2, a3⟩ := nest_ge h
  have := outV_nest h.cs a1 a2
  exact ⟨by simp only [chCost, hb, cond_true], by omega⟩
def eD (c : Ch) (plan : Pl) : Nat → Nat → Int
  | 0, _ => 0
  | d + 1, t => stS c plan (plan.length - 1 - d) (t + 1) + eD c plan d t
theorem eD_at {c : Ch} {plan : Pl} {s : Nat} (hs : s < plan.length) (t : Nat) : eD c plan (plan.length - s) t = stS c plan s (t + 1) + eD c plan (plan.length - (s + 1)) t := by
  rw [show plan.length - s = (plan.length - (s + 1)) + 1 by omega]
  simp only [eD]
  rw [show plan.length - 1 - (plan.length - (s + 1)) = s by omega]
theorem eD_bd {c : Ch} {plan : Pl} (h : ChPl c plan) {t : Nat} (ht : t < c.1.length) : ∀ d, d ≤ plan.length → 0 ≤ eD c plan d t ∧ eD c plan d t ≤ 720 * (d : Int)
  | 0, _ => by simp [eD]
  | d + 1, hd => by
    have ih := eD_bd h ht d (by omega)
    have h2 := h.st (plan.length - 1 - d) (by omega) (t + 1) (by omega)
    simp only [eD]; omega
def rowF (c : Ch) (plan : Pl) (d : Nat) : List Int := (List.range c.1.length).map (eD c plan d)
def tabE (c : Ch) (plan : Pl) (d : Nat) : Pl := (List.range plan.length).map fun r => if plan.length ≤ r + d then rowF c plan (plan.length - r) else stRow c plan r
def rowQ (c : Ch) (plan : Pl) (d j : Nat) : List Int := (List.range c.1.length).map fun t => if t < j then eD c plan (d + 1) t else stS c plan (plan.length - 1 - d) (t + 1)
theorem rowF_len (c : Ch) (plan : Pl) (d : Nat) : (rowF c plan d).length = c.1.length := map_range_len _ _
theorem rowF_gd (c : Ch) (plan : Pl) (d : Nat) {t : Nat} (h : t < c.1.length) : gd (rowF c plan d) t 0 = eD c plan d t := gd_map_range _ 0 h
theorem rowQ_len (c : Ch) (plan : Pl) (d j : Nat) : (rowQ c plan d j).length = c.1.length := map_range_len _ _
theorem rowQ_gd (c : Ch) (plan : Pl) (d j : Nat) {t : Nat} (h : t < c.1.length) : gd (rowQ c plan d j) t 0 = if t < j then eD c plan (d + 1) t else stS c plan (plan.length - 1 - d) (t + 1) := gd_map_range _ 0 h
theorem tabE_len (c : Ch) (plan : Pl) (d : Nat) : (tabE c plan d).length = plan.length := map_range_len _ _
theorem tabE_gd (c : Ch) (plan : Pl) (d : Nat) {r : Nat} (h : r < plan.length) : gd (tabE c plan d) r [] = if plan.length ≤ r + d then rowF c plan (plan.length - r) else stRow c plan r := gd_map_range _ [] h
theorem tabE_one {c : Ch} {plan : Pl} (_h : 0 < plan.length) : (List.range plan.length).map (stRow c plan) = tabE c plan 1 := gdl_ext (by rw [tabE_len, map_range_len]) fun r hr => by
  rw [map_range_len] at hr
  rw [gdl_map hr, tabE_gd c plan 1 hr]
  by_cases e : plan.length ≤ r + 1
  · rw [if_pos e]
    refine gd_ext (by rw [rowF_len, stRow_len]) fun t ht => ?_
    rw [stRow_len] at ht
    rw [stRow_gd _ _ _ ht, rowF_gd _ _ _ ht, eD_at hr, show plan.length - (r + 1) = 0 by omega]
    simp [eD]
  · rw [if_neg e]
theorem rowQ_zero (c : Ch) (plan : Pl) (d : Nat) : rowQ c plan d 0 = stRow c plan (plan.length - 1 - d) := gd_ext (by rw [rowQ_len, stRow_len]) fun t ht => by
  rw [rowQ_len] at ht
  rw [rowQ_gd _ _ _ _ ht, stRow_gd _ _ _ ht, if_neg (by omega)]
theorem rowQ_all (c : Ch) (plan : Pl) (d : Nat) : rowQ c plan d c.1.length = rowF c plan (d + 1) := gd_ext (by rw [rowQ_len, rowF_len]) fun t ht => by
  rw [rowQ_len] at ht
  rw [rowQ_gd _ _ _ _ ht, rowF_gd _ _ _ ht, if_pos ht]
theorem rowQ_step {c : Ch} {plan : Pl} {d j : Nat} (hj : j < c.1.length) : List.set (rowQ c plan d j) j (stS c plan (plan.length - 1 - d) (j + 1) + eD c plan d j) = rowQ c plan d (j + 1) := gd_ext (by simp [rowQ_len]) fun t ht => by
  simp only [List.length_set, rowQ_len] at ht
  rw [gd_set (by rw [rowQ_len]; exact hj), rowQ_gd _ _ _ _ ht, rowQ_gd _ _ _ _ ht]
  by_cases e : t = j
  · subst e; rw [if_pos rfl, if_pos (by omega)]; rfl
  · rw [if_neg e]
    by_cases e2 : t < j
    · rw [if_pos e2, if_pos (by omega)]
    · rw [if_neg e2, if_neg (by omega)]
theorem tabE_start {c : Ch} {plan : Pl} {d : Nat} (hd : d < plan.length) (h1 : 1 ≤ d) : List.set (tabE c plan d) (plan.length - 1 - d) (rowQ c plan d 0) = tabE c plan d := gdl_ext (by simp [tabE_len]) fun r hr => by
  simp only [List.length_set, tabE_len] at hr
  rw [gdl_set (by rw [tabE_len]; omega)]
  by_cases e : r = plan.length - 1 - d
  · rw [if_pos e, tabE_gd c plan d hr, if_neg (by omega), rowQ_zero, e]
  · rw [if_neg e]
theorem tabE_end {c : Ch} {plan : Pl} {d : Nat} (hd : d < plan.length) (h1 : 1 ≤ d) : List.set (tabE c plan d) (plan.length - 1 - d) (rowQ c plan d c.1.length) = tabE c plan (d + 1) := gdl_ext (by simp [tabE_len]) fun r hr => by
  simp only [List.length_set, tabE_len] at hr
  rw [gdl_set (by rw [tabE_len]; omega), tabE_gd c plan (d + 1) hr]
  by_cases e : r = plan.length - 1 - d
  · rw [if_pos e, if_pos (by omega), rowQ_all, show plan.length - r = d + 1 by omega]
  · rw [if_neg e, tabE_gd c plan d hr]
    by_cases e2 : plan.length ≤ r + d
    · rw [if_pos e2, if_pos (by omega)]
    · rw [if_neg e2, if_neg (by omega)]
theorem tabE_at {c : Ch} {plan : Pl} {d : Nat} (hd : d < plan.length) (h1 : 1 ≤ d) (x : List Int) : (List.set (tabE c plan d) (plan.length - 1 - d) x).length = plan.length ∧ gd (List.set (tabE c plan d) (plan.length - 1 - d) x) (plan.length - 1 - d) [] = x ∧ gd (List.set (tabE c plan d) (plan.length - 1 - d) x) (plan.length - 1 - d + 1) [] = rowF c plan d := by
  refine ⟨by simp [tabE_len], ?_, ?_⟩
  · rw [gdl_set (by rw [tabE_len]; omega), if_pos rfl]
  · rw [gdl_set (by rw [tabE_len]; omega), if_neg (by omega), tabE_gd c plan d (by omega), if_pos (by omega), show plan.length - (plan.length - 1 - d + 1) = d by omega]
theorem spec_Ech_row {N : Nat} {c : Ch} {plan : Pl} (h : ChPl c plan) (hN : 4194304 ≤ N) (kx : Int → Ch → Pl → Option ((Pl × Bool) × Unit)) {d : Nat} (hd : d < plan.length) (h1 : 1 ≤ d) : Q50_L1 N N kx ((plan.length - 1 - d : Nat) : Int) 0 c (tabE c plan d) = kx (isub .i64 ((plan.length - 1 - d : Nat) : Int) 1) c (tabE c plan (d + 1)) := by
  have hn := h.cs.n
  have h3 := h.cs.s3
  have hl := h.l
  rw [← tabE_start hd h1]
  have key := Q50_L1_run N kx (fun _ => ((plan.length - 1 - d : Nat) : Int)) (fun t => (t : Int)) (fun _ => c) (fun t => List.set (tabE c plan d) (plan.length - 1 - d) (rowQ c plan d t)) c.1.length (res_ := kx (isub .i64 ((plan.length - 1 - d : Nat) : Int) 1) c (tabE c plan (d + 1))) (fun t ht kx1 => ?_) (fun kx1 => ?_) N (by omega)
  · exact key
  · obtain ⟨e1, e2, e3⟩ := tabE_at (c := c) hd h1 (rowQ c plan d t)
    have b1 := eD_bd h ht d (by omega)
    have b2 := h.st (plan.length - 1 - d) (by omega) (t + 1) (by omega)
    have ei : iadd .i64 ((plan.length - 1 - d : Nat) : Int) 1 = ((plan.length - 1 - d + 1 : Nat) : Int) := iadd_nat (by omega)
    have g1 : inB ((plan.length - 1 - d : Nat) : Int) plan.length = true := inB_true (by omega)
    have g2 : inB ((plan.length - 1 - d + 1 : Nat) : Int) plan.length = true := inB_true (by omega)
    have g3 : inB ((t : Nat) : Int) (rowQ c plan d t).length = true := inB_true (by rw [rowQ_len]; exact ht)
    have g4 : inB ((t : Nat) : Int) (rowF c plan d).length = true := inB_true (by rw [rowF_len]; exact ht)
    simp only [Q50_B1, ilt_eq, len_eq, Int.ofNat_lt, ht, decide_true, cond_true, ei, e1, g1, g2, chk_true', Int.toNat_natCast, e2, e3, g3, g4, iadd_nat (show t < 4611686018427387904 by omega), rowQ_gd c plan d t ht, rowF_gd c plan d ht, if_neg (Nat.lt_irrefl t)]
    rw [iadd_in (by omega) (by omega), rowQ_step ht, List.set_set]
  · simp only [Q50_B1, Q50_K1, ilt_eq, len_eq, Int.lt_irrefl, decide_false, cond_false, tabE_end hd h1]
theorem impl_Ech_row {N : Nat} {c : Ch} {plan : Pl} (h : ChPl c plan) (hN : 4194304 ≤ N) (kx : Int → Pl × Bool → Option ((Pl × Bool) × Unit)) {d : Nat} (hd : d < plan.length) (h1 : 1 ≤ d) : Q18_L1 N N kx ((plan.length - 1 - d : Nat) : Int) (plan.length - 1 - d + 1) (c.1.length : Int) 0 (tabE c plan d, true) = kx (isub .i64 ((plan.length - 1 - d : Nat) : Int) 1) (tabE c plan (d + 1), true) := by
  have hn := h.cs.n
  have h3 := h.cs.s3
  have hl := h.l
  rw [← tabE_start hd h1]
  have key := Q18_L1_run N kx (fun _ => ((plan.length - 1 - d : Nat) : Int)) (fun _ => plan.length - 1 - d + 1) (fun _ => (c.1.length : Int)) (fun t => (t : Int)) (fun t => (List.set (tabE c plan d) (plan.length - 1 - d) (rowQ c plan d t), true)) c.1.length (res_ := kx (isub .i64 ((plan.length - 1 - d : Nat) : Int) 1) (tabE c plan (d + 1), true)) (fun t ht kx1 => ?_) (fun kx1 => ?_) N (by omega)
  · exact key
  · obtain ⟨e1, e2, e3⟩ := tabE_at (c := c) hd h1 (rowQ c plan d t)
    have b1 := eD_bd h ht d (by omega)
    have b2 := h.st (plan.length - 1 - d) (by omega) (t + 1) (by omega)
    have g1 : inB ((plan.length - 1 - d : Nat) : Int) plan.length = true := inB_true (by omega)
    have g3 : inB ((t : Nat) : Int) (rowQ c plan d t).length = true := inB_true (by rw [rowQ_len]; exact ht)
    have g4 : inB ((t : Nat) : Int) (rowF c plan d).length = true := inB_true (by rw [rowF_len]; exact ht)
    simp only [Q18_B1, ilt_eq, Int.ofNat_lt, ht, decide_true, cond_true, e1, g1, chk_true', Int.toNat_natCast, e2, e3, g3, g4, iadd_nat (show t < 4611686018427387904 by omega), rowQ_gd c plan d t ht, rowF_gd c plan d ht, if_neg (Nat.lt_irrefl t)]
    rw [iadd_in (by omega) (by omega), rowQ_step ht, List.set_set]
  · simp only [Q18_B1, Q18_K1, ilt_eq, Int.lt_irrefl, decide_false, cond_false, tabE_end hd h1]
def echOf (c : Ch) (plan : Pl) : Pl × Bool := bif chainB c && chPlanB c plan then (tabE c plan plan.length, true) else ([], false)
theorem spec_EchelonStocks_eq {N : Nat} {c : Ch} {plan : Pl} (hs : SmCh c) (hp : SmPl plan) (hN : 4194304 ≤ N) : Q50 N c plan = some (echOf c plan, ()) := by
  simp only [Q50, spec_l7Two_eq hs hp hN, Option.bind_some, bif_not, echOf]
  cases hb : chainB c && chPlanB c plan with
  | false => rfl
  | true =>
    have h := chPl hb
    have h3 := h.cs.s3
    have h1 := h.cs.s1
    have hl := h.l
    simp only [cond_true, spec_l7Stocks_eq h.cs (by omega) h.r hN, Option.bind_some, tabE_one (show 0 < plan.length by omega), len_eq, tabE_len]
    rw [isub_in (by omega) (by omega)]
    have key := Q50_L2_run N (fun i => (plan.length : Int) - 2 - i) (fun _ => c) (fun i => tabE c plan (i + 1)) (plan.length - 1) (res_ := some ((tabE c plan plan.length, true), ())) (fun i hi kx => ?_) (fun kx => ?_) N (by omega)
    · simpa using key
    · have e : (plan.length : Int) - 2 - (i : Int) = ((plan.length - 1 - (i + 1) : Nat) : Int) := by omega
      rw [e]
      simp only [Q50_B2, ile_eq, show (0 : Int) ≤ ((plan.length - 1 - (i + 1) : Nat) : Int) by omega, decide_true, cond_true]
      rw [spec_Ech_row h hN kx (show i + 1 < plan.length by omega) (by omega), isub_in (by omega) (by omega)]
      congr 1; omega
    · have e : (plan.length : Int) - 2 - ((plan.length - 1 : Nat) : Int) = -1 := by omega
      rw [e]
      simp only [Q50_B2, Q50_K2, ile_eq, show ¬ (0 : Int) ≤ -1 by omega, decide_false, cond_false, show plan.length - 1 + 1 = plan.length by omega]
theorem impl_EchelonStocks_eq {N : Nat} {c : Ch} {plan : Pl} (hs : SmCh c) (hp : SmPl plan) (hN : 4194304 ≤ N) : Q18 N c plan = some (echOf c plan, ()) := by
  simp only [Q18, impl_linked_eq hs hp hN, Option.bind_some, bif_not, echOf]
  cases hb : chainB c && chPlanB c plan with
  | false => rfl
  | true =>
    have h := chPl hb
    have h3 := h.cs.s3
    have h1 := h.cs.s1
    have hl := h.l
    simp only [cond_true, tabE_one (show 0 < plan.length by omega), len_eq, tabE_len]
    rw [isub_in (by omega) (by omega)]
    have key := Q18_L2_run N (fun i => (plan.length : Int) - 2 - i) (fun i => (tabE c plan (i + 1), true)) (plan.length - 1) (res_ := some ((tabE c plan plan.length, true), ())) (fun i hi kx => ?_) (fun kx => ?_) N (by omega)
    · simpa using key
    · have e : (plan.length : Int) - 2 - (i : Int) = ((plan.length - 1 - (i + 1) : Nat) : Int) := by omega
      have ei : iadd .i64 ((plan.length - 1 - (i + 1) : Nat) : Int) 1 = ((plan.length - 1 - (i + 1) + 1 : Nat) : Int) := iadd_nat (by omega)
      have g2 : inB ((plan.length - 1 - (i + 1) + 1 : Nat) : Int) plan.length = true := inB_true (by omega)
      have er : gd (tabE c plan (i + 1)) (plan.length - 1 - (i + 1) + 1) [] = rowF c plan (i + 1) := by
        rw [tabE_gd c plan (i + 1) (by omega), if_pos (by omega)]; congr 1; omega
      rw [e]
      simp only [Q18_B2, ile_eq, show (0 : Int) ≤ ((plan.length - 1 - (i + 1) : Nat) : Int) by omega, decide_true, cond_true, ei, tabE_len, g2, chk_true', Int.toNat_natCast, er, len_eq, rowF_len]
      rw [impl_Ech_row h hN kx (show i + 1 < plan.length by omega) (by omega), isub_in (by omega) (by omega)]
      congr 1; omega
    · have e : (plan.length : Int) - 2 - ((plan.length - 1 : Nat) : Int) = -1 := by omega
      rw [e]
      simp only [Q18_B2, Q18_K2, ile_eq, show ¬ (0 : Int) ≤ -1 by omega, decide_false, cond_false, show plan.length - 1 + 1 = plan.length by omega]
def holdsOf (c : Ch) : List Int × Bool := bif chainB c then ((List.range c.2.2.length).map (echel c), true) else ([], false)
theorem impl_EchelonHolds_eq {N : Nat} {c : Ch} (hs : SmCh c) (hN : 4194304 ≤ N) : Q17 N c = some (holdsOf c, ()) := by
  simp only [Q17, impl_IsChain_eq hs hN, Option.bind_some, bif_not, holdsOf]
  cases hb : chainB c with
  | false => rfl
  | true => simp only [cond_true, impl_Chain_echelons_eq (chainP hb) hN, Option.bind_some]
theorem spec_EchelonHolds_eq {N : Nat} {c : Ch} (hs : SmCh c) (hN : 4194304 ≤ N) : Q49 N c = some (holdsOf c, ()) := by
  simp only [Q49, spec_l7Good_eq hs hN, Option.bind_some, bif_not, holdsOf]
  cases hb : chainB c with
  | false => rfl
  | true =>
    have hc := chainP hb
    have h3 := hc.s3
    have hl := hc.l
    simp only [cond_true]
    refine Q49_L1_run N (fun s => (s : Int)) (fun _ => c) (fun s => (List.range s).map (echel c)) c.2.2.length (fun s hs kx => ?_) (fun kx => ?_) N (by omega)
    · simp only [Q49_B1, ilt_eq, len_eq, Int.ofNat_lt, hs, decide_true, cond_true, spec_l7Echelon_eq hc hs, Option.bind_some, map_range_len, chk_of (fitB_in (n := s + 1) (b := 8) (by omega) (by omega)), iadd_nat (show s < 4611686018427387904 by omega), range_take]
    · simp only [Q49_B1, Q49_K1, ilt_eq, len_eq, Int.lt_irrefl, decide_false, cond_false]
def stocksOf (c : Ch) (plan : Pl) : Pl × Bool := bif chainB c && chPlanB c plan then ((List.range plan.length).map (stRow c plan), true) else ([], false)
theorem impl_ChainStocks_eq {N : Nat} {c : Ch} {plan : Pl} (hs : SmCh c) (hp : SmPl plan) (hN : 4194304 ≤ N) : Q10 N c plan = some (stocksOf c plan, ()) := by
  simp only [Q10, impl_linked_eq hs hp hN, Option.bind_some, stocksOf]
theorem spec_ChainStocks_eq {N : Nat} {c : Ch} {plan : Pl} (hs : SmCh c) (hp : SmPl plan) (hN : 4194304 ≤ N) : Q46 N c plan = some (stocksOf c plan, ()) := by
  simp only [Q46, spec_l7Two_eq hs hp hN, Option.bind_some, bif_not, stocksOf]
  cases hb : chainB c && chPlanB c plan with
  | false => rfl
  | true =>
    have h := chPl hb
    have h3 := h.cs.s3
    have hl := h.l
    simp only [cond_true, spec_l7Stocks_eq h.cs (by omega) h.r hN, Option.bind_some]
def isPlan (c : Ch) (plan : Pl) : Bool × Bool := bif chainB c then (chPlanB c plan, true) else (false, false)
theorem impl_IsChainPlan_eq {N : Nat} {c : Ch} {plan : Pl} (hs : SmCh c) (hp : SmPl plan) (hN : 4194304 ≤ N) : Q20 N c plan = some (isPlan c plan, ()) := by
  simp only [Q20, impl_IsChain_eq hs hN, Option.bind_some, bif_not, isPlan]
  cases hb : chainB c with
  | false => rfl
  | true =>
    simp only [cond_true, impl_Chain_stocks_eq (chainP hb) hs hp hN, Option.bind_some]
    cases chPlanB c plan <;> rfl
theorem spec_IsChainPlan_eq {N : Nat} {c : Ch} {plan : Pl} (hs : SmCh c) (hp : SmPl plan) (hN : 4194304 ≤ N) : Q52 N c plan = some (isPlan c plan, ()) := by
  simp only [Q52, spec_l7Good_eq hs hN, Option.bind_some, bif_not, isPlan]
  cases hb : chainB c with
  | false => rfl
  | true => simp only [cond_true, spec_l7Plan_eq (chainP hb) hp hN, Option.bind_some]
theorem spec_IsNestedPlan_eq {N : Nat} {c : Ch} {plan : Pl} (hs : SmCh c) (hp : SmPl plan) (hN : 4194304 ≤ N) : Q53 N c plan = some (isNest c plan, ()) := by
  simp only [Q53, spec_l7Two_eq hs hp hN, Option.bind_some, bif_not, isNest]
  cases hb : chainB c && chPlanB c plan with
  | false => rfl
  | true =>
    simp only [cond_true]
    have h := chPl hb
    have hn := h.cs.n
    have hl := h.l
    have h3 := h.cs.s3
    have hrl : ∀ s, s < plan.length → (gd plan s []).length = c.1.length := fun s hs => (rowOk_out (h.r s hs)).1
    have inner : ∀ s, s + 1 < plan.length → ∀ kx, Q53_L1 N N kx plan (s : Nat) 0 c = bif nesS c.1.length plan s then kx plan ((s + 1 : Nat) : Int) c else some ((false, true), ()) := fun s hs kx => by
      have l1 := hrl s (by omega)
      have l2 := hrl (s + 1) hs
      have ei : iadd .i64 (s : Int) 1 = ((s + 1 : Nat) : Int) := iadd_nat (by omega)
      have step : ∀ t, t < c.1.length → ∀ kx1, Q53_B1 N kx kx1 plan (s : Nat) (t : Nat) c = bif nesT plan s t then kx1 plan (s : Nat) ((t + 1 : Nat) : Int) c else some ((false, true), ()) := fun t ht kx1 => by
        simp only [Q53_B1, ilt_eq, len_eq, Int.ofNat_lt, ht, decide_true, cond_true, ei, inB_true (show t < (gd plan s []).length by omega), inB_true (show t < (gd plan (s + 1) []).length by omega), inB_true hs, inB_true (show s < plan.length by omega), chk_true', Int.toNat_natCast, ieq_eq, iadd_nat (show t < 4611686018427387904 by omega), nesT]
        by_cases q1 : 0 < gd (gd plan s []) t 0
        · by_cases q2 : gd (gd plan (s + 1) []) t 0 = 0
          · simp [q1, q2]
          · simp [q1, q2]
        · simp [q1]
      rcases range_cases (nesT plan s) c.1.length with ⟨g1, g2⟩ | ⟨g1, j, g2, g4, g5⟩
      · rw [show nesS c.1.length plan s = true from g1]
        refine Q53_L1_run N kx (fun _ => plan) (fun _ => (s : Int)) (fun t => (t : Int)) (fun _ => c) c.1.length (fun t ht kx1 => by rw [step t ht, g2 t ht]; rfl) (fun kx1 => ?_) N (by omega)
        simp only [Q53_B1, Q53_K1, ilt_eq, len_eq, Int.lt_irrefl, decide_false, cond_false, cond_true, ei]
      · rw [show nesS c.1.length plan s = false from g1]
        exact Q53_L1_run N kx (fun _ => plan) (fun _ => (s : Int)) (fun t => (t : Int)) (fun _ => c) j (fun t ht kx1 => by rw [step t (by omega), g4 t ht]; rfl) (fun kx1 => by rw [step j g2, g5]; rfl) N (by omega)
    have step : ∀ s, s + 1 < plan.length → ∀ kx, Q53_B2 N kx plan (s : Nat) c = bif nesS c.1.length plan s then kx plan ((s + 1 : Nat) : Int) c else some ((false, true), ()) := fun s hs kx => by
      have ei : iadd .i64 (s : Int) 1 = ((s + 1 : Nat) : Int) := iadd_nat (by omega)
      simp only [Q53_B2, ilt_eq, len_eq, ei, Int.ofNat_lt, hs, decide_true, cond_true, inner s hs]
    rcases range_cases (nesS c.1.length plan) (plan.length - 1) with ⟨g1, g2⟩ | ⟨g1, j, g2, g4, g5⟩
    · rw [show nestedB c.1.length plan = true from g1]
      refine Q53_L2_run N (fun _ => plan) (fun s => (s : Int)) (fun _ => c) (plan.length - 1) (fun s hs kx => by rw [step s (by omega), g2 s hs]; rfl) (fun kx => ?_) N (by omega)
      simp only [Q53_B2, Q53_K2, ilt_eq, len_eq, iadd_nat (show plan.length - 1 < 4611686018427387904 by omega), Int.ofNat_lt, show ¬ (plan.length - 1 + 1 < plan.length) by omega, decide_false, cond_false]
    · rw [show nestedB c.1.length plan = false from g1]
      exact Q53_L2_run N (fun _ => plan) (fun s => (s : Int)) (fun _ => c) j (fun s hs kx => by rw [step s (by omega), g4 s hs]; rfl) (fun kx => by rw [step j (by omega), g5]; rfl) N (by omega)
structure Rect (P : Pl) (K n : Nat) : Prop where
  l : P.length = K
  r : ∀ s, s < K → (gd P s []).length = n
theorem Rect.set {P : Pl} {K n s : Nat} {x : List Int} (h : Rect P K n) (hs : s < K) (hx : x.length = n) : Rect (List.set P s x) K n := ⟨by rw [List.length_set]; exact h.l, fun r hr => by
  rw [gdl_set (by rw [h.l]; exact hs)]
  split
  · exact hx
  · exact h.r r hr⟩
theorem Rect.sm {P : Pl} {K n : Nat} (h : Rect P K n) (hK : K < 1000) (hn : n < 1000) : SmPl P := ⟨by rw [h.l]; omega, fun s hs => by rw [h.l] at hs; rw [h.r s hs]; omega⟩
theorem nestPlan_rect (c : Ch) (A : Nat → Nat → Bool) : Rect (nestPlan c A) c.2.1.length c.1.length := ⟨nestPlan_len c A, fun s hs => by rw [nestPlan_gd c A hs, planS_len]⟩
theorem pickN_ok {N : Nat} {c : Cu} {k m : Nat} (hm : 0 < m) (h : Bud c (k + 2)) : ∃ v : Nat, ∃ c', Q40 N c (m : Int) = some ((v : Int), c') ∧ Bud c' k ∧ v < m := by
  obtain ⟨v, c', e, b, v0, v1⟩ := pick_ok (N := N) (m : Int) h
  exact ⟨v.toNat, c', by rw [e, show ((v.toNat : Nat) : Int) = v by omega], b, by omega⟩
theorem cp_end {N : Nat} {k K n : Nat} {cu : Cu} {b : Pl × Bool} (hK : 0 < K) (hn : 0 < n) (hR : Rect b.1 K n) (h : Bud cu (k + 4)) : ∃ P c', Q35_K1 N cu b = some (P, c') ∧ Rect P K n := by
  obtain ⟨x, c1, e1, b1⟩ := one_ok (N := N) 16 (h.mono (show k + 2 + 2 ≤ k + 4 by omega))
  simp only [Q35_K1, e1, Option.bind_some]
  cases x with
  | false => exact ⟨b.1, c1, rfl, hR⟩
  | true =>
    obtain ⟨y, c2, e2, b2, _⟩ := among_ok (N := N) (list := [1, (-1), 4611686018427387904]) (-1) 4611686018427387904 (by decide) (by decide) b1
    have h0 := hR.r 0 hK
    have g1 : inB (0 : Int) b.1.length = true := inB_in (by omega) (by rw [hR.l]; omega)
    have g2 : inB (0 : Int) (gd b.1 0 []).length = true := inB_in (by omega) (by rw [h0]; omega)
    simp only [cond_true, g1, g2, chk_true', e2, Option.bind_some]
    exact ⟨_, c2, rfl, hR.set hK (by rw [List.length_set]; exact h0)⟩
theorem cp_loop {N : Nat} {c : Ch} {K n : Nat} (hK : 0 < K) (hn : 0 < n) (hn1 : c.1.length = n) (hn2 : n ≤ 1000) (hK2 : K ≤ 1000) : ∀ (d k : Nat) (cu : Cu) (r : Int) (b : Pl × Bool), d ≤ 1000 → r = (d : Int) → Rect b.1 K n → Bud cu (k + 4 + 6 * d) → ∃ P c', (∀ m : Nat, d < m → Q35_L1 N m r cu c b = some (P, c')) ∧ Rect P K n := by
  intro d
  induction d with
  | zero =>
    intro k cu r b hd hr hR h
    obtain ⟨P, c', e1, e2⟩ := cp_end (N := N) (k := k) hK hn hR (h.mono (by omega))
    refine ⟨P, c', fun m hm => ?_, e2⟩
    obtain ⟨m, rfl⟩ : ∃ q, m = q + 1 := ⟨m - 1, by omega⟩
    rw [Q35_L1_succ]
    simp only [Q35_B1, ilt_eq, show ¬ (0 : Int) < r by omega, decide_false, cond_false, e1]
  | succ d ih =>
    intro k cu r b hd hr hR h
    have hlen : len b.1 = (K : Int) := by rw [len_eq, hR.l]
    obtain ⟨s, c1, e1, b1, hs⟩ := pickN_ok (N := N) (m := K) hK (h.mono (show k + 4 + 6 * d + 4 + 2 ≤ k + 4 + 6 * (d + 1) by omega))
    obtain ⟨t, c2, e2, b2, ht⟩ := pickN_ok (N := N) (m := n) hn (b1.mono (show k + 4 + 6 * d + 2 + 2 ≤ k + 4 + 6 * d + 4 by omega))
    obtain ⟨u, hu, hu2⟩ : ∃ u : Nat, imin (isub .i64 (n : Int) 1) (iadd .i64 (t : Int) 1) = (u : Int) ∧ u < n := by
      have e : isub .i64 (n : Int) 1 = (n : Int) - 1 := isub_in (by omega) (by omega)
      have e' : iadd .i64 (t : Int) 1 = ((t + 1 : Nat) : Int) := iadd_nat (by omega)
      have := imin_bd (x := (n : Int) - 1) (y := ((t + 1 : Nat) : Int))
      rw [e, e']
      exact ⟨(imin ((n : Int) - 1) ((t + 1 : Nat) : Int)).toNat, by omega, by omega⟩
    have hrow := hR.r s hs
    have g1 : inB (s : Int) b.1.length = true := inB_true (by rw [hR.l]; exact hs)
    have g2 : inB (u : Int) (gd b.1 s []).length = true := inB_true (by rw [hrow]; exact hu2)
    have er : isub .i64 r 1 = (d : Int) := by rw [isub_in (by omega) (by omega)]; omega
    have base : ∀ m, Q35_L1 N (m + 1) r cu c b = bif decide (0 < gd (gd b.1 s []) u 0) then
          (Q38 N c2 4).bind fun r6 =>
            bif !r6.1 then
              Q35_L1 N m (d : Int) r6.2 c (List.set (List.set b.1 s (List.set (gd b.1 s []) u (isub .i64 (gd (gd b.1 s []) u 0) 1))) s (List.set (List.set (gd b.1 s []) u (isub .i64 (gd (gd b.1 s []) u 0) 1)) t (iadd .i64 (gd (List.set (gd b.1 s []) u (isub .i64 (gd (gd b.1 s []) u 0) 1)) t 0) 1)), b.2)
            else Q35_L1 N m (d : Int) r6.2 c b
        else Q35_L1 N m (d : Int) c2 c b := fun m => by
      rw [Q35_L1_succ]
      have h1 : gd (List.set b.1 s (List.set (gd b.1 s []) u (isub .i64 (gd (gd b.1 s []) u 0) 1))) s [] = List.set (gd b.1 s []) u (isub .i64 (gd (gd b.1 s []) u 0) 1) := by rw [gdl_set (by rw [hR.l]; exact hs), if_pos rfl]
      have g3 : inB (s : Int) (List.set b.1 s (List.set (gd b.1 s []) u (isub .i64 (gd (gd b.1 s []) u 0) 1))).length = true := by rw [List.length_set]; exact g1
      have g4 : inB (t : Int) (List.set (gd b.1 s []) u (isub .i64 (gd (gd b.1 s []) u 0) 1)).length = true := inB_true (by rw [List.length_set, hrow]; exact ht)
      simp only [Q35_B1, ilt_eq, show (0 : Int) < r by omega, decide_true, cond_true, hlen, e1, Option.bind_some, len_eq, hn1, e2, spec_l1Least_eq, hu, g1, g2, chk_true', Int.toNat_natCast, er, h1, g3, g4]
    by_cases q : 0 < gd (gd b.1 s []) u 0
    · obtain ⟨x, c3, e3, b3⟩ := one_ok (N := N) 4 b2
      cases x with
      | false =>
        obtain ⟨P, c', o1, o2⟩ := ih k c3 (d : Int) (List.set (List.set b.1 s (List.set (gd b.1 s []) u (isub .i64 (gd (gd b.1 s []) u 0) 1))) s (List.set (List.set (gd b.1 s []) u (isub .i64 (gd (gd b.1 s []) u 0) 1)) t (iadd .i64 (gd (List.set (gd b.1 s []) u (isub .i64 (gd (gd b.1 s []) u 0) 1)) t 0) 1)), b.2) (by omega) rfl ((hR.set hs (by rw [List.length_set]; exact hrow)).set hs (by rw [List.length_set, List.length_set]; exact hrow)) b3
        refine ⟨P, c', fun m hm => ?_, o2⟩
        obtain ⟨m, rfl⟩ : ∃ q, m = q + 1 := ⟨m - 1, by omega⟩
        rw [base m]
        simp only [q, decide_true, cond_true, e3, Option.bind_some, Bool.not_false]
        exact o1 m (by omega)
      | true =>
        obtain ⟨P, c', o1, o2⟩ := ih k c3 (d : Int) b (by omega) rfl hR b3
        refine ⟨P, c', fun m hm => ?_, o2⟩
        obtain ⟨m, rfl⟩ : ∃ q, m = q + 1 := ⟨m - 1, by omega⟩
        rw [base m]
        simp only [q, decide_true, cond_true, e3, Option.bind_some, Bool.not_true, cond_false]
        exact o1 m (by omega)
    · obtain ⟨P, c', o1, o2⟩ := ih k c2 (d : Int) b (by omega) rfl hR (b2.mono (by omega))
      refine ⟨P, c', fun m hm => ?_, o2⟩
      obtain ⟨m, rfl⟩ : ∃ q, m = q + 1 := ⟨m - 1, by omega⟩
      rw [base m]
      simp only [q, decide_false, cond_false]
      exact o1 m (by omega)
theorem chainPlan_ok {N : Nat} (hN : 4194304 ≤ N) {cu : Cu} {c : Ch} (hc : ChLen c) (h : Bud cu 300) : ∃ P c', Q35 N cu c = some (P, c') ∧ SmPl P := by
  have h0 := hc.l0
  have h1 := hc.l1
  obtain ⟨P, c1, e1, b1, hP⟩ := periods7_ok (N := N) (k := 50) hN hc (h.mono (by omega))
  have hmk : mkB ((c.2.1.length : Nat) : Int) 24 = true := mkB_in (by omega) (by omega)
  have hrep : ∀ c' : Cu, ∃ P c'', (some (List.replicate ((c.2.1.length : Nat) : Int).toNat ([] : List Int), c') : Option (Pl × Cu)) = some (P, c'') ∧ SmPl P := fun c' => ⟨_, _, rfl, ⟨by rw [List.length_replicate]; omega, fun s hs => by
    rw [List.length_replicate] at hs
    simp only [gd, List.getD_eq_getElem?_getD, List.getElem?_replicate, hs, if_true, Option.getD_some, List.length_nil]; omega⟩⟩
  simp only [Q35, e1, Option.bind_some, spec_NestedPlan_eq hc.sm (hP.sm (by omega)) hN, bif_not, ieq_eq, len_eq, hmk, chk_true']
  cases hno : (nestOf c P).2 with
  | false => simp only [cond_false]; exact hrep _
  | true =>
    by_cases hz : (c.1.length : Int) = 0
    · simp only [hz, decide_true, cond_true]; exact hrep _
    · simp only [hz, decide_false, cond_true, cond_false]
      have hcon : (chainB c && (decide (P.length = c.2.1.length) && (perAll c.1.length P && covAll c (rowsA P)))) = true := by
        cases hh : (chainB c && (decide (P.length = c.2.1.length) && (perAll c.1.length P && covAll c (rowsA P)))) with
        | true => rfl
        | false => simp only [nestOf, hh, cond_false] at hno; cases hno
      have hno1 : (nestOf c P).1 = nestPlan c (rowsA P) := by simp only [nestOf, hcon, cond_true]
      simp only [Bool.and_eq_true] at hcon
      have hcp := chainP hcon.1
      have hs1 := hcp.s1
      obtain ⟨v, c2, e2, b2, hv⟩ := pickN_ok (N := N) (m := 4) (by omega) (b1.mono (show 40 + 2 ≤ 50 by omega))
      obtain ⟨Q, c', o1, o2⟩ := cp_loop (N := N) (c := c) (K := c.2.1.length) (n := c.1.length) (by omega) (by omega) rfl (by omega) (by omega) v 4 c2 (v : Int) (nestOf c P) (by omega) rfl (by rw [hno1]; exact nestPlan_rect _ _) (b2.mono (by omega))
      refine ⟨Q, c', ?_, o2.sm (by omega) (by omega)⟩
      have e2' : Q40 N c1 4 = some ((v : Int), c2) := e2
      rw [e2', Option.bind_some]
      exact o1 N (by omega)
theorem DrawChainCost_ok {N : Nat} (hN : 4194304 ≤ N) {code : List Int} (h : Bud (code, (0, 0)) 400) : ∃ c P, Q47 N code = some ((c, P), ()) ∧ ChLen c ∧ SmPl P := by
  obtain ⟨c, c1, e1, b1, l1⟩ := chain_ok hN (h.mono (show 300 + 70 ≤ 400 by omega))
  obtain ⟨P, c2, e2, l2⟩ := chainPlan_ok (N := N) hN l1 b1
  exact ⟨c, P, by simp only [Q47, Q48, e1, e2, Option.bind_some], l1, l2⟩
theorem stRow_bd {c : Ch} {plan : Pl} (h : ChPl c plan) {s : Nat} (hs : s < plan.length) : bd 720 (stRow c plan s) := fun i hi => by
  rw [stRow_len] at hi
  rw [stRow_gd _ _ _ hi]
  exact h.st s hs (i + 1) (by omega)
theorem rowF_bd {c : Ch} {plan : Pl} (h : ChPl c plan) {d : Nat} (hd : d ≤ plan.length) : bd 2160 (rowF c plan d) := fun i hi => by
  rw [rowF_len] at hi
  rw [rowF_gd _ _ _ hi]
  have := eD_bd h hi d hd
  have := h.l
  have := h.cs.s3
  omega
theorem sum_rsum {xs : List Int} : xs.sum = rsum (fun q => gd xs q 0) xs.length := by
  have := psum_rsum (xs := xs) (i := 0) xs.length (by omega)
  rw [Nat.zero_add, psum_all, psum_zero] at this
  rw [show xs.sum = xs.sum - 0 by omega, this]
  exact rsum_congr fun i _ => by rw [Nat.zero_add]
def hoA (c : Ch) (plan : Pl) (s : Nat) : Int := gd c.2.2 s 0 * (stRow c plan s).sum
def hoB (c : Ch) (plan : Pl) (s : Nat) : Int := echel c s * (rowF c plan (plan.length - s)).sum
theorem holds_same {c : Ch} {plan : Pl} : rsum (hoA c plan) plan.length = rsum (hoB c plan) plan.length := by
  have hA : rsum (hoA c plan) plan.length = rsum (fun s => gd c.2.2 s 0 * ((rowF c plan (plan.length - s)).sum - (rowF c plan (plan.length - (s + 1))).sum)) plan.length := rsum_congr fun s hs => by
    simp only [hoA]
    congr 1
    rw [sum_rsum, sum_rsum (xs := rowF c plan (plan.length - s)), sum_rsum (xs := rowF c plan (plan.length - (s + 1))), stRow_len, rowF_len, rowF_len]
    have : rsum (fun q => gd (rowF c plan (plan.length - s)) q 0) c.1.length = rsum (fun q => gd (stRow c plan s) q 0 + gd (rowF c plan (plan.length - (s + 1))) q 0) c.1.length := rsum_congr fun q hq => by
      rw [rowF_gd _ _ _ hq, rowF_gd _ _ _ hq, stRow_gd _ _ _ hq, eD_at hs]
    rw [this, rsum_add]; omega
  rw [hA, abel (fun s => gd c.2.2 s 0) (echel c) (fun s => (rowF c plan (plan.length - s)).sum) (by simp [echel]) (fun s => by simp [echel]) plan.length]
  refine rsum_congr fun s hs => ?_
  simp only [hoB]
  have : (rowF c plan (plan.length - plan.length)).sum = 0 := by
    rw [Nat.sub_self, sum_rsum]
    refine rsum_zero fun q hq => ?_
    rw [rowF_len] at hq
    rw [rowF_gd _ _ _ hq]; rfl
  rw [this]; congr 1; omega
theorem boundAt_sum {c : Ch} (hc : ChainP c) : ∀ s, s ≤ c.2.1.length → boundAt c s = rsum (fun s => leastOf (evenC c.1 (gd c.2.1 s 0) (echel c s))) s ∧ 0 ≤ boundAt c s ∧ boundAt c s ≤ 480000 * (s : Int)
  | 0, _ => by simp [boundAt, rsum]
  | s + 1, hs => by
    obtain ⟨h1, h2, h3⟩ := boundAt_sum hc s (by omega)
    have hl := hc.l
    have h4 := least_bd (evenC_P hc.n hc.b0 (hc.b1 s (by omega)) (echel_bd hc (s := s) (by omega)))
    have hs3 := hc.s3
    simp only [boundAt, rsum]
    rw [iadd_in (by omega) (by omega), h1]
    rw [h1] at h2 h3
    exact ⟨rfl, by omega, by omega⟩
theorem Chains_end {N : Nat} {c : Ch} {plan : Pl} (hb : (chainB c && chPlanB c plan) = true) (hs : SmCh c) (hN : 4194304 ≤ N) : laws_FnChains_L1 N N (costCh c plan) 0 0 0 c ((List.range plan.length).map (stRow c plan), true) (tabE c plan plan.length, true) ((List.range c.2.2.length).map (echel c), true) = some (true, ()) := by
  have h := chPl hb
  have hc := h.cs
  have h3 := hc.s3
  have hl := h.l
  have hll := hc.l
  have hn := hc.n
  have hAb : ∀ s, s < plan.length → 0 ≤ hoA c plan s ∧ hoA c plan s ≤ 50000 := fun s hs' => by
    have h1 := hc.b2 s (by omega)
    have h2 := psum_bd (stRow_bd h hs') (stRow c plan s).length (Nat.le_refl _)
    rw [psum_all, stRow_len] at h2
    have h2' : (stRow c plan s).sum ≤ 4320 := by omega
    have := Int.mul_nonneg h1.1 h2.1
    have h4 := Int.mul_le_mul h1.2 h2' h2.1 (by omega)
    simp only [hoA]; omega
  have hBb : ∀ s, s < plan.length → 0 ≤ hoB c plan s ∧ hoB c plan s ≤ 150000 := fun s hs' => by
    have h1 := echel_bd hc (s := s) (by omega)
    have h2 := psum_bd (rowF_bd h (show plan.length - s ≤ plan.length by omega)) (rowF c plan (plan.length - s)).length (Nat.le_refl _)
    rw [psum_all, rowF_len] at h2
    have h2' : (rowF c plan (plan.length - s)).sum ≤ 12960 := by omega
    have := Int.mul_nonneg h1.1 h2.1
    have h4 := Int.mul_le_mul h1.2 h2' h2.1 (by omega)
    simp only [hoB]; omega
  have key := laws_FnChains_L1_run N (fun _ => costCh c plan) (fun s => rsum (hoA c plan) s) (fun s => rsum (hoB c plan) s) (fun s => (s : Int)) (fun _ => c) (fun _ => ((List.range plan.length).map (stRow c plan), true)) (fun _ => (tabE c plan plan.length, true)) (fun _ => ((List.range c.2.2.length).map (echel c), true)) plan.length (res_ := some (true, ())) (fun s hs' kx => ?_) (fun kx => ?_) N (by omega)
  · exact key
  · have a1 := rsum_bd (f := hoA c plan) (lo := 0) (hi := 50000) (n := s) (fun i hi => hAb i (by omega))
    have a2 := rsum_bd (f := hoB c plan) (lo := 0) (hi := 150000) (n := s) (fun i hi => hBb i (by omega))
    have a3 := hAb s hs'
    have a4 := hBb s hs'
    have er : gd (tabE c plan plan.length) s [] = rowF c plan (plan.length - s) := by rw [tabE_gd c plan _ hs', if_pos (by omega)]
    have eh : gd ((List.range c.2.2.length).map (echel c)) s 0 = echel c s := gd_map_range _ 0 (by omega)
    have v1 := laws_vAdd_eq (N := N) (stRow_bd h hs') (by omega) (by rw [stRow_len]; omega) hN
    have v2 := laws_vAdd_eq (N := N) (rowF_bd h (show plan.length - s ≤ plan.length by omega)) (by omega) (by rw [rowF_len]; omega) hN
    have m1 : imul .i64 (gd c.2.2 s 0) (stRow c plan s).sum = hoA c plan s := by rw [imul_in (by simp only [hoA] at a3; omega) (by simp only [hoA] at a3; omega)]; rfl
    have m2 : imul .i64 (echel c s) (rowF c plan (plan.length - s)).sum = hoB c plan s := by rw [imul_in (by simp only [hoB] at a4; omega) (by simp only [hoB] at a4; omega)]; rfl
    simp only [laws_FnChains_B1, ilt_eq, len_eq, map_range_len, Int.ofNat_lt, hs', decide_true, cond_true, inB_true (show s < c.2.2.length by omega), inB_true hs', tabE_len, chk_true', Int.toNat_natCast, gdl_map hs', v1, Option.bind_some, er, v2, eh, m1, m2, iadd_nat (show s < 4611686018427387904 by omega)]
    rw [iadd_in (by omega) (by omega), iadd_in (by omega) (by omega)]
    rfl
  · have hcb : chainB c = true := by simp only [Bool.and_eq_true] at hb; exact hb.1
    obtain ⟨A, a1, a2, a3⟩ := nest_ge h
    have hbn := bound_nest hc a2
    obtain ⟨j, j1, j2, j3, _⟩ := best_min hc
    have hbj := bound_nest hc (covAll_iff.1 j2.2)
    have hpo := (plan_out hb).2
    have hbo : boundOf c = (rsum (fun s => leastOf (evenC c.1 (gd c.2.1 s 0) (echel c s))) c.2.1.length, true) := by simp only [boundOf, hcb, cond_true, (boundAt_sum hc c.2.1.length (Nat.le_refl _)).1]
    have hbc : bestCh c = (outV c 0, true) := by simp only [bestCh, hcb, cond_true]
    simp only [laws_FnChains_B1, laws_FnChains_K1, ilt_eq, len_eq, map_range_len, Int.lt_irrefl, decide_false, cond_false, impl_ChainBound_eq hs hN, spec_ChainBound_eq hs hN, impl_BestChainCost_eq hs hN, Option.bind_some, hbo, hbc, cond_true, ieq_eq, decide_true, holds_same, ile_eq]
    rw [decide_eq_true (show rsum (fun s => leastOf (evenC c.1 (gd c.2.1 s 0) (echel c s))) c.2.1.length ≤ costCh c plan by omega), decide_eq_true (show rsum (fun s => leastOf (evenC c.1 (gd c.2.1 s 0) (echel c s))) c.2.1.length ≤ outV c 0 by omega), decide_eq_true hpo]
    rfl
theorem spec_IsChain_eq {N : Nat} {c : Ch} (hs : SmCh c) (hN : 4194304 ≤ N) : Q51 N c = some (chainB c, ()) := by
  simp only [Q51, spec_l7Good_eq hs hN, Option.bind_some]
theorem laws_FnChains_law (code : List Int) (h : RngB code) : ∃ N, laws_FnChains N code = some (true, ()) := by
  refine ⟨4194304, ?_⟩
  have hN := Nat.le_refl 4194304
  simp only [laws_FnChains, Q29, ilt_eq, len_eq, Option.bind_some]
  by_cases hl : (65536 : Int) < code.length
  · simp [hl]
  · have hl' : code.length ≤ 65536 := by omega
    simp only [hl, decide_false, cond_false]
    obtain ⟨c, P, e1, hc, hP⟩ := DrawChainCost_ok hN (bud_zero h hl' 400 (by omega))
    have hs := hc.sm
    have hst : SmPl (stocksOf c P).1 := by
      unfold stocksOf
      cases hh : chainB c && chPlanB c P with
      | false => exact nil_sm
      | true => exact ⟨by simp only [cond_true, map_range_len]; exact hP.l, fun s hs' => by
          simp only [cond_true, map_range_len] at hs'
          show (gd ((List.range P.length).map (stRow c P)) s []).length < 4194304
          rw [gdl_map hs', stRow_len]; exact hs.s0⟩
    have hec : SmPl (echOf c P).1 := by
      unfold echOf
      cases hh : chainB c && chPlanB c P with
      | false => exact nil_sm
      | true => exact ⟨by simp only [cond_true, tabE_len]; exact hP.l, fun s hs' => by
          simp only [cond_true, tabE_len] at hs'
          show (gd (tabE c P P.length) s []).length < 4194304
          rw [tabE_gd c P _ hs', if_pos (by omega), rowF_len]; exact hs.s0⟩
    have hho : (holdsOf c).1.length < 4194304 := by
      unfold holdsOf
      cases hh : chainB c with
      | false => simp
      | true => simp only [cond_true, map_range_len]; exact hs.s2
    simp only [e1, Option.bind_some, impl_ChainCost_eq hs hP hN, spec_ChainCost_eq hs hP hN, impl_ChainStocks_eq hs hP hN, spec_ChainStocks_eq hs hP hN, impl_EchelonStocks_eq hs hP hN, spec_EchelonStocks_eq hs hP hN, impl_EchelonHolds_eq hs hN, spec_EchelonHolds_eq hs hN, impl_IsChainPlan_eq hs hP hN, spec_IsChainPlan_eq hs hP hN, impl_IsNestedPlan_eq hs hP hN, spec_IsNestedPlan_eq hs hP hN, impl_IsChain_eq hs hN, spec_IsChain_eq hs hN, ine_eq, decide_true, Bool.not_true, cond_false, Go.Rx.beq, BEq.rfl, laws_vPlan_refl hst hN, laws_vPlan_refl hec hN, laws_vInts_refl hho hN]
    cases hcb : chainB c with
    | false =>
      have : (chCost c P).2 = false := by simp only [chCost, hcb, Bool.false_and, cond_false]
      simp only [isPlan, hcb, cond_false, this, BEq.rfl, Bool.not_true, laws_FnChains_K2, Bool.not_false, cond_true]
    | true =>
      cases hpb : chPlanB c P with
      | false =>
        have : (chCost c P).2 = false := by simp only [chCost, hpb, Bool.and_false, cond_false]
        simp only [isPlan, hcb, hpb, cond_true, this, BEq.rfl, Bool.not_true, cond_false, laws_FnChains_K2, Bool.not_false]
      | true =>
        have hb : (chainB c && chPlanB c P) = true := by rw [hcb, hpb]; rfl
        have h1 := (plan_out hb).1
        have := Chains_end hb hs hN
        simp only [isPlan, hcb, hpb, cond_true, h1, BEq.rfl, Bool.not_true, cond_false, laws_FnChains_K2, stocksOf, echOf, holdsOf, hb, Bool.and_self]
        exact this
end Go.Rx.Px
