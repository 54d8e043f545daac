/- This text proves, of the plain functions behind FnAssemblies, that the law answers true (part 2 of 2); no condition beyond the ranges that its arguments have. -/
import Derived.Test.YtkkmjhibacgmfaaThAFnAssemblies
set_option linter.unusedVariables false
set_option linter.unusedSimpArgs false
namespace Go.Rx.Px
theorem tlC_split {c : Ch} (hc : ChainP c) {B : Nat → Nat → Bool} (hB : NestedA B c.1.length c.2.1.length) {s a b d t : Nat} (hs : s < c.2.1.length) (hab : a ≤ b) (hb : b ≤ c.1.length) (hd : t + (d + 1) = c.1.length) (ht : nb c B (s + 1) t ≤ a) {m : Nat} (hm : m = clip a b (nb c B (s + 1) (t + 1))) :
    ((if s + 1 < c.2.1.length ∧ 0 < dem c a m then gd c.2.1 (s + 1) 0 else 0) + tlC c B (s + 1) a m (d + 1) t) + (gd c.2.2 s 0 * dem c m b + tlC c B s m b d (t + 1)) ≤ tlC c B s a b (d + 1) t := by
  have ham : a ≤ m := by rw [hm]; exact (clip_in hab _).1
  have hmb : m ≤ b := by rw [hm]; exact (clip_in hab _).2
  have ht1 : t + 1 ≤ c.1.length := by omega
  have hx1 := nb_ge c B (s + 1) ht1
  -- behind period t all is as from m on
  have clipm : ∀ x, nb c B (s + 1) (t + 1) ≤ x → clip a b x = clip m b x := fun x hx => by rw [hm]; unfold clip; omega
  have clipa : ∀ x, nb c B (s + 1) (t + 1) ≤ x → clip a m x = m := fun x hx => by rw [hm]; unfold clip; omega
  have clipb : ∀ x, x ≤ nb c B (s + 1) (t + 1) → clip m b x = m := fun x hx => by rw [hm]; unfold clip; omega
  have later : ∀ r, s + 1 ≤ r → r ≤ c.2.1.length → nb c B r (t + 1) ≤ nb c B (s + 1) (t + 1) := fun r h1 h2 => by
    have := nb_le hB ht1 (r - (s + 1)) (s + 1) (by omega)
    rwa [show s + 1 + (r - (s + 1)) = r by omega] at this
  have HH : ∀ r, s + 1 ≤ r → r ≤ c.2.1.length → Hn c B r a b (d + 1) t = Hn c B r a m (d + 1) t + (dem c m b + Hn c B r m b d (t + 1)) := fun r h1 h2 => by
    rw [Hn_split hc B r ham hmb hb (by omega)]
    congr 1
    show dem c (clip m b (nb c B r (t + 1))) b + _ = _
    rw [clipb _ (later r h1 h2)]; rfl
  have H1 : Hn c B (s + 1) a m (d + 1) t = 0 := sumF_zero _ _ fun u h1 h2 => by
    rw [clipa _ (nb_mono c B (s + 1) (show t + 1 ≤ u + 1 by omega) (by omega)), dem_self]
  have J1 : Jn c B (s + 1) a b (d + 1) t = (if 0 < dem c a m then 1 else 0) + Jn c B (s + 1) m b d (t + 1) := by
    show jmp c a b _ _ + _ = _
    congr 1
    · unfold jmp
      rw [show clip a b (nb c B (s + 1) t) = a by unfold clip; omega, ← hm]
    · refine sumF_congr _ _ fun u h1 h2 => ?_
      unfold jmp
      rw [clipm _ (nb_mono c B (s + 1) h1 (by omega)), clipm _ (nb_mono c B (s + 1) (show t + 1 ≤ u + 1 by omega) (by omega))]
  have Jr : ∀ r, s + 1 < r → r < c.2.1.length → Jn c B r a m (d + 1) t + Jn c B r m b d (t + 1) ≤ Jn c B r a b (d + 1) t := fun r h1 h2 => by
    have hfix : fixB c B r m ∨ m = a ∨ m = b := by
      by_cases e : m = a
      · exact .inr (.inl e)
      · by_cases e2 : m = b
        · exact .inr (.inr e2)
        · left
          have e3 : m = nb c B (s + 1) (t + 1) := by rw [hm] at e e2 ⊢; unfold clip at e e2 ⊢; omega
          have := fix_up hB (show m ≤ c.1.length by omega) (r - (s + 1)) (s + 1) (e3 ▸ nb_isfix c B (s + 1) ht1)
          rwa [show s + 1 + (r - (s + 1)) = r by omega] at this
    have hgap : ∀ u, u < c.1.length → ¬ (nb c B r u < m ∧ m < nb c B r (u + 1)) ∨ m = a ∨ m = b := fun u hu => by
      rcases hfix with hf | hf
      · left
        rintro ⟨g1, g2⟩
        have g3 := nb_ge c B r (show u ≤ c.1.length by omega)
        have g4 := nb_mono c B r (show u + 1 ≤ m by omega) (by omega)
        rw [nb_fix (by omega) hf] at g4
        omega
      · exact .inr hf
    have hsp : ∀ u, u < c.1.length → jmp c a m (nb c B r u) (nb c B r (u + 1)) + jmp c m b (nb c B r u) (nb c B r (u + 1)) ≤ jmp c a b (nb c B r u) (nb c B r (u + 1)) := fun u hu =>
      jmp_split hc ham hmb hb (nb_mono c B r (Nat.le_succ u) (by omega)) (hgap u hu)
    have g1 : sumF _ d (t + 1) + sumF _ d (t + 1) ≤ sumF _ d (t + 1) := sumF_addle (f := fun u => jmp c a b (nb c B r u) (nb c B r (u + 1))) (g := fun u => jmp c a m (nb c B r u) (nb c B r (u + 1))) (k := fun u => jmp c m b (nb c B r u) (nb c B r (u + 1))) d (t + 1) (fun u h1 h2 => hsp u (by omega))
    have g2 := hsp t (by omega)
    have g3 := jmp_nn c m b (nb c B r t) (nb c B r (t + 1))
    simp only [Jn, sumF]; omega
  have hfirst : rsum (fun r => if r = s + 1 then (if 0 < dem c a m then gd c.2.1 r 0 else 0) else 0) c.2.1.length = (if s + 1 < c.2.1.length ∧ 0 < dem c a m then gd c.2.1 (s + 1) 0 else 0) := by
    rw [rsum_one (fun r => if 0 < dem c a m then gd c.2.1 r 0 else 0)]
    by_cases e : s + 1 < c.2.1.length
    · rw [if_pos e]
      by_cases e2 : 0 < dem c a m
      · rw [if_pos e2, if_pos ⟨e, e2⟩]
      · rw [if_neg e2, if_neg (fun h => e2 h.2)]
    · rw [if_neg e, if_neg (fun h => e h.1)]
  have hhold : rsum (fun r => if r = s then gd c.2.2 r 0 * dem c m b else 0) c.2.1.length = gd c.2.2 s 0 * dem c m b := by
    rw [rsum_one (fun r => gd c.2.2 r 0 * dem c m b), if_pos hs]
  rw [← hfirst, ← hhold]
  simp only [tlC]
  rw [← rsum_add, ← rsum_add, ← rsum_add]
  refine rsum_le fun r hr => ?_
  have hset := hc.b1 r hr
  rcases Nat.lt_trichotomy r s with e | e | e
  · simp only [if_neg (show ¬ r = s + 1 by omega), if_neg (show ¬ r = s by omega), if_neg (show ¬ s + 1 < r by omega), if_neg (show ¬ s + 1 ≤ r by omega), if_neg (show ¬ s < r by omega), if_neg (show ¬ s ≤ r by omega)]
    omega
  · subst e
    simp only [if_neg (show ¬ r = r + 1 by omega), if_true, if_neg (show ¬ r + 1 < r by omega), if_neg (show ¬ r + 1 ≤ r by omega), if_neg (show ¬ r < r by omega), if_pos (Nat.le_refl r)]
    rw [HH (r + 1) (Nat.le_refl _) (by omega), H1]
    simp only [Int.mul_add, Int.mul_sub]; omega
  · rcases Nat.eq_or_lt_of_le (show s + 1 ≤ r by omega) with e1 | e1
    · subst e1
      simp only [if_true, if_neg (show ¬ s + 1 = s by omega), if_neg (show ¬ s + 1 < s + 1 by omega), if_pos (Nat.le_refl (s + 1)), if_pos (show s < s + 1 by omega), if_pos (show s ≤ s + 1 by omega)]
      rw [HH (s + 1 + 1) (by omega) (by omega), HH (s + 1) (Nat.le_refl _) (by omega), H1, J1]
      have e9 : (if 0 < dem c a m then gd c.2.1 (s + 1) 0 else 0) = gd c.2.1 (s + 1) 0 * (if 0 < dem c a m then 1 else 0) := by split <;> omega
      rw [e9]
      simp only [Int.mul_add, Int.mul_sub]; omega
    · simp only [if_neg (show ¬ r = s + 1 by omega), if_neg (show ¬ r = s by omega), if_pos e1, if_pos (show s + 1 ≤ r by omega), if_pos (show s < r by omega), if_pos (show s ≤ r by omega)]
      have := Int.mul_le_mul_of_nonneg_left (Jr r e1 hr) hset.1
      rw [HH (r + 1) (by omega) (by omega), HH r (by omega) (by omega)]
      simp only [Int.mul_add, Int.mul_sub] at this ⊢; omega
theorem give_le {c : Ch} (hc : ChainP c) {B : Nat → Nat → Bool} (hB : NestedA B c.1.length c.2.1.length) : ∀ e s t a b d, s < c.2.1.length → t ≤ a → a ≤ b → b ≤ c.1.length → t + d = c.1.length → nb c B (s + 1) t ≤ a → giveG c e s t a b ≤ tlC c B s a b d t := by
  intro e
  induction e with
  | zero => intro s t a b d hs hta hab hb hd _; exact tlC_nn hc hB hab hb (by omega)
  | succ e ih =>
    intro s t a b d hs hta hab hb hd hn
    have hd0 := dem_nn hc hab hb
    by_cases hz : dem c a b = 0
    · simp only [giveG]; rw [if_pos hz]; exact tlC_nn hc hB hab hb (by omega)
    · have hlt : a < b := by
        rcases Nat.lt_or_ge a b with h | h
        · exact h
        · rw [show b = a by omega, dem_self] at hz; exact absurd rfl hz
      obtain ⟨d, rfl⟩ : ∃ d', d = d' + 1 := ⟨d - 1, by omega⟩
      have ht1 : t + 1 ≤ c.1.length := by omega
      have hx1 := nb_ge c B (s + 1) ht1
      have hmin := clip_in hab (nb c B (s + 1) (t + 1))
      generalize hm : clip a b (nb c B (s + 1) (t + 1)) = m at hmin
      obtain ⟨ham, hmb⟩ := hmin
      have hst : 0 < dem c m b → t + 1 ≤ m ∧ nb c B (s + 1) (t + 1) ≤ m := fun h => by
        have hne : m ≠ b := fun e => by rw [e, dem_self] at h; omega
        rw [← hm] at hne ⊢; unfold clip at hne ⊢; omega
      have hsplit : splitOk c.2.1.length s t a m = true := by
        unfold splitOk
        by_cases k : s + 1 < c.2.1.length
        · simp [k]
        · have e1 : nb c B (s + 1) (t + 1) = t + 1 := by unfold nb; rw [if_neg k]
          rw [e1] at hm
          simp only [decide_eq_false k, Bool.false_or, Bool.not_eq_true', Bool.or_eq_false_iff, Bool.and_eq_false_iff, decide_eq_false_iff_not]
          unfold clip at hm
          omega
      have hv : giveAt c (giveG c e) s t a b m = some ((if s + 1 < c.2.1.length ∧ 0 < dem c a m then gd c.2.1 (s + 1) 0 + giveG c e (s + 1) t a m else 0) + (if 0 < dem c m b then gd c.2.2 s 0 * dem c m b + giveG c e s (t + 1) m b else 0)) := by
        unfold giveAt
        rw [if_pos ⟨hsplit, fun ⟨g1, g2⟩ => by have := (hst g1).1; omega⟩]
      have h1 := (giveG_is hc (d := e) hs hta hab hb (by omega)).2 m ham hmb _ hv
      refine Int.le_trans h1 (Int.le_trans ?_ (tlC_split hc hB hs hab hb hd hn hm.symm))
      have p1 : (if s + 1 < c.2.1.length ∧ 0 < dem c a m then gd c.2.1 (s + 1) 0 + giveG c e (s + 1) t a m else 0) ≤ (if s + 1 < c.2.1.length ∧ 0 < dem c a m then gd c.2.1 (s + 1) 0 else 0) + tlC c B (s + 1) a m (d + 1) t := by
        by_cases k : s + 1 < c.2.1.length ∧ 0 < dem c a m
        · rw [if_pos k, if_pos k]
          have := ih (s + 1) t a m (d + 1) k.1 hta ham (by omega) hd (Nat.le_trans (nb_up hB k.1 (by omega)) hn)
          omega
        · rw [if_neg k, if_neg k]
          have := tlC_nn hc hB (s := s + 1) (d := d + 1) (t := t) ham (show m ≤ c.1.length by omega) (by omega)
          omega
      have p2 : (if 0 < dem c m b then gd c.2.2 s 0 * dem c m b + giveG c e s (t + 1) m b else 0) ≤ gd c.2.2 s 0 * dem c m b + tlC c B s m b d (t + 1) := by
        by_cases k : 0 < dem c m b
        · rw [if_pos k]
          have := ih s (t + 1) m b d hs (hst k).1 hmb hb (by omega) (hst k).2
          omega
        · rw [if_neg k]
          have := tlC_nn hc hB (s := s) (d := d) (t := t + 1) hmb hb (by omega)
          have h9 := dem_nn hc hmb hb
          rw [show dem c m b = 0 by omega]; omega
      omega
def allC (c : Ch) (B : Nat → Nat → Bool) (a d : Nat) : Int :=
  rsum (fun r => gd c.2.1 r 0 * Jn c B r a c.1.length d a + gd c.2.2 r 0 * (Hn c B (r + 1) a c.1.length d a - Hn c B r a c.1.length d a)) c.2.1.length
theorem J_move (c : Ch) (B : Nat → Nat → Bool) (r : Nat) {a b d : Nat} (hab : a ≤ b) (hd : b + d = c.1.length) : Jn c B r a c.1.length d b = Jn c B r b c.1.length d b := by
  refine sumF_congr _ _ fun u h1 h2 => ?_
  have g1 := nb_ge c B r (show u ≤ c.1.length by omega)
  have g2 := nb_ge c B r (show u + 1 ≤ c.1.length by omega)
  unfold jmp
  rw [show clip a c.1.length (nb c B r u) = clip b c.1.length (nb c B r u) by unfold clip; omega, show clip a c.1.length (nb c B r (u + 1)) = clip b c.1.length (nb c B r (u + 1)) by unfold clip; omega]
theorem H_move (c : Ch) (B : Nat → Nat → Bool) (r : Nat) {a b d : Nat} (hab : a ≤ b) (hd : b + d = c.1.length) : Hn c B r a c.1.length d b = Hn c B r b c.1.length d b := by
  refine sumF_congr _ _ fun u h1 h2 => ?_
  have g2 := nb_ge c B r (show u + 1 ≤ c.1.length by omega)
  rw [show clip a c.1.length (nb c B r (u + 1)) = clip b c.1.length (nb c B r (u + 1)) by unfold clip; omega]
theorem allC_nn {c : Ch} (hc : ChainP c) {B : Nat → Nat → Bool} (hB : NestedA B c.1.length c.2.1.length) {a d : Nat} (hd : a + d = c.1.length) : 0 ≤ allC c B a d := by
  refine rsum_nn fun r hr => ?_
  have h1 := hc.b1 r hr
  have h2 := hc.b2 r (by have := hc.l; omega)
  have h3 := Hn_up hc hB (d := d) (t := a) hr (show a ≤ c.1.length by omega) (Nat.le_refl _) (by omega)
  have e1 := Int.mul_nonneg h1.1 (Jn_nn c B r a c.1.length d a)
  have e2 := Int.mul_nonneg h2.1 (show 0 ≤ Hn c B (r + 1) a c.1.length d a - Hn c B r a c.1.length d a by omega)
  omega
theorem all_skip {c : Ch} (hc : ChainP c) {B : Nat → Nat → Bool} (hB : NestedA B c.1.length c.2.1.length) {a d : Nat} (hd : a + (d + 1) = c.1.length) : allC c B (a + 1) d ≤ allC c B a (d + 1) := by
  refine rsum_le fun r hr => ?_
  have h1 := hc.b1 r hr
  have h2 := hc.b2 r (by have := hc.l; omega)
  have ej : Jn c B r a c.1.length (d + 1) a = jmp c a c.1.length (nb c B r a) (nb c B r (a + 1)) + Jn c B r (a + 1) c.1.length d (a + 1) := by
    rw [← J_move c B r (Nat.le_succ a) (by omega)]; rfl
  have eh : ∀ q, Hn c B q a c.1.length (d + 1) a = dem c (clip a c.1.length (nb c B q (a + 1))) c.1.length + Hn c B q (a + 1) c.1.length d (a + 1) := fun q => by
    rw [← H_move c B q (Nat.le_succ a) (by omega)]; rfl
  have h3 := nb_up hB hr (show a + 1 ≤ c.1.length by omega)
  have h4 := clip_mono (a := a) (b := c.1.length) h3
  have h5 := clip_in (show a ≤ c.1.length by omega) (nb c B r (a + 1))
  have h6 := dem_nn hc h4 (by omega)
  have h7 : dem c (clip a c.1.length (nb c B r (a + 1))) c.1.length ≤ dem c (clip a c.1.length (nb c B (r + 1) (a + 1))) c.1.length := by simp only [dem] at h6 ⊢; omega
  rw [ej, eh, eh]
  have e1 := Int.mul_nonneg h1.1 (jmp_nn c a c.1.length (nb c B r a) (nb c B r (a + 1)))
  have e2 := Int.mul_nonneg h2.1 (show 0 ≤ dem c (clip a c.1.length (nb c B (r + 1) (a + 1))) c.1.length - dem c (clip a c.1.length (nb c B r (a + 1))) c.1.length by omega)
  simp only [Int.mul_add, Int.mul_sub] at e2 ⊢; omega
theorem all_split {c : Ch} (hc : ChainP c) {B : Nat → Nat → Bool} (hB : NestedA B c.1.length c.2.1.length) {a b d e : Nat} (ha : fixB c B 0 a) (hb : b = nb c B 0 (a + 1)) (hlt : a < c.1.length) (hd : a + d = c.1.length) (he : b + e = c.1.length) (hpos : 0 < dem c a b) :
    gd c.2.1 0 0 + tlC c B 0 a b d a + allC c B b e ≤ allC c B a d := by
  have hs1 := hc.s1
  have hb1 := nb_ge c B 0 (show a + 1 ≤ c.1.length by omega)
  have hab : a < b := by omega
  have hbn : b ≤ c.1.length := by omega
  have hbf : ∀ r, fixB c B r b := fun r => by
    have := fix_up hB hbn r 0 (hb ▸ nb_isfix c B 0 (show a + 1 ≤ c.1.length by omega))
    rwa [Nat.zero_add] at this
  have haf : nb c B 0 a = a := nb_fix (by omega) ha
  obtain ⟨k, hk⟩ : ∃ k, b = a + k := ⟨b - a, by omega⟩
  have hdk : d = k + e := by omega
  have hH : ∀ r, Hn c B r a c.1.length d a = Hn c B r a b d a + ((k : Int) * dem c b c.1.length + Hn c B r b c.1.length e b) := fun r => by
    rw [Hn_split hc B r (show a ≤ b by omega) hbn (Nat.le_refl _) (by omega)]
    congr 1
    have e1 : Hn c B r b c.1.length d a = sumF (fun u => dem c (clip b c.1.length (nb c B r (u + 1))) c.1.length) k a + Hn c B r b c.1.length e b := by
      unfold Hn; rw [hdk, sumF_split, ← hk]
    rw [e1]
    congr 1
    have e2 : ∀ m t, t + m ≤ b → sumF (fun u => dem c (clip b c.1.length (nb c B r (u + 1))) c.1.length) m t = (m : Int) * dem c b c.1.length := by
      intro m
      induction m with
      | zero => intro t _; simp [sumF]
      | succ m ih =>
        intro t ht
        have g1 := nb_mono c B r (show t + 1 ≤ b by omega) hbn
        rw [nb_fix hbn (hbf r)] at g1
        simp only [sumF]
        rw [ih (t + 1) (by omega), show clip b c.1.length (nb c B r (t + 1)) = b by unfold clip; omega]
        rw [show ((m + 1 : Nat) : Int) = (m : Int) + 1 from rfl, Int.add_mul]; omega
    exact e2 k a (by omega)
  have hH0 : Hn c B 0 a b d a = 0 := sumF_zero _ _ fun u h1 h2 => by
    have := nb_mono c B 0 (show a + 1 ≤ u + 1 by omega) (show u + 1 ≤ c.1.length by omega)
    rw [show clip a b (nb c B 0 (u + 1)) = b by unfold clip; omega, dem_self]
  have hdrop : ∀ r, Jn c B r b c.1.length e b ≤ Jn c B r b c.1.length d a := fun r => by
    have e1 : Jn c B r b c.1.length d a = sumF (fun u => jmp c b c.1.length (nb c B r u) (nb c B r (u + 1))) k a + Jn c B r b c.1.length e b := by
      unfold Jn; rw [hdk, sumF_split, ← hk]
    have := sumF_nn (f := fun u => jmp c b c.1.length (nb c B r u) (nb c B r (u + 1))) k a (fun _ _ _ => jmp_nn _ _ _ _ _)
    omega
  have hJ : ∀ r, Jn c B r a b d a + Jn c B r b c.1.length e b ≤ Jn c B r a c.1.length d a := fun r => by
    have h1 := hdrop r
    have h2 : Jn c B r a b d a + Jn c B r b c.1.length d a ≤ Jn c B r a c.1.length d a := sumF_addle _ _ fun u g1 g2 => by
      refine jmp_split hc (show a ≤ b by omega) hbn (Nat.le_refl _) (nb_mono c B r (Nat.le_succ u) (by omega)) (.inl ?_)
      rintro ⟨k1, k2⟩
      have g3 := nb_ge c B r (show u ≤ c.1.length by omega)
      have g4 := nb_mono c B r (show u + 1 ≤ b by omega) hbn
      rw [nb_fix hbn (hbf r)] at g4
      omega
    omega
  have hJ0 : 1 + Jn c B 0 b c.1.length e b ≤ Jn c B 0 a c.1.length d a := by
    have h1 := hJ 0
    have h2 : 1 ≤ Jn c B 0 a b d a := by
      obtain ⟨d', rfl⟩ : ∃ d', d = d' + 1 := ⟨d - 1, by omega⟩
      have h3 := sumF_nn (f := fun u => jmp c a b (nb c B 0 u) (nb c B 0 (u + 1))) d' (a + 1) (fun _ _ _ => jmp_nn _ _ _ _ _)
      have h4 : jmp c a b (nb c B 0 a) (nb c B 0 (a + 1)) = 1 := by
        unfold jmp
        rw [haf, ← hb, show clip a b a = a by unfold clip; omega, show clip a b b = b by unfold clip; omega, if_pos hpos]
      show 1 ≤ jmp c a b (nb c B 0 a) (nb c B 0 (a + 1)) + _
      omega
    omega
  have e0 : rsum (fun r => if r = 0 then gd c.2.1 r 0 else 0) c.2.1.length = gd c.2.1 0 0 := by
    rw [rsum_one (fun r => gd c.2.1 r 0), if_pos (by omega)]
  rw [← e0]
  simp only [tlC, allC]
  rw [← rsum_add, ← rsum_add]
  refine rsum_le fun r hr => ?_
  have hset := hc.b1 r hr
  rcases Nat.eq_zero_or_pos r with h | h
  · subst h
    rw [if_pos rfl, if_neg (Nat.lt_irrefl 0), if_pos (Nat.le_refl 0), if_neg (Nat.lt_irrefl 0), hH, hH, hH0]
    have := Int.mul_le_mul_of_nonneg_left hJ0 hset.1
    simp only [Int.mul_add, Int.mul_sub] at this ⊢; omega
  · rw [if_neg (by omega), if_pos h, if_pos (Nat.zero_le r), if_pos h, hH, hH]
    have := Int.mul_le_mul_of_nonneg_left (hJ r) hset.1
    simp only [Int.mul_add, Int.mul_sub] at this ⊢; omega
theorem outV_le {c : Ch} (hc : ChainP c) {B : Nat → Nat → Bool} (hB : NestedA B c.1.length c.2.1.length) (hp : ∀ p, p < c.1.length → B 0 p = true → 0 < gd c.1 p 0) : ∀ d a, a + d = c.1.length → dem c a (nb c B 0 a) = 0 → outV c a ≤ allC c B a d := by
  intro d
  induction d using Nat.strongRecOn with
  | _ d ih =>
    intro a hd hz
    have hs1 := hc.s1
    rcases Nat.eq_zero_or_pos d with h | h
    · rw [outV_end (by omega)]; exact allC_nn hc hB hd
    · have ha : a < c.1.length := by omega
      have hb0 := hc.b0 a ha
      have hx := nb_ge c B 0 (show a ≤ c.1.length by omega)
      by_cases hn : gd c.1 a 0 = 0
      · obtain ⟨d, rfl⟩ : ∃ d', d = d' + 1 := ⟨d - 1, by omega⟩
        rw [outV_zero ha hn]
        have hBa : B 0 a = false := by
          cases hB0 : B 0 a with
          | false => rfl
          | true => have := hp a ha hB0; omega
        have e1 : nb c B 0 (a + 1) ≤ nb c B 0 a := by
          have hne : nb c B 0 a ≠ a := fun e => by
            rcases nb_isfix c B 0 (show a ≤ c.1.length by omega) with g | g | g
            · omega
            · omega
            · rw [e, hBa] at g; cases g
          have g1 := nb_mono c B 0 (show a + 1 ≤ nb c B 0 a by omega) hx.2
          rwa [nb_fix hx.2 (nb_isfix c B 0 (by omega))] at g1
        have e2 := nb_mono c B 0 (Nat.le_succ a) (show a + 1 ≤ c.1.length by omega)
        have e3 : nb c B 0 (a + 1) = nb c B 0 a := by have e2' : nb c B 0 a ≤ nb c B 0 (a + 1) := e2; omega
        refine Int.le_trans (ih d (by omega) (a + 1) (by omega) ?_) (all_skip hc hB hd)
        have e4 : dem c a (a + 1) = 0 := by simp only [dem]; rw [psum_succ ha, hn]; omega
        have := dem_add c a (a + 1) (nb c B 0 (a + 1))
        rw [e3] at this ⊢
        omega
      · have haf : nb c B 0 a = a := by
          rcases Nat.eq_or_lt_of_le hx.1 with g | g
          · exact g.symm
          · have e1 := dem_add c a (a + 1) (nb c B 0 a)
            have e2 := dem_nn hc (show a + 1 ≤ nb c B 0 a by omega) hx.2
            have e4 : dem c a (a + 1) = gd c.1 a 0 := by simp only [dem]; rw [psum_succ ha]; omega
            omega
        have hx1 := nb_ge c B 0 (show a + 1 ≤ c.1.length by omega)
        generalize hb : nb c B 0 (a + 1) = b at hx1
        have h1 := (outV_is hc ha hn).2 b (by omega) (by omega)
        have hpos : 0 < dem c a b := by
          have e1 := dem_add c a (a + 1) b
          have e2 := dem_nn hc (show a + 1 ≤ b by omega) hx1.2
          have e4 : dem c a (a + 1) = gd c.1 a 0 := by simp only [dem]; rw [psum_succ ha]; omega
          omega
        have hbf : nb c B 0 b = b := nb_fix hx1.2 (hb ▸ nb_isfix c B 0 (by omega))
        have h2 := ih (c.1.length - b) (by omega) b (by omega) (by rw [hbf, dem_self])
        have hn1 : nb c B 1 a ≤ a := by have := nb_up hB (show 0 < c.2.1.length by omega) (show a ≤ c.1.length by omega); rw [haf] at this; exact this
        have h3 := give_le hc hB (fuelG c) 0 a a b d (by omega) (Nat.le_refl _) (by omega) hx1.2 hd hn1
        have h4 := all_split hc hB (b := b) (d := d) (e := c.1.length - b) (haf ▸ nb_isfix c B 0 (by omega)) hb.symm ha hd (by omega) hpos
        omega
def posN (need : List Int) (q : Nat) : Bool := decide (0 < gd need q 0)
def moveS (S : Nat → Bool) (need : List Int) (q : Nat) : Bool := posN need q && match own S q with
  | some p => decide (psum need q = psum need p)
  | none => false
theorem moveS_iff {S : Nat → Bool} {need : List Int} {q : Nat} : moveS S need q = true ↔ 0 < gd need q 0 ∧ ∃ p, own S q = some p ∧ psum need q = psum need p := by
  unfold moveS posN
  simp only [Bool.and_eq_true, decide_eq_true_eq]
  cases own S q <;> simp
theorem moveS_pos {S : Nat → Bool} {need : List Int} {q : Nat} (h : moveS S need q = true) : 0 < gd need q 0 := (moveS_iff.1 h).1
theorem moveS_of {S : Nat → Bool} {need : List Int} {b : Int} (hb : bd b need) {p q : Nat} (hS : S p = true) (hpq : p ≤ q) (hq : q < need.length) (h0 : 0 < gd need q 0) (hz : psum need q = psum need p) : moveS S need q = true := by
  refine moveS_iff.2 ⟨h0, ?_⟩
  rcases own_at S q with ⟨h1, _⟩ | ⟨p', h1, h2, h3, _⟩
  · exact absurd h1 (own_ne_none hS hpq)
  · refine ⟨p', h1, ?_⟩
    have hp' : p ≤ p' := by
      rcases Nat.lt_or_ge p' p with e | e
      · have := own_last h1 e hpq; rw [hS] at this; cases this
      · exact e
    have := psum_mono hb hp' (show p' ≤ need.length by omega)
    have := psum_mono hb h2 (show q ≤ need.length by omega)
    omega
theorem moveS_nested {c : Ch} (hc : ChainP c) {A : Nat → Nat → Bool} (hA : NestedA A c.1.length c.2.1.length) : NestedA (fun s => moveS (A s) c.1) c.1.length c.2.1.length := by
  intro s hs q hq h
  obtain ⟨h1, p, h2, h3⟩ := moveS_iff.1 h
  obtain ⟨h4, h5, _⟩ := own_some h2
  exact moveS_of hc.b0 (hA s hs p (by omega) h5) h4 hq h1 h3
theorem moveS_psum {S : Nat → Bool} {need : List Int} {b : Int} (hb : bd b need) {t : Nat} (ht : t ≤ need.length) : psum need (nx (moveS S need) need.length t) ≤ psum need (nx S need.length t) := by
  have hB := nx_is (moveS S need) ht
  have hS := nx_is S ht
  have hP := nx_is (posN need) hS.2.1
  have hflat : psum need (nx (posN need) need.length (nx S need.length t)) = psum need (nx S need.length t) := psum_flat hP.1 hP.2.1 fun q h1 h2 => by
    have h3 := hP.2.2.2 q h1 h2
    have := (hb q (by omega)).1
    simp only [posN, decide_eq_false_iff_not] at h3
    omega
  rw [← hflat]
  refine psum_mono hb ?_ hP.2.1
  refine nx_le (by omega) hP.2.1 ?_
  rcases Nat.lt_or_ge (nx (posN need) need.length (nx S need.length t)) need.length with e | e
  · right
    have h0 : 0 < gd need (nx (posN need) need.length (nx S need.length t)) 0 := by
      rcases hP.2.2.1 with g | g
      · omega
      · simpa [posN] using g
    rcases hS.2.2.1 with g | g
    · have := hP.1; omega
    · exact moveS_of hb g hP.1 e h0 hflat
  · left; omega
theorem moveS_cov {S : Nat → Bool} {need : List Int} {b : Int} (hb : bd b need) (h : covS S need = true) : covS (moveS S need) need = true := by
  refine cov_of_nx hb ?_
  have h1 := moveS_psum (S := S) hb (Nat.zero_le need.length)
  rw [nx_of_cov hb h] at h1; exact h1
theorem planS_gd {S : Nat → Bool} {need : List Int} (hS : covS S need = true) (hb : ∀ i, i < need.length → 0 ≤ gd need i 0) {t : Nat} (ht : t < need.length) : gd (planS S need) t 0 = psum need (nx S need.length (t + 1)) - psum need (nx S need.length t) := by
  have h1 := planS_psum hS hb (show t + 1 ≤ need.length by omega)
  have h2 := planS_psum hS hb (show t ≤ need.length by omega)
  rw [psum_succ (by rw [planS_len]; exact ht)] at h1
  omega
theorem move_cost {need : List Int} {S : Nat → Bool} (hb : bd 20 need) (hS : covS S need = true) {a h : Int} (ha : 0 ≤ a) (hh : 0 ≤ h) : costOf (evenC need a h) (planS (moveS S need) need) ≤ costOf (evenC need a h) (planS S need) := by
  have hnn : ∀ i, i < need.length → 0 ≤ gd need i 0 := fun i hi => (hb i hi).1
  refine Int.le_trans (cost_set hb (moveS_cov hb hS) ha) ?_
  rw [costOf_even _ _ _ _ (planS_len S need)]
  have e1 : rsum (fun t => ifpos (gd (planS S need) t 0) a) need.length = a * (cnt (fun t => decide (0 < gd (planS S need) t 0)) need.length : Int) := by
    rw [← rsum_cnt]
    refine rsum_congr fun t _ => ?_
    simp only [ifpos, decide_eq_true_eq]
  have e2 : cnt (moveS S need) need.length ≤ cnt (fun t => decide (0 < gd (planS S need) t 0)) need.length := by
    refine cnt_image (nx (posN need) need.length) fun q hq hT => ?_
    obtain ⟨h1, p, h2, h3⟩ := moveS_iff.1 hT
    obtain ⟨h4, h5, _⟩ := own_some h2
    refine ⟨p, by omega, ?_, ?_⟩
    · rw [decide_eq_true_eq, planS_gd hS hnn (by omega), nx_self (by omega) (.inr h5)]
      have hx := nx_is S (show p + 1 ≤ need.length by omega)
      have hgt : q + 1 ≤ nx S need.length (p + 1) := by
        rcases Nat.lt_or_ge q (nx S need.length (p + 1)) with e | e
        · exact e
        · have h6 : S (nx S need.length (p + 1)) = true := by
            rcases hx.2.2.1 with g | g
            · omega
            · exact g
          have := own_last h2 (show p < nx S need.length (p + 1) by omega) e
          rw [h6] at this; cases this
      have h7 := psum_mono hb hgt hx.2.1
      rw [psum_succ hq] at h7
      omega
    · have hP := nx_is (posN need) (show p ≤ need.length by omega)
      have hle := nx_le (S := posN need) (n := need.length) h4 (by omega) (.inr (by simpa [posN] using h1))
      rcases Nat.eq_or_lt_of_le hle with e | e
      · exact e
      · exfalso
        have h8 : 0 < gd need (nx (posN need) need.length p) 0 := by
          rcases hP.2.2.1 with g | g
          · omega
          · simpa [posN] using g
        have h9 := psum_mono hb hP.1 hP.2.1
        have h10 := psum_mono hb (show nx (posN need) need.length p + 1 ≤ q by omega) (by omega)
        rw [psum_succ (by omega)] at h10
        omega
  have e3 : hSum need (nx (moveS S need) need.length) ≤ rsum (fun t => stockAt (planS S need) need (t + 1)) need.length := by
    refine rsum_le fun t ht => ?_
    simp only [stockAt, planS_psum hS hnn (show t + 1 ≤ need.length by omega)]
    have := moveS_psum (S := S) hb (show t + 1 ≤ need.length by omega)
    omega
  rw [e1]
  have g1 := Int.mul_le_mul_of_nonneg_left (show (cnt (moveS S need) need.length : Int) ≤ (cnt (fun t => decide (0 < gd (planS S need) t 0)) need.length : Int) by omega) ha
  have g2 := Int.mul_le_mul_of_nonneg_left e3 hh
  omega
theorem allC_eq {c : Ch} (hc : ChainP c) {B : Nat → Nat → Bool} (hcov : ∀ s, s < c.2.1.length → covS (B s) c.1 = true) : allC c B 0 c.1.length = nestCost c B := by
  have hnn : ∀ i, i < c.1.length → 0 ≤ gd c.1 i 0 := fun i hi => (hc.b0 i hi).1
  have hx : ∀ r u, u ≤ c.1.length → clip 0 c.1.length (nb c B r u) = nb c B r u := fun r u hu => by
    have := nb_ge c B r hu
    unfold clip; omega
  have hnbs : ∀ s, s < c.2.1.length → ∀ u, nb c B s u = nx (B s) c.1.length u := fun s hs u => by unfold nb; rw [if_pos hs]
  rw [← nest_cost]
  simp only [allC, costCh, nestPlan_len]
  refine rsum_congr fun s hs => ?_
  have ec : rsum (cellC c (nestPlan c B) s) c.1.length = rsum (fun t => ifpos (gd (gd (nestPlan c B) s []) t 0) (gd c.2.1 s 0)) c.1.length + gd c.2.2 s 0 * rsum (fun t => stS c (nestPlan c B) s (t + 1)) c.1.length := by
    rw [← rsum_smul, ← rsum_add]; rfl
  rw [ec]
  congr 1
  · simp only [Jn]
    rw [sumF_rsum, ← rsum_smul]
    refine rsum_congr fun t ht => ?_
    rw [nestPlan_gd c B hs, planS_gd (hcov s hs) hnn ht]
    unfold jmp
    rw [hx s t (by omega), hx s (t + 1) (by omega), hnbs s hs, hnbs s hs]
    show _ = ifpos (dem c (nx (B s) c.1.length t) (nx (B s) c.1.length (t + 1))) _
    generalize dem c (nx (B s) c.1.length t) (nx (B s) c.1.length (t + 1)) = z
    unfold ifpos
    split <;> omega
  · congr 1
    simp only [Hn]
    rw [sumF_rsum, sumF_rsum]
    have e1 : rsum (fun t => stS c (nestPlan c B) s (t + 1)) c.1.length + rsum (fun u => dem c (clip 0 c.1.length (nb c B s (u + 1))) c.1.length) c.1.length = rsum (fun u => dem c (clip 0 c.1.length (nb c B (s + 1) (u + 1))) c.1.length) c.1.length := by
      rw [← rsum_add]
      refine rsum_congr fun t ht => ?_
      rw [hx s (t + 1) (by omega), hx (s + 1) (t + 1) (by omega), hnbs s hs]
      simp only [stS, nxt, nestPlan_len, nestPlan_gd c B hs, stockAt, planS_psum (hcov s hs) hnn (show t + 1 ≤ c.1.length by omega), dem]
      by_cases e : s + 1 < c.2.1.length
      · rw [if_pos e, nestPlan_gd c B e, planS_psum (hcov _ e) hnn (show t + 1 ≤ c.1.length by omega), hnbs _ e]; omega
      · rw [if_neg e]
        unfold nb
        rw [if_neg e]; omega
    omega
theorem outV_nest {c : Ch} (hc : ChainP c) {A : Nat → Nat → Bool} (hA : NestedA A c.1.length c.2.1.length) (hcov : ∀ s, s < c.2.1.length → covS (A s) c.1 = true) : outV c 0 ≤ nestCost c A := by
  have hs1 := hc.s1
  have hB := moveS_nested hc hA
  have hcB : ∀ s, s < c.2.1.length → covS (moveS (A s) c.1) c.1 = true := fun s hs => moveS_cov hc.b0 (hcov s hs)
  have h1 := outV_le hc hB (fun p _ h => moveS_pos h) c.1.length 0 (by omega) (by
    unfold nb
    rw [if_pos (by omega)]
    simp only [dem]
    rw [nx_of_cov hc.b0 (hcB 0 (by omega)), psum_zero]; rfl)
  rw [allC_eq hc hcB] at h1
  refine Int.le_trans h1 ?_
  simp only [nestCost]
  refine rsum_le fun s hs => move_cost hc.b0 (hcov s hs) (hc.b1 s hs).1 (echel_bd hc (by have := hc.l; omega)).1
theorem giveG_bd {c : Ch} (hc : ChainP c) (e : Nat) {s t a b : Nat} (hs : s < c.2.1.length) (hta : t ≤ a) (hab : a ≤ b) (hb : b ≤ c.1.length) : 0 ≤ giveG c e s t a b ∧ giveG c e s t a b ≤ 30000 := by
  refine ⟨giveG_nn hc e s t a b hs hta hab hb, ?_⟩
  have hn := hc.n
  have h3 := hc.s3
  have hB : NestedA (fun _ _ => true) c.1.length c.2.1.length := fun _ _ _ _ _ => rfl
  have hnb : ∀ r u, u ≤ c.1.length → nb c (fun _ _ => true) r u = u := fun r u hu => nb_fix hu (.inr (.inr rfl))
  have h1 := give_le hc hB e s t a b (c.1.length - t) hs hta hab hb (by omega) (by rw [hnb _ _ (by omega)]; exact hta)
  refine Int.le_trans h1 ?_
  have hJ : ∀ r, Jn c (fun _ _ => true) r a b (c.1.length - t) t ≤ 6 := fun r => by
    have h2 := sumF_le (f := fun u => jmp c a b (nb c (fun _ _ => true) r u) (nb c (fun _ _ => true) r (u + 1))) (g := fun _ => 1) (c.1.length - t) t (fun u _ _ => by unfold jmp; split <;> omega)
    have h4 : ∀ d t, sumF (fun _ => (1 : Int)) d t = d := by
      intro d; induction d with
      | zero => intro t; rfl
      | succ d ih => intro t; simp only [sumF, ih]; omega
    rw [h4] at h2
    have : Jn c (fun _ _ => true) r a b (c.1.length - t) t ≤ ((c.1.length - t : Nat) : Int) := h2
    omega
  have hD : ∀ x, a ≤ x → x ≤ b → dem c x b ≤ 120 := fun x _ h5 => by
    have h6 := psum_bd hc.b0 b hb
    have h7 := psum_bd hc.b0 x (by omega)
    simp only [dem]; omega
  have hH : ∀ r, Hn c (fun _ _ => true) r a b (c.1.length - t) t ≤ 720 := fun r => by
    have h2 := sumF_le (f := fun u => dem c (clip a b (nb c (fun _ _ => true) r (u + 1))) b) (g := fun _ => 120) (c.1.length - t) t (fun u _ _ => hD _ (clip_in hab _).1 (clip_in hab _).2)
    have h4 : ∀ d t, sumF (fun _ => (120 : Int)) d t = 120 * d := by
      intro d; induction d with
      | zero => intro t; rfl
      | succ d ih => intro t; simp only [sumF, ih]; omega
    rw [h4] at h2
    have : Hn c (fun _ _ => true) r a b (c.1.length - t) t ≤ 120 * ((c.1.length - t : Nat) : Int) := h2
    omega
  have h5 := rsum_bd (f := fun r => (if s < r then gd c.2.1 r 0 * Jn c (fun _ _ => true) r a b (c.1.length - t) t else 0) + (if s ≤ r then gd c.2.2 r 0 * (Hn c (fun _ _ => true) (r + 1) a b (c.1.length - t) t - (if s < r then Hn c (fun _ _ => true) r a b (c.1.length - t) t else 0)) else 0)) (n := c.2.1.length) (lo := -7000) (hi := 8000) (fun r hr => by
    have g1 := hc.b1 r hr
    have g2 := hc.b2 r (by have := hc.l; omega)
    have g3 := hJ r
    have g4 := Jn_nn c (fun _ _ => true) r a b (c.1.length - t) t
    have g5 := hH (r + 1)
    have g6 := Hn_nn hc (fun _ _ => true) r (d := c.1.length - t) (t := t) hab hb
    have g7 := Hn_up hc hB (d := c.1.length - t) (t := t) hr hab hb (by omega)
    have e1 : 0 ≤ (if s < r then gd c.2.1 r 0 * Jn c (fun _ _ => true) r a b (c.1.length - t) t else 0) ∧ (if s < r then gd c.2.1 r 0 * Jn c (fun _ _ => true) r a b (c.1.length - t) t else 0) ≤ 594 := by
      split
      · exact ⟨Int.mul_nonneg g1.1 g4, Int.le_trans (Int.mul_le_mul_of_nonneg_right g1.2 g4) (by omega)⟩
      · omega
    have e2 : 0 ≤ (Hn c (fun _ _ => true) (r + 1) a b (c.1.length - t) t - (if s < r then Hn c (fun _ _ => true) r a b (c.1.length - t) t else 0)) ∧ (Hn c (fun _ _ => true) (r + 1) a b (c.1.length - t) t - (if s < r then Hn c (fun _ _ => true) r a b (c.1.length - t) t else 0)) ≤ 720 := by
      split <;> omega
    generalize (Hn c (fun _ _ => true) (r + 1) a b (c.1.length - t) t - (if s < r then Hn c (fun _ _ => true) r a b (c.1.length - t) t else 0)) = X at e2 ⊢
    have e3 : 0 ≤ (if s ≤ r then gd c.2.2 r 0 * X else 0) ∧ (if s ≤ r then gd c.2.2 r 0 * X else 0) ≤ 6480 := by
      split
      · exact ⟨Int.mul_nonneg g2.1 e2.1, Int.le_trans (Int.mul_le_mul_of_nonneg_right g2.2 e2.1) (by omega)⟩
      · omega
    omega)
  have h6 : tlC c (fun _ _ => true) s a b (c.1.length - t) t ≤ 8000 * (c.2.1.length : Int) := h5.2
  omega
theorem outV_bd {c : Ch} (hc : ChainP c) : ∀ d a, c.1.length - a = d → 0 ≤ outV c a ∧ outV c a ≤ 40000 * (d : Int) := by
  intro d
  induction d using Nat.strongRecOn with
  | _ d ih =>
    intro a hd
    refine ⟨outV_nn hc d a hd, ?_⟩
    have hs1 := hc.s1
    rcases Nat.lt_or_ge a c.1.length with h | h
    · have h1 := (ih (c.1.length - (a + 1)) (by omega) (a + 1) rfl).2
      by_cases hz : gd c.1 a 0 = 0
      · rw [outV_zero h hz]; omega
      · have h2 := (outV_is hc h hz).2 (a + 1) (by omega) (by omega)
        have h3 := giveG_bd hc (fuelG c) (s := 0) (by omega) (Nat.le_refl a) (Nat.le_succ a) (show a + 1 ≤ c.1.length by omega)
        have h4 := hc.b1 0 (by omega)
        have h5 : giveG c (fuelG c) 0 a a (a + 1) ≤ 30000 := h3.2
        omega
    · rw [outV_end h]; omega
def bestCh (c : Ch) : Int × Bool := bif chainB c then (outV c 0, true) else (0, false)
end Go.Rx.Px
namespace Go.Rx
def cmpG {α : Type} (f : α → α → Int) : List α → List α → Int
  | [], [] => 0
  | [], _ :: _ => -1
  | _ :: _, [] => 1
  | x :: xs, y :: ys => if f x y = 0 then cmpG f xs ys else f x y
structure CmpOk {α : Type} (f : α → α → Int) : Prop where
  eq : ∀ x y, f x y = 0 → x = y
  self : ∀ x, f x x = 0
  anti : ∀ x y, f y x = -f x y
  trans : ∀ x y z, f x y < 0 → f y z < 0 → f x z < 0
theorem cmpG_self {α : Type} {f : α → α → Int} (h : CmpOk f) : ∀ xs, cmpG f xs xs = 0
  | [] => rfl
  | x :: xs => by simp only [cmpG, h.self, if_true]; exact cmpG_self h xs
theorem cmpG_eq {α : Type} {f : α → α → Int} (h : CmpOk f) : ∀ xs ys, cmpG f xs ys = 0 → xs = ys
  | [], [], _ => rfl
  | [], _ :: _, e => by simp [cmpG] at e
  | _ :: _, [], e => by simp [cmpG] at e
  | x :: xs, y :: ys, e => by
    simp only [cmpG] at e
    by_cases q : f x y = 0
    · rw [if_pos q] at e; rw [h.eq x y q, cmpG_eq h xs ys e]
    · rw [if_neg q] at e; exact absurd e q
theorem cmpG_anti {α : Type} {f : α → α → Int} (h : CmpOk f) : ∀ xs ys, cmpG f ys xs = -cmpG f xs ys
  | [], [] => rfl
  | [], _ :: _ => rfl
  | _ :: _, [] => rfl
  | x :: xs, y :: ys => by
    simp only [cmpG]
    have h1 := h.anti x y
    by_cases q : f x y = 0
    · rw [if_pos q, if_pos (by omega)]; exact cmpG_anti h xs ys
    · rw [if_neg q, if_neg (by omega)]; exact h1
theorem cmpG_trans {α : Type} {f : α → α → Int} (h : CmpOk f) : ∀ xs ys zs, cmpG f xs ys < 0 → cmpG f ys zs < 0 → cmpG f xs zs < 0
  | [], [], _, a, _ => by simp [cmpG] at a
  | [], _ :: _, [], _, b => by simp [cmpG] at b
  | [], _ :: _, _ :: _, _, _ => by simp [cmpG]
  | _ :: _, [], _, a, _ => by simp [cmpG] at a
  | _ :: _, _ :: _, [], _, b => by simp [cmpG] at b
  | x :: xs, y :: ys, z :: zs, a, b => by
    simp only [cmpG] at a b ⊢
    by_cases q1 : f x y = 0
    · rw [if_pos q1] at a
      have e := h.eq x y q1
      subst e
      by_cases q2 : f x z = 0
      · rw [if_pos q2] at b ⊢; exact cmpG_trans h xs ys zs a b
      · rw [if_neg q2] at b ⊢; exact b
    · rw [if_neg q1] at a
      by_cases q2 : f y z = 0
      · have e := h.eq y z q2
        subst e
        rw [if_neg q1]; exact a
      · rw [if_neg q2] at b
        have h3 := h.trans x y z a b
        rw [if_neg (by omega)]; exact h3
theorem cmpG_ok {α : Type} {f : α → α → Int} (h : CmpOk f) : CmpOk (cmpG f) := ⟨cmpG_eq h, cmpG_self h, cmpG_anti h, cmpG_trans h⟩
def cmpI (x y : Int) : Int := if x < y then -1 else if y < x then 1 else 0
theorem cmpI_ok : CmpOk cmpI := by
  refine ⟨fun x y h => ?_, fun x => ?_, fun x y => ?_, fun x y z h1 h2 => ?_⟩
  · unfold cmpI at h; split at h
    · omega
    · split at h <;> omega
  · unfold cmpI; simp
  · unfold cmpI
    by_cases a : x < y
    · rw [if_pos a, if_neg (by omega), if_pos a]; rfl
    · by_cases b : y < x
      · rw [if_pos b, if_neg a, if_pos b]
      · rw [if_neg a, if_neg b, if_neg b, if_neg a]; rfl
  · unfold cmpI at h1 h2 ⊢
    have a1 : x < y := by
      rcases Int.lt_or_le x y with q | q
      · exact q
      · rw [if_neg (by omega)] at h1; split at h1 <;> omega
    have a2 : y < z := by
      rcases Int.lt_or_le y z with q | q
      · exact q
      · rw [if_neg (by omega)] at h2; split at h2 <;> omega
    rw [if_pos (by omega)]; omega
abbrev cmpL : List Int → List Int → Int := cmpG cmpI
abbrev cmpLL : List (List Int) → List (List Int) → Int := cmpG cmpL
theorem cmpL_ok : CmpOk cmpL := cmpG_ok cmpI_ok
theorem cmpLL_ok : CmpOk cmpLL := cmpG_ok cmpL_ok
theorem drop_gd {α : Type} {xs : List α} {i : Nat} (d : α) (h : i < xs.length) : xs.drop i = gd xs i d :: xs.drop (i + 1) := by
  rw [List.drop_eq_getElem_cons h]
  simp [gd, List.getD_eq_getElem?_getD, List.getElem?_eq_getElem h]
theorem drop_out {α : Type} {xs : List α} {i : Nat} (h : xs.length ≤ i) : xs.drop i = [] := List.drop_eq_nil_of_le h
end Go.Rx
namespace Go.Rx.Px
theorem slices_Compare_loop (N : Nat) {a b : List Int} (ha : a.length < 4194304) : ∀ d i, a.length - i = d → i ≤ a.length → ∀ m, d < m → slices_Compare_int_int_L1 N m a b a (a.length : Int) (i : Nat) = some (cmpL (a.drop i) (b.drop i), ())
  | d, i, hd, hi, 0, hm => by omega
  | d, i, hd, hi, m + 1, hm => by
    rw [slices_Compare_int_int_L1_succ]
    simp only [slices_Compare_int_int_B1, ilt_eq, Int.ofNat_lt, len_eq, ile_eq, Int.ofNat_le, cmp_Compare_int_eq, Option.bind_some, Int.toNat_natCast]
    by_cases h : i < a.length
    · rw [drop_gd 0 h]
      simp only [h, decide_true, cond_true, inB_true h, chk_true']
      by_cases h2 : b.length ≤ i
      · rw [drop_out h2]; simp only [h2, decide_true, cond_true]; rfl
      · have h3 : i < b.length := by omega
        rw [drop_gd 0 h3]
        simp only [h2, decide_false, cond_false, inB_true h3, chk_true', iadd_nat (show i < 4611686018427387904 by omega), ine_eq]
        have ih := slices_Compare_loop N (b := b) ha (d - 1) (i + 1) (by omega) (by omega) m (by omega)
        rw [ih]
        show _ = some (if cmpI (gd a i 0) (gd b i 0) = 0 then cmpL (a.drop (i + 1)) (b.drop (i + 1)) else cmpI (gd a i 0) (gd b i 0), ())
        show (bif !decide (cmpI (gd a i 0) (gd b i 0) = 0) then some (cmpI (gd a i 0) (gd b i 0), ()) else _) = _
        by_cases q : cmpI (gd a i 0) (gd b i 0) = 0
        · simp [q]
        · simp [q]
    · have e : i = a.length := by omega
      rw [drop_out (xs := a) (by omega)]
      simp only [h, decide_false, cond_false, slices_Compare_int_int_K1, ilt_eq, len_eq, Int.ofNat_lt]
      by_cases h2 : a.length < b.length
      · rw [drop_gd 0 (show i < b.length by omega)]; simp only [h2, decide_true, cond_true]; rfl
      · rw [drop_out (xs := b) (by omega)]; simp only [h2, decide_false, cond_false]; rfl
theorem slices_Compare_eq {N : Nat} {a b : List Int} (ha : a.length < 4194304) (hN : 4194304 ≤ N) : slices_Compare_int_int N a b = some (cmpL a b, ()) := by
  have := slices_Compare_loop N (b := b) ha a.length 0 (by omega) (Nat.zero_le _) N (by omega)
  simpa [slices_Compare_int_int] using this
theorem CompareFunc_loop (N : Nat) {a b : Pl} (ha : SmPl a) (hN : 4194304 ≤ N) : ∀ d i, a.length - i = d → i ≤ a.length → ∀ m, d < m → slices_CompareFunc_int_int_int_int__impl_Chain_bestNested_1_L1 N m a b a (a.length : Int) (i : Nat) = some (cmpLL (a.drop i) (b.drop i), ())
  | d, i, hd, hi, 0, hm => by omega
  | d, i, hd, hi, m + 1, hm => by
    have hal := ha.l
    rw [slices_CompareFunc_int_int_int_int__impl_Chain_bestNested_1_L1_succ]
    simp only [slices_CompareFunc_int_int_int_int__impl_Chain_bestNested_1_B1, ilt_eq, Int.ofNat_lt, len_eq, ile_eq, Int.ofNat_le, Int.toNat_natCast]
    by_cases h : i < a.length
    · rw [drop_gd [] h]
      simp only [h, decide_true, cond_true, inB_true h, chk_true', impl_Chain_bestNested_1, slices_Compare_eq (ha.r i h) hN, Option.bind_some]
      by_cases h2 : b.length ≤ i
      · rw [drop_out h2]; simp only [h2, decide_true, cond_true]; rfl
      · have h3 : i < b.length := by omega
        rw [drop_gd [] h3]
        simp only [h2, decide_false, cond_false, inB_true h3, chk_true', iadd_nat (show i < 4611686018427387904 by omega), ine_eq]
        have ih := CompareFunc_loop N (b := b) ha hN (d - 1) (i + 1) (by omega) (by omega) m (by omega)
        rw [ih]
        show _ = some (if cmpL (gd a i []) (gd b i []) = 0 then cmpLL (a.drop (i + 1)) (b.drop (i + 1)) else cmpL (gd a i []) (gd b i []), ())
        by_cases q : cmpL (gd a i []) (gd b i []) = 0
        · simp [q]
        · simp [q]
    · have e : i = a.length := by omega
      rw [drop_out (xs := a) (by omega)]
      simp only [h, decide_false, cond_false, slices_CompareFunc_int_int_int_int__impl_Chain_bestNested_1_K1, ilt_eq, len_eq, Int.ofNat_lt]
      by_cases h2 : a.length < b.length
      · rw [drop_gd [] (show i < b.length by omega)]; simp only [h2, decide_true, cond_true]; rfl
      · rw [drop_out (xs := b) (by omega)]; simp only [h2, decide_false, cond_false]; rfl
theorem CompareFunc_eq {N : Nat} {a b : Pl} (ha : SmPl a) (hN : 4194304 ≤ N) : slices_CompareFunc_int_int_int_int__impl_Chain_bestNested_1 N a b = some (cmpLL a b, ()) := by
  have := CompareFunc_loop N (b := b) ha hN a.length 0 (by omega) (Nat.zero_le _) N (by have := ha.l; omega)
  simpa [slices_CompareFunc_int_int_int_int__impl_Chain_bestNested_1] using this
def famL (A : Nat → Nat → Bool) (K n : Nat) : Pl := (List.range K).map fun s => pns (A s) n
theorem famL_len (A : Nat → Nat → Bool) (K n : Nat) : (famL A K n).length = K := map_range_len _ _
theorem famL_gd (A : Nat → Nat → Bool) (K n : Nat) {s : Nat} (h : s < K) : gd (famL A K n) s [] = pns (A s) n := gd_map_range _ [] h
theorem famL_sm (A : Nat → Nat → Bool) {K n : Nat} (hK : K < 4194304) (hn : n < 4194304) : SmPl (famL A K n) := ⟨by rw [famL_len]; exact hK, fun s hs => by
  rw [famL_len] at hs
  rw [famL_gd A K n hs]
  have := cnt_le (A s) n
  unfold cnt at this; omega⟩
def covAll (c : Ch) (A : Nat → Nat → Bool) : Bool := (List.range c.2.1.length).all fun s => covS (A s) c.1
theorem covAll_iff {c : Ch} {A : Nat → Nat → Bool} : covAll c A = true ↔ ∀ s, s < c.2.1.length → covS (A s) c.1 = true := rangeB
theorem range_take {α : Type} (f : Nat → α) : ∀ n, (List.range (n + 1)).map f = (List.range n).map f ++ [f n] := fun n => by rw [List.range_succ, List.map_append]; rfl
theorem evenC0_P {c : Ch} (hc : ChainP c) : CaseP (evenC c.1 0 0) := evenC_P hc.n hc.b0 (by omega) (by omega)
theorem impl_Chain_nested_eq {N : Nat} {c : Ch} (hc : ChainP c) (A : Nat → Nat → Bool) (hN : 4194304 ≤ N) : impl_Chain_nested N c (famL A c.2.1.length c.1.length) = some (bif covAll c A then (nestPlan c A, true) else ([], false), ()) := by
  have h3 := hc.s3
  have hn := hc.n
  have step : ∀ s, s < c.2.1.length → ∀ kx out, out.length < 1000 → impl_Chain_nested_B1 N kx (famL A c.2.1.length c.1.length) (c.2.1.length : Int) (s : Nat) c out = bif covS (A s) c.1 then kx (famL A c.2.1.length c.1.length) (c.2.1.length : Int) ((s + 1 : Nat) : Int) c (out ++ [planS (A s) c.1]) else some (([], false), ()) := fun s hs kx out ho => by
    have hpf := impl_Case_planFrom_eq (evenC0_P hc) (A s) hN
    have e1 : (evenC c.1 0 0).1 = c.1 := rfl
    rw [e1] at hpf
    simp only [impl_Chain_nested_B1, ilt_eq, Int.ofNat_lt, hs, decide_true, cond_true, inB_true (show s < (famL A c.2.1.length c.1.length).length by rw [famL_len]; exact hs), chk_true', impl_evenCase_eq 0 0 hn hN, Option.bind_some, Int.toNat_natCast, famL_gd A _ _ hs, hpf, bif_not, iadd_nat (show s < 4611686018427387904 by omega)]
    cases covS (A s) c.1 with
    | false => rfl
    | true => simp only [cond_true, chk_of (fitB_in (n := out.length + 1) (b := 24) (by omega) (by omega))]
  simp only [impl_Chain_nested, len_eq, famL_len]
  rcases range_cases (fun s => covS (A s) c.1) c.2.1.length with ⟨h1, h2⟩ | ⟨h1, j, h2, h4, h5⟩
  · have h1' : covAll c A = true := h1
    rw [h1']
    refine impl_Chain_nested_L1_run N (fun _ => famL A c.2.1.length c.1.length) (fun _ => (c.2.1.length : Int)) (fun s => (s : Int)) (fun _ => c) (fun s => (List.range s).map fun s => planS (A s) c.1) c.2.1.length (fun s hs kx => ?_) (fun kx => ?_) N (by omega)
    · rw [step s hs kx _ (by simp; omega), h2 s hs]; simp only [cond_true, range_take]
    · simp only [impl_Chain_nested_B1, impl_Chain_nested_K1, ilt_eq, Int.lt_irrefl, decide_false, cond_false, cond_true]; rfl
  · have h1' : covAll c A = false := h1
    rw [h1']
    refine impl_Chain_nested_L1_run N (fun _ => famL A c.2.1.length c.1.length) (fun _ => (c.2.1.length : Int)) (fun s => (s : Int)) (fun _ => c) (fun s => (List.range s).map fun s => planS (A s) c.1) j (fun s hs kx => ?_) (fun kx => ?_) N (by omega)
    · rw [step s (by omega) kx _ (by simp; omega), h4 s hs]; simp only [cond_true, range_take]
    · rw [step j h2 kx _ (by simp; omega), h5]; rfl
def digB (B k i : Nat) : Nat := k / B ^ i % B
def codeA (K k : Nat) (s i : Nat) : Bool := decide (K ≤ s + digB (K + 1) k i)
theorem codeA_nested (K k n : Nat) : NestedA (codeA K k) n K := fun s _ p _ h => by
  simp only [codeA, decide_eq_true_eq] at h ⊢; omega
theorem digits {B : Nat} (hB : 0 < B) : ∀ (n : Nat) (d : Nat → Nat), (∀ i, i < n → d i < B) → ∃ k, k < B ^ n ∧ ∀ i, i < n → digB B k i = d i
  | 0, _, _ => ⟨0, by simp, fun i hi => by omega⟩
  | n + 1, d, h => by
    obtain ⟨k, h1, h2⟩ := digits hB n (fun i => d (i + 1)) (fun i hi => h (i + 1) (by omega))
    have hd := h 0 (by omega)
    refine ⟨d 0 + B * k, ?_, fun i hi => ?_⟩
    · have : B * k + B ≤ B * B ^ n := by rw [← Nat.mul_succ]; exact Nat.mul_le_mul_left B h1
      rw [Nat.pow_succ, Nat.mul_comm (B ^ n)]; omega
    · cases i with
      | zero => simp only [digB, Nat.pow_zero, Nat.div_one, Nat.add_mul_mod_self_left]; exact Nat.mod_eq_of_lt hd
      | succ i =>
        have := h2 i (by omega)
        simp only [digB] at this ⊢
        rw [Nat.pow_succ, Nat.mul_comm (B ^ i), ← Nat.div_div_eq_div_mul, Nat.add_mul_div_left _ _ hB, Nat.div_eq_of_lt hd, Nat.zero_add]
        exact this
theorem code_nested {A : Nat → Nat → Bool} {n K : Nat} (hA : NestedA A n K) : ∃ k, k < (K + 1) ^ n ∧ ∀ s, s < K → ∀ i, i < n → codeA K k s i = A s i := by
  have hcount : ∀ i, i < n → ∃ d, d ≤ K ∧ ∀ s, s < K → (A s i = true ↔ K ≤ s + d) := fun i hi => by
    have key : ∀ m, m ≤ K → ∃ d, d ≤ m ∧ ∀ s, s < K → K ≤ s + m → (A s i = true ↔ K ≤ s + d) := by
      intro m
      induction m with
      | zero => intro _; exact ⟨0, Nat.le_refl _, fun s h1 h2 => by omega⟩
      | succ m ih =>
        intro hm
        obtain ⟨d, h1, h2⟩ := ih (by omega)
        by_cases e : A (K - (m + 1)) i = true
        · have hall : ∀ j s, s = K - (m + 1) + j → s < K → A s i = true := by
            intro j
            induction j with
            | zero => intro s hs _; rw [hs]; exact e
            | succ j ihj =>
              intro s hs hsK
              have := ihj (s - 1) (by omega) (by omega)
              have := hA (s - 1) (by omega) i hi this
              rwa [show s - 1 + 1 = s by omega] at this
          exact ⟨m + 1, Nat.le_refl _, fun s hs1 hs2 => ⟨fun _ => hs2, fun _ => hall (s - (K - (m + 1))) s (by omega) hs1⟩⟩
        · refine ⟨d, by omega, fun s hs1 hs2 => ?_⟩
          by_cases e2 : s = K - (m + 1)
          · subst e2
            exact ⟨fun h => absurd h e, fun h => by omega⟩
          · exact h2 s hs1 (by omega)
    obtain ⟨d, h1, h2⟩ := key K (Nat.le_refl _)
    exact ⟨d, h1, fun s hs => h2 s hs (by omega)⟩
  let d : Nat → Nat := fun i => if h : i < n then Classical.choose (hcount i h) else 0
  obtain ⟨k, h1, h2⟩ := digits (B := K + 1) (by omega) n d (fun i hi => by
    have := (Classical.choose_spec (hcount i hi)).1
    simp only [d, dif_pos hi]; omega)
  refine ⟨k, h1, fun s hs i hi => ?_⟩
  have h3 := (Classical.choose_spec (hcount i hi)).2 s hs
  have h4 := h2 i hi
  simp only [d, dif_pos hi] at h4
  rw [codeA, h4, Bool.eq_iff_iff, decide_eq_true_eq]
  exact h3.symm
theorem iquo_nat {a b : Nat} (ha : a < 4611686018427387904) : iquo .i64 (a : Int) (b : Int) = ((a / b : Nat) : Int) := by
  have h : (a : Int).tdiv (b : Int) = ((a / b : Nat) : Int) := (Int.ofNat_tdiv a b).symm
  have h2 : a / b ≤ a := Nat.div_le_self a b
  unfold iquo
  rw [h]
  generalize a / b = q at h2
  exact wrap_in (by omega) (by omega)
theorem irem_nat (a b : Nat) : irem (a : Int) (b : Int) = ((a % b : Nat) : Int) := (Int.ofNat_tmod a b).symm
theorem impl_power_eq {N a n : Nat} (ha : a ≤ 4) (hn : n ≤ 6) (hN : 4194304 ≤ N) : impl_power N (a : Nat) (n : Nat) = some (((a ^ n : Nat) : Int), ()) := by
  have hp : ∀ i, i ≤ n → a ^ i ≤ 4096 := fun i hi => Nat.le_trans (Nat.pow_le_pow_left ha i) (Nat.le_trans (Nat.pow_le_pow_right (by omega) (show i ≤ 6 by omega)) (by decide))
  refine impl_power_L1_run N (fun _ => (a : Int)) (fun i => ((a ^ i : Nat) : Int)) (fun _ => (n : Int)) (fun i => (i : Int)) n (fun i hi kx => ?_) (fun kx => ?_) N (by omega)
  · have h1 := hp i (by omega)
    have h2 := hp (i + 1) (by omega)
    have e : ((a ^ i : Nat) : Int) * (a : Nat) = ((a ^ (i + 1) : Nat) : Int) := by rw [Nat.pow_succ]; exact (Int.natCast_mul _ _).symm
    simp only [impl_power_B1, ilt_eq, Int.ofNat_lt, hi, decide_true, cond_true, iadd_nat (show i < 4611686018427387904 by omega)]
    rw [imul_in (by rw [e]; omega) (by rw [e]; omega), e]
  · simp only [impl_power_B1, impl_power_K1, ilt_eq, Int.lt_irrefl, decide_false, cond_false]
def sumD (B k : Nat) : Nat → Nat
  | 0 => 0
  | i + 1 => sumD B k i + digB B k i
def perR (K k i st : Nat) : Pl := (List.range K).map fun s => pns (codeA K k s) i ++ (if codeA K k s i = true ∧ s < st then [(i : Int)] else [])
theorem dig_le (K k i : Nat) : digB (K + 1) k i ≤ K := by have := Nat.mod_lt (k / (K + 1) ^ i) (show 0 < K + 1 by omega); unfold digB; omega
theorem perR_len (K k i st : Nat) : (perR K k i st).length = K := map_range_len _ _
theorem perR_gd (K k i st : Nat) {s : Nat} (h : s < K) : gd (perR K k i st) s [] = pns (codeA K k s) i ++ (if codeA K k s i = true ∧ s < st then [(i : Int)] else []) := gd_map_range _ [] h
theorem gdl_ext {xs ys : Pl} (hl : xs.length = ys.length) (h : ∀ i, i < xs.length → gd xs i [] = gd ys i []) : xs = ys := by
  apply List.ext_getElem hl
  intro i h1 h2
  have := h i h1
  simpa [gd, List.getD_eq_getElem?_getD, List.getElem?_eq_getElem h1, List.getElem?_eq_getElem h2] using this
theorem gdl_set {xs : Pl} {i j : Nat} {v : List Int} (hi : i < xs.length) : gd (List.set xs i v) j [] = if j = i then v else gd xs j [] := by
  by_cases e : j = i
  · subst e; rw [if_pos rfl]; simp [gd, List.getD_eq_getElem?_getD, hi]
  · rw [if_neg e]; simp [gd, List.getD_eq_getElem?_getD, List.getElem?_set_ne (Ne.symm e)]
theorem perR_zero (K k i : Nat) : perR K k i (K - digB (K + 1) k i) = famL (codeA K k) K i := gdl_ext (by rw [perR_len, famL_len]) fun s hs => by
  rw [perR_len] at hs
  have := dig_le K k i
  rw [perR_gd _ _ _ _ hs, famL_gd _ _ _ hs, if_neg (fun h => by have := h.1; simp only [codeA, decide_eq_true_eq] at this; omega), List.append_nil]
theorem perR_all (K k i : Nat) : perR K k i K = famL (codeA K k) K (i + 1) := gdl_ext (by rw [perR_len, famL_len]) fun s hs => by
  rw [perR_len] at hs
  rw [perR_gd _ _ _ _ hs, famL_gd _ _ _ hs, pns_succ]
  congr 1
  by_cases e : codeA K k s i = true
  · rw [if_pos ⟨e, hs⟩, if_pos e]
  · rw [if_neg (fun h => e h.1), if_neg e]
theorem perR_step {K k i st : Nat} (h1 : K ≤ st + digB (K + 1) k i) (h2 : st < K) : List.set (perR K k i st) st (gd (perR K k i st) st [] ++ [(i : Int)]) = perR K k i (st + 1) := gdl_ext (by simp [perR_len]) fun s hs => by
  simp only [List.length_set, perR_len] at hs
  have hc : codeA K k st i = true := by simp only [codeA, decide_eq_true_eq]; exact h1
  rw [gdl_set (by rw [perR_len]; exact h2)]
  by_cases e : s = st
  · subst e
    rw [if_pos rfl, perR_gd _ _ _ _ h2, perR_gd _ _ _ _ h2, if_neg (fun h => by omega), if_pos ⟨hc, by omega⟩, List.append_nil]
  · rw [if_neg e, perR_gd _ _ _ _ hs, perR_gd _ _ _ _ hs]
    congr 1
    by_cases q : codeA K k s i = true ∧ s < st
    · rw [if_pos q, if_pos ⟨q.1, by omega⟩]
    · rw [if_neg q, if_neg (fun h => q ⟨h.1, by omega⟩)]
theorem bn_stages {N K k i : Nat} (hK : K ≤ 3) (hi : i ≤ 6) (hN : 4194304 ≤ N) (kx1 : Int → Int → Int → Int → Int → Int → Int → Int → Int → Int → Ch → Pl → Pl → Option ((Pl × Int) × Unit)) (n least length code sum ii v28 v29 v34 v35 : Int) (hii : ii = (i : Nat)) (c : Ch) (best : Pl) :
    impl_Chain_bestNested_L1 N N kx1 n (K : Nat) least length code sum ii ((digB (K + 1) k i : Nat) : Int) ((K - digB (K + 1) k i : Nat) : Int) v28 v29 v34 v35 c best (famL (codeA K k) K i) =
      kx1 n (K : Nat) least length code (iadd .i64 sum ((digB (K + 1) k i : Nat) : Int)) v28 v29 v34 (iadd .i64 v35 1) c best (famL (codeA K k) K (i + 1)) := by
  subst hii
  have hd := dig_le K k i
  have hlen : ∀ s st, s < K → (gd (perR K k i st) s []).length ≤ 7 := fun s st hs => by
    rw [perR_gd _ _ _ _ hs, List.length_append]
    have := cnt_le (codeA K k s) i
    unfold cnt at this
    split <;> simp <;> omega
  have key := impl_Chain_bestNested_L1_run N kx1 (fun _ => n) (fun _ => (K : Int)) (fun _ => least) (fun _ => length) (fun _ => code) (fun _ => sum) (fun _ => (i : Int)) (fun _ => ((digB (K + 1) k i : Nat) : Int)) (fun j => ((K - digB (K + 1) k i + j : Nat) : Int)) (fun _ => v28) (fun _ => v29) (fun _ => v34) (fun _ => v35) (fun _ => c) (fun _ => best) (fun j => perR K k i (K - digB (K + 1) k i + j)) (digB (K + 1) k i)
    (res_ := kx1 n (K : Nat) least length code (iadd .i64 sum ((digB (K + 1) k i : Nat) : Int)) v28 v29 v34 (iadd .i64 v35 1) c best (famL (codeA K k) K (i + 1))) (fun j hj kx2 => by
      have hlt : K - digB (K + 1) k i + j < K := by omega
      have h7 := hlen _ (K - digB (K + 1) k i + j) hlt
      have hn : natEq (K - digB (K + 1) k i + j) (K - digB (K + 1) k i + j) = true := by simp [natEq]
      simp only [impl_Chain_bestNested_B1, ilt_eq, Int.ofNat_lt, hlt, decide_true, cond_true, inB_true (show K - digB (K + 1) k i + j < (perR K k i (K - digB (K + 1) k i + j)).length by rw [perR_len]; exact hlt), chk_true', Int.toNat_natCast, chk_of (fitB_in (n := (gd (perR K k i (K - digB (K + 1) k i + j)) (K - digB (K + 1) k i + j) []).length + 1) (b := 8) (by omega) (by omega)), hn, iadd_nat (show K - digB (K + 1) k i + j < 4611686018427387904 by omega)]
      rw [perR_step (by omega) hlt]; rfl)
    (fun kx2 => by
      rw [show K - digB (K + 1) k i + digB (K + 1) k i = K by omega]
      simp only [impl_Chain_bestNested_B1, impl_Chain_bestNested_K1, ilt_eq, Int.lt_irrefl, decide_false, cond_false, perR_all]) N (by omega)
  simp only [Nat.add_zero, perR_zero] at key
  exact key
theorem sumD_le (K k : Nat) : ∀ i, sumD (K + 1) k i ≤ K * i
  | 0 => Nat.zero_le _
  | i + 1 => by have := sumD_le K k i; have := dig_le K k i; simp only [sumD, Nat.mul_succ]; omega
theorem bn_periods {N : Nat} {c : Ch} (hc : ChainP c) {k : Nat} (hk : k < 4096) (hN : 4194304 ≤ N) (kx : Int → Int → Int → Int → Int → Int → Ch → Pl → Option ((Pl × Int) × Unit)) (least length v28 v29 : Int) (best : Pl) :
    impl_Chain_bestNested_L2 N N kx (c.1.length : Int) (c.2.1.length : Int) least length (k : Nat) 0 v28 v29 (c.1.length : Int) 0 c best (famL (codeA c.2.1.length k) c.2.1.length 0) =
      impl_Chain_bestNested_K3 N kx (c.1.length : Int) (c.2.1.length : Int) least length ((sumD (c.2.1.length + 1) k c.1.length : Nat) : Int) v28 v29 c best (famL (codeA c.2.1.length k) c.2.1.length c.1.length) := by
  have hn := hc.n
  have h3 := hc.s3
  refine impl_Chain_bestNested_L2_run N kx (fun _ => (c.1.length : Int)) (fun _ => (c.2.1.length : Int)) (fun _ => least) (fun _ => length) (fun _ => ((k : Nat) : Int)) (fun i => ((sumD (c.2.1.length + 1) k i : Nat) : Int)) (fun _ => v28) (fun _ => v29) (fun _ => (c.1.length : Int)) (fun i => (i : Int)) (fun _ => c) (fun _ => best) (fun i => famL (codeA c.2.1.length k) c.2.1.length i) c.1.length (fun i hi kx1 => ?_) (fun kx1 => ?_) N (by omega)
  · have hp : 0 < (c.2.1.length + 1) ^ i := Nat.pow_pos (by omega)
    have hd := dig_le c.2.1.length k i
    have hsd := sumD_le c.2.1.length k i
    have hsd2 : c.2.1.length * i ≤ 3 * 6 := Nat.mul_le_mul h3 (by omega)
    have e1 : iadd .i64 ((c.2.1.length : Nat) : Int) 1 = ((c.2.1.length + 1 : Nat) : Int) := iadd_nat (by omega)
    have e2 : irem (iquo .i64 ((k : Nat) : Int) (((c.2.1.length + 1) ^ i : Nat) : Int)) ((c.2.1.length + 1 : Nat) : Int) = ((digB (c.2.1.length + 1) k i : Nat) : Int) := by
      rw [iquo_nat (by omega), irem_nat]; rfl
    have e3 : isub .i64 ((c.2.1.length : Nat) : Int) ((digB (c.2.1.length + 1) k i : Nat) : Int) = ((c.2.1.length - digB (c.2.1.length + 1) k i : Nat) : Int) := by rw [isub_in (by omega) (by omega)]; omega
    simp only [impl_Chain_bestNested_B2, ilt_eq, Int.ofNat_lt, hi, decide_true, cond_true, e1, impl_power_eq (show c.2.1.length + 1 ≤ 4 by omega) (show i ≤ 6 by omega) hN, Option.bind_some, ine_eq]
    rw [show decide ((((c.2.1.length + 1) ^ i : Nat) : Int) = 0) = false from decide_eq_false (by omega), show decide (((c.2.1.length + 1 : Nat) : Int) = 0) = false from decide_eq_false (by omega)]
    simp only [Bool.not_false, chk_true', e2, e3]
    rw [bn_stages h3 (by omega) hN kx1 _ _ _ _ _ _ _ _ _ _ rfl]
    rw [iadd_in (a := ((sumD (c.2.1.length + 1) k i : Nat) : Int)) (by omega) (by omega), iadd_nat (show i < 4611686018427387904 by omega)]
    rfl
  · simp only [impl_Chain_bestNested_B2, ilt_eq, Int.lt_irrefl, decide_false, cond_false]
def famK (c : Ch) (k : Nat) : Pl := famL (codeA c.2.1.length k) c.2.1.length c.1.length
def cstK (c : Ch) (k : Nat) : Int := nestCost c (codeA c.2.1.length k)
def smK (c : Ch) (k : Nat) : Nat := sumD (c.2.1.length + 1) k c.1.length
def covK (c : Ch) (k : Nat) : Bool := covAll c (codeA c.2.1.length k)
def betterB (cx cy : Int) (mx my : Nat) (x y : Pl) : Bool := decide (cx < cy) || (decide (cx = cy) && (decide (mx < my) || (decide (mx = my) && decide (cmpLL x y < 0))))
def bestNo (c : Ch) : Nat → Option Nat
  | 0 => none
  | k + 1 => if covK c k then (match bestNo c k with
    | none => some k
    | some j => if betterB (cstK c k) (cstK c j) (smK c k) (smK c j) (famK c k) (famK c j) then some k else some j) else bestNo c k
theorem nestPlan_ch {c : Ch} (hc : ChainP c) (hcb : chainB c = true) {A : Nat → Nat → Bool} (hA : NestedA A c.1.length c.2.1.length) (hcov : ∀ s, s < c.2.1.length → covS (A s) c.1 = true) : ChPl c (nestPlan c A) := chPl (by rw [hcb, nest_ok hc hA hcov]; rfl)
theorem nestCost_bd {c : Ch} (hc : ChainP c) (hcb : chainB c = true) {A : Nat → Nat → Bool} (hA : NestedA A c.1.length c.2.1.length) (hcov : ∀ s, s < c.2.1.length → covS (A s) c.1 = true) : 0 ≤ nestCost c A ∧ nestCost c A ≤ 118422 := by
  have h := totC_bd (nestPlan_ch hc hcb hA hcov) (Nat.le_refl _)
  have h3 := hc.s3
  have e : rsum (fun s => rsum (cellC c (nestPlan c A) s) c.1.length) (nestPlan c A).length = nestCost c A := nest_cost c A
  rw [e, nestPlan_len] at h
  omega
theorem nestPlan_sm {c : Ch} (hc : ChainP c) (A : Nat → Nat → Bool) : SmPl (nestPlan c A) := ⟨by rw [nestPlan_len]; have := hc.s3; omega, fun s hs => by
  rw [nestPlan_len] at hs
  rw [nestPlan_gd c A hs, planS_len]
  have := hc.n; omega⟩
def encP (c : Ch) : Option Nat → Pl | none => [] | some j => famK c j
def encC (c : Ch) : Option Nat → Int | none => 1099511627776 | some j => cstK c j
def encM (c : Ch) : Option Nat → Int | none => 0 | some j => ((smK c j : Nat) : Int)
theorem bn_step {N : Nat} {c : Ch} (hc : ChainP c) (hcb : chainB c = true) (hs : SmCh c) {k : Nat} (hk : k < 4096) (hN : 4194304 ≤ N) (kx : Int → Int → Int → Int → Int → Int → Ch → Pl → Option ((Pl × Int) × Unit)) (v28 : Int) :
    impl_Chain_bestNested_K3 N kx (c.1.length : Int) (c.2.1.length : Int) (encC c (bestNo c k)) (encM c (bestNo c k)) ((smK c k : Nat) : Int) v28 (k : Nat) c (encP c (bestNo c k)) (famK c k) =
      kx (c.1.length : Int) (c.2.1.length : Int) (encC c (bestNo c (k + 1))) (encM c (bestNo c (k + 1))) v28 ((k + 1 : Nat) : Int) c (encP c (bestNo c (k + 1))) := by
  have hn := hc.n
  have h3 := hc.s3
  have hne := impl_Chain_nested_eq (N := N) hc (codeA c.2.1.length k) hN
  have hA := codeA_nested c.2.1.length k c.1.length
  have hsm : SmPl (famK c k) := famL_sm _ (by omega) (by omega)
  simp only [impl_Chain_bestNested_K3, bestNo]
  rw [show impl_Chain_nested N c (famK c k) = _ from hne]
  simp only [Option.bind_some, covK, bif_not, iadd_nat (show k < 4611686018427387904 by omega)]
  by_cases hcv : covAll c (codeA c.2.1.length k) = true
  case neg =>
    have hcv' : covAll c (codeA c.2.1.length k) = false := by simpa using hcv
    simp only [hcv', cond_false, Bool.false_eq_true, if_false]
  case pos =>
    have hcov := covAll_iff.1 hcv
    have hcost : impl_Chain_cost N c (nestPlan c (codeA c.2.1.length k)) = some (cstK c k, ()) := by
      rw [impl_Chain_cost_eq (nest_ok hc hA hcov) (nestPlan_ch hc hcb hA hcov) hs (nestPlan_sm hc _) hN, nest_cost]; rfl
    have hbd : 0 ≤ cstK c k ∧ cstK c k ≤ 118422 := nestCost_bd hc hcb hA hcov
    have hcmp : ∀ y, slices_CompareFunc_int_int_int_int__impl_Chain_bestNested_1 N (famK c k) y = some (cmpLL (famK c k) y, ()) := fun y => CompareFunc_eq hsm hN
    simp only [hcv, cond_true, hcost, Option.bind_some, hcmp, ilt_eq, ieq_eq, impl_Chain_bestNested_K2, iadd_nat (show k < 4611686018427387904 by omega), if_true]
    cases hb : bestNo c k with
    | none =>
      simp only [encC, encM, encP, show cstK c k < 1099511627776 by omega, decide_true, cond_true]
      by_cases q1 : ((smK c k : Nat) : Int) < 0
      · omega
      · simp only [q1, decide_false, cond_false]
        by_cases q2 : ((smK c k : Nat) : Int) = 0 <;> simp [q2]
    | some j =>
      simp only [encC, encM, encP, betterB, Int.ofNat_lt]
      simp only [Int.natCast_inj]
      by_cases q1 : cstK c k < cstK c j
      · by_cases q2 : smK c k < smK c j
        · simp [q1, q2]
        · by_cases q3 : smK c k = smK c j <;> simp [q1, q2, q3]
      · by_cases q0 : cstK c k = cstK c j
        · by_cases q2 : smK c k < smK c j
          · simp [eq_false q1, eq_true q0, q2]
          · by_cases q3 : smK c k = smK c j
            · by_cases q4 : cmpLL (famK c k) (famK c j) < 0 <;> simp [eq_false q1, eq_true q0, eq_false q2, eq_true q3, q4]
            · simp [eq_false q1, eq_true q0, eq_false q2, eq_false q3]
        · by_cases q2 : smK c k < smK c j
          · simp [eq_false q1, eq_false q0, q2]
          · by_cases q3 : smK c k = smK c j
            · simp [eq_false q1, eq_false q0, eq_false q2, eq_true q3]
            · simp [eq_false q1, eq_false q0, eq_false q2, eq_false q3]
noncomputable def allNo (c : Ch) : Nat := (c.2.1.length + 1) ^ c.1.length
theorem allNo_le {c : Ch} (hc : ChainP c) : allNo c ≤ 4096 := by
  have h3 := hc.s3
  exact Nat.le_trans (Nat.pow_le_pow_left (show c.2.1.length + 1 ≤ 4 by omega) _) (Nat.le_trans (Nat.pow_le_pow_right (by omega) hc.n) (by decide))
theorem impl_bestNested_eq {N : Nat} {c : Ch} (hc : ChainP c) (hcb : chainB c = true) (hs : SmCh c) (hN : 4194304 ≤ N) : impl_Chain_bestNested N c = some ((encP c (bestNo c (allNo c)), encC c (bestNo c (allNo c))), ()) := by
  have hn := hc.n
  have h3 := hc.s3
  have hal := allNo_le hc
  have e1 : iadd .i64 ((c.2.1.length : Nat) : Int) 1 = ((c.2.1.length + 1 : Nat) : Int) := iadd_nat (by omega)
  simp only [impl_Chain_bestNested, len_eq, e1, impl_power_eq (show c.2.1.length + 1 ≤ 4 by omega) hn hN, Option.bind_some]
  refine impl_Chain_bestNested_L3_run N (fun _ => (c.1.length : Int)) (fun _ => (c.2.1.length : Int)) (fun k => encC c (bestNo c k)) (fun k => encM c (bestNo c k)) (fun _ => ((allNo c : Nat) : Int)) (fun k => (k : Int)) (fun _ => c) (fun k => encP c (bestNo c k)) (allNo c) (fun k hk kx => ?_) (fun kx => ?_) N (by omega)
  · have e2 : List.replicate c.2.1.length ([] : List Int) = famL (codeA c.2.1.length k) c.2.1.length 0 := gdl_ext (by simp [famL_len]) fun s hs' => by
      simp only [List.length_replicate] at hs'
      rw [famL_gd _ _ _ hs']
      simp [gd, List.getD_eq_getElem?_getD, hs', pns]
    simp only [impl_Chain_bestNested_B3, ilt_eq, Int.ofNat_lt, hk, decide_true, cond_true, chk_of (mkB_in (n := c.2.1.length) (b := 24) (by omega) (by omega)), Int.toNat_natCast, e2]
    rw [bn_periods hc (by omega) hN]
    exact bn_step hc hcb hs (by omega) hN kx _
  · simp only [impl_Chain_bestNested_B3, impl_Chain_bestNested_K4, ilt_eq, Int.lt_irrefl, decide_false, cond_false]
theorem betterB_iff {cx cy : Int} {mx my : Nat} {x y : Pl} : betterB cx cy mx my x y = true ↔ cx < cy ∨ cx = cy ∧ (mx < my ∨ mx = my ∧ cmpLL x y < 0) := by
  simp only [betterB, Bool.or_eq_true, Bool.and_eq_true, decide_eq_true_eq]
theorem betterB_trans {cx cy cz : Int} {mx my mz : Nat} {x y z : Pl} (h1 : betterB cx cy mx my x y = true) (h2 : betterB cy cz my mz y z = true) : betterB cx cz mx mz x z = true := by
  rw [betterB_iff] at *
  rcases h1 with a | ⟨a, b⟩
  · rcases h2 with d | ⟨d, _⟩
    · left; omega
    · left; omega
  · rcases h2 with d | ⟨d, e⟩
    · left; omega
    · right
      refine ⟨a.trans d, ?_⟩
      rcases b with b | ⟨b, b2⟩
      · rcases e with e | ⟨e, _⟩
        · left; omega
        · left; omega
      · rcases e with e | ⟨e, e2⟩
        · left; omega
        · exact .inr ⟨b.trans e, cmpLL_ok.trans x y z b2 e2⟩
theorem better_self {cx : Int} {mx : Nat} {x : Pl} : betterB cx cx mx mx x x = false := by
  cases h : betterB cx cx mx mx x x with
  | false => rfl
  | true =>
    rw [betterB_iff] at h
    rcases h with h | ⟨_, h | ⟨_, h⟩⟩
    · omega
    · omega
    · rw [cmpLL_ok.self] at h; omega
theorem bestNo_is (c : Ch) : ∀ k, (bestNo c k = none ∧ ∀ j, j < k → covK c j = false) ∨ (∃ j, j < k ∧ bestNo c k = some j ∧ covK c j = true ∧ ∀ i, i < k → covK c i = true → betterB (cstK c i) (cstK c j) (smK c i) (smK c j) (famK c i) (famK c j) = false)
  | 0 => .inl ⟨rfl, fun j h => by omega⟩
  | k + 1 => by
    have ih := bestNo_is c k
    simp only [bestNo]
    by_cases hk : covK c k = true
    · rw [if_pos hk]
      rcases ih with ⟨h1, h2⟩ | ⟨j, h1, h2, h3, h4⟩
      · rw [h1]
        refine .inr ⟨k, by omega, rfl, hk, fun i hi hc => ?_⟩
        by_cases e : i = k
        · rw [e]; exact better_self
        · rw [h2 i (by omega)] at hc; cases hc
      · rw [h2]
        simp only
        by_cases hb : betterB (cstK c k) (cstK c j) (smK c k) (smK c j) (famK c k) (famK c j) = true
        · rw [if_pos hb]
          refine .inr ⟨k, by omega, rfl, hk, fun i hi hc => ?_⟩
          by_cases e : i = k
          · rw [e]; exact better_self
          · cases hq : betterB (cstK c i) (cstK c k) (smK c i) (smK c k) (famK c i) (famK c k) with
            | false => rfl
            | true =>
              have := betterB_trans hq hb
              rw [h4 i (by omega) hc] at this; cases this
        · rw [if_neg hb]
          refine .inr ⟨j, by omega, rfl, h3, fun i hi hc => ?_⟩
          by_cases e : i = k
          · rw [e]; simpa using hb
          · exact h4 i (by omega) hc
    · rw [if_neg hk]
      rcases ih with ⟨h1, h2⟩ | ⟨j, h1, h2, h3, h4⟩
      · refine .inl ⟨h1, fun j hj => ?_⟩
        by_cases e : j = k
        · rw [e]; simpa using hk
        · exact h2 j (by omega)
      · refine .inr ⟨j, by omega, h2, h3, fun i hi hc => ?_⟩
        by_cases e : i = k
        · rw [e] at hc; exact absurd hc hk
        · exact h4 i (by omega) hc
theorem nestCost_ext {c : Ch} {A B : Nat → Nat → Bool} (h : ∀ s, s < c.2.1.length → ∀ i, i < c.1.length → A s i = B s i) : nestCost c A = nestCost c B ∧ covAll c A = covAll c B ∧ famL A c.2.1.length c.1.length = famL B c.2.1.length c.1.length := by
  refine ⟨rsum_congr fun s hs => by rw [planS_ext (h s hs)], ?_, ?_⟩
  · rw [Bool.eq_iff_iff, covAll_iff, covAll_iff]
    exact ⟨fun g s hs => by rw [← covS_ext (h s hs)]; exact g s hs, fun g s hs => by rw [covS_ext (h s hs)]; exact g s hs⟩
  · exact gdl_ext (by rw [famL_len, famL_len]) fun s hs => by
      rw [famL_len] at hs
      rw [famL_gd _ _ _ hs, famL_gd _ _ _ hs, pns_ext (h s hs)]
theorem bestNo_end {c : Ch} (hc : ChainP c) : ∃ j, j < allNo c ∧ bestNo c (allNo c) = some j ∧ covK c j = true ∧ cstK c j = outV c 0 ∧ ∀ i, i < allNo c → covK c i = true → betterB (cstK c i) (cstK c j) (smK c i) (smK c j) (famK c i) (famK c j) = false := by
  obtain ⟨A, a1, a2, a3⟩ := out_ge hc
  obtain ⟨k, k1, k2⟩ := code_nested a1
  obtain ⟨e1, e2, _⟩ := nestCost_ext (c := c) k2
  have hcov : covK c k = true := by show covAll c (codeA c.2.1.length k) = true; rw [e2]; exact covAll_iff.2 a2
  rcases bestNo_is c (allNo c) with ⟨_, h2⟩ | ⟨j, h1, h2, h3, h4⟩
  · rw [h2 k k1] at hcov; cases hcov
  · refine ⟨j, h1, h2, h3, ?_, h4⟩
    have hle : outV c 0 ≤ cstK c j := outV_nest hc (codeA_nested _ _ _) (covAll_iff.1 h3)
    have hge : cstK c j ≤ cstK c k := by
      rcases Int.lt_or_le (cstK c k) (cstK c j) with e | e
      · have := h4 k k1 hcov
        rw [betterB_iff.2 (.inl e)] at this; cases this
      · exact e
    have : cstK c k = nestCost c A := e1
    omega
theorem impl_BestChainCost_eq {N : Nat} {c : Ch} (hs : SmCh c) (hN : 4194304 ≤ N) : impl_BestChainCost N c = some (bestCh c, ()) := by
  simp only [impl_BestChainCost, impl_IsChain_eq hs hN, Option.bind_some, bif_not, bestCh]
  cases h : chainB c with
  | false => rfl
  | true =>
    obtain ⟨j, _, h2, _, h4, _⟩ := bestNo_end (chainP h)
    simp only [cond_true, impl_bestNested_eq (chainP h) h hs hN, Option.bind_some, h2, encC, h4]
theorem planS_stock {need : List Int} {S : Nat → Bool} (hb : bd 20 need) (hS : covS S need = true) : stkS need (planS S need) = hSum need (nx S need.length) := rsum_congr fun t ht => by
  simp only [stockAt, planS_psum hS (fun i hi => (hb i hi).1) (show t + 1 ≤ need.length by omega)]
theorem cost_more {need : List Int} {S : Nat → Bool} (a h g : Int) : costOf (evenC need a (h + g)) (planS S need) = costOf (evenC need a h) (planS S need) + g * stkS need (planS S need) := by
  rw [costOf_even _ _ _ _ (planS_len _ _), costOf_even _ _ _ _ (planS_len _ _), Int.add_mul, stkS]; omega
theorem part_low {need : List Int} {S T : Nat → Bool} (hb : bd 20 need) (hS : covS S need = true) (hT : covS T need = true) (hTS : ∀ p, p < need.length → T p = true → S p = true) {a h : Int} (ha : 0 ≤ a) (hh : 0 ≤ h) : h * stkS need (planS S need) ≤ costOf (evenC need a h) (planS T need) := by
  rw [costOf_even _ _ _ _ (planS_len _ _)]
  have e1 : 0 ≤ rsum (fun t => ifpos (gd (planS T need) t 0) a) need.length := rsum_nn fun t _ => by unfold ifpos; split <;> omega
  have e2 : stkS need (planS S need) ≤ stkS need (planS T need) := by
    rw [planS_stock hb hS, planS_stock hb hT]
    refine rsum_le fun t ht => ?_
    have hx := nx_is T (show t + 1 ≤ need.length by omega)
    have h1 : nx S need.length (t + 1) ≤ nx T need.length (t + 1) := by
      refine nx_le hx.1 hx.2.1 ?_
      rcases Nat.lt_or_ge (nx T need.length (t + 1)) need.length with e | e
      · exact .inr (hTS _ e (hx.2.2.1.resolve_left (by omega)))
      · left; omega
    have := psum_mono hb h1 hx.2.1
    omega
  have := Int.mul_le_mul_of_nonneg_left e2 hh
  have e3 : h * stkS need (planS T need) = h * rsum (fun t => stockAt (planS T need) need (t + 1)) need.length := rfl
  omega
theorem stk_bd {need : List Int} {S : Nat → Bool} (hb : bd 20 need) (hn : need.length ≤ 6) (hS : covS S need = true) : 0 ≤ stkS need (planS S need) ∧ stkS need (planS S need) ≤ 36000 := by
  have := rsum_bd (f := fun t => stockAt (planS S need) need (t + 1)) (n := need.length) (lo := 0) (hi := 6000) (fun t ht => stock_even hb (by omega) hn hS (by omega))
  simp only [stkS]; omega
theorem outV_top {c : Ch} (hc : ChainP c) : 0 ≤ outV c 0 ∧ outV c 0 ≤ 240000 := by
  have := outV_bd hc _ 0 rfl
  have := hc.n; omega
theorem partA_cases {need : List Int} {a h : Int} (k : Nat) : partA need a h k = neverZ ∨ ∃ p, subC need.length p k = true ∧ covS (bitS p) need = true ∧ partA need a h k = costOf (evenC need a h) (planS (bitS p) need) := by
  obtain ⟨_, _, m3⟩ := minI_is (fun p => if subC need.length p k = true then costA need a h p else neverZ) (2 ^ need.length)
  rcases m3 with e | ⟨j, _, e⟩
  · exact .inl e
  · have e' : partA need a h k = if subC need.length j k = true then costA need a h j else neverZ := e
    by_cases q1 : subC need.length j k = true
    · rw [if_pos q1] at e'
      by_cases q2 : covS (bitS j) need = true
      · refine .inr ⟨j, q1, q2, ?_⟩
        rw [e']; unfold costA; rw [if_pos q2]
      · left; rw [e']; unfold costA; rw [if_neg q2]
    · left; rw [e', if_neg q1]
theorem partA_low {need : List Int} {a h : Int} {k : Nat} (hb : bd 20 need) (hn : need.length ≤ 6) (hk : covS (bitS k) need = true) (ha : 0 ≤ a) (hh : 0 ≤ h ∧ h ≤ 9) : h * stkS need (planS (bitS k) need) ≤ partA need a h k := by
  have hs := stk_bd hb hn hk
  rcases partA_cases (need := need) (a := a) (h := h) k with e | ⟨p, p1, p2, e⟩
  · rw [e]
    have : h * stkS need (planS (bitS k) need) ≤ 9 * 36000 := Int.le_trans (Int.mul_le_mul_of_nonneg_right hh.2 hs.1) (Int.mul_le_mul_of_nonneg_left hs.2 (by omega))
    simp only [neverZ]; omega
  · rw [e]; exact part_low hb hk p2 (subC_iff.1 p1) ha hh.1
def ch2 (need : List Int) (a s0 h h0 : Int) : Ch := (need, ([a, s0], [h, h0]))
def ch1 (need : List Int) (s0 h0 : Int) : Ch := (need, ([s0], [h0]))
theorem ch2_ok {need : List Int} {a s0 h h0 : Int} (hn : need.length ≤ 6) (hb : bd 20 need) (ha : 0 ≤ a ∧ a ≤ 99) (hs : 0 ≤ s0 ∧ s0 ≤ 99) (hh : 0 ≤ h ∧ h ≤ h0) (h9 : h0 ≤ 9) : chainB (ch2 need a s0 h h0) = true := by
  have b1 : bd 99 [a, s0] := fun i hi => by
    match i, hi with
    | 0, _ => exact ha
    | 1, _ => exact hs
  have b2 : bd 9 [h, h0] := fun i hi => by
    match i, hi with
    | 0, _ => exact ⟨hh.1, Int.le_trans hh.2 h9⟩
    | 1, _ => exact ⟨Int.le_trans hh.1 hh.2, h9⟩
  have up : upB [h, h0] = true := upB_iff.2 fun i hi => by
    match i, hi with
    | 0, _ => exact hh.2
  have e1 : inRg 1 3 (([a, s0] : List Int).length : Int) = true := rfl
  have e2 : decide (([h, h0] : List Int).length = ([a, s0] : List Int).length) = true := rfl
  show (decide (need.length ≤ 6) && (need.all (inRg 0 20) && (inRg 1 3 (([a, s0] : List Int).length : Int) && (decide (([h, h0] : List Int).length = ([a, s0] : List Int).length) && (([a, s0] : List Int).all (inRg 0 99) && (([h, h0] : List Int).all (inRg 0 9) && upB [h, h0])))))) = true
  rw [decide_eq_true hn, bd_iff.2 hb, e1, e2, bd_iff.2 b1, bd_iff.2 b2, up]; rfl
theorem ch1_ok {need : List Int} {s0 h0 : Int} (hn : need.length ≤ 6) (hb : bd 20 need) (hs : 0 ≤ s0 ∧ s0 ≤ 99) (h9 : 0 ≤ h0 ∧ h0 ≤ 9) : chainB (ch1 need s0 h0) = true := by
  have b1 : bd 99 [s0] := fun i hi => by
    match i, hi with
    | 0, _ => exact hs
  have b2 : bd 9 [h0] := fun i hi => by
    match i, hi with
    | 0, _ => exact h9
  have up : upB [h0] = true := upB_iff.2 fun i hi => by simp at hi
  have e1 : inRg 1 3 (([s0] : List Int).length : Int) = true := rfl
  have e2 : decide (([h0] : List Int).length = ([s0] : List Int).length) = true := rfl
  show (decide (need.length ≤ 6) && (need.all (inRg 0 20) && (inRg 1 3 (([s0] : List Int).length : Int) && (decide (([h0] : List Int).length = ([s0] : List Int).length) && (([s0] : List Int).all (inRg 0 99) && (([h0] : List Int).all (inRg 0 9) && upB [h0])))))) = true
  rw [decide_eq_true hn, bd_iff.2 hb, e1, e2, bd_iff.2 b1, bd_iff.2 b2, up]; rfl
theorem ch2_cost (need : List Int) (a s0 h h0 : Int) (A : Nat → Nat → Bool) : nestCost (ch2 need a s0 h h0) A = costOf (evenC need a h) (planS (A 0) need) + costOf (evenC need s0 (h0 - h)) (planS (A 1) need) := by
  simp only [nestCost, ch2, List.length_cons, List.length_nil, rsum, echel, gd]
  simp
theorem ch1_cost (need : List Int) (s0 h0 : Int) (A : Nat → Nat → Bool) : nestCost (ch1 need s0 h0) A = costOf (evenC need s0 h0) (planS (A 0) need) := by
  simp only [nestCost, ch1, List.length_cons, List.length_nil, rsum, echel, gd]
  simp
def twoA (S T : Nat → Bool) : Nat → Nat → Bool := fun s => if s = 0 then S else T
theorem ch2_le {need : List Int} {a s0 h h0 : Int} {k : Nat} (hn : need.length ≤ 6) (hb : bd 20 need) (ha : 0 ≤ a ∧ a ≤ 99) (hs : 0 ≤ s0 ∧ s0 ≤ 99) (hh : 0 ≤ h ∧ h ≤ h0) (h9 : h0 ≤ 9) (hk : covS (bitS k) need = true) :
    outV (ch2 need a s0 h h0) 0 ≤ partA need a h k + costOf (evenC need s0 (h0 - h)) (planS (bitS k) need) := by
  have hc := chainP (ch2_ok hn hb ha hs hh h9)
  have h1 := (spec_l7Single_eq (N := 4194304) (h := h0 - h) hb (by omega) hn hk hs (by omega) (Nat.le_refl _)).2
  rcases partA_cases (need := need) (a := a) (h := h) k with e | ⟨p, p1, p2, e⟩
  · rw [e]
    have := (outV_top hc).2
    simp only [neverZ]; omega
  · rw [e]
    have h2 := outV_nest hc (A := twoA (bitS p) (bitS k)) (fun s hs' q hq hA => by
      have hs0 : s = 0 := by simp only [ch2, List.length_cons, List.length_nil] at hs'; omega
      subst hs0
      exact subC_iff.1 p1 q hq hA) (fun s hs' => by
      simp only [ch2, List.length_cons, List.length_nil] at hs'
      by_cases e0 : s = 0
      · subst e0; exact p2
      · have : s = 1 := by omega
        subst this; exact hk)
    rw [ch2_cost] at h2
    exact h2
theorem ch1_le {need : List Int} {s0 h0 : Int} {S : Nat → Bool} (hn : need.length ≤ 6) (hb : bd 20 need) (hs : 0 ≤ s0 ∧ s0 ≤ 99) (h9 : 0 ≤ h0 ∧ h0 ≤ 9) (hk : covS S need = true) : outV (ch1 need s0 h0) 0 ≤ costOf (evenC need s0 h0) (planS S need) := by
  have hc := chainP (ch1_ok hn hb hs h9)
  have h2 := outV_nest hc (A := fun _ => S) (fun s hs' q hq hA => hA) (fun s hs' => hk)
  rw [ch1_cost] at h2
  exact h2
theorem ch2_at {need : List Int} {a s0 h h0 : Int} (hn : need.length ≤ 6) (hb : bd 20 need) (ha : 0 ≤ a ∧ a ≤ 99) (hs : 0 ≤ s0 ∧ s0 ≤ 99) (hh : 0 ≤ h ∧ h ≤ h0) (h9 : h0 ≤ 9) :
    ∃ k, k < 2 ^ need.length ∧ covS (bitS k) need = true ∧ partA need a h k + costOf (evenC need s0 (h0 - h)) (planS (bitS k) need) ≤ outV (ch2 need a s0 h h0) 0 := by
  have hc := chainP (ch2_ok hn hb ha hs hh h9)
  obtain ⟨A, a1, a2, a3⟩ := out_ge hc
  rw [ch2_cost] at a3
  obtain ⟨k, k1, k2⟩ := code_ofB (A 1) need.length
  obtain ⟨p, p1, p2⟩ := code_ofB (A 0) need.length
  have c1 : covS (A 1) need = true := a2 1 (by simp [ch2])
  have c0 : covS (A 0) need = true := a2 0 (by simp [ch2])
  have hkc : covS (bitS k) need = true := by rw [covS_ext k2]; exact c1
  have hpc : covS (bitS p) need = true := by rw [covS_ext p2]; exact c0
  have hsub : subC need.length p k = true := subC_iff.2 fun x hx hp => by
    rw [k2 x hx]; rw [p2 x hx] at hp
    exact a1 0 (by simp [ch2]) x hx hp
  refine ⟨k, k1, hkc, ?_⟩
  have h1 := (minI_is (fun p => if subC need.length p k = true then costA need a h p else neverZ) (2 ^ need.length)).2.1 p p1
  rw [if_pos hsub] at h1
  unfold costA at h1
  rw [if_pos hpc, planS_ext p2] at h1
  rw [planS_ext k2]
  have h2 : partA need a h k ≤ costOf (evenC need a h) (planS (A 0) need) := h1
  omega
theorem ch1_at {need : List Int} {s0 h0 : Int} (hn : need.length ≤ 6) (hb : bd 20 need) (hs : 0 ≤ s0 ∧ s0 ≤ 99) (h9 : 0 ≤ h0 ∧ h0 ≤ 9) : ∃ S : Nat → Bool, covS S need = true ∧ costOf (evenC need s0 h0) (planS S need) ≤ outV (ch1 need s0 h0) 0 := by
  have hc := chainP (ch1_ok hn hb hs h9)
  obtain ⟨A, a1, a2, a3⟩ := out_ge hc
  rw [ch1_cost] at a3
  exact ⟨A 0, a2 0 (by simp [ch1]), a3⟩
theorem hold_sum {need setups holds : List Int} (hP : AsP need setups holds) : holdA holds = gd holds 0 0 - rsum (fun j => gd holds (1 + j) 0) (setups.length - 1) := by
  have hl := hP.l
  have hk1 := hP.k1
  have h := cut_rsum holds (setups.length - 1) (by omega)
  rw [show 1 + (setups.length - 1) = holds.length by omega] at h
  rw [holdA, sum_cut (show 1 ≤ holds.length by omega)]
  omega
theorem hold_le {need setups holds : List Int} (hP : AsP need setups holds) {i : Nat} (hi : i < setups.length - 1) : gd holds (1 + i) 0 ≤ rsum (fun j => gd holds (1 + j) 0) (setups.length - 1) ∧ rsum (fun j => gd holds (1 + j) 0) (setups.length - 1) ≤ gd holds 0 0 := by
  have hl := hP.l
  have h1 := hold_sum hP
  have h2 := holdA_bd hP
  refine ⟨?_, by omega⟩
  have : rsum (fun j => if j = i then gd holds (1 + j) 0 else 0) (setups.length - 1) ≤ rsum (fun j => gd holds (1 + j) 0) (setups.length - 1) := rsum_le fun j hj => by
    have := hP.b2 (1 + j) (by omega)
    split <;> omega
  rw [rsum_one (fun j => gd holds (1 + j) 0), if_pos hi] at this
  exact this
theorem as_ge {need setups holds : List Int} (hP : AsP need setups holds) {i : Nat} (hi : i < setups.length - 1) : outV (ch2 need (gd setups (1 + i) 0) (gd setups 0 0) (gd holds (1 + i) 0) (gd holds 0 0)) 0 ≤ bestAs need setups holds := by
  have hl := hP.l
  have hk1 := hP.k1
  have b1 := hP.b1 (1 + i) (by omega)
  have b0 := hP.b1 0 (by omega)
  have g1 := hP.b2 (1 + i) (by omega)
  have g0 := hP.b2 0 (by omega)
  have hle := hold_le hP hi
  have hc := chainP (ch2_ok hP.n hP.b0 b1 b0 (show 0 ≤ gd holds (1 + i) 0 ∧ gd holds (1 + i) 0 ≤ gd holds 0 0 by omega) g0.2)
  have htop := (outV_top hc).2
  rw [← as_eq hP]
  rcases (minI_is (implF need setups holds) (2 ^ need.length)).2.2 with e | ⟨k, _, e⟩
  · rw [e]; simp only [neverZ]; omega
  · rw [e]
    by_cases hk : covS (bitS k) need = true
    · refine Int.le_trans (ch2_le hP.n hP.b0 b1 b0 (by omega) g0.2 hk) ?_
      have e1 : costA need (gd setups 0 0) (holdA holds) k = costOf (evenC need (gd setups 0 0) (holdA holds)) (planS (bitS k) need) := by unfold costA; rw [if_pos hk]
      rw [implF, e1]
      have e2 : gd holds 0 0 - gd holds (1 + i) 0 = holdA holds + (rsum (fun j => gd holds (1 + j) 0) (setups.length - 1) - gd holds (1 + i) 0) := by rw [hold_sum hP]; omega
      rw [e2, cost_more]
      have e3 : rsum (fun j => if j = i then partA need (gd setups (1 + j) 0) (gd holds (1 + j) 0) k - gd holds (1 + j) 0 * stkS need (planS (bitS k) need) else 0) (setups.length - 1) ≤ rsum (fun j => partA need (gd setups (1 + j) 0) (gd holds (1 + j) 0) k - gd holds (1 + j) 0 * stkS need (planS (bitS k) need)) (setups.length - 1) := rsum_le fun j hj => by
        have := partA_low (k := k) hP.b0 hP.n hk (hP.b1 (1 + j) (by omega)).1 (hP.b2 (1 + j) (by omega))
        split <;> omega
      rw [rsum_one (fun j => partA need (gd setups (1 + j) 0) (gd holds (1 + j) 0) k - gd holds (1 + j) 0 * stkS need (planS (bitS k) need)), if_pos hi] at e3
      have e4 : rsum (fun j => partA need (gd setups (1 + j) 0) (gd holds (1 + j) 0) k) (setups.length - 1) = rsum (fun j => partA need (gd setups (1 + j) 0) (gd holds (1 + j) 0) k - gd holds (1 + j) 0 * stkS need (planS (bitS k) need)) (setups.length - 1) + rsum (fun j => gd holds (1 + j) 0) (setups.length - 1) * stkS need (planS (bitS k) need) := by
        rw [Int.mul_comm (rsum _ _), ← rsum_smul, ← rsum_add]
        exact rsum_congr fun j _ => by rw [Int.mul_comm (stkS _ _)]; omega
      rw [e4, Int.sub_mul]
      omega
    · have := (implF_bd hP k).2.2 (by simpa using hk)
      simp only [neverZ] at this; omega
theorem as_alone {need setups holds : List Int} (hP : AsP need setups holds) : outV (ch1 need (gd setups 0 0) (gd holds 0 0)) 0 ≤ bestAs need setups holds := by
  have hl := hP.l
  have hk1 := hP.k1
  have b0 := hP.b1 0 (by omega)
  have g0 := hP.b2 0 (by omega)
  have hc := chainP (ch1_ok hP.n hP.b0 b0 g0)
  have htop := (outV_top hc).2
  rw [← as_eq hP]
  rcases (minI_is (implF need setups holds) (2 ^ need.length)).2.2 with e | ⟨k, _, e⟩
  · rw [e]; simp only [neverZ]; omega
  · rw [e]
    by_cases hk : covS (bitS k) need = true
    · refine Int.le_trans (ch1_le hP.n hP.b0 b0 g0 hk) ?_
      have e1 : costA need (gd setups 0 0) (holdA holds) k = costOf (evenC need (gd setups 0 0) (holdA holds)) (planS (bitS k) need) := by unfold costA; rw [if_pos hk]
      rw [implF, e1]
      have e2 : gd holds 0 0 = holdA holds + rsum (fun j => gd holds (1 + j) 0) (setups.length - 1) := by rw [hold_sum hP]; omega
      rw [e2, cost_more]
      have e3 : rsum (fun j => gd holds (1 + j) 0) (setups.length - 1) * stkS need (planS (bitS k) need) ≤ rsum (fun j => partA need (gd setups (1 + j) 0) (gd holds (1 + j) 0) k) (setups.length - 1) := by
        rw [Int.mul_comm, ← rsum_smul]
        exact rsum_le fun j hj => by
          have := partA_low (k := k) hP.b0 hP.n hk (hP.b1 (1 + j) (by omega)).1 (hP.b2 (1 + j) (by omega))
          rw [Int.mul_comm]; exact this
      omega
    · have := (implF_bd hP k).2.2 (by simpa using hk)
      simp only [neverZ] at this; omega
theorem as_two {need setups holds : List Int} (hP : AsP need setups holds) (h2 : setups.length = 2) : bestAs need setups holds ≤ outV (ch2 need (gd setups 1 0) (gd setups 0 0) (gd holds 1 0) (gd holds 0 0)) 0 := by
  have hl := hP.l
  have b1 := hP.b1 1 (by omega)
  have b0 := hP.b1 0 (by omega)
  have g1 := hP.b2 1 (by omega)
  have g0 := hP.b2 0 (by omega)
  have hle := hold_le hP (i := 0) (by omega)
  rw [show 1 + 0 = 1 from rfl] at hle
  obtain ⟨k, k1, k2, k3⟩ := ch2_at (a := gd setups 1 0) (s0 := gd setups 0 0) (h := gd holds 1 0) (h0 := gd holds 0 0) hP.n hP.b0 b1 b0 (by omega) g0.2
  refine Int.le_trans ?_ k3
  rw [← as_eq hP]
  refine Int.le_trans ((minI_is (implF need setups holds) (2 ^ need.length)).2.1 k k1) ?_
  have e1 : costA need (gd setups 0 0) (holdA holds) k = costOf (evenC need (gd setups 0 0) (holdA holds)) (planS (bitS k) need) := by unfold costA; rw [if_pos k2]
  have e2 : holdA holds = gd holds 0 0 - gd holds 1 0 := by rw [hold_sum hP, h2]; simp [rsum]
  rw [implF, e1, e2, h2]
  simp only [Nat.add_one_sub_one, rsum, show 1 + 0 = 1 from rfl]
  omega
theorem as_one {need setups holds : List Int} (hP : AsP need setups holds) (h1 : setups.length = 1) : bestAs need setups holds ≤ outV (ch1 need (gd setups 0 0) (gd holds 0 0)) 0 := by
  have hl := hP.l
  have b0 := hP.b1 0 (by omega)
  have g0 := hP.b2 0 (by omega)
  obtain ⟨S, s1, s2⟩ := ch1_at (s0 := gd setups 0 0) (h0 := gd holds 0 0) hP.n hP.b0 b0 g0
  refine Int.le_trans ?_ s2
  obtain ⟨k, k1, k2⟩ := code_ofB S need.length
  have hk : covS (bitS k) need = true := by rw [covS_ext k2]; exact s1
  rw [← as_eq hP]
  refine Int.le_trans ((minI_is (implF need setups holds) (2 ^ need.length)).2.1 k k1) ?_
  have e1 : costA need (gd setups 0 0) (holdA holds) k = costOf (evenC need (gd setups 0 0) (holdA holds)) (planS (bitS k) need) := by unfold costA; rw [if_pos hk]
  have e2 : holdA holds = gd holds 0 0 := by rw [hold_sum hP, h1]; simp [rsum]
  rw [implF, e1, e2, h1, planS_ext k2]
  simp [rsum]
theorem one_stage {c : Ch} (hc : ChainP c) (h1 : c.2.1.length = 1) : outV c 0 = leastOf (evenC c.1 (gd c.2.1 0 0) (echel c 0)) := by
  have hl := hc.l
  have hP : CaseP (evenC c.1 (gd c.2.1 0 0) (echel c 0)) := evenC_P hc.n hc.b0 (hc.b1 0 (by omega)) (echel_bd hc (by omega))
  have hcost : ∀ A, nestCost c A = costOf (evenC c.1 (gd c.2.1 0 0) (echel c 0)) (planS (A 0) c.1) := fun A => by simp only [nestCost, h1, rsum]; omega
  obtain ⟨A, a1, a2, a3⟩ := out_ge hc
  rw [hcost] at a3
  have h2 := least_le hP (S := A 0) (a2 0 (by omega))
  obtain ⟨k, _, k2, k3⟩ := best_found (evenC c.1 (gd c.2.1 0 0) (echel c 0))
  have h3 := outV_nest hc (A := fun _ => bitS k) (fun _ _ _ _ h => h) (fun _ _ => k2)
  rw [hcost] at h3
  have h4 : leastOf (evenC c.1 (gd c.2.1 0 0) (echel c 0)) = costOf (evenC c.1 (gd c.2.1 0 0) (echel c 0)) (planS (bitS k) c.1) := congrArg Prod.snd k3
  have h5 : (evenC c.1 (gd c.2.1 0 0) (echel c 0)).1 = c.1 := rfl
  rw [h5] at h2
  omega
theorem n7_fill {N : Nat} : ∀ d (k : Nat) (cu : Cu) (out : List Int), out.length + d = 8 → Bud cu (k + 2 * (d + 1)) → ∃ out' c', (∀ m, d < m → pspec_l1Cur_needs7_L1 N m cu out = some (out', c')) ∧ Bud c' k ∧ out'.length ≤ 8 := by
  intro d
  induction d with
  | zero =>
    intro k cu out hl h
    obtain ⟨v, c1, e1, b1, v0, v1⟩ := pick_ok (N := N) 2 (h.mono (show k + 2 ≤ k + 2 * (0 + 1) by omega))
    refine ⟨out, c1, fun m hm => ?_, b1, by omega⟩
    obtain ⟨m, rfl⟩ : ∃ q, m = q + 1 := ⟨m - 1, by omega⟩
    rw [pspec_l1Cur_needs7_L1_succ]
    have hv : iadd .i64 6 v = 6 + v := iadd_in (by omega) (by omega)
    simp only [pspec_l1Cur_needs7_B1, e1, Option.bind_some, ilt_eq, len_eq, hv, show ¬ (out.length : Int) < 6 + v by omega, decide_false, cond_false, pspec_l1Cur_needs7_K1]
  | succ d ih =>
    intro k cu out hl h
    obtain ⟨v, c1, e1, b1, v0, v1⟩ := pick_ok (N := N) 2 (h.mono (show k + 2 * (d + 1) + 2 ≤ k + 2 * (d + 1 + 1) by omega))
    have hv : iadd .i64 6 v = 6 + v := iadd_in (by omega) (by omega)
    by_cases hc : (out.length : Int) < 6 + v
    · obtain ⟨out', c', o1, o2, o3⟩ := ih k c1 (out ++ [1]) (by simp; omega) b1
      refine ⟨out', c', fun m hm => ?_, o2, o3⟩
      obtain ⟨m, rfl⟩ : ∃ q, m = q + 1 := ⟨m - 1, by omega⟩
      rw [pspec_l1Cur_needs7_L1_succ]
      simp only [pspec_l1Cur_needs7_B1, e1, Option.bind_some, ilt_eq, len_eq, hv, hc, decide_true, cond_true, chk_of (fitB_in (n := out.length + 1) (b := 8) (by omega) (by omega))]
      exact o1 m (by omega)
    · refine ⟨out, c1, fun m hm => ?_, b1.mono (by omega), by omega⟩
      obtain ⟨m, rfl⟩ : ∃ q, m = q + 1 := ⟨m - 1, by omega⟩
      rw [pspec_l1Cur_needs7_L1_succ]
      simp only [pspec_l1Cur_needs7_B1, e1, Option.bind_some, ilt_eq, len_eq, hv, hc, decide_false, cond_false, pspec_l1Cur_needs7_K1]
theorem n7_end {N : Nat} (hN : 4194304 ≤ N) {k : Nat} {cu : Cu} {out : List Int} (hl : out.length ≤ 5) (h : Bud cu (k + 22)) : ∃ out' c', pspec_l1Cur_needs7_K2 N cu out = some (out', c') ∧ Bud c' k ∧ out'.length ≤ 8 := by
  obtain ⟨v, c1, e1, b1, v0, v1⟩ := pick_ok (N := N) 40 (h.mono (show k + 20 + 2 ≤ k + 22 by omega))
  simp only [pspec_l1Cur_needs7_K2, e1, Option.bind_some, ieq_eq]
  by_cases q0 : v = 0
  · obtain ⟨r, c2, e2, b2, _⟩ := among_ok (N := N) (list := [(-1), 20, 21]) (-1) 21 (by decide) (by decide) (b1.mono (show k + 2 ≤ k + 20 by omega))
    refine ⟨out ++ [r], c2, ?_, b2, by simp; omega⟩
    simp only [q0, decide_true, cond_true, e2, Option.bind_some, chk_of (fitB_in (n := out.length + 1) (b := 8) (by omega) (by omega))]
  · by_cases q1 : v = 1
    · obtain ⟨out', c', o1, o2, o3⟩ := n7_fill (N := N) (8 - out.length) k c1 out (by omega) (b1.mono (by omega))
      refine ⟨out', c', ?_, o2, o3⟩
      simp only [q0, q1, decide_true, decide_false, cond_true, cond_false]
      rw [show decide ((1 : Int) = 0) = false from rfl]
      simp only [cond_false]
      exact o1 N (by omega)
    · refine ⟨out, c1, ?_, b1.mono (by omega), by omega⟩
      simp only [q0, q1, decide_false, cond_false]
theorem n7_loop {N : Nat} (hN : 4194304 ≤ N) : ∀ d (k : Nat) (cu : Cu) (out : List Int) (n : Int), n.toNat = d → 0 ≤ n → out.length + d ≤ 5 → Bud cu (k + 22 + 2 * d) → ∃ out' c', (∀ m, d < m → pspec_l1Cur_needs7_L2 N m n cu out = some (out', c')) ∧ Bud c' k ∧ out'.length ≤ 8 := by
  intro d
  induction d with
  | zero =>
    intro k cu out n hn h0 hl h
    obtain ⟨out', c', o1, o2, o3⟩ := n7_end hN (by omega) (h.mono (show k + 22 ≤ k + 22 + 2 * 0 by omega))
    refine ⟨out', c', fun m hm => ?_, o2, o3⟩
    obtain ⟨m, rfl⟩ : ∃ q, m = q + 1 := ⟨m - 1, by omega⟩
    rw [pspec_l1Cur_needs7_L2_succ]
    simp only [pspec_l1Cur_needs7_B2, ilt_eq, show ¬ (0 : Int) < n by omega, decide_false, cond_false, o1]
  | succ d ih =>
    intro k cu out n hn h0 hl h
    obtain ⟨r, c1, e1, b1, _⟩ := among_ok (N := N) (list := [1, 2, 0, 3, 5, 8]) 0 8 (by decide) (by decide) (h.mono (show k + 22 + 2 * d + 2 ≤ k + 22 + 2 * (d + 1) by omega))
    obtain ⟨out', c', o1, o2, o3⟩ := ih k c1 (out ++ [r]) (n - 1) (by omega) (by omega) (by simp; omega) b1
    refine ⟨out', c', fun m hm => ?_, o2, o3⟩
    obtain ⟨m, rfl⟩ : ∃ q, m = q + 1 := ⟨m - 1, by omega⟩
    rw [pspec_l1Cur_needs7_L2_succ]
    simp only [pspec_l1Cur_needs7_B2, ilt_eq, show (0 : Int) < n by omega, decide_true, cond_true, e1, Option.bind_some, chk_of (fitB_in (n := out.length + 1) (b := 8) (by omega) (by omega))]
    rw [isub_in (by omega) (by omega)]
    exact o1 m (by omega)
theorem needs7_ok {N : Nat} (hN : 4194304 ≤ N) {k : Nat} {cu : Cu} (h : Bud cu (k + 40)) : ∃ out c', pspec_l1Cur_needs7 N cu = some (out, c') ∧ Bud c' k ∧ out.length ≤ 8 := by
  obtain ⟨v, c1, e1, b1, v0, v1⟩ := among_ok (N := N) (list := [4, 3, 5, 2, 1, 0]) 0 5 (by decide) (by decide) (h.mono (show k + 36 + 2 ≤ k + 40 by omega))
  obtain ⟨out', c', o1, o2, o3⟩ := n7_loop hN v.toNat k c1 [] v rfl v0 (by simp; omega) (b1.mono (by omega))
  refine ⟨out', c', ?_, o2, o3⟩
  simp only [pspec_l1Cur_needs7, e1, Option.bind_some]
  exact o1 N (by omega)
structure ChLen (c : Ch) : Prop where
  l0 : c.1.length ≤ 8
  l1 : c.2.1.length ≤ 3
  l2 : c.2.2.length ≤ 4
theorem ChLen.sm {c : Ch} (h : ChLen c) : SmCh c := ⟨by have := h.l0; omega, by have := h.l1; omega, by have := h.l2; omega⟩
theorem chain_end {N : Nat} {k : Nat} {cu : Cu} {v : Ch} {out : Ch} {n : Nat} (hn : 1 ≤ n ∧ n ≤ 3) (h0 : out.1.length ≤ 8) (h1 : out.2.1.length = n) (h2 : out.2.2.length = n) (h : Bud cu (k + 4)) : ∃ out' c', pspec_l1Cur_chain_K1 N cu v out = some (out', c') ∧ Bud c' k ∧ ChLen out' := by
  obtain ⟨r, c1, e1, b1, v0, v1⟩ := pick_ok (N := N) 48 (h.mono (show k + 2 + 2 ≤ k + 4 by omega))
  simp only [pspec_l1Cur_chain_K1, e1, Option.bind_some, ieq_eq]
  by_cases q0 : r = 0
  · refine ⟨(out.1, (out.2.1, out.2.2 ++ [9])), c1, by simp only [q0, decide_true, cond_true, chk_of (fitB_in (n := out.2.2.length + 1) (b := 8) (by omega) (by omega))], b1.mono (by omega), ⟨h0, by simp only [h1]; omega, by simp [h2]; omega⟩⟩
  · by_cases q1 : r = 1
    · obtain ⟨x, c2, e2, b2, _⟩ := among_ok (N := N) (list := [(-1), 9, 10]) (-1) 10 (by decide) (by decide) b1
      refine ⟨(out.1, (out.2.1, List.set out.2.2 0 x)), c2, by simp only [q1, show decide ((1 : Int) = 0) = false from rfl, decide_true, cond_false, cond_true, e2, Option.bind_some, chk_of (inB_in (i := 0) (n := out.2.2.length) (by omega) (by omega))], b2, ⟨h0, by simp only [h1]; omega, by simp [h2]; omega⟩⟩
    · by_cases q2 : r = 2
      · obtain ⟨x, c2, e2, b2, _⟩ := among_ok (N := N) (list := [(-1), 99, 100]) (-1) 100 (by decide) (by decide) b1
        refine ⟨(out.1, (List.set out.2.1 0 x, out.2.2)), c2, by simp only [q2, show decide ((2 : Int) = 0) = false from rfl, show decide ((2 : Int) = 1) = false from rfl, decide_true, cond_false, cond_true, e2, Option.bind_some, chk_of (inB_in (i := 0) (n := out.2.1.length) (by omega) (by omega))], b2, ⟨h0, by simp [h1]; omega, by simp only [h2]; omega⟩⟩
      · by_cases q3 : r = 3
        · refine ⟨(out.1, ([], out.2.2)), c1, by simp only [q0, q1, q2, q3, decide_true, decide_false, cond_false, cond_true, show decide ((3 : Int) = 0) = false from rfl, show decide ((3 : Int) = 1) = false from rfl, show decide ((3 : Int) = 2) = false from rfl], b1.mono (by omega), ⟨h0, by simp, by simp only [h2]; omega⟩⟩
        · refine ⟨out, c1, by simp only [q0, q1, q2, q3, decide_false, cond_false], b1.mono (by omega), ⟨h0, by omega, by omega⟩⟩
theorem chain_loop {N : Nat} {n : Nat} (hn : 1 ≤ n ∧ n ≤ 3) : ∀ d i, i + d = n → ∀ (k : Nat) (cu : Cu) (hold r : Int) (v out : Ch), r = (d : Int) → out.1.length ≤ 8 → out.2.1.length = i → out.2.2.length = i → Bud cu (k + 4 + 4 * d) → ∃ out' c', (∀ m, d < m → pspec_l1Cur_chain_L1 N m hold r cu v out = some (out', c')) ∧ Bud c' k ∧ ChLen out' := by
  intro d
  induction d with
  | zero =>
    intro i hi k cu hold r v out hr h0 h1 h2 h
    obtain ⟨out', c', o1, o2, o3⟩ := chain_end (N := N) (v := v) hn h0 (by omega) (by omega) (h.mono (show k + 4 ≤ k + 4 + 4 * 0 by omega))
    refine ⟨out', c', fun m hm => ?_, o2, o3⟩
    obtain ⟨m, rfl⟩ : ∃ q, m = q + 1 := ⟨m - 1, by omega⟩
    rw [pspec_l1Cur_chain_L1_succ]
    simp only [pspec_l1Cur_chain_B1, ilt_eq, show ¬ (0 : Int) < r by omega, decide_false, cond_false, o1]
  | succ d ih =>
    intro i hi k cu hold r v out hr h0 h1 h2 h
    obtain ⟨x, c1, e1, b1, _⟩ := among_ok (N := N) (list := [5, 8, 3, 12, 0, 20]) 0 20 (by decide) (by decide) (h.mono (show k + 4 + 4 * d + 2 + 2 ≤ k + 4 + 4 * (d + 1) by omega))
    obtain ⟨y, c2, e2, b2, _⟩ := among_ok (N := N) (list := [1, 0, 1, 2]) 0 2 (by decide) (by decide) b1
    obtain ⟨out', c', o1, o2, o3⟩ := ih (i + 1) (by omega) k c2 (iadd .i64 hold y) (d : Int) v (out.1, (out.2.1 ++ [x], out.2.2 ++ [iadd .i64 hold y])) rfl h0 (by simp [h1]) (by simp [h2]) b2
    refine ⟨out', c', fun m hm => ?_, o2, o3⟩
    obtain ⟨m, rfl⟩ : ∃ q, m = q + 1 := ⟨m - 1, by omega⟩
    rw [pspec_l1Cur_chain_L1_succ]
    simp only [pspec_l1Cur_chain_B1, ilt_eq, show (0 : Int) < r by omega, decide_true, cond_true, e1, e2, Option.bind_some, chk_of (fitB_in (n := out.2.1.length + 1) (b := 8) (by omega) (by omega)), chk_of (fitB_in (n := out.2.2.length + 1) (b := 8) (by omega) (by omega))]
    rw [show isub .i64 r 1 = (d : Int) by rw [isub_in (by omega) (by omega)]; omega]
    exact o1 m (by omega)
theorem chain_ok {N : Nat} (hN : 4194304 ≤ N) {k : Nat} {cu : Cu} (h : Bud cu (k + 70)) : ∃ out c', pspec_l1Cur_chain N cu = some (out, c') ∧ Bud c' k ∧ ChLen out := by
  obtain ⟨x, c1, e1, b1, l1⟩ := needs7_ok hN (h.mono (show k + 20 + 2 + 40 ≤ k + 70 by omega))
  obtain ⟨v, c2, e2, b2, v0, v1⟩ := among_ok (N := N) (list := [2, 3, 2, 1]) 1 3 (by decide) (by decide) b1
  obtain ⟨out', c', o1, o2, o3⟩ := chain_loop (N := N) (n := v.toNat) (by omega) v.toNat 0 (by omega) k c2 0 v ([], ([], [])) (x, ([], [])) (by omega) l1 rfl rfl (b2.mono (by omega))
  refine ⟨out', c', ?_, o2, o3⟩
  simp only [pspec_l1Cur_chain, e1, e2, Option.bind_some]
  exact o1 N (by omega)
theorem DrawStageCase_ok {N : Nat} (hN : 4194304 ≤ N) {code : List Int} (h : Bud (code, (0, 0)) 100) : ∃ c s, spec_DrawStageCase N code = some ((c, s), ()) ∧ ChLen c := by
  obtain ⟨c, c1, e1, b1, l1⟩ := chain_ok hN (h.mono (show 2 + 70 ≤ 100 by omega))
  obtain ⟨v, c2, e2, b2, v0, v1⟩ := pick_ok (N := N) (k := 0) (iadd .i64 (len c.2.1) 2) b1
  exact ⟨c, _, by simp only [spec_DrawStageCase, e1, e2, Option.bind_some]; rfl, l1⟩
theorem as_loop1 {N : Nat} (hN : 4194304 ≤ N) {n : Nat} (hn : n ≤ 3) {setups : List Int} (hs : setups.length ≤ 3) : ∀ d i, i + d = n → ∀ (k : Nat) (cu : Cu) (holds : List Int), holds.length ≤ i + 1 → Bud cu (k + 50 + 2 * d) → ∃ need setups' holds', (∀ m, d < m → spec_DrawBestAssembly_L1 N m (n : Int) (i : Int) cu setups holds = some ((need, (setups', holds')), ())) ∧ need.length ≤ 8 ∧ setups'.length ≤ 3 ∧ holds'.length ≤ 8 := by
  intro d
  induction d with
  | zero =>
    intro i hi k cu holds hl h
    obtain ⟨b, c1, e1, b1⟩ := one_ok (N := N) 24 (h.mono (show k + 40 + 2 ≤ k + 50 + 2 * 0 by omega))
    obtain ⟨x, c2, e2, b2, l2⟩ := needs7_ok hN b1
    cases b with
    | true =>
      refine ⟨x, setups, holds ++ [0], fun m hm => ?_, l2, hs, by simp; omega⟩
      obtain ⟨m, rfl⟩ : ∃ q, m = q + 1 := ⟨m - 1, by omega⟩
      rw [spec_DrawBestAssembly_L1_succ]
      simp only [spec_DrawBestAssembly_B1, ilt_eq, Int.ofNat_lt, show ¬ i < n by omega, decide_false, cond_false, spec_DrawBestAssembly_K1, e1, e2, Option.bind_some, cond_true, chk_of (fitB_in (n := holds.length + 1) (b := 8) (by omega) (by omega))]
    | false =>
      refine ⟨x, setups, holds, fun m hm => ?_, l2, hs, by omega⟩
      obtain ⟨m, rfl⟩ : ∃ q, m = q + 1 := ⟨m - 1, by omega⟩
      rw [spec_DrawBestAssembly_L1_succ]
      simp only [spec_DrawBestAssembly_B1, ilt_eq, Int.ofNat_lt, show ¬ i < n by omega, decide_false, cond_false, spec_DrawBestAssembly_K1, e1, e2, Option.bind_some]
  | succ d ih =>
    intro i hi k cu holds hl h
    obtain ⟨y, c1, e1, b1, _⟩ := among_ok (N := N) (list := [1, 0, 1, 2]) 0 2 (by decide) (by decide) (h.mono (show k + 50 + 2 * d + 2 ≤ k + 50 + 2 * (d + 1) by omega))
    obtain ⟨x, s', h', o1, o2⟩ := ih (i + 1) (by omega) k c1 (holds ++ [y]) (by simp; omega) b1
    refine ⟨x, s', h', fun m hm => ?_, o2⟩
    obtain ⟨m, rfl⟩ : ∃ q, m = q + 1 := ⟨m - 1, by omega⟩
    rw [spec_DrawBestAssembly_L1_succ]
    simp only [spec_DrawBestAssembly_B1, ilt_eq, Int.ofNat_lt, show i < n by omega, decide_true, cond_true, e1, Option.bind_some, chk_of (fitB_in (n := holds.length + 1) (b := 8) (by omega) (by omega)), iadd_nat (show i < 4611686018427387904 by omega)]
    exact o1 m (by omega)
theorem as_loop2 {N : Nat} (hN : 4194304 ≤ N) {n : Nat} (hn1 : 1 ≤ n) (hn : n ≤ 3) {h0 : Int} : ∀ d i, i + d = n → ∀ (k : Nat) (cu : Cu) (setups : List Int), setups.length ≤ i → Bud cu (k + 60 + 2 * d) → ∃ need setups' holds', (∀ m, d < m → spec_DrawBestAssembly_L2 N m (n : Int) (i : Int) cu setups [h0] = some ((need, (setups', holds')), ())) ∧ need.length ≤ 8 ∧ setups'.length ≤ 3 ∧ holds'.length ≤ 8 := by
  intro d
  induction d with
  | zero =>
    intro i hi k cu setups hl h
    obtain ⟨x, s', h', o1, o2⟩ := as_loop1 hN hn (setups := setups) (by omega) (n - 1) 1 (by omega) k cu [h0] (by simp) (h.mono (by omega))
    refine ⟨x, s', h', fun m hm => ?_, o2⟩
    obtain ⟨m, rfl⟩ : ∃ q, m = q + 1 := ⟨m - 1, by omega⟩
    rw [spec_DrawBestAssembly_L2_succ]
    simp only [spec_DrawBestAssembly_B2, ilt_eq, Int.ofNat_lt, show ¬ i < n by omega, decide_false, cond_false, spec_DrawBestAssembly_K2]
    exact o1 N (by omega)
  | succ d ih =>
    intro i hi k cu setups hl h
    obtain ⟨y, c1, e1, b1, _⟩ := among_ok (N := N) (list := [5, 8, 3, 12, 0, 20]) 0 20 (by decide) (by decide) (h.mono (show k + 60 + 2 * d + 2 ≤ k + 60 + 2 * (d + 1) by omega))
    obtain ⟨x, s', h', o1, o2⟩ := ih (i + 1) (by omega) k c1 (setups ++ [y]) (by simp; omega) b1
    refine ⟨x, s', h', fun m hm => ?_, o2⟩
    obtain ⟨m, rfl⟩ : ∃ q, m = q + 1 := ⟨m - 1, by omega⟩
    rw [spec_DrawBestAssembly_L2_succ]
    simp only [spec_DrawBestAssembly_B2, ilt_eq, Int.ofNat_lt, show i < n by omega, decide_true, cond_true, e1, Option.bind_some, chk_of (fitB_in (n := setups.length + 1) (b := 8) (by omega) (by omega)), iadd_nat (show i < 4611686018427387904 by omega)]
    exact o1 m (by omega)
theorem DrawBestAssembly_ok {N : Nat} (hN : 4194304 ≤ N) {code : List Int} (h : Bud (code, (0, 0)) 100) : ∃ need setups holds, spec_DrawBestAssembly N code = some ((need, (setups, holds)), ()) ∧ need.length ≤ 8 ∧ setups.length ≤ 3 ∧ holds.length ≤ 8 := by
  obtain ⟨h0, c1, e1, b1, _⟩ := among_ok (N := N) (list := [3, 4, 2, 5, 9]) 0 9 (by decide) (by decide) (h.mono (show 70 + 2 + 2 ≤ 100 by omega))
  obtain ⟨v, c2, e2, b2, v0, v1⟩ := among_ok (N := N) (list := [2, 3, 1, 3]) 1 3 (by decide) (by decide) b1
  obtain ⟨x, s', h', o1, o2⟩ := as_loop2 hN (n := v.toNat) (by omega) (by omega) (h0 := h0) v.toNat 0 (by omega) 0 c2 [] (by simp) (b2.mono (by omega))
  refine ⟨x, s', h', ?_, o2⟩
  simp only [spec_DrawBestAssembly, e1, e2, Option.bind_some]
  have := o1 N (by omega)
  rw [show ((v.toNat : Nat) : Int) = v by omega] at this
  exact this
def stOk (c : Ch) (s : Int) : Bool := chainB c && inRg 0 ((c.2.1.length : Int) - 1) s
def stCase (c : Ch) (s : Int) : Cs × Bool := bif stOk c s then (evenC c.1 (gd c.2.1 s.toNat 0) (echel c s.toNat), true) else (([], ([], ([], []))), false)
theorem impl_StageCase_eq {N : Nat} {c : Ch} (hs : SmCh c) (s : Int) (hN : 4194304 ≤ N) : impl_StageCase N c s = some (stCase c s, ()) := by
  simp only [impl_StageCase, impl_IsChain_eq hs hN, Option.bind_some, bif_not, stCase, stOk]
  cases h : chainB c with
  | false => rfl
  | true =>
    have hc := chainP h
    have h3 := hc.s3
    have h1 := hc.s1
    have hl := hc.l
    simp only [cond_true, Bool.true_and, len_eq]
    rw [isub_in (by omega) (by omega), impl_within_eq]
    simp only [Option.bind_some]
    cases q : inRg 0 ((c.2.1.length : Int) - 1) s with
    | false => rfl
    | true =>
      simp only [inRg, Bool.and_eq_true, decide_eq_true_eq] at q
      obtain ⟨n, rfl⟩ : ∃ n : Nat, s = n := ⟨s.toNat, by omega⟩
      simp only [cond_true, inB_true (show n < c.2.1.length by omega), chk_true', impl_Chain_echelons_eq hc hN, Option.bind_some, inB_true (show n < ((List.range c.2.2.length).map (echel c)).length by rw [map_range_len]; omega), Int.toNat_natCast, impl_evenCase_eq _ _ hc.n hN, gd_map_range (echel c) 0 (show n < c.2.2.length by omega)]
theorem spec_StageCase_eq {N : Nat} {c : Ch} (hs : SmCh c) (s : Int) (hN : 4194304 ≤ N) : spec_StageCase N c s = some (stCase c s, ()) := by
  simp only [spec_StageCase, spec_l7Good_eq hs hN, Option.bind_some, bif_not, stCase, stOk]
  cases h : chainB c with
  | false => rfl
  | true =>
    have hc := chainP h
    have h3 := hc.s3
    have h1 := hc.s1
    have hl := hc.l
    simp only [cond_true, Bool.true_and, len_eq]
    rw [isub_in (by omega) (by omega), spec_l1In_eq]
    simp only [Option.bind_some]
    cases q : inRg 0 ((c.2.1.length : Int) - 1) s with
    | false => rfl
    | true =>
      simp only [inRg, Bool.and_eq_true, decide_eq_true_eq] at q
      obtain ⟨n, rfl⟩ : ∃ n : Nat, s = n := ⟨s.toNat, by omega⟩
      simp only [cond_true, inB_true (show n < c.2.1.length by omega), chk_true', spec_l7Echelon_eq hc (show n < c.2.2.length by omega), Option.bind_some, Int.toNat_natCast, spec_l7Case_eq _ _ hc.n hN]
theorem evenC_sm {need : List Int} (a h : Int) (hn : need.length < 4194304) : SmC (evenC need a h) := ⟨hn, by simp [evenC]; exact hn, by simp [evenC]; exact hn, by simp [evenC]; exact hn⟩
theorem impl_chain2 {N : Nat} {need : List Int} {a s0 h h0 : Int} (hn : need.length ≤ 6) (hb : bd 20 need) (ha : 0 ≤ a ∧ a ≤ 99) (hs : 0 ≤ s0 ∧ s0 ≤ 99) (hh : 0 ≤ h ∧ h ≤ h0) (h9 : h0 ≤ 9) (hN : 4194304 ≤ N) : impl_BestChainCost N (need, ([a, s0], [h, h0])) = some ((outV (ch2 need a s0 h h0) 0, true), ()) := by
  have h1 := impl_BestChainCost_eq (N := N) (c := ch2 need a s0 h h0) ⟨by show need.length < 4194304; omega, by show 2 < 4194304; omega, by show 2 < 4194304; omega⟩ hN
  unfold bestCh at h1
  rw [ch2_ok hn hb ha hs hh h9] at h1
  exact h1
theorem impl_chain1 {N : Nat} {need : List Int} {s0 h0 : Int} (hn : need.length ≤ 6) (hb : bd 20 need) (hs : 0 ≤ s0 ∧ s0 ≤ 99) (h9 : 0 ≤ h0 ∧ h0 ≤ 9) (hN : 4194304 ≤ N) : impl_BestChainCost N (need, ([s0], [h0])) = some ((outV (ch1 need s0 h0) 0, true), ()) := by
  have h1 := impl_BestChainCost_eq (N := N) (c := ch1 need s0 h0) ⟨by show need.length < 4194304; omega, by show 1 < 4194304; omega, by show 1 < 4194304; omega⟩ hN
  unfold bestCh at h1
  rw [ch1_ok hn hb hs h9] at h1
  exact h1
theorem cut_first {xs : List Int} (h : 1 ≤ xs.length) : cut xs 0 1 = [gd xs 0 0] := by
  cases xs with
  | nil => simp at h
  | cons x xs => simp [cut, gd]
theorem Asm_K2 {N : Nat} (hN : 4194304 ≤ N) {need setups holds : List Int} {fine : Bool} {cost : Int} (hf : fine = asB need setups holds) (hcost : asB need setups holds = true → cost = bestAs need setups holds) : laws_FnAssemblies_K2 N need setups holds cost fine = some (true, ()) := by
  subst hf
  simp only [laws_FnAssemblies_K2, bif_not]
  cases hA : asB need setups holds with
  | false => rfl
  | true =>
    have hP := asB_iff.1 hA
    have hl := hP.l
    have hk1 := hP.k1
    have hk3 := hP.k3
    have hcost := hcost hA
    subst hcost
    have b0 := hP.b1 0 (by omega)
    have g0 := hP.b2 0 (by omega)
    simp only [cond_true]
    refine laws_FnAssemblies_L1_run N (fun _ => need) (fun _ => setups) (fun _ => holds) (fun _ => bestAs need setups holds) (fun j => ((1 + j : Nat) : Int)) (setups.length - 1) (fun j hj kx => ?_) (fun kx => ?_) N (by omega)
    · have b1 := hP.b1 (1 + j) (by omega)
      have g1 := hP.b2 (1 + j) (by omega)
      have hle := hold_le hP hj
      have hge := as_ge hP hj
      simp only [laws_FnAssemblies_B1, ilt_eq, len_eq, Int.ofNat_lt, show 1 + j < setups.length by omega, decide_true, cond_true, inB_true (show 1 + j < setups.length by omega), chk_true', inB_in (i := 0) (n := setups.length) (by omega) (by omega), inB_true (show 1 + j < holds.length by omega), inB_in (i := 0) (n := holds.length) (by omega) (by omega), Int.toNat_natCast, impl_chain2 hP.n hP.b0 b1 b0 (show 0 ≤ gd holds (1 + j) 0 ∧ gd holds (1 + j) 0 ≤ gd holds 0 0 by omega) g0.2 hN, Option.bind_some, bif_not, show ¬ bestAs need setups holds < outV (ch2 need (gd setups (1 + j) 0) (gd setups 0 0) (gd holds (1 + j) 0) (gd holds 0 0)) 0 by omega, decide_false, cond_false, iadd_nat (show 1 + j < 4611686018427387904 by omega), ieq_eq, ine_eq]
      by_cases q : (setups.length : Int) = 2
      · have hj0 : j = 0 := by omega
        subst hj0
        have h2 := as_two hP (by omega)
        rw [show 1 + 0 = 1 from rfl] at hge ⊢
        have e : bestAs need setups holds = outV (ch2 need (gd setups 1 0) (gd setups 0 0) (gd holds 1 0) (gd holds 0 0)) 0 := by omega
        simp only [q, decide_true, cond_true]
        rw [← e]; simp
      · simp only [q, decide_false, cond_false]
        rfl
    · have hal := as_alone hP
      simp only [laws_FnAssemblies_B1, ilt_eq, len_eq, Int.ofNat_lt, show ¬ 1 + (setups.length - 1) < setups.length by omega, decide_false, cond_false, laws_FnAssemblies_K1, cutB_in (l := 0) (h := 1) (n := setups.length) (by omega) (by omega) (by omega), cutB_in (l := 0) (h := 1) (n := holds.length) (by omega) (by omega) (by omega), chk_true', cut_first (show 1 ≤ setups.length by omega), cut_first (show 1 ≤ holds.length by omega), impl_chain1 hP.n hP.b0 b0 g0 hN, Option.bind_some, cond_true, ile_eq, hal, decide_true, ieq_eq]
      by_cases q : (1 : Int) < setups.length
      · simp only [q, decide_true, cond_true]
      · have h1 := as_one hP (by omega)
        have e : bestAs need setups holds = outV (ch1 need (gd setups 0 0) (gd holds 0 0)) 0 := by omega
        simp only [q, decide_false, cond_false]
        rw [e]; simp
theorem laws_FnAssemblies_law (code : List Int) (h : RngB code) : ∃ N, laws_FnAssemblies N code = some (true, ()) := by
  refine ⟨4194304, ?_⟩
  have hN := Nat.le_refl 4194304
  simp only [laws_FnAssemblies, laws_vBig, ilt_eq, len_eq, Option.bind_some]
  by_cases hl : (65536 : Int) < code.length
  · simp [hl]
  · have hl' : code.length ≤ 65536 := by omega
    simp only [hl, decide_false, cond_false]
    obtain ⟨c, s, e1, hc⟩ := DrawStageCase_ok hN (bud_zero h hl' 100 (by omega))
    obtain ⟨code', e2, hcode⟩ := laws_vCut_one (N := 4194304) h hl'
    obtain ⟨need, setups, holds, e3, l1, l2, l3⟩ := DrawBestAssembly_ok (N := 4194304) hN (hcode.bud 100 (by omega))
    have hs := hc.sm
    have hsc : SmC (stCase c s).1 := by
      unfold stCase
      cases stOk c s with
      | false => exact ⟨by show 0 < 4194304; omega, by show 0 < 4194304; omega, by show 0 < 4194304; omega, by show 0 < 4194304; omega⟩
      | true => exact evenC_sm _ _ (by have := hc.l0; omega)
    have hK2 : ∀ b : Int × Bool, b = (bif asB need setups holds then (bestAs need setups holds, true) else (0, false)) → laws_FnAssemblies_K2 4194304 need setups holds b.1 b.2 = some (true, ()) := fun b hb => by
      subst hb
      refine Asm_K2 hN ?_ (fun hA => by rw [hA]; rfl)
      cases asB need setups holds <;> rfl
    simp only [e1, e2, e3, Option.bind_some, impl_StageCase_eq hs s hN, spec_StageCase_eq hs s hN, impl_BestAssembly_eq (show need.length < 4194304 by omega) (show setups.length < 4194304 by omega) (show holds.length < 4194304 by omega) hN, spec_BestAssembly_eq (show need.length < 4194304 by omega) (show setups.length < 4194304 by omega) (show holds.length < 4194304 by omega) hN, laws_vCase_refl hsc hN, bif_not, Go.Rx.beq, BEq.rfl, cond_true, ine_eq, decide_true, Bool.not_true, cond_false, ieq_eq]
    unfold stCase
    cases hst : stOk c s with
    | false => simp only [cond_false, laws_FnAssemblies_K3]; exact hK2 _ rfl
    | true =>
      simp only [cond_true, laws_FnAssemblies_K3]
      simp only [stOk, Bool.and_eq_true, inRg, decide_eq_true_eq] at hst
      obtain ⟨hcb, q1, q2⟩ := hst
      by_cases q : (c.2.1.length : Int) = 1
      · have hcp := chainP hcb
        have hs0 : s = 0 := by omega
        subst hs0
        have hbc : impl_BestCost 4194304 (evenC c.1 (gd c.2.1 0 0) (echel c 0)) = some ((outV c 0, true), ()) := by
          rw [impl_BestCost_eq (evenC_sm _ _ (by have := hc.l0; omega)) hN, bcOf]
          rw [caseB_iff.2 (evenC_P hcp.n hcp.b0 (hcp.b1 0 (by omega)) (echel_bd hcp (by have := hcp.l; omega))), one_stage hcp (by omega)]; rfl
        have hbcc : impl_BestChainCost 4194304 c = some ((outV c 0, true), ()) := by rw [impl_BestChainCost_eq hs hN, bestCh, hcb]; rfl
        simp only [q, decide_true, cond_true, Int.toNat_zero, hbc, hbcc, Option.bind_some, ine_eq, Bool.not_true, cond_false]
        exact hK2 _ rfl
      · simp only [q, decide_false, cond_false]
        exact hK2 _ rfl
end Go.Rx.Px
