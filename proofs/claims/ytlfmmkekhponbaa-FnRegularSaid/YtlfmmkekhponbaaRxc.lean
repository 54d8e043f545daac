/- This text proves laws about a reflected evaluator of Go code, part 3 of 5; no condition beyond those each theorem states. -/
import Derived.Laws.CopyRow
import Derived.Laws.IdiomCopy
import Derived.Laws.IdiomStrings
import Derived.Orders
import Derived.StillTail
import Derived.Tactics
import Derived.Test.YtlfmmkekhponbaaRxb
set_option linter.unusedVariables false
set_option linter.unusedSimpArgs false
namespace Go.Rx
noncomputable section
open Go.RowKit
variable {P : Program} {C : Ctx} {w0 : World} {F0 : List Nat} {T0 : TypeId → Nat → Prop}
theorem sub_foot {w : World} {T : TypeId → Nat → Prop} : ∀ (t : Ty) (p : Perm) (x : t.den) (g : Gh) (s : Path) (y : Sub), inR t x s → sub t p x s = some y → ∀ k, k ∈ foot y.ty y.p y.x (ghAt t g s) → k ∈ foot t p x g
  | t, p, x, g, [], y, _, hs, k, hk => by
    have : y = ⟨t, p, x⟩ := by cases t <;> cases p <;> simpa [sub, eq_comm] using hs
    subst this
    have h2 : ghAt t g [] = g := by cases t <;> rfl
    rwa [h2] at hk
  | .prod a b, p, x, g, .fst :: s, y, hr, hs, k, hk => by
    simp only [sub] at hs; simp only [inR] at hr; simp only [ghAt] at hk
    simp only [foot, List.mem_append]
    exact .inl (sub_foot (w := w) (T := T) a _ _ _ s y hr hs k hk)
  | .prod a b, p, x, g, .snd :: s, y, hr, hs, k, hk => by
    simp only [sub] at hs; simp only [inR] at hr; simp only [ghAt] at hk
    simp only [foot, List.mem_append]
    exact .inr (sub_foot (w := w) (T := T) b _ _ _ s y hr hs k hk)
  | .arr n t, p, xs, g, .idx i :: s, y, hr, hs, k, hk => by
    simp only [sub] at hs; simp only [inR] at hr; simp only [ghAt] at hk
    have := sub_foot (w := w) (T := T) t _ _ _ s y hr.2 hs k hk
    rw [foot_ro] at this; cases this
  | .slice e t, .own q, xs, g, .idx i :: s, y, hr, hs, k, hk => by
    simp only [sub] at hs; simp only [inR] at hr; simp only [ghAt] at hk
    simp only [foot, List.mem_append]
    exact .inr (mem_catF.2 ⟨i, hr.1, sub_foot (w := w) (T := T) t _ _ _ s y hr.2 hs k hk⟩)
  | .slice e t, .hole z0 q, xs, g, .idx i :: s, y, hr, hs, k, hk => by
    simp only [sub] at hs; simp only [inR] at hr; simp only [ghAt] at hk
    simp only [foot, List.mem_append]
    exact .inr (mem_catF.2 ⟨i, hr.1, sub_foot (w := w) (T := T) t _ _ _ s y hr.2 hs k hk⟩)
  | .int _, _, _, _, _ :: _, _, _, hs, _, _ | .bool, _, _, _, _ :: _, _, _, hs, _, _ | .str, _, _, _, _ :: _, _, _, hs, _, _ | .err, _, _, _, _ :: _, _, _, hs, _, _ => by simp [sub] at hs
  | .prod _ _, _, _, _, .idx _ :: _, _, _, hs, _, _ | .arr _ _, _, _, _, .fst :: _, _, _, hs, _, _ | .arr _ _, _, _, _, .snd :: _, _, _, hs, _, _ => by simp [sub] at hs
  | .slice _ _, .own _, _, _, .fst :: _, _, _, hs, _, _ | .slice _ _, .own _, _, _, .snd :: _, _, _, hs, _, _ | .slice _ _, .hole _ _, _, _, .fst :: _, _, _, hs, _, _ | .slice _ _, .hole _ _, _, _, .snd :: _, _, _, hs, _, _ => by simp [sub] at hs
  | .slice _ _, .ro, _, _, _ :: _, _, _, hs, _, _ | .slice _ _, .dead, _, _, _ :: _, _, _, hs, _, _ | .slice _ _, .pr _ _, _, _, _ :: _, _, _, hs, _, _ => by simp [sub] at hs
theorem sub_rowTys : ∀ (t : Ty) (p : Perm) (x : t.den) (s : Path) (y : Sub), sub t p x s = some y → ∀ e, e ∈ rowTys y.ty → e ∈ rowTys t
  | t, p, x, [], y, hs, e, he => by
    have : y = ⟨t, p, x⟩ := by cases t <;> cases p <;> simpa [sub, eq_comm] using hs
    subst this
    exact he
  | .prod a b, p, x, .fst :: s, y, hs, e, he => by
    simp only [sub] at hs
    simp only [rowTys, List.mem_append]
    exact .inl (sub_rowTys a _ _ s y hs e he)
  | .prod a b, p, x, .snd :: s, y, hs, e, he => by
    simp only [sub] at hs
    simp only [rowTys, List.mem_append]
    exact .inr (sub_rowTys b _ _ s y hs e he)
  | .arr n t, p, xs, .idx i :: s, y, hs, e, he => by
    simp only [sub] at hs
    exact sub_rowTys t _ _ s y hs e he
  | .slice e' t, .own q, xs, .idx i :: s, y, hs, e, he => by
    simp only [sub] at hs
    simp only [rowTys, List.mem_cons]
    exact .inr (sub_rowTys t _ _ s y hs e he)
  | .slice e' t, .hole z0 q, xs, .idx i :: s, y, hs, e, he => by
    simp only [sub] at hs
    simp only [rowTys, List.mem_cons]
    exact .inr (sub_rowTys t _ _ s y hs e he)
  | .int _, _, _, _ :: _, _, hs, _, _ | .bool, _, _, _ :: _, _, hs, _, _ | .str, _, _, _ :: _, _, hs, _, _ | .err, _, _, _ :: _, _, hs, _, _ => by simp [sub] at hs
  | .prod _ _, _, _, .idx _ :: _, _, hs, _, _ | .arr _ _, _, _, .fst :: _, _, hs, _, _ | .arr _ _, _, _, .snd :: _, _, hs, _, _ => by simp [sub] at hs
  | .slice _ _, .own _, _, .fst :: _, _, hs, _, _ | .slice _ _, .own _, _, .snd :: _, _, hs, _, _ | .slice _ _, .hole _ _, _, .fst :: _, _, hs, _, _ | .slice _ _, .hole _ _, _, .snd :: _, _, hs, _, _ => by simp [sub] at hs
  | .slice _ _, .ro, _, _ :: _, _, hs, _, _ | .slice _ _, .dead, _, _ :: _, _, hs, _, _ | .slice _ _, .pr _ _, _, _ :: _, _, hs, _, _ => by simp [sub] at hs
theorem arg_ok {E : Env} {st : St} {w : World} {T1 : TypeId → Nat → Prop} {t : Ty} {r : Reg} {x : t.den} {v : Value} (hm : Mem w0 F0 T0 E st.blk w) (h : argOf st t r = some x) (hr : RegOk E w (Tch T0 E st.blk w) st.blk r v)
    (hT1 : ∀ e k, Tch T0 E st.blk w e k → T1 e k) (hl : ∀ b, b ∈ lent [r] → ∀ kb, st.blk b = some kb → ∀ e, e ∈ rowTys kb.ty → ∀ k, k ∈ feet E st.blk b → T1 e k) : ∃ g, v = toV t (cells t x g) ∧ Holds w T1 t .ro x g := by
  unfold argOf at h
  split at h
  case h_2 => cases h
  rename_i c hc
  split at h
  case isFalse => cases h
  rename_i hnd
  cases h
  by_cases hsl : ∃ b s lo n, r = .sl b s lo n
  · obtain ⟨b, s, lo, n, rfl⟩ := hsl
    obtain ⟨k, e, u, q, xs, h1, h2, h3, h4, A, cap, h5, h6, h7, h8, h9⟩ := hr
    unfold contAs at hc
    have hb0 : st.blkU [] b = some k := h1
    simp only [contOf, Reg.cont, hb0, h2] at hc
    split at hc
    case isFalse => cases hc
    rename_i he
    subst he
    cases hc
    simp only [castTo]
    simp only [Perm.noDead] at hnd
    have hho := sub_holds _ _ _ _ _ _ (hm.blks b k h1).holds h3 h2
    obtain ⟨r1, r2⟩ := row_parts2 (e := e) (u := u) (q := q) (xs := xs) hho
    have hlen : ((xs.drop lo).take n).length = n := by simp; omega
    have hget : ∀ i, i < n → ((xs.drop lo).take n).getD i u.dflt = xs.getD (lo + i) u.dflt := fun i hi => by
      simp only [List.getD_eq_getElem?_getD, List.getElem?_take, List.getElem?_drop]; rw [if_pos hi]
    have hfeet : ∀ e', e' ∈ rowTys (.slice e u) → ∀ j, j ∈ foot (.slice e u) (.own q) xs (ghAt k.ty (E.g b) s) → T1 e' j := fun e' he' j hj =>
      hl b (by simp [lent]) k h1 e' (sub_rowTys _ _ _ _ _ h2 e' he') j (mem_feet_of_foot h1 (sub_foot (w := w) (T := T1) _ _ _ _ _ _ h3 h2 j hj))
    have hfe : ∀ i, i < xs.length → ∀ e', e' ∈ rowTys u → ∀ j, j ∈ foot u q (xs.getD i u.dflt) ((ghAt k.ty (E.g b) s).at i) → T1 e' j := fun i hi e' he' j hj => hfeet e' (by simp [rowTys, he']) j (by
      simp only [foot, List.mem_append]; exact .inr (mem_catF.2 ⟨i, hi, hj⟩))
    refine ⟨.row (.slice A n cap) (fun i => (ghAt k.ty (E.g b) s).at (lo + i)), by rw [h5]; simp [toV, Ty.agg, cells, Gh.head], ?_⟩
    simp only [Holds, Gh.head, Gh.at]
    refine ⟨⟨A, cap, by rw [hlen], by rw [hlen]; exact h6, fun _ => h8, h7, fun hne => ?_, fun ad had => ?_⟩, fun i hi => ?_⟩
    · have hn : 0 < n := by rw [← hlen]; exact List.length_pos_iff.2 hne
      obtain ⟨ad, had, hadd⟩ := h9 0 hn
      refine ⟨ad, had, ?_⟩
      obtain ⟨kk, cap', cur, hv, hbb, hbase, _⟩ := base_of_own r1 (by omega)
      have hblk : ad.block = kk := by
        have := congrArg Addr.block hadd
        rw [add_block, add_block, hbase] at this
        exact this
      rw [hblk]
      exact hfeet e (by simp [rowTys]) kk (by simp only [foot, List.mem_append]; exact .inl (by simp [hbb]))
    · rw [hlen]
      by_cases hn : n = 0
      · subst hn; intro j v hj; simp [catN] at hj
      · refine memAt_catN (h8 ad had) (fun _ _ => length_cells _ _ _) (fun i hi => ?_)
        rw [hget i hi]
        obtain ⟨ad', had', hadd⟩ := h9 i hi
        rw [had] at had'; cases had'
        rw [hadd]
        obtain ⟨kk, cap', cur, hv, hbb, hbase, _, _, _, _, hx⟩ := base_of_own r1 (by omega)
        rw [hbase]
        exact hx.elem rfl (fun _ _ => length_cells _ _ _) (lo + i) (by omega)
    · rw [hlen] at hi
      rw [hget i hi]
      exact holds_lent hT1 _ _ _ _ (r2 (lo + i) (by omega)) hnd (hfe (lo + i) (by omega))
  · obtain ⟨g, hv, hho⟩ := cont_holds (st := st) (U := []) hm (fun b k h => h) (fun b s lo n e => hsl ⟨b, s, lo, n, e⟩) hc hr
    cases r with
    | vw b s =>
      obtain ⟨k, y, h1, h2, h3, h4⟩ := hr
      unfold contAs at hc
      have hb0 : st.blkU [] b = some k := h1
      simp only [contOf, Reg.cont, hb0, h2] at hc
      split at hc
      case isFalse => cases hc
      rename_i he
      subst he
      cases hc
      simp only [castTo]
      refine ⟨ghAt k.ty (E.g b) s, h4, holds_lent hT1 _ _ _ _ (sub_holds _ _ _ _ _ _ (hm.blks b k h1).holds h3 h2) hnd (fun e' he' j hj => ?_)⟩
      exact hl b (by simp [lent]) k h1 e' (sub_rowTys _ _ _ _ _ h2 e' he') j (mem_feet_of_foot h1 (sub_foot (w := w) (T := T1) _ _ _ _ _ _ h3 h2 j hj))
    | val t' x' =>
      unfold contAs at hc
      simp only [contOf, Reg.cont] at hc
      split at hc
      case isFalse => cases hc
      rename_i he
      subst he
      cases hc
      obtain ⟨g', h1, h2⟩ := hr
      exact ⟨g', h2, Holds.agree _ _ _ _ h1 (by simp [foot_ro]) (fun i k hk => ⟨rfl, hT1 i k hk⟩)⟩
    | nilS =>
      unfold contAs at hc
      simp only [contOf] at hc
      cases t with
      | slice e u' =>
        simp only [dite_true, Option.some.injEq] at hc
        subst hc
        have hv' : v = .slice none 0 0 := hr
        refine ⟨.row (.slice none 0 0) fun _ => .leaf, by simpa [toV, Ty.agg, cells, Gh.head] using hv', ?_⟩
        exact holds_lent hT1 _ _ _ _ (nil_holds w (Tch T0 E st.blk w) e u' u'.zp) hnd (fun _ _ j hj => by simp [castTo, foot, Gh.head, Value.ownBlock, catF] at hj)
      | _ => simp at hc
    | sl b s lo n => exact absurd ⟨b, s, lo, n, rfl⟩ hsl
    | _ => simp [contAs, contOf, Reg.cont] at hc
theorem lent_cons (r : Reg) (rs : List Reg) : lent (r :: rs) = lent [r] ++ lent rs := by cases r <;> rfl
theorem args_ok {E : Env} {st : St} {a : Act} {w : World} {T1 : TypeId → Nat → Prop} (hS : Sim w0 F0 T0 E st a w) (hT1 : ∀ e k, Tch T0 E st.blk w e k → T1 e k) : ∀ (l : List Ty) (os : List Operand) (xs : ADen l), argsOf st l (regsOf st os) = some xs →
    (∀ b, b ∈ lent (regsOf st os) → ∀ kb, st.blk b = some kb → ∀ e, e ∈ rowTys kb.ty → ∀ k, k ∈ feet E st.blk b → T1 e k) → ArgsOk w T1 l xs (os.map a.eval)
  | [], [], xs, _, _ => rfl
  | [], o :: os, xs, h, _ => by simp [regsOf, argsOf] at h
  | t :: l, [], xs, h, _ => by simp [regsOf, argsOf] at h
  | t :: l, o :: os, xs, h, hl => by
    simp only [regsOf, argsOf] at h
    simp only [regsOf] at hl
    rw [lent_cons] at hl
    split at h
    case h_2 => cases h
    rename_i x hx
    split at h
    case h_2 => cases h
    rename_i xs' hxs
    cases h
    obtain ⟨g, h1, h2⟩ := arg_ok hS.mem hx (opd_ok hS o) hT1 (fun b hb => hl b (List.mem_append_left _ hb))
    exact ⟨g, _, by simp only [List.map_cons, h1], h2, args_ok hS hT1 l os xs' hxs (fun b hb => hl b (List.mem_append_right _ hb))⟩
end
end Go.Rx
namespace Go.Rx
noncomputable section
open Go.RowKit
variable {P : Program} {C : Ctx} {w0 : World} {F0 : List Nat} {T0 : TypeId → Nat → Prop}
theorem gh_nil' (t : Ty) (g : Gh) : ghAt t g [] = g := by cases t <;> rfl
theorem ghS_nil' (t : Ty) (g y : Gh) : ghSet t g [] y = y := by cases t <;> rfl
theorem sub_inv {t : Ty} {p : Perm} {x : t.den} {y : Sub} (h : sub t p x [] = some y) : y = ⟨t, p, x⟩ := by rw [sub_nil] at h; exact (Option.some.inj h).symm
theorem arr_at (n : Nat) (t : Ty) (g : Gh) (i : Nat) (s : Path) (gz : Gh) (j : Nat) : (ghSet (.arr n t) g (.idx i :: s) gz).at j = if j = i then ghSet t (g.at i) s gz else g.at j := by simp only [ghSet, Gh.at]
theorem row_at (e : TypeId) (t : Ty) (g : Gh) (i : Nat) (s : Path) (gz : Gh) (j : Nat) : (ghSet (.slice e t) g (.idx i :: s) gz).at j = if j = i then ghSet t (g.at i) s gz else g.at j := by simp only [ghSet, Gh.at]
theorem cells_inner : ∀ (t : Ty) (p : Perm) (x : t.den) (g : Gh) (s : Path) (y : Sub) (q : Perm) (z : y.ty.den) (gz : Gh) (r : Perm × t.den), inR t x s → sub t p x s = some y → put t p x s y.ty q z = some r →
    cells y.ty z gz = cells y.ty y.x (ghAt t g s) → cells t r.2 (ghSet t g s gz) = cells t x g
  | t, p, x, g, [], y, q, z, gz, r, _, hs, hp, hc => by
    have := sub_inv hs
    subst this
    obtain ⟨_, rfl⟩ := put_ty hp
    rw [gh_nil'] at hc
    rw [ghS_nil']
    exact hc
  | .prod ta tb, p, x, g, .fst :: s, y, q, z, gz, r, hr, hs, hp, hc => by
    simp only [inR] at hr; simp only [sub] at hs
    simp only [put, Option.map_eq_some_iff] at hp
    obtain ⟨z', hp, rfl⟩ := hp
    simp only [ghAt] at hc
    simp only [cells, ghSet, Gh.pr_l, Gh.pr_r]
    rw [cells_inner ta p.l x.1 g.l s y q z gz z' hr hs hp hc]
  | .prod ta tb, p, x, g, .snd :: s, y, q, z, gz, r, hr, hs, hp, hc => by
    simp only [inR] at hr; simp only [sub] at hs
    simp only [put, Option.map_eq_some_iff] at hp
    obtain ⟨z', hp, rfl⟩ := hp
    simp only [ghAt] at hc
    simp only [cells, ghSet, Gh.pr_l, Gh.pr_r]
    rw [cells_inner tb p.r x.2 g.r s y q z gz z' hr hs hp hc]
  | .arr n t, p, xs, g, .idx i :: s, y, q, z, gz, r, hr, hs, hp, hc => by
    simp only [inR] at hr; simp only [sub] at hs
    simp only [put, Option.bind_eq_some_iff] at hp
    obtain ⟨z', hp, h2⟩ := hp
    split at h2
    case isFalse => cases h2
    cases h2
    simp only [ghAt] at hc
    have := cells_inner t .ro (xs.getD i t.dflt) (g.at i) s y q z gz z' hr.2 hs hp hc
    simp only [cells]
    refine catN_congr fun j hj => ?_
    rw [getD_set _ _ _ _ _ hr.1.2, arr_at]
    by_cases e : j = i
    · subst e; rw [if_pos rfl, if_pos rfl, this]
    · rw [if_neg e, if_neg e]
  | .slice e t, .own o, xs, g, .idx i :: s, y, q, z, gz, r, hr, hs, hp, hc => by
    simp only [put, Option.bind_eq_some_iff] at hp
    obtain ⟨z', hp, h2⟩ := hp
    split at h2
    case isFalse => cases h2
    cases h2
    rfl
  | .int _, _, _, _, _ :: _, _, _, _, _, _, _, hs, _, _ | .bool, _, _, _, _ :: _, _, _, _, _, _, _, hs, _, _ => by simp [sub] at hs
  | .str, _, _, _, _ :: _, _, _, _, _, _, _, hs, _, _ | .err, _, _, _, _ :: _, _, _, _, _, _, _, hs, _, _ => by simp [sub] at hs
  | .prod _ _, _, _, _, .idx _ :: _, _, _, _, _, _, _, hs, _, _ => by simp [sub] at hs
  | .arr _ _, _, _, _, .fst :: _, _, _, _, _, _, _, hs, _, _ | .arr _ _, _, _, _, .snd :: _, _, _, _, _, _, _, hs, _, _ => by simp [sub] at hs
  | .slice _ _, .own _, _, _, .fst :: _, _, _, _, _, _, _, hs, _, _ | .slice _ _, .own _, _, _, .snd :: _, _, _, _, _, _, _, hs, _, _ | .slice _ _, .hole _ _, _, _, .fst :: _, _, _, _, _, _, _, hs, _, _ | .slice _ _, .hole _ _, _, _, .snd :: _, _, _, _, _, _, _, hs, _, _ => by simp [sub] at hs
  | .slice _ _, .ro, _, _, _ :: _, _, _, _, _, _, _, hs, _, _ | .slice _ _, .dead, _, _, _ :: _, _, _, _, _, _, _, hs, _, _ | .slice _ _, .pr _ _, _, _, _ :: _, _, _, _, _, _, _, hs, _, _ => by simp [sub] at hs
theorem static_cells : ∀ (t : Ty) (p p' : Perm) (x x' : t.den) (g g' : Gh) (u : Path) (v : Sub), hasIdx u = false → sub t p x u = some v → cells t x' g' = cells t x g →
    ∃ p2 x2, sub t p' x' u = some ⟨v.ty, p2, x2⟩ ∧ inR t x' u ∧ cells v.ty x2 (ghAt t g' u) = cells v.ty v.x (ghAt t g u)
  | t, p, p', x, x', g, g', [], v, _, hs, hc => by
    have := sub_inv hs
    subst this
    exact ⟨p', x', sub_nil _ _ _, inR_nil _ _, by rw [gh_nil', gh_nil']; exact hc⟩
  | .prod ta tb, p, p', x, x', g, g', .fst :: u, v, hi, hs, hc => by
    simp only [hasIdx] at hi; simp only [sub] at hs; simp only [cells] at hc
    have h1 := List.append_inj hc (by rw [length_cells, length_cells])
    obtain ⟨p2, x2, q1, q2, q3⟩ := static_cells ta p.l p'.l x.1 x'.1 g.l g'.l u v hi hs h1.1
    exact ⟨p2, x2, by simpa only [sub] using q1, by simpa only [inR] using q2, by simpa only [ghAt] using q3⟩
  | .prod ta tb, p, p', x, x', g, g', .snd :: u, v, hi, hs, hc => by
    simp only [hasIdx] at hi; simp only [sub] at hs; simp only [cells] at hc
    have h1 := List.append_inj hc (by rw [length_cells, length_cells])
    obtain ⟨p2, x2, q1, q2, q3⟩ := static_cells tb p.r p'.r x.2 x'.2 g.r g'.r u v hi hs h1.2
    exact ⟨p2, x2, by simpa only [sub] using q1, by simpa only [inR] using q2, by simpa only [ghAt] using q3⟩
  | .arr _ _, _, _, _, _, _, _, .idx _ :: _, _, hi, _, _ => by simp [hasIdx] at hi
  | .slice _ _, _, _, _, _, _, _, .idx _ :: _, _, hi, _, _ => by simp [hasIdx] at hi
  | .int _, _, _, _, _, _, _, _ :: _, _, _, hs, _ | .bool, _, _, _, _, _, _, _ :: _, _, _, hs, _ => by simp [sub] at hs
  | .str, _, _, _, _, _, _, _ :: _, _, _, hs, _ | .err, _, _, _, _, _, _, _ :: _, _, _, hs, _ => by simp [sub] at hs
  | .prod _ _, _, _, _, _, _, _, .idx _ :: _, _, _, hs, _ => by simp [sub] at hs
  | .arr _ _, _, _, _, _, _, _, .fst :: _, _, _, hs, _ | .arr _ _, _, _, _, _, _, _, .snd :: _, _, _, hs, _ => by simp [sub] at hs
  | .slice _ _, .own _, _, _, _, _, _, .fst :: _, _, _, hs, _ | .slice _ _, .own _, _, _, _, _, _, .snd :: _, _, _, hs, _ | .slice _ _, .hole _ _, _, _, _, _, _, .fst :: _, _, _, hs, _ | .slice _ _, .hole _ _, _, _, _, _, _, .snd :: _, _, _, hs, _ => by simp [sub] at hs
  | .slice _ _, .ro, _, _, _, _, _, .fst :: _, _, _, hs, _ | .slice _ _, .ro, _, _, _, _, _, .snd :: _, _, _, hs, _ => by simp [sub] at hs
  | .slice _ _, .dead, _, _, _, _, _, .fst :: _, _, _, hs, _ | .slice _ _, .dead, _, _, _, _, _, .snd :: _, _, _, hs, _ => by simp [sub] at hs
  | .slice _ _, .pr _ _, _, _, _, _, _, .fst :: _, _, _, hs, _ | .slice _ _, .pr _ _, _, _, _, _, _, .snd :: _, _, _, hs, _ => by simp [sub] at hs
theorem inner_sub : ∀ (t : Ty) (p : Perm) (x : t.den) (g : Gh) (s : Path) (y : Sub) (q : Perm) (z : y.ty.den) (gz : Gh) (r : Perm × t.den) (u : Path) (v : Sub), inR t x s → sub t p x s = some y → put t p x s y.ty q z = some r →
    cells y.ty z gz = cells y.ty y.x (ghAt t g s) → extIn s u = false → inR t x u → sub t p x u = some v →
    ∃ p2 x2, sub t r.1 r.2 u = some ⟨v.ty, p2, x2⟩ ∧ inR t r.2 u ∧ cells v.ty x2 (ghAt t (ghSet t g s gz) u) = cells v.ty v.x (ghAt t g u)
  | t, p, x, g, s, y, q, z, gz, r, [], v, hr, hs, hp, hc, _, _, hv => by
    have := sub_inv hv
    subst this
    exact ⟨r.1, r.2, sub_nil _ _ _, inR_nil _ _, by rw [gh_nil', gh_nil']; exact cells_inner t p x g s y q z gz r hr hs hp hc⟩
  | t, p, x, g, [], y, q, z, gz, r, a :: u, v, hr, hs, hp, hc, he, _, hv => by
    have hcc := cells_inner t p x g [] y q z gz r hr hs hp hc
    exact static_cells t p r.1 x r.2 g _ (a :: u) v (by simpa only [extIn] using he) hv hcc
  | .prod ta tb, p, x, g, .fst :: s, y, q, z, gz, r, .fst :: u, v, hr, hs, hp, hc, he, hu, hv => by
    simp only [inR] at hr hu ⊢; simp only [sub] at hs hv
    simp only [put, Option.map_eq_some_iff] at hp
    obtain ⟨z', hp, rfl⟩ := hp
    simp only [ghAt] at hc
    simp only [extIn] at he
    obtain ⟨p2, x2, q1, q2, q3⟩ := inner_sub ta p.l x.1 g.l s y q z gz z' u v hr hs hp hc he hu hv
    exact ⟨p2, x2, by simpa only [sub, Perm.mk_l] using q1, q2, by simpa only [ghAt, ghSet, Gh.pr_l] using q3⟩
  | .prod ta tb, p, x, g, .snd :: s, y, q, z, gz, r, .snd :: u, v, hr, hs, hp, hc, he, hu, hv => by
    simp only [inR] at hr hu ⊢; simp only [sub] at hs hv
    simp only [put, Option.map_eq_some_iff] at hp
    obtain ⟨z', hp, rfl⟩ := hp
    simp only [ghAt] at hc
    simp only [extIn] at he
    obtain ⟨p2, x2, q1, q2, q3⟩ := inner_sub tb p.r x.2 g.r s y q z gz z' u v hr hs hp hc he hu hv
    exact ⟨p2, x2, by simpa only [sub, Perm.mk_r] using q1, q2, by simpa only [ghAt, ghSet, Gh.pr_r] using q3⟩
  | .prod ta tb, p, x, g, .fst :: s, y, q, z, gz, r, .snd :: u, v, hr, hs, hp, hc, he, hu, hv => by
    simp only [inR] at hu ⊢; simp only [sub] at hv
    simp only [put, Option.map_eq_some_iff] at hp
    obtain ⟨z', hp, rfl⟩ := hp
    exact ⟨v.p, v.x, by simpa only [sub, Perm.mk_r] using hv, hu, by simp only [ghAt, ghSet, Gh.pr_r]⟩
  | .prod ta tb, p, x, g, .snd :: s, y, q, z, gz, r, .fst :: u, v, hr, hs, hp, hc, he, hu, hv => by
    simp only [inR] at hu ⊢; simp only [sub] at hv
    simp only [put, Option.map_eq_some_iff] at hp
    obtain ⟨z', hp, rfl⟩ := hp
    exact ⟨v.p, v.x, by simpa only [sub, Perm.mk_l] using hv, hu, by simp only [ghAt, ghSet, Gh.pr_l]⟩
  | .arr n t, p, xs, g, .idx i :: s, y, q, z, gz, r, .idx j :: u, v, hr, hs, hp, hc, he, hu, hv => by
    simp only [inR] at hr hu ⊢; simp only [sub] at hs hv
    simp only [put, Option.bind_eq_some_iff] at hp
    obtain ⟨z', hp, h2⟩ := hp
    split at h2
    case isFalse => cases h2
    rename_i hro
    cases h2
    simp only [ghAt] at hc
    simp only [extIn] at he
    have e1 : ((xs.set i z'.2 : List t.den)).getD j t.dflt = if j = i then z'.2 else xs.getD j t.dflt := getD_set _ _ _ _ _ hr.1.2
    by_cases e : j = i
    · subst e
      rw [if_pos rfl] at e1
      obtain ⟨p2, x2, q1, q2, q3⟩ := inner_sub t .ro (xs.getD j t.dflt) (g.at j) s y q z gz z' u v hr.2 hs hp hc he hu.2 hv
      refine ⟨p2, x2, ?_, ⟨⟨hu.1.1, by simpa using hu.1.2⟩, by rw [e1]; exact q2⟩, ?_⟩
      · simp only [sub]; rw [e1, ← hro]; exact q1
      · simp only [ghAt]; rw [arr_at, if_pos rfl]; exact q3
    · rw [if_neg e] at e1
      refine ⟨v.p, v.x, ?_, ⟨⟨hu.1.1, by simpa using hu.1.2⟩, by rw [e1]; exact hu.2⟩, ?_⟩
      · simp only [sub]; rw [e1]; exact hv
      · simp only [ghAt]; rw [arr_at, if_neg e]
  | .slice et t, .own o, xs, g, .idx i :: s, y, q, z, gz, r, .idx j :: u, v, hr, hs, hp, hc, he, hu, hv => by
    simp only [inR] at hr hu ⊢; simp only [sub] at hs hv
    simp only [put, Option.bind_eq_some_iff] at hp
    obtain ⟨z', hp, h2⟩ := hp
    split at h2
    case isFalse => cases h2
    rename_i hro
    cases h2
    simp only [ghAt] at hc
    simp only [extIn] at he
    have e1 : ((xs.set i z'.2 : List t.den)).getD j t.dflt = if j = i then z'.2 else xs.getD j t.dflt := getD_set _ _ _ _ _ hr.1
    by_cases e : j = i
    · subst e
      rw [if_pos rfl] at e1
      obtain ⟨p2, x2, q1, q2, q3⟩ := inner_sub t o (xs.getD j t.dflt) (g.at j) s y q z gz z' u v hr.2 hs hp hc he hu.2 hv
      refine ⟨p2, x2, ?_, ⟨by simpa using hu.1, by rw [e1]; exact q2⟩, ?_⟩
      · simp only [sub]; rw [e1, ← hro]; exact q1
      · simp only [ghAt]; rw [row_at, if_pos rfl]; exact q3
    · rw [if_neg e] at e1
      refine ⟨v.p, v.x, ?_, ⟨by simpa using hu.1, by rw [e1]; exact hu.2⟩, ?_⟩
      · simp only [sub]; rw [e1]; exact hv
      · simp only [ghAt]; rw [row_at, if_neg e]
  | .int _, _, _, _, _ :: _, _, _, _, _, _, _ :: _, _, _, hs, _, _, _, _, _ | .bool, _, _, _, _ :: _, _, _, _, _, _, _ :: _, _, _, hs, _, _, _, _, _ => by simp [sub] at hs
  | .str, _, _, _, _ :: _, _, _, _, _, _, _ :: _, _, _, hs, _, _, _, _, _ | .err, _, _, _, _ :: _, _, _, _, _, _, _ :: _, _, _, hs, _, _, _, _, _ => by simp [sub] at hs
  | .prod _ _, _, _, _, .idx _ :: _, _, _, _, _, _, _ :: _, _, _, hs, _, _, _, _, _ => by simp [sub] at hs
  | .prod _ _, _, _, _, .fst :: _, _, _, _, _, _, .idx _ :: _, _, _, _, _, _, _, _, hv | .prod _ _, _, _, _, .snd :: _, _, _, _, _, _, .idx _ :: _, _, _, _, _, _, _, _, hv => by simp [sub] at hv
  | .arr _ _, _, _, _, .fst :: _, _, _, _, _, _, _ :: _, _, _, hs, _, _, _, _, _ | .arr _ _, _, _, _, .snd :: _, _, _, _, _, _, _ :: _, _, _, hs, _, _, _, _, _ => by simp [sub] at hs
  | .arr _ _, _, _, _, .idx _ :: _, _, _, _, _, _, .fst :: _, _, _, _, _, _, _, _, hv | .arr _ _, _, _, _, .idx _ :: _, _, _, _, _, _, .snd :: _, _, _, _, _, _, _, _, hv => by simp [sub] at hv
  | .slice _ _, .own _, _, _, .fst :: _, _, _, _, _, _, _ :: _, _, _, hs, _, _, _, _, _ | .slice _ _, .own _, _, _, .snd :: _, _, _, _, _, _, _ :: _, _, _, hs, _, _, _, _, _ | .slice _ _, .hole _ _, _, _, .fst :: _, _, _, _, _, _, _ :: _, _, _, hs, _, _, _, _, _ | .slice _ _, .hole _ _, _, _, .snd :: _, _, _, _, _, _, _ :: _, _, _, hs, _, _, _, _, _ => by simp [sub] at hs
  | .slice _ _, .own _, _, _, .idx _ :: _, _, _, _, _, _, .fst :: _, _, _, _, _, _, _, _, hv | .slice _ _, .own _, _, _, .idx _ :: _, _, _, _, _, _, .snd :: _, _, _, _, _, _, _, _, hv => by simp [sub] at hv
  | .slice _ _, .ro, _, _, _ :: _, _, _, _, _, _, _ :: _, _, _, hs, _, _, _, _, _ | .slice _ _, .dead, _, _, _ :: _, _, _, _, _, _, _ :: _, _, _, hs, _, _, _, _, _ | .slice _ _, .pr _ _, _, _, _ :: _, _, _, _, _, _, _ :: _, _, _, hs, _, _, _, _, _ => by simp [sub] at hs
theorem carries_mut {E E' : Env} {w w' : World} {T T' : TypeId → Nat → Prop} {blk : Nat → Option Blk} {b : Nat} {k : Blk} {s : Path} {y : Sub} {q : Perm} {z : y.ty.den} {gz : Gh} {r : Perm × k.ty.den} (hk : Kept w T w' T') (hb : blk b = some k) (hs : sub k.ty k.p k.x s = some y) (hr : inR k.ty k.x s)
    (hp : put k.ty k.p k.x s y.ty q z = some r) (hc : cells y.ty z gz = cells y.ty y.x (ghAt k.ty (E.g b) s)) (hg : E'.g = setG E.g b (ghSet k.ty (E.g b) s gz)) (hbase : E'.base = E.base) :
    Carries [.inner b k.ty s] E w T blk E' w' T' (setB blk b (some ⟨k.var, k.pin, r.1, k.ty, r.2⟩)) := by
  have hgb : E'.g b = ghSet k.ty (E.g b) s gz := by rw [hg, setG_same]
  have hgn : ∀ i, i ≠ b → E'.g i = E.g i := fun i hi => by rw [hg, setG_ne _ _ hi]
  intro rg v h
  cases rg with
  | val t x => exact h.val_kept hk
  | rp t x => exact h.rp_kept hk
  | vw c u =>
    simp only [killL, killR]
    by_cases e1 : c = b
    · subst e1
      rw [if_pos rfl]
      split
      · trivial
      · rename_i he
        obtain ⟨k0, y0, h1, h2, h3, h4⟩ := h
        rw [hb] at h1; cases h1
        obtain ⟨p2, x2, q1, q2, q3⟩ := inner_sub k.ty k.p k.x (E.g c) s y q z gz r u y0 hr hs hp hc (by simpa using he) h3 h2
        exact ⟨_, _, setB_same _ _ _, q1, q2, by rw [hgb, q3]; exact h4⟩
    · rw [if_neg e1]
      obtain ⟨k0, y0, h1, h2, h3, h4⟩ := h
      exact ⟨k0, y0, by rw [setB_ne _ _ e1]; exact h1, h2, h3, by rw [hgn _ e1]; exact h4⟩
  | sl c u lo n =>
    simp only [killL, killR]
    by_cases e1 : c = b
    · rw [if_pos e1]; trivial
    · rw [if_neg e1]
      obtain ⟨k0, e0, u0, q0, xs0, h1, h2, h3, h4, h5⟩ := h
      exact ⟨k0, e0, u0, q0, xs0, by rw [setB_ne _ _ e1]; exact h1, h2, h3, h4, by rw [hgn _ e1]; exact h5⟩
  | ptr c u =>
    simp only [killL, killR]
    by_cases e1 : c = b
    · subst e1
      rw [if_pos rfl]
      split
      · trivial
      · rename_i he
        obtain ⟨k0, y0, h1, h2, h3, h4, h5⟩ := h
        rw [hb] at h1; cases h1
        have hi : hasIdx u = false := by simpa using he
        obtain ⟨z', g1, g2, g3, g4⟩ := static_sub k.ty k.p r.1 k.x r.2 u y0 (E.g c) (E'.g c) ⟨E.base c, 0, none⟩ hi h2
        exact ⟨_, z', setB_same _ _ _, g1, g3, h4, by rw [h5, hbase]; simp only; rw [g4]⟩
    · rw [if_neg e1]
      obtain ⟨k0, y0, h1, h2, h3, h4, h5⟩ := h
      exact ⟨k0, y0, by rw [setB_ne _ _ e1]; exact h1, h2, h3, h4, by rw [hgn _ e1, hbase]; exact h5⟩
  | tup c n =>
    simp only [killL, killR]
    by_cases e1 : c = b
    · rw [if_pos e1]; trivial
    · rw [if_neg e1]
      obtain ⟨k0, h1, h2, h3⟩ := h
      exact ⟨k0, by rw [setB_ne _ _ e1]; exact h1, h2, by rw [hgn _ e1]; exact h3⟩
  | clo g bs =>
    refine ⟨fun c hc => ?_, clo_eq h.2 fun c _ => by rw [hbase]⟩
    obtain ⟨k', h1, h2⟩ := h.1 c hc
    by_cases e1 : c = b
    · subst e1; rw [hb] at h1; cases h1; exact ⟨_, setB_same _ _ _, h2⟩
    · exact ⟨k', by rw [setB_ne _ _ e1]; exact h1, h2⟩
  | _ => exact h
theorem handTo {E E1 : Env} {st : St} {w w' : World} {d : Nat} {U : List (Nat × Option Blk)} {K : List Kill} {p : Perm} {t : Ty} {x : t.den} (hfit : Fits st) (hd : d < st.regs.length)
    (hU : ∀ b o, (b, o) ∈ U → ∃ k, st.blk b = some k)
    (hm : Mem w0 F0 T0 E1 (setB (updF st.blk U) st.blks.length (some ⟨false, false, p, t, x⟩)) w')
    (hc : Carries K E w (Tch T0 E st.blk w) st.blk E1 w' (Tch T0 E1 (setB (updF st.blk U) st.blks.length (some ⟨false, false, p, t, x⟩)) w') (setB (updF st.blk U) st.blks.length (some ⟨false, false, p, t, x⟩))) :
    ∃ E', Mem w0 F0 T0 E' (updF st.blk (U ++ [(d, some ⟨false, false, p, t, x⟩)])) w' ∧
      Carries (K ++ [.all d]) E w (Tch T0 E st.blk w) st.blk E' w' (Tch T0 E' (updF st.blk (U ++ [(d, some ⟨false, false, p, t, x⟩)])) w') (updF st.blk (U ++ [(d, some ⟨false, false, p, t, x⟩)])) ∧ E'.g d = E1.g st.blks.length := by
  have hfree := updF_hand hU 0
  have hdN : st.blks.length ≠ d := by rw [hfit.len]; omega
  have hfin : setB (setB (updF st.blk U) st.blks.length (some ⟨false, false, p, t, x⟩)) st.blks.length none = updF st.blk U := by
    rw [setB_setB, setB_id (f := updF st.blk U) (a := st.blks.length) (x := none) hfree]
  obtain ⟨m2, k2⟩ := hm.drop d
  have hN2 : setB (setB (updF st.blk U) st.blks.length (some ⟨false, false, p, t, x⟩)) d none st.blks.length = some ⟨false, false, p, t, x⟩ := by rw [setB_ne _ _ hdN, setB_same]
  obtain ⟨m3, k3⟩ := m2.rename st.blks.length d ⟨false, false, p, t, x⟩ hN2 rfl (setB_same _ _ _)
  have hfin2 : setB (setB (setB (setB (updF st.blk U) st.blks.length (some ⟨false, false, p, t, x⟩)) d none) st.blks.length none) d (some ⟨false, false, p, t, x⟩) = updF st.blk (U ++ [(d, some ⟨false, false, p, t, x⟩)]) := by
    rw [setB_comm _ _ _ hdN, setB_setB, setB_comm _ _ _ (Ne.symm hdN), setB_setB, setB_id (f := updF st.blk U) (a := st.blks.length) (x := none) hfree, updF_append, updF_one]
  simp only at m3 k3
  rw [hfin2] at m3 k3
  have kk : Kept w' (Tch T0 E1 (setB (updF st.blk U) st.blks.length (some ⟨false, false, p, t, x⟩)) w') w' (Tch T0 ⟨setG E1.g d (E1.g st.blks.length), E1.base⟩ (updF st.blk (U ++ [(d, some ⟨false, false, p, t, x⟩)])) w') := fun i j hj => ⟨rfl, (k3 i j (k2 i j hj).2).2⟩
  have c2 := carries_all (E := E1) (E' := ⟨setG E1.g d (E1.g st.blks.length), E1.base⟩) (w := w') (w' := w') (T := Tch T0 E1 (setB (updF st.blk U) st.blks.length (some ⟨false, false, p, t, x⟩)) w') (T' := Tch T0 ⟨setG E1.g d (E1.g st.blks.length), E1.base⟩ (updF st.blk (U ++ [(d, some ⟨false, false, p, t, x⟩)])) w') (blk := updF st.blk U) d (some ⟨false, false, p, t, x⟩) kk (fun i hi => setG_ne _ _ hi) (fun _ _ => rfl)
  have c1' := carries_all (E := E1) (E' := E1) (w := w') (w' := w') (T := Tch T0 E1 (setB (updF st.blk U) st.blks.length (some ⟨false, false, p, t, x⟩)) w') (T' := Tch T0 E1 (setB (updF st.blk U) st.blks.length (some ⟨false, false, p, t, x⟩)) w') (blk := setB (updF st.blk U) st.blks.length (some ⟨false, false, p, t, x⟩)) st.blks.length none (Kept.refl _ _) (fun _ _ => rfl) (fun _ _ => rfl)
  rw [hfin] at c1'
  have hB : setB (updF st.blk U) d (some ⟨false, false, p, t, x⟩) = updF st.blk (U ++ [(d, some ⟨false, false, p, t, x⟩)]) := by rw [updF_append, updF_one]
  rw [hB] at c2
  exact ⟨⟨setG E1.g d (E1.g st.blks.length), E1.base⟩, m3, Carries.dropHand (hand_free st 0) (by simpa using (hc.trans c1').trans c2), setG_same _ _ _⟩
theorem keepIt {E E1 : Env} {st : St} {a : Act} {w w' : World} {d n : Nat} {U : List (Nat × Option Blk)} {K : List Kill} {p : Perm} {t : Ty} {x : t.den} (hS : Sim w0 F0 T0 E st a w) (hfit : Fits st) (hd : d < st.regs.length)
    (hU : ∀ b o, (b, o) ∈ U → ∃ k, st.blk b = some k)
    (hm : Mem w0 F0 T0 E1 (setB (updF st.blk U) st.blks.length (some ⟨false, false, p, t, x⟩)) w')
    (hc : Carries K E w (Tch T0 E st.blk w) st.blk E1 w' (Tch T0 E1 (setB (updF st.blk U) st.blks.length (some ⟨false, false, p, t, x⟩)) w') (setB (updF st.blk U) st.blks.length (some ⟨false, false, p, t, x⟩))) :
    ∃ E', Sim w0 F0 T0 E' ((keep d n t p x U K).apply (some d) st) (a.put (some d) (if n = 1 then toV t (cells t x (E1.g st.blks.length)) else .tuple (comps n t x (E1.g st.blks.length)).toArray)) w' := by
  unfold keep
  by_cases hn : n = 1
  · rw [if_pos hn, if_pos hn]
    exact holdIt hS hfit hd hU hm hc
  · rw [if_neg hn, if_neg hn]
    obtain ⟨E', m, c, hg⟩ := handTo (d := d) hfit hd hU hm hc
    refine ⟨E', hS.step (blk' := updF st.blk (U ++ [(d, some ⟨false, false, p, t, x⟩)])) (fun c o h => ?_) rfl m c ?_⟩
    · rcases List.mem_append.1 h with h | h
      · obtain ⟨k, hk⟩ := hU c o h; exact blk_lt hk
      · simp at h; rw [hfit.len]; omega
    · exact ⟨⟨false, false, p, t, x⟩, by rw [updF_append, updF_one, setB_same], rfl, by rw [hg]⟩
end
end Go.Rx
namespace Go.Rx
noncomputable section
open Go.RowKit
variable {P : Program} {C : Ctx} {w0 : World} {F0 : List Nat} {T0 : TypeId → Nat → Prop}
theorem givOf_move {st : St} {t : Ty} {p : Perm} {rs : List Reg} {z : t.den × Option Nat × List Reg} (h : givOf st (.move t p) rs = some z) :
    ∃ b rs0 k, ∃ (ht : k.ty = t), st.blk b = some k ∧ rs = .vw b [] :: rs0 ∧ k.pin = false ∧ k.var = false ∧ k.p = p ∧ p.noDead = true ∧ z = (castTo ht k.x, some b, rs0) := by
  cases rs with
  | nil => simp [givOf] at h
  | cons r rs0 => cases r with
    | vw b s => cases s with
      | nil =>
        simp only [givOf] at h
        split at h
        case h_2 => cases h
        rename_i k hk
        split at h
        case isFalse => cases h
        rename_i hc
        split at h
        case isFalse => cases h
        rename_i ht
        exact ⟨b, rs0, k, ht, hk, rfl, hc.1, hc.2.1, hc.2.2.1, hc.2.2.2, (Option.some.inj h).symm⟩
      | cons _ _ => simp [givOf] at h
    | _ => simp [givOf] at h
theorem givOf_ptr {st : St} {t : Ty} {p q : Perm} {rs : List Reg} {z : t.den × Option Nat × List Reg} (h : givOf st (.ptr t p q) rs = some z) :
    ∃ b rs0 k, ∃ (ht : k.ty = t), st.blk b = some k ∧ rs = .ptr b [] :: rs0 ∧ k.var = true ∧ k.p = p ∧ p.noDead = true ∧ z = (castTo ht k.x, some b, rs0) := by
  cases rs with
  | nil => simp [givOf] at h
  | cons r rs0 => cases r with
    | ptr b s => cases s with
      | nil =>
        simp only [givOf] at h
        split at h
        case h_2 => cases h
        rename_i k hk
        split at h
        case isFalse => cases h
        rename_i hc
        split at h
        case isFalse => cases h
        rename_i ht
        exact ⟨b, rs0, k, ht, hk, rfl, hc.1, hc.2.1, hc.2.2, (Option.some.inj h).symm⟩
      | cons _ _ => simp [givOf] at h
    | _ => simp [givOf] at h
theorem gh_nil (t : Ty) (g : Gh) : ghAt t g [] = g := by cases t <;> rfl
theorem ghS_nil (t : Ty) (g y : Gh) : ghSet t g [] y = y := by cases t <;> rfl
theorem lentTys_mem {st : St} {e : TypeId} : ∀ {l : List Nat} {b : Nat} {k : Blk}, b ∈ l → st.blk b = some k → e ∈ rowTys k.ty → e ∈ lentTys st l
  | b0 :: l, b, k, h, hk, he => by
    simp only [lentTys, List.mem_append]
    rcases List.mem_cons.1 h with rfl | h
    · left; rw [hk]; exact he
    · exact .inr (lentTys_mem h hk he)
theorem distB_no {l m : List TypeId} (h : distB l m = true) {e : TypeId} (h1 : e ∈ l) (h2 : e ∈ m) : False := by
  have := List.all_eq_true.1 h e h1
  simp at this
  exact this h2
def GivDoes (E : Env) (st : St) (a : Act) (w : World) (T0 : TypeId → Nat → Prop) (os : List Operand) (g : Giv) (x : g.den) (b : Nat) (rs' : List Reg) : Prop :=
    ∃ vs0 os', os.map a.eval = vs0 ++ os'.map a.eval ∧ rs' = regsOf st os' ∧
      (∀ T1 : TypeId → Nat → Prop, (∀ e k, Tch T0 E st.blk w e k → T1 e k) → GivOk w T1 g x (E.g b) (E.base b) vs0) ∧
      givFeet g x (E.g b) (E.base b) = feet E st.blk b ∧
      ∀ (w' : World) (T' : TypeId → Nat → Prop) (gh' : Gh) (y : g.out), BackOk w' T' g x (E.g b) y gh' (E.base b) → ∃ E1 : Env,
        (∀ i, i ≠ b → updF st.blk (outOf st b g y).1 i = st.blk i) ∧ (∀ i, i ≠ b → E1.g i = E.g i) ∧ E1.base = E.base ∧
        updF st.blk (outOf st b g y).1 st.blks.length = none ∧ feet E1 (updF st.blk (outOf st b g y).1) b = backFeet g y gh' (E.base b) ∧
        (∀ k', updF st.blk (outOf st b g y).1 b = some k' → BlkOk E1 w' T' b k') ∧
        (∀ k', updF st.blk (outOf st b g y).1 b = some k' → ∀ e, e ∈ roTys k'.ty k'.p → e ∈ g.tys) ∧
        (∀ T'' : TypeId → Nat → Prop, Kept w (Tch T0 E st.blk w) w' T'' → Carries (outOf st b g y).2 E w (Tch T0 E st.blk w) st.blk E1 w' T'' (updF st.blk (outOf st b g y).1)) ∧
        (∀ b' o, (b', o) ∈ (outOf st b g y).1 → ∃ k, st.blk b' = some k)
theorem giv_ok {E : Env} {st : St} {a : Act} {w : World} {os : List Operand} (hS : Sim w0 F0 T0 E st a w) : ∀ {g : Giv} {x : g.den} {ob : Option Nat} {rs' : List Reg}, givOf st g (regsOf st os) = some (x, ob, rs') → GivDoes E st a w T0 os g x (ob.getD st.blks.length) rs'
  | .none, x, ob, rs', h => by
    simp only [givOf, Option.some.injEq, Prod.mk.injEq] at h
    obtain ⟨_, rfl, rfl⟩ := h
    have h0 : st.blk st.blks.length = none := hand_free st 0
    refine ⟨[], os, rfl, rfl, fun T1 _ => rfl, ?_, fun w' T' gh' y _ => ⟨E, fun _ _ => rfl, fun _ _ => rfl, rfl, h0, ?_, fun k' hk' => ?_, fun k' hk' => ?_, fun T'' hk => carries_same hk, by simp [outOf]⟩⟩
    · simp only [Option.getD_none, givFeet]; unfold feet; rw [h0]
    · show feet E st.blk st.blks.length = []
      unfold feet; rw [h0]
    · have : st.blk st.blks.length = some k' := hk'
      rw [h0] at this; cases this
    · have : st.blk st.blks.length = some k' := hk'
      rw [h0] at this; cases this
  | .move t p, x, ob, rs', h => by
    obtain ⟨b, rs0, k, ht, hk, hrs, hpin, hvar, hp, hnd, hz⟩ := givOf_move h
    obtain ⟨o1, os', rfl, hr, hrs'⟩ := regsOf_cons hrs
    simp only [Prod.mk.injEq] at hz
    obtain ⟨rfl, rfl, rfl⟩ := hz
    obtain ⟨kv, kpin, kp, kt, kx⟩ := k
    simp only at hpin hvar hp ht
    subst hpin; subst hvar; subst hp; subst ht
    have ho := opd_ok hS o1
    rw [hr] at ho
    obtain ⟨k0, y0, q1, q2, q3, q4⟩ := ho
    rw [hk] at q1; cases q1
    rw [sub_nil] at q2; cases q2
    simp only [gh_nil] at q4
    have hbN : st.blks.length ≠ b := fun e => by have := blk_lt hk; omega
    refine ⟨[a.eval o1], os', rfl, hrs'.symm, fun T1 hT1 => ⟨Holds.agree _ _ _ _ (hS.mem.blks b _ hk).holds (fun _ _ => rfl) (fun e j hj => ⟨rfl, hT1 e j hj⟩), by rw [q4]; rfl⟩, ?_, fun w' T' gh' y _ => ⟨E, fun i hi => ?_, fun _ _ => rfl, rfl, ?_, ?_, fun k' hk' => ?_, fun k' hk' => ?_, fun T'' hkk => ?_, fun b' o h' => ?_⟩⟩
    · simp only [Option.getD_some, givFeet]; rw [feet_of hk]; simp [castTo]
    · simp only [outOf, Option.getD_some] at hi ⊢; rw [updF_one, setB_ne _ _ hi]
    · simp only [outOf, Option.getD_some]; rw [updF_one, setB_ne _ _ hbN]; exact hand_free st 0
    · simp only [outOf, Option.getD_some, backFeet]; unfold feet; rw [updF_one, setB_same]
    · simp only [outOf, Option.getD_some] at hk'; rw [updF_one, setB_same] at hk'; cases hk'
    · simp only [outOf, Option.getD_some] at hk'; rw [updF_one, setB_same] at hk'; cases hk'
    · simp only [outOf, Option.getD_some]; rw [updF_one]; exact carries_all b none hkk (fun _ _ => rfl) (fun _ _ => rfl)
    · simp [outOf] at h'; rw [h'.1]; exact ⟨_, hk⟩
  | .mut t p q, x, ob, rs', h => by simp [givOf] at h
  | .ptr t p q, x, ob, rs', h => by
    obtain ⟨b, rs0, k, ht, hk, hrs, hvar, hp, hnd, hz⟩ := givOf_ptr h
    obtain ⟨o1, os', rfl, hr, hrs'⟩ := regsOf_cons hrs
    simp only [Prod.mk.injEq] at hz
    obtain ⟨rfl, rfl, rfl⟩ := hz
    obtain ⟨kv, kpin, kp, kt, kx⟩ := k
    simp only at hvar hp ht
    subst hvar; subst hp; subst ht
    have ho := opd_ok hS o1
    rw [hr] at ho
    obtain ⟨k0, y0, q1, q2, q3, q5, q4⟩ := ho
    rw [hk] at q1; cases q1
    have hbN : st.blks.length ≠ b := fun e => by have := blk_lt hk; omega
    have hbk := hS.mem.blks b _ hk
    have hadr : addrOf kt (E.g b) [] ⟨E.base b, 0, none⟩ = ⟨E.base b, 0, none⟩ := by cases kt <;> rfl
    refine ⟨[a.eval o1], os', rfl, hrs'.symm, fun T1 hT1 => ⟨Holds.agree _ _ _ _ hbk.holds (fun _ _ => rfl) (fun e j hj => ⟨rfl, hT1 e j hj⟩), hbk.var rfl, by rw [q4, hadr]; rfl⟩, ?_, fun w' T' gh' y hback => ⟨⟨setG E.g b gh', E.base⟩, fun i hi => ?_, fun i hi => setG_ne _ _ hi, rfl, ?_, ?_, fun k' hk' => ?_, fun k' hk' => ?_, fun T'' hkk => ?_, fun b' o h' => ?_⟩⟩
    · simp only [Option.getD_some, givFeet]; rw [feet_of hk]; simp [castTo]
    · simp only [outOf, Option.getD_some] at hi ⊢; rw [updF_one, setB_ne _ _ hi]
    · simp only [outOf, Option.getD_some]; rw [updF_one, setB_ne _ _ hbN]; exact hand_free st 0
    · simp only [outOf, Option.getD_some, backFeet]; unfold feet; rw [updF_one, setB_same]; simp
    · simp only [outOf, Option.getD_some] at hk' ⊢; rw [updF_one, setB_same] at hk'; cases hk'
      exact ⟨by simp only [setG_same]; exact hback.1, fun _ => by simp only [setG_same]; exact hback.2⟩
    · simp only [outOf, Option.getD_some] at hk'; rw [updF_one, setB_same] at hk'; cases hk'; exact fun e he => he
    · simp only [outOf, Option.getD_some]; rw [updF_one]
      have hpt : pinOf st b = kpin := by simp [pinOf, hk]
      rw [hpt]
      exact carries_at (E := E) (E' := ⟨setG E.g b gh', E.base⟩) (k := ⟨true, kpin, kp, kt, kx⟩) (s := []) (y := ⟨kt, kp, kx⟩) (q0 := q) (v0 := y) (r := (q, y)) (gz := gh') hk (sub_nil _ _ _) (inR_nil _ _) (by cases kt <;> simp [put, castTo]) hkk (by simp only [ghS_nil]) rfl
    · simp [outOf] at h'; rw [h'.1]; exact ⟨_, hk⟩
theorem do_old {E : Env} {st : St} {a : Act} {w : World} {o : Oper} {c : Call} {d : Nat} {f : Operand} {g : Nat} {tl : Option Nat} {os : List Operand} {sp : Spec} {pl : Plan} [Laid P] (hT0 : T0Ok P w0 F0 T0) (hsat : SatT P g tl sp) (hS : Sim w0 F0 T0 E st a w) (hfit : Fits st) (hd : d < st.regs.length) (hdst : o.dst = some d)
    (ho : o.op = .call c) (hc : c.callee = .value f) (hf : st.opd f = .fn g) (hargsT : c.args.toList.map a.eval = addT (os.map a.eval) tl) (hp : callOld st d sp (regsOf st os) = some pl) : PlanDoes P w0 F0 T0 o st a w pl := by
  unfold callOld at hp
  split at hp
  case h_2 => cases hp
  rename_i gv hgv
  obtain ⟨x, ob, rs'⟩ := gv
  simp only at hp
  split at hp
  case isFalse => cases hp
  rename_i hcond
  split at hp
  case h_2 => cases hp
  rename_i xs hxs
  cases hp
  intro r e hr he
  cases he
  generalize hb : ob.getD st.blks.length = b at *
  have hgiv := giv_ok hS hgv
  rw [hb] at hgiv
  obtain ⟨vs0, os', hos, rfl, hgo, hgf, hback⟩ := hgiv
  simp only [Bool.and_eq_true, Bool.or_eq_true, Bool.not_eq_true', List.isEmpty_iff] at hcond
  obtain ⟨hfree, hlb⟩ := hcond
  have hlb' : b ∉ lent (regsOf st os') := by simpa using hlb
  let T1 : TypeId → Nat → Prop := fun e k => Tch T0 E st.blk w e k ∨ ∃ b', b' ∈ lent (regsOf st os') ∧ k ∈ feet E st.blk b' ∧ ∃ kb, st.blk b' = some kb ∧ e ∈ rowTys kb.ty
  have hargs := args_ok (T1 := T1) hS (fun e k hk => .inl hk) sp.args os' xs hxs (fun b' hb' kb hkb e he k hk => .inr ⟨b', hb', hk, kb, hkb, he⟩)
  obtain ⟨fn, cd, hfn, hname, hbody⟩ := hsat.1
  have hfx := opd_ok hS f
  rw [hf] at hfx
  have hfx' : a.eval f = .func (.func g) #[] #[] := hfx
  have hnd : (feet E st.blk b).Nodup := hS.mem.sep.nodup b
  have hcalls := hsat.2 w T1 x (E.g b) (E.base b) xs vs0 (os'.map a.eval) r (hgo T1 (fun e k hk => .inl hk)) hargs (by rw [hgf]; exact hnd) (fun k hk => by rw [hgf] at hk; exact hS.mem.feet_lt hk)
    (fun e k hk => by
      rw [hgf]
      rcases hk with hk | ⟨b', hb', hk, _⟩
      · exact ⟨hk.2.1, fun h => hk.2.2 ⟨b, h⟩⟩
      · refine ⟨hS.mem.feet_lt hk, fun h => hlb' ?_⟩
        rw [← hS.mem.sep.apart b' b k hk h]; exact hb') (hT0.laid hS.mem fun e k hk => .inl hk) hr
  refine .inr (.inr ⟨g, (addT (vs0 ++ os'.map a.eval) tl).toArray, ?_, hcalls.mono fun e w' => ?_⟩)
  · have hmap : (c.args.map a.eval) = (addT (vs0 ++ os'.map a.eval) tl).toArray := by rw [← hos, ← hargsT, ← Array.toList_map]
    simp only [execOp, ho, resolve, hc, hfx', Deferred.ofValue, Sem.run_bind, Sem.run_pure, Result.andThen_ok, invoke]
    simp only [Array.empty_append, Array.append_empty, hmap]
    exact MuLone.run_callFunc_enter hfn hname hbody _ w
  · rintro ⟨v, rfl, g', gh', T', hfr, hv, hres, hbk, hnd', hown, hT'⟩
    rw [hgf] at hfr
    obtain ⟨E1, e1, e2, e3, e4, e5, e6, e7, e8, e9⟩ := hback w' T' gh' r.2 hbk
    rw [← e5] at hnd' hown hT'
    rw [hgf] at hown hT'
    obtain ⟨m1, k1⟩ := hS.mem.called (N := st.blks.length) (T1 := T1) (T' := T') (g' := g') hT0.1 (hand_free st 0) e4 e1 e2 e3 hfr hres hnd' hown e6 hT' (by
      rintro e he k (hk | ⟨b', hb', _, kb, hkb, hr⟩)
      · exact hk
      · refine (distB_no hfree ?_ (lentTys_mem hb' hkb hr)).elim
        rcases he with he | ⟨k', hk', he⟩
        · exact List.mem_append_left _ he
        · exact List.mem_append_right _ (e7 k' hk' e he))
    have hc1 := e8 _ k1
    have hc2 := carries_hand (E := E1) (E' := ⟨setG E1.g st.blks.length g', E1.base⟩) (w := w') (w' := w') (blk := updF st.blk (outOf st b sp.giv r.2).1) (h := st.blks.length) (o := some ⟨false, false, sp.p, sp.res, r.1⟩) e4 (Kept.refl w' (Tch T0 ⟨setG E1.g st.blks.length g', E1.base⟩ (setB (updF st.blk (outOf st b sp.giv r.2).1) st.blks.length (some ⟨false, false, sp.p, sp.res, r.1⟩)) w')) (fun i hi => setG_ne _ _ hi) (fun _ _ => rfl)
    have hc3 := hc1.trans hc2
    rw [List.append_nil] at hc3
    obtain ⟨E', hE⟩ := keepIt (d := d) (n := sp.n) hS hfit hd e9 m1 hc3
    simp only [setG_same] at hE
    rw [← hv] at hE
    rw [← hdst] at hE
    exact ⟨v, E', rfl, hE⟩
theorem sub_nodup : ∀ (t : Ty) (p : Perm) (x : t.den) (g : Gh) (s : Path) (y : Sub), inR t x s → sub t p x s = some y → (foot t p x g).Nodup → (foot y.ty y.p y.x (ghAt t g s)).Nodup
  | t, p, x, g, [], y, _, hs, hn => by
    have := sub_inv hs
    subst this
    rw [gh_nil]; exact hn
  | .prod a b, p, x, g, .fst :: s, y, hr, hs, hn => by
    simp only [inR] at hr; simp only [sub] at hs; simp only [foot] at hn
    exact sub_nodup a _ _ g.l s y hr hs (List.nodup_append.1 hn).1
  | .prod a b, p, x, g, .snd :: s, y, hr, hs, hn => by
    simp only [inR] at hr; simp only [sub] at hs; simp only [foot] at hn
    exact sub_nodup b _ _ g.r s y hr hs (List.nodup_append.1 hn).2.1
  | .arr n t, p, xs, g, .idx i :: s, y, hr, hs, hn => by
    simp only [inR] at hr; simp only [sub] at hs
    exact sub_nodup t .ro _ (g.at i) s y hr.2 hs (by rw [foot_ro]; simp)
  | .slice e t, .own q, xs, g, .idx i :: s, y, hr, hs, hn => by
    simp only [inR] at hr; simp only [sub] at hs; simp only [foot] at hn
    exact sub_nodup t q _ (g.at i) s y hr.2 hs (nodup_catF_at (List.nodup_append.1 hn).2.1 i hr.1)
  | .slice e t, .hole z0 q, xs, g, .idx i :: s, y, hr, hs, hn => by
    simp only [inR] at hr; simp only [sub] at hs; simp only [foot] at hn
    exact sub_nodup t _ _ (g.at i) s y hr.2 hs (nodup_catF_at (List.nodup_append.1 hn).2.1 i hr.1)
  | .int _, _, _, _, _ :: _, _, _, hs, _ | .bool, _, _, _, _ :: _, _, _, hs, _ | .str, _, _, _, _ :: _, _, _, hs, _ | .err, _, _, _, _ :: _, _, _, hs, _ => by simp [sub] at hs
  | .prod _ _, _, _, _, .idx _ :: _, _, _, hs, _ | .arr _ _, _, _, _, .fst :: _, _, _, hs, _ | .arr _ _, _, _, _, .snd :: _, _, _, hs, _ => by simp [sub] at hs
  | .slice _ _, .own _, _, _, .fst :: _, _, _, hs, _ | .slice _ _, .own _, _, _, .snd :: _, _, _, hs, _ | .slice _ _, .hole _ _, _, _, .fst :: _, _, _, hs, _ | .slice _ _, .hole _ _, _, _, .snd :: _, _, _, hs, _ => by simp [sub] at hs
  | .slice _ _, .ro, _, _, _ :: _, _, _, hs, _ | .slice _ _, .dead, _, _, _ :: _, _, _, hs, _ | .slice _ _, .pr _ _, _, _, _ :: _, _, _, hs, _ => by simp [sub] at hs
theorem mut_mem {E : Env} {st : St} {a : Act} {w w' : World} {b : Nat} {k : Blk} {s : Path} {yt : Ty} {yp q : Perm} {yx : yt.den} {res : Ty} {pr : Perm} {x0 : res.den} {x' : yt.den} {z : Perm × k.ty.den} {g' gh' : Gh} {T' : TypeId → Nat → Prop} (hT0 : ∀ (e : TypeId) k, w0.heap.size ≤ k ∨ k ∈ F0 → T0 e k)
    (hS : Sim w0 F0 T0 E st a w) (hk : st.blk b = some k) (hy : sub k.ty k.p k.x s = some ⟨yt, yp, yx⟩) (q3 : inR k.ty k.x s) (hz' : put k.ty k.p k.x s yt q x' = some z)
    (hfr : Frame w (foot yt yp yx (ghAt k.ty (E.g b) s)) w') (hres : Holds w' T' res pr x0 g') (hbh : Holds w' T' yt q x' gh') (hbc : cells yt x' gh' = cells yt yx (ghAt k.ty (E.g b) s)) (hnd' : (foot res pr x0 g' ++ foot yt q x' gh').Nodup)
    (hown : ∀ k', k' ∈ foot res pr x0 g' ++ foot yt q x' gh' → k' < w'.heap.size ∧ (w.heap.size ≤ k' ∨ k' ∈ foot yt yp yx (ghAt k.ty (E.g b) s)))
    (hT' : ∀ e k', T' e k' → (Tch T0 E st.blk w e k' ∨ k' ∈ foot yt yp yx (ghAt k.ty (E.g b) s) ∨ w.heap.size ≤ k') ∧ k' < w'.heap.size ∧ k' ∉ foot res pr x0 g' ++ foot yt q x' gh') :
    ∃ E1 : Env, Mem w0 F0 T0 E1 (setB (updF st.blk [(b, some ⟨k.var, k.pin, z.1, k.ty, z.2⟩)]) st.blks.length (some ⟨false, false, pr, res, x0⟩)) w' ∧
      Carries [.inner b k.ty s] E w (Tch T0 E st.blk w) st.blk E1 w' (Tch T0 E1 (setB (updF st.blk [(b, some ⟨k.var, k.pin, z.1, k.ty, z.2⟩)]) st.blks.length (some ⟨false, false, pr, res, x0⟩)) w') (setB (updF st.blk [(b, some ⟨k.var, k.pin, z.1, k.ty, z.2⟩)]) st.blks.length (some ⟨false, false, pr, res, x0⟩)) ∧ E1.g st.blks.length = g' := by
  have hbok := hS.mem.blks b _ hk
  have hsubf := sub_foot (w := w) (T := Tch T0 E st.blk w) k.ty k.p k.x (E.g b) s _ q3 hy
  have hfn := foot_nodup hS.mem hk
  have hfeet : ∀ j, j ∈ foot yt yp yx (ghAt k.ty (E.g b) s) → j ∈ feet E st.blk b := fun j hj => mem_feet_of_foot hk (hsubf j hj)
  have hkeep : ∀ e j, Tch T0 E st.blk w e j → w'.heap[j]? = w.heap[j]? := fun e j hj => hfr.block j hj.2.1 (fun h => hj.2.2 ⟨b, hfeet j h⟩)
  let T2 : TypeId → Nat → Prop := fun e j => T' e j ∨ Tch T0 E st.blk w e j
  have hk2 : Kept w (Tch T0 E st.blk w) w' T2 := fun e j hj => ⟨hkeep e j hj, .inr hj⟩
  obtain ⟨n1, n2, L, R, e1, e2⟩ := put_here hk2 k.ty k.p k.x (E.g b) s ⟨yt, yp, yx⟩ q x' gh' z hbok.holds q3 hy hz' hfn (fun j hj hn => hfr.block j (hS.mem.feet_lt (mem_feet_of_foot hk hj)) hn) (Holds.agree _ _ _ _ hbh (fun _ _ => rfl) (fun _ j hj => ⟨rfl, .inl hj⟩)) hbc
  let E1 : Env := ⟨setG E.g b (ghSet k.ty (E.g b) s gh'), E.base⟩
  let B1 : Nat → Option Blk := setB st.blk b (some ⟨k.var, k.pin, z.1, k.ty, z.2⟩)
  have hE1b : E1.g b = ghSet k.ty (E.g b) s gh' := setG_same _ _ _
  have hbN : st.blks.length ≠ b := fun e => by have := blk_lt hk; omega
  have hB1N : B1 st.blks.length = none := by
    show setB _ _ _ _ = none
    rw [setB_ne _ _ hbN]; exact hand_free st 0
  have hfe1 : feet E1 B1 b = (if k.var then [E.base b] else []) ++ (L ++ foot yt q x' gh' ++ R) := by
    rw [← e2]
    unfold feet
    rw [show B1 b = some ⟨k.var, k.pin, z.1, k.ty, z.2⟩ from setB_same _ _ _]
    simp only [hE1b]; rfl
  have hfe0 : feet E st.blk b = (if k.var then [E.base b] else []) ++ (L ++ foot yt yp yx (ghAt k.ty (E.g b) s) ++ R) := by rw [feet_of hk, e1]
  have hold : ∀ j, j ∈ feet E1 B1 b → (j ∈ foot yt q x' gh') ∨ (j ∈ feet E st.blk b ∧ j ∉ foot yt yp yx (ghAt k.ty (E.g b) s)) := fun j hj => by
    rw [hfe1] at hj
    have hndb := hS.mem.sep.nodup b
    rw [hfe0] at hndb
    rw [hfe0]
    simp only [List.mem_append] at hj ⊢
    rcases hj with hj | (hj | hj) | hj
    · refine .inr ⟨.inl hj, fun hin => ?_⟩
      exact (List.nodup_append.1 hndb).2.2 j hj j (by simp [hin]) rfl
    · have := (List.nodup_append.1 (List.nodup_append.1 (List.nodup_append.1 hndb).2.1).1).2.2
      exact .inr ⟨.inr (.inl (.inl hj)), fun hin => this j hj j hin rfl⟩
    · exact .inl hj
    · have := (List.nodup_append.1 (List.nodup_append.1 hndb).2.1).2.2
      exact .inr ⟨.inr (.inr hj), fun hin => this j (by simp [hin]) j hj rfl⟩
  have hnd1 : (feet E1 B1 b).Nodup := by
    have hndb := hS.mem.sep.nodup b
    rw [hfe0] at hndb
    rw [hfe1]
    rw [List.nodup_append] at hndb
    obtain ⟨a1, a2, a3⟩ := hndb
    rw [List.nodup_append] at a2
    obtain ⟨b1, b2, b3⟩ := a2
    rw [List.nodup_append] at b1
    obtain ⟨c1, c2, c3⟩ := b1
    have hny : (foot yt q x' gh').Nodup := (List.nodup_append.1 hnd').2.1
    have hnew : ∀ j, j ∈ foot yt q x' gh' → j ∈ foot yt yp yx (ghAt k.ty (E.g b) s) ∨ w.heap.size ≤ j := fun j hj => (hown j (List.mem_append_right _ hj)).2.symm
    have hlt : ∀ j, j ∈ feet E st.blk b → j < w.heap.size := fun j hj => hS.mem.feet_lt hj
    rw [hfe0] at hlt
    simp only [List.mem_append] at hlt
    rw [List.nodup_append]
    refine ⟨a1, ?_, fun j hj j' hj' e => ?_⟩
    · rw [List.nodup_append]
      refine ⟨?_, b2, fun j hj j' hj' e => ?_⟩
      · rw [List.nodup_append]
        refine ⟨c1, hny, fun j hj j' hj' e => ?_⟩
        subst e
        rcases hnew j hj' with h | h
        · exact c3 j hj j h rfl
        · have := hlt j (.inr (.inl (.inl hj))); omega
      · subst e
        rcases List.mem_append.1 hj with hj | hj
        · exact b3 j (by simp [hj]) j hj' rfl
        · rcases hnew j hj with h | h
          · exact b3 j (by simp [h]) j hj' rfl
          · have := hlt j (.inr (.inr hj')); omega
    · subst e
      simp only [List.mem_append] at hj'
      rcases hj' with (hj' | hj') | hj'
      · exact a3 j hj j (by simp [hj']) rfl
      · rcases hnew j hj' with h | h
        · exact a3 j hj j (by simp [h]) rfl
        · have := hlt j (.inl hj); omega
      · exact a3 j hj j (by simp [hj']) rfl
  obtain ⟨m1, k1⟩ := hS.mem.called (E1 := E1) (blk1 := B1) (N := st.blks.length) (T1 := Tch T0 E st.blk w) (T' := T2) (g' := g') (b := b) (w' := w') (res := res) (p := pr) (x := x0) hT0 (hand_free st 0) hB1N (fun i hi => setB_ne _ _ hi) (fun i hi => setG_ne _ _ hi) rfl
    ⟨hfr.os, hfr.tape, hfr.output, hfr.size, fun j hj hn => hfr.block j hj (fun h => hn (hfeet j h))⟩ (Holds.agree _ _ _ _ hres (fun _ _ => rfl) (fun _ j hj => ⟨rfl, .inl hj⟩))
    (by
      rw [List.nodup_append]
      refine ⟨(List.nodup_append.1 hnd').1, hnd1, fun j hj j' hj' e => ?_⟩
      subst e
      rcases hold j hj' with h | ⟨h, h2⟩
      · exact (List.nodup_append.1 hnd').2.2 j hj j h rfl
      · rcases (hown j (List.mem_append_left _ hj)).2 with h3 | h3
        · have := hS.mem.feet_lt h; omega
        · exact h2 h3)
    (fun j hj => by
      rcases List.mem_append.1 hj with hj | hj
      · obtain ⟨g1, g2⟩ := hown j (List.mem_append_left _ hj)
        exact ⟨g1, g2.imp id (hfeet j)⟩
      · rcases hold j hj with h | ⟨h, _⟩
        · obtain ⟨g1, g2⟩ := hown j (List.mem_append_right _ h)
          exact ⟨g1, g2.imp id (hfeet j)⟩
        · exact ⟨Nat.lt_of_lt_of_le (hS.mem.feet_lt h) hfr.size, .inr h⟩)
    (fun k' hk' => by
      rw [show B1 b = some ⟨k.var, k.pin, z.1, k.ty, z.2⟩ from setB_same _ _ _] at hk'
      cases hk'
      refine ⟨by rw [hE1b]; exact n1, fun hvar => ?_⟩
      obtain ⟨e0, he0⟩ := hbok.var hvar
      refine ⟨e0, ?_⟩
      show w'.heap[E.base b]? = _
      rw [hE1b, n2, ← he0]
      have hb0 := base_mem_feet (E := E) hk hvar
      refine hfr.block _ (hS.mem.feet_lt hb0) (fun hin => ?_)
      have hndb := hS.mem.sep.nodup b
      rw [feet_of hk, if_pos hvar] at hndb
      exact (List.nodup_append.1 hndb).2.2 _ (by simp) _ (hsubf _ hin) rfl)
    (fun e j hj => by
      rcases hj with hj | hj
      · obtain ⟨g1, g2, g3⟩ := hT' e j hj
        refine ⟨?_, g2, fun hin => ?_⟩
        · rcases g1 with h | h | h
          · exact .inl h
          · exact .inr (.inl (hfeet j h))
          · exact .inr (.inr h)
        · rcases List.mem_append.1 hin with h | h
          · exact g3 (List.mem_append_left _ h)
          · rcases hold j h with h | ⟨h, h2⟩
            · exact g3 (List.mem_append_right _ h)
            · rcases g1 with h1 | h1 | h1
              · exact h1.2.2 ⟨b, h⟩
              · exact h2 h1
              · have := hS.mem.feet_lt h; omega
      · refine ⟨.inl hj, Nat.lt_of_lt_of_le hj.2.1 hfr.size, fun hin => ?_⟩
        rcases List.mem_append.1 hin with h | h
        · rcases (hown j (List.mem_append_left _ h)).2 with h3 | h3
          · have := hj.2.1; omega
          · exact hj.2.2 ⟨b, hfeet j h3⟩
        · rcases hold j h with h | ⟨h, _⟩
          · rcases (hown j (List.mem_append_right _ h)).2 with h3 | h3
            · have := hj.2.1; omega
            · exact hj.2.2 ⟨b, hfeet j h3⟩
          · exact hj.2.2 ⟨b, h⟩)
    (fun _ _ j hj => hj)
  have hc1 := carries_mut (E := E) (E' := E1) (blk := st.blk) k1 hk hy q3 hz' hbc rfl rfl
  have hc2 := carries_hand (E := E1) (E' := ⟨setG E1.g st.blks.length g', E1.base⟩) (w := w') (w' := w') (blk := B1) (h := st.blks.length) (o := some ⟨false, false, pr, res, x0⟩) hB1N (Kept.refl w' (Tch T0 ⟨setG E1.g st.blks.length g', E1.base⟩ (setB B1 st.blks.length (some ⟨false, false, pr, res, x0⟩)) w')) (fun i hi => setG_ne _ _ hi) (fun _ _ => rfl)
  have hc3 := hc1.trans hc2
  rw [List.append_nil] at hc3
  have hupd : updF st.blk [(b, some ⟨k.var, k.pin, z.1, k.ty, z.2⟩)] = B1 := updF_one _ _ _
  rw [← hupd] at m1 hc3
  exact ⟨_, m1, hc3, setG_same _ _ _⟩
theorem do_mut {E : Env} {st : St} {a : Act} {w : World} {o : Oper} {c : Call} {d : Nat} {f : Operand} {g : Nat} {t : Ty} {p q : Perm} {args : List Ty} {res : Ty} {n : Nat} {pr : Perm} {F : t.den → ADen args → Option (res.den × t.den)} {tl : Option Nat} {os : List Operand} {pl : Plan} [Laid P] (hT0 : T0Ok P w0 F0 T0)
    (hsat : SatT P g tl ⟨.mut t p q, args, res, n, pr, F⟩) (hS : Sim w0 F0 T0 E st a w) (hfit : Fits st) (hd : d < st.regs.length) (hdst : o.dst = some d)
    (ho : o.op = .call c) (hc : c.callee = .value f) (hf : st.opd f = .fn g) (hargsT : c.args.toList.map a.eval = addT (os.map a.eval) tl) (hp : callMut st d t p q args res n pr F (regsOf st os) = some pl) : PlanDoes P w0 F0 T0 o st a w pl := by
  unfold callMut at hp
  split at hp
  case h_2 => cases hp
  rename_i b s rs' hrs
  split at hp
  case h_2 => cases hp
  rename_i k hk
  split at hp
  case h_2 => cases hp
  rename_i y hy
  split at hp
  case isFalse => cases hp
  rename_i hcond
  obtain ⟨yt, yp, yx⟩ := y
  simp only at hcond
  obtain ⟨rfl, rfl, hnd, hle⟩ := hcond
  split at hp
  case h_2 => cases hp
  rename_i xs hxs
  cases hp
  intro r e hr he
  simp only at he
  split at he
  case h_2 => cases he
  rename_i z hz
  cases he
  obtain ⟨o1, os', hos, hr1, hrs'⟩ := regsOf_cons hrs
  subst hrs'
  have ho1 := opd_ok hS o1
  rw [hr1] at ho1
  obtain ⟨k1, y1, q1, q2, q3, q4⟩ := ho1
  rw [hk] at q1; cases q1
  rw [hy] at q2; cases q2
  simp only at q4
  have hle' : lent (regsOf st os') = [] := List.isEmpty_iff.1 hle
  have hbok := hS.mem.blks b _ hk
  have hsubh := sub_holds k.ty k.p k.x (E.g b) s _ hbok.holds q3 hy
  have hsubf := sub_foot (w := w) (T := Tch T0 E st.blk w) k.ty k.p k.x (E.g b) s _ q3 hy
  have hfn := foot_nodup hS.mem hk
  have hfeet : ∀ j, j ∈ foot yt yp yx (ghAt k.ty (E.g b) s) → j ∈ feet E st.blk b := fun j hj => mem_feet_of_foot hk (hsubf j hj)
  have hndy : (foot yt yp yx (ghAt k.ty (E.g b) s)).Nodup := sub_nodup k.ty k.p k.x (E.g b) s _ q3 hy hfn
  have hargs := args_ok (T1 := Tch T0 E st.blk w) hS (fun _ k hk => hk) args os' xs hxs (fun b' hb' _ _ _ _ k hk => by rw [hle'] at hb'; cases hb')
  obtain ⟨fn, cd, hfnn, hname, hbody⟩ := hsat.1
  have hfx := opd_ok hS f
  rw [hf] at hfx
  have hfx' : a.eval f = .func (.func g) #[] #[] := hfx
  have hcalls := hsat.2 w (Tch T0 E st.blk w) yx (ghAt k.ty (E.g b) s) 0 xs [a.eval o1] (os'.map a.eval) r ⟨hsubh, by rw [q4]⟩ hargs hndy (fun j hj => hS.mem.feet_lt (hfeet j hj))
    (fun _ j hj => ⟨hj.2.1, fun h => hj.2.2 ⟨b, hfeet j h⟩⟩) (hT0.laid hS.mem fun _ k hk => hk) hr
  refine .inr (.inr ⟨g, (addT ([a.eval o1] ++ os'.map a.eval) tl).toArray, ?_, hcalls.mono fun e w' => ?_⟩)
  · have hmap : (c.args.map a.eval) = (addT ([a.eval o1] ++ os'.map a.eval) tl).toArray := by
      have : c.args.toList.map a.eval = addT ([a.eval o1] ++ os'.map a.eval) tl := by rw [hargsT, hos]; rfl
      rw [← this, ← Array.toList_map]
    simp only [execOp, ho, resolve, hc, hfx', Deferred.ofValue, Sem.run_bind, Sem.run_pure, Result.andThen_ok, invoke]
    simp only [Array.empty_append, Array.append_empty, hmap]
    exact MuLone.run_callFunc_enter hfnn hname hbody _ w
  · rintro ⟨v, rfl, g', gh', T', hfr, hv, hres, ⟨hbh, hbc⟩, hnd', hown, hT'⟩
    simp only [backFeet, givFeet] at hnd' hown hT' hfr
    obtain ⟨E1, m1, hc3, hg1⟩ := mut_mem hT0.1 hS hk hy q3 hz hfr hres hbh hbc hnd' hown hT'
    obtain ⟨E', hE⟩ := keepIt (d := d) (n := n) hS hfit hd (fun b' o' h' => by simp at h'; rw [h'.1]; exact ⟨_, hk⟩) m1 hc3
    rw [hg1] at hE
    simp only at hv
    rw [← hv] at hE
    rw [← hdst] at hE
    exact ⟨v, E', rfl, hE⟩
theorem do_call {E : Env} {st : St} {a : Act} {w : World} {o : Oper} {c : Call} {d : Nat} {f : Operand} {g : Nat} {sp : Spec} {pl : Plan} [Laid P] (hT0 : T0Ok P w0 F0 T0) (hsat : Sat P g sp) (hS : Sim w0 F0 T0 E st a w) (hfit : Fits st) (hd : d < st.regs.length) (hdst : o.dst = some d)
    (ho : o.op = .call c) (hc : c.callee = .value f) (hf : st.opd f = .fn g) (hp : callPlan st d sp (regsOf st c.args.toList) = some pl) : PlanDoes P w0 F0 T0 o st a w pl := by
  obtain ⟨gv, args, res, n, pr, F⟩ := sp
  cases gv with
  | «mut» t p q => exact do_mut (tl := none) hT0 hsat hS hfit hd hdst ho hc hf rfl hp
  | none => exact do_old (tl := none) hT0 hsat hS hfit hd hdst ho hc hf rfl hp
  | move t p => exact do_old (tl := none) hT0 hsat hS hfit hd hdst ho hc hf rfl hp
  | ptr t p q => exact do_old (tl := none) hT0 hsat hS hfit hd hdst ho hc hf rfl hp
theorem lastFn_ok {E : Env} {st : St} {a : Act} {w : World} (hS : Sim w0 F0 T0 E st a w) : ∀ (os : List Operand) (k : Nat) (l : List Reg), lastFn (regsOf st os) = some (k, l) → ∃ os', l = regsOf st os' ∧ os.map a.eval = addT (os'.map a.eval) (some k)
  | [], k, l, h => by simp [regsOf, lastFn] at h
  | o :: os, k, l, h => by
    simp only [regsOf, lastFn] at h
    split at h
    · rename_i k' l' hl
      cases h
      obtain ⟨os', rfl, e⟩ := lastFn_ok hS os _ _ hl
      exact ⟨o :: os', rfl, by simp only [List.map_cons, e]; rfl⟩
    · split at h
      · rename_i k' hr hrs
        cases h
        cases os with
        | nil =>
          have ho := opd_ok hS o
          rw [hr] at ho
          have ho' : a.eval o = .func (.func k) #[] #[] := ho
          exact ⟨[], rfl, by simp [addT, ho']⟩
        | cons x y => simp [regsOf] at hrs
      · cases h
theorem do_fn {E : Env} {st : St} {a : Act} {w : World} {o : Oper} {c : Call} {d : Nat} {f : Operand} {g : Nat} {pl : Plan} [Laid P] (hT0 : T0Ok P w0 F0 T0) (hsat : ∀ n sp, C.fn n = some sp → SatT P (keyF n) (keyT n) sp) (hS : Sim w0 F0 T0 E st a w) (hfit : Fits st) (hd : d < st.regs.length) (hdst : o.dst = some d)
    (ho : o.op = .call c) (hc : c.callee = .value f) (hf : st.opd f = .fn g) (hp : callFn C st d g (regsOf st c.args.toList) = some pl) : PlanDoes P w0 F0 T0 o st a w pl := by
  unfold callFn at hp
  split at hp
  case h_2 => cases hp
  rename_i k l hl
  cases hk : Nat.blt k 65536 with
  | false => rw [hk] at hp; cases hp
  | true =>
  rw [hk] at hp
  simp only [cond_true] at hp
  obtain ⟨os', rfl, hargs⟩ := lastFn_ok hS _ _ _ hl
  have hk' : k < 65536 := by simp [Nat.blt] at hk; omega
  have e0 : Nat.blt (65536 * (g + 1) + k) 65536 = false := by
    cases h : Nat.blt (65536 * (g + 1) + k) 65536 with
    | false => rfl
    | true => simp [Nat.blt] at h; omega
  have e1 : keyF (65536 * (g + 1) + k) = g := by unfold keyF; rw [e0]; simp only [cond_false]; omega
  have e2 : keyT (65536 * (g + 1) + k) = some k := by unfold keyT; rw [e0]; simp only [cond_false]; congr 1; omega
  split at hp
  case h_3 => cases hp
  all_goals
    rename_i hsp
    have h1 := hsat _ _ hsp
    rw [e1, e2] at h1
    first | exact do_old hT0 h1 hS hfit hd hdst ho hc hf hargs hp | exact do_mut hT0 h1 hS hfit hd hdst ho hc hf hargs hp
theorem flat_ro : ∀ (t : Ty), t.flat = true → roTys t .ro = []
  | .int _, _ | .bool, _ | .str, _ | .err, _ => rfl
  | .prod a b, h => by
    simp only [Ty.flat, Bool.and_eq_true] at h
    simp only [roTys]
    rw [show Perm.l .ro = .ro from rfl, show Perm.r .ro = .ro from rfl, flat_ro a h.1, flat_ro b h.2]; rfl
  | .arr _ t, h => by
    simp only [Ty.flat] at h
    simp only [roTys]; exact flat_ro t h
  | .slice _ _, h => by simp [Ty.flat] at h
theorem caps_ok {E : Env} {st : St} {a : Act} {w : World} {T1 : TypeId → Nat → Prop} (hS : Sim w0 F0 T0 E st a w) (hT1 : ∀ e k, Tch T0 E st.blk w e k → T1 e k) : ∀ (l : List Ty) (bs : List Nat) (xs : ADen l), capsOf st l bs = some xs → (∀ b, b ∈ bs → ∃ k, st.blk b = some k ∧ k.var = true) →
    (∀ b, b ∈ bs → ∀ e k, k ∈ feet E st.blk b → T1 e k) → CapsOk w T1 l xs (bs.map fun b => Value.pointer (some ⟨E.base b, 0, none⟩))
  | [], [], xs, _, _, _ => rfl
  | [], _ :: _, xs, h, _, _ => by simp [capsOf] at h
  | _ :: _, [], xs, h, _, _ => by simp [capsOf] at h
  | t :: l, b :: bs, xs, h, hv, hf => by
    simp only [capsOf] at h
    split at h
    case h_2 => cases h
    rename_i k hk
    split at h
    case isFalse => cases h
    rename_i hc
    split at h
    case h_2 => cases h
    rename_i ys hys
    cases h
    obtain ⟨k', hk', hvar⟩ := hv b (by simp)
    rw [hk] at hk'; cases hk'
    obtain ⟨kv, kp, kq, kt, kx⟩ := k
    simp only at hc hvar
    obtain ⟨rfl, hnd⟩ := hc
    subst hvar
    have hb := hS.mem.blks b _ hk
    obtain ⟨e, he⟩ := hb.var rfl
    have hsz : (cells kt kx (E.g b)).length = kt.sz := length_cells _ _ _
    refine ⟨_, _, rfl, ⟨E.g b, ⟨E.base b, 0, none⟩, rfl, rfl, holds_lent hT1 _ _ _ _ hb.holds hnd (fun e' _ j hj => hf b (by simp) e' j (mem_feet_of_foot hk hj)), ?_, e, hf b (by simp) e _ (by rw [feet_of hk]; simp)⟩, caps_ok hS hT1 l bs ys hys (fun b' hb' => hv b' (by simp [hb'])) (fun b' hb' => hf b' (by simp [hb']))⟩
    have hm := (place_mem hS.mem hk (sub_nil _ _ _) (inR_nil _ _) (.inl rfl)).1
    have e0 : addrOf kt (E.g b) [] ⟨E.base b, 0, none⟩ = ⟨E.base b, 0, none⟩ := by cases kt <;> rfl
    simp only [e0, gh_nil] at hm
    exact hm
theorem do_clo {E : Env} {st : St} {a : Act} {w : World} {o : Oper} {c : Call} {d : Nat} {f : Operand} {g : Nat} {bs : List Nat} {sp : CSpec} {pl : Plan} [Laid P] (hT0 : T0Ok P w0 F0 T0) (hsat : SatC P g sp) (hS : Sim w0 F0 T0 E st a w) (hfit : Fits st) (hd : d < st.regs.length) (hdst : o.dst = some d)
    (ho : o.op = .call c) (hc : c.callee = .value f) (hf : st.opd f = .clo g bs) (hp : callClo st d sp bs (regsOf st c.args.toList) = some pl) : PlanDoes P w0 F0 T0 o st a w pl := by
  unfold callClo at hp
  split at hp
  case isFalse => cases hp
  rename_i hflat
  split at hp
  case h_2 => cases hp
  rename_i xs ys hxs hys
  cases hp
  intro r e hr he
  cases he
  have hfx := opd_ok hS f
  rw [hf] at hfx
  obtain ⟨hvars, hfx'⟩ := hfx
  let T1 : TypeId → Nat → Prop := fun e k => Tch T0 E st.blk w e k ∨ (∃ b', b' ∈ lent (regsOf st c.args.toList) ∧ k ∈ feet E st.blk b') ∨ ∃ b', b' ∈ bs ∧ k ∈ feet E st.blk b'
  have hargs := args_ok (T1 := T1) hS (fun e k hk => .inl hk) sp.args c.args.toList xs hxs (fun b' hb' kb hkb e he k hk => .inr (.inl ⟨b', hb', hk⟩))
  have hcaps := caps_ok (T1 := T1) hS (fun e k hk => .inl hk) sp.caps bs ys hys hvars (fun b' hb' e k hk => .inr (.inr ⟨b', hb', hk⟩))
  obtain ⟨fn, cd, hfn, hname, hbody⟩ := hsat.1
  have hcalls := hsat.2 w T1 xs ys _ _ r hargs hcaps (fun e k hk => by
    rcases hk with hk | ⟨b', _, hk⟩ | ⟨b', _, hk⟩
    · exact hk.2.1
    · exact hS.mem.feet_lt hk
    · exact hS.mem.feet_lt hk) (hT0.laid hS.mem fun e k hk => .inl hk) hr
  have h0 : st.blk st.blks.length = none := hand_free st 0
  have hfe : feet E st.blk st.blks.length = [] := by unfold feet; rw [h0]
  refine .inr (.inr ⟨g, (c.args.toList.map a.eval ++ bs.map fun b => Value.pointer (some ⟨E.base b, 0, none⟩)).toArray, ?_, hcalls.mono fun e w' => ?_⟩)
  · have hmap : c.args.map a.eval ++ (bs.map fun b => Value.pointer (some ⟨E.base b, 0, none⟩)).toArray = (c.args.toList.map a.eval ++ bs.map fun b => Value.pointer (some ⟨E.base b, 0, none⟩)).toArray := by
      rw [← Array.toList_inj]; simp
    simp only [execOp, ho, resolve, hc, hfx', Deferred.ofValue, Sem.run_bind, Sem.run_pure, Result.andThen_ok, invoke]
    simp only [Array.empty_append, hmap]
    exact MuLone.run_callFunc_enter hfn hname hbody _ w
  · rintro ⟨v, rfl, g', gh', T', hfr, hv, hres, _, hnd', hown, hT'⟩
    have hfr' : Frame w (feet E st.blk st.blks.length) w' := by rw [hfe]; exact hfr
    simp only [CSpec.sp, backFeet, givFeet, List.append_nil] at hres hv hnd' hown hT'
    obtain ⟨m1, k1⟩ := hS.mem.called (b := st.blks.length) (E1 := E) (blk1 := st.blk) (N := st.blks.length) (T1 := T1) (T' := T') (g' := g') hT0.1 h0 h0 (fun _ _ => rfl) (fun _ _ => rfl) rfl hfr' hres (by rw [hfe, List.append_nil]; exact hnd')
      (by rw [hfe, List.append_nil]; exact hown) (fun k' hk' => by rw [h0] at hk'; cases hk') (by rw [hfe, List.append_nil]; exact hT') (by
        rintro e (he | ⟨k', hk', _⟩) k _
        · rw [flat_ro _ hflat] at he; cases he
        · rw [h0] at hk'; cases hk')
    have hc2 := carries_hand (E := E) (E' := ⟨setG E.g st.blks.length g', E.base⟩) (w := w) (w' := w') (blk := st.blk) (h := st.blks.length) (o := some ⟨false, false, .ro, sp.res, r.1⟩) h0 k1 (fun i hi => setG_ne _ _ hi) (fun _ _ => rfl)
    obtain ⟨E', hE⟩ := keepIt (d := d) (n := sp.n) (U := []) hS hfit hd (by simp) m1 hc2
    simp only [setG_same] at hE
    rw [← hdst] at hE
    subst hv
    exact ⟨_, E', rfl, hE⟩
theorem vars_ok {E : Env} {st : St} {a : Act} {w : World} (hS : Sim w0 F0 T0 E st a w) : ∀ (os : List Operand) (bs : List Nat), varsOf (regsOf st os) = some bs → os.map a.eval = bs.map fun b => Value.pointer (some ⟨E.base b, 0, none⟩)
  | [], bs, h => by simp [regsOf, varsOf] at h; subst h; rfl
  | o :: os, bs, h => by
    simp only [regsOf] at h
    unfold varsOf at h
    split at h
    · rename_i heq; cases heq
    · rename_i b rs heq
      simp only [List.cons.injEq] at heq
      obtain ⟨hr, rfl⟩ := heq
      split at h
      case h_2 => cases h
      rename_i l hl
      cases h
      have ho := opd_ok hS o
      rw [hr] at ho
      obtain ⟨k, y, _, _, _, _, hv⟩ := ho
      have e0 : addrOf k.ty (E.g b) [] ⟨E.base b, 0, none⟩ = ⟨E.base b, 0, none⟩ := by cases k.ty <;> rfl
      rw [e0] at hv
      simp only [List.map_cons, hv, vars_ok hS os l hl]
    · cases h
theorem do_make {E : Env} {st : St} {a : Act} {w : World} {o : Oper} {fn : Fn} {first caps : Array Operand} {pl : Plan} (hS : Sim w0 F0 T0 E st a w) (ho : o.op = .makeFunc fn first caps) (hp : plan0 C st o = some pl) : PlanDoes P w0 F0 T0 o st a w pl := by
  unfold plan0 at hp
  rw [ho] at hp
  cases fn with
  | func g =>
    simp only at hp
    split at hp
    case h_2 => cases hp
    rename_i bs hfirst hbs
    split at hp
    case isFalse => cases hp
    rename_i hall
    cases hp
    have hf : first = #[] := by rw [← Array.toList_inj, hfirst]
    have hm : caps.map a.eval = (bs.map fun b => Value.pointer (some ⟨E.base b, 0, none⟩)).toArray := by
      rw [← vars_ok hS _ _ hbs, ← Array.toList_map]
    refine Does.pure hS (v := .func (.func g) #[] (bs.map fun b => Value.pointer (some ⟨E.base b, 0, none⟩)).toArray) ?_ ⟨fun b hb => ?_, rfl⟩
    · simp [execOp, ho, Instr.makeFunc, hf, hm]
    · have := List.all_eq_true.1 hall b hb
      unfold varB at this
      split at this
      · rename_i k hk; exact ⟨k, hk, this⟩
      · cases this
  | _ => cases hp
end
end Go.Rx
namespace Go.Rx
noncomputable section
open Go.RowKit
variable {P : Program} {C : Ctx} {w0 : World} {F0 : List Nat} {T0 : TypeId → Nat → Prop}
theorem catN_ints (k : IntKind) (xs : List Int) (g : Nat → Gh) : ∀ n, n ≤ xs.length → catN (fun i => cells (.int k) (xs.getD i (Ty.dflt (.int k))) (g i)) n = (xs.take n).map (Value.int k)
  | 0, _ => rfl
  | n + 1, h => by
    simp only [catN]
    rw [catN_ints k xs g n (by omega), List.take_add_one, List.map_append]
    congr 1
    rw [List.getElem?_eq_getElem (by omega : n < xs.length)]
    simp [cells, List.getD, List.getElem?_eq_getElem (by omega : n < xs.length)]
theorem length_over (xs : List Int) (lo : Nat) (ys : List Int) (h : lo + ys.length ≤ xs.length) : (over xs lo ys).length = xs.length := by
  unfold over; simp; omega
theorem rowPut_out {st : St} {b : Nat} {s : Path} {e : TypeId} {k : IntKind} {f : List Int → List Int} {u : Nat × Option Blk} {ki : Kill} (h : rowPut st b s e k f = (some u, some ki)) :
    ∃ kb q xs z, st.blk b = some kb ∧ sub kb.ty kb.p kb.x s = some ⟨.slice e (.int k), .own q, xs⟩ ∧ put kb.ty kb.p kb.x s (.slice e (.int k)) (.own q) (f xs : List Int) = some z ∧ u = (b, some ⟨kb.var, kb.pin, z.1, kb.ty, z.2⟩) ∧ ki = .inner b kb.ty s ∧ k ≠ .u8 := by
  unfold rowPut at h
  split at h
  case h_2 => cases h
  rename_i kb hkb
  split at h
  case h_2 => cases h
  rename_i e2 k2 q xs hsub
  split at h
  case isFalse => cases h
  rename_i hek
  obtain ⟨rfl, rfl, hk8⟩ := hek
  split at h
  case h_2 => cases h
  rename_i z hz
  cases h
  exact ⟨kb, q, xs, z, hkb, hsub, hz, rfl, rfl, hk8⟩
theorem base_of_row {w : World} {b : Nat} {e : TypeId} {s : Nat} {v : Value} {n : Nat} {xs : List Value} (h : w.ownsRow b e s v n xs) (hn : 0 < n) :
    ∃ k cap cur, v = .slice (some ⟨k, 0, none⟩) n cap ∧ v.ownBlock = some k ∧ Value.base v = ⟨k, 0, none⟩ ∧ w.heap[k]? = some (.cells cur e (0, 0)) ∧ n ≤ cap ∧ cap ≤ maxLen ∧ cur.size = cap * s ∧ MemAt w ⟨k, 0, none⟩ xs := by
  obtain ⟨h1, h2⟩ := h
  rcases h2 with ⟨_, rfl⟩ | ⟨g, cap, cur, rfl, hg, hh, hc, hm, hs, ht⟩
  · omega
  · refine ⟨g, cap, cur, rfl, rfl, rfl, hh, hc, hm, hs, fun j u hj => ?_⟩
    rw [cell_of (a := ⟨g, 0, none⟩) rfl hh, Nat.zero_add]
    rw [← ht, List.getElem?_take] at hj
    split at hj
    · simpa using hj
    · cases hj
theorem row_over {E : Env} {st : St} {a : Act} {w : World} {b : Nat} {kb : Blk} {s : Path} {e : TypeId} {k : IntKind} {q : Perm} {xs : List Int} {lo n : Nat} {v : Value} (ys : List Int) (hk8 : k ≠ .u8) (hT0 : ∀ (e : TypeId) k, w0.heap.size ≤ k ∨ k ∈ F0 → T0 e k) (hS : Sim w0 F0 T0 E st a w)
    (hk : st.blk b = some kb) (hy : sub kb.ty kb.p kb.x s = some ⟨.slice e (.int k), .own q, xs⟩) (hr : RegOk E w (Tch T0 E st.blk w) st.blk (.sl b s lo n) v) {z : Perm × kb.ty.den} (hz : put kb.ty kb.p kb.x s (.slice e (.int k)) (.own q) (over xs lo ys : List Int) = some z) (hn : ys.length ≤ n) :
    ∃ (A : Option Addr) (cap : Nat), v = .slice A n cap ∧ (0 < ys.length → ∃ (kk : Nat) (cur : Array Value), A = some ⟨kk, lo, none⟩ ∧ w.heap[kk]? = some (.cells cur e (0, 0)) ∧ lo + n ≤ cur.size) ∧
    ∀ w', ((ys = [] ∧ w' = w) ∨ ∃ kk cur, A = some ⟨kk, lo, none⟩ ∧ w.heap[kk]? = some (.cells cur e (0, 0)) ∧ 0 < ys.length ∧ w' = w.setRow kk (cur.toList.take lo ++ ys.map (Value.int k) ++ cur.toList.drop (lo + ys.length)).toArray) →
    ∀ (res : Ty) (pr : Perm) (x0 : res.den) (g' : Gh), (∀ w T, Holds w T res pr x0 g') → foot res pr x0 g' = [] → ∃ E1 : Env, Mem w0 F0 T0 E1 (setB (updF st.blk [(b, some ⟨kb.var, kb.pin, z.1, kb.ty, z.2⟩)]) st.blks.length (some ⟨false, false, pr, res, x0⟩)) w' ∧
      Carries [.inner b kb.ty s] E w (Tch T0 E st.blk w) st.blk E1 w' (Tch T0 E1 (setB (updF st.blk [(b, some ⟨kb.var, kb.pin, z.1, kb.ty, z.2⟩)]) st.blks.length (some ⟨false, false, pr, res, x0⟩)) w') (setB (updF st.blk [(b, some ⟨kb.var, kb.pin, z.1, kb.ty, z.2⟩)]) st.blks.length (some ⟨false, false, pr, res, x0⟩)) ∧ E1.g st.blks.length = g' := by
  obtain ⟨k1, e1, u1, q1, xs1, r1, r2, r3, r4, A, cap, rv, _, _, _, r5⟩ := hr
  rw [hk] at r1; cases r1
  rw [hy] at r2; cases r2
  refine ⟨A, cap, rv, fun hpos => ?_, fun w' hw' res pr x0 g' hres hfoot => ?_⟩
  · have hbok := hS.mem.blks b _ hk
    have hh := sub_holds kb.ty kb.p kb.x (E.g b) s _ hbok.holds r3 hy
    obtain ⟨h1', _⟩ := row_parts2 hh
    have h1 : w.ownsRow 0 e 1 (ghAt kb.ty (E.g b) s).head xs.length (catN (fun i => cells (.int k) (xs.getD i (Ty.dflt (.int k))) ((ghAt kb.ty (E.g b) s).at i)) xs.length) := h1'.plain (fun e' => hk8 (Ty.int.inj e'))
    have hxs : 0 < xs.length := by omega
    obtain ⟨kk, cap2, cur, hv, hb, hbase, hheap, hc, hcm, hcs, hx⟩ := base_of_row h1 hxs
    obtain ⟨a0, ha0, ha1⟩ := r5 0 (by omega)
    rw [hbase] at ha1
    have ha2 : a0 = ⟨kk, lo, none⟩ := by
      have : a0.add (0 * Ty.sz (.int k)) = a0 := by simp [Addr.add]
      rw [this] at ha1
      rw [ha1]
      simp only [Nat.add_zero, Ty.sz, Nat.mul_one]
      unfold Addr.add
      split
      · rename_i h0; have : lo = 0 := by simpa using h0
        rw [this]
      · simp
    refine ⟨kk, cur, by rw [ha0, ha2], hheap, ?_⟩
    omega
  · have hbok := hS.mem.blks b _ hk
    have hh := sub_holds kb.ty kb.p kb.x (E.g b) s _ hbok.holds r3 hy
    obtain ⟨h1', _⟩ := row_parts2 hh
    have h1 : w.ownsRow 0 e 1 (ghAt kb.ty (E.g b) s).head xs.length (catN (fun i => cells (.int k) (xs.getD i (Ty.dflt (.int k))) ((ghAt kb.ty (E.g b) s).at i)) xs.length) := h1'.plain (fun e' => hk8 (Ty.int.inj e'))
    have hsubf := sub_foot (w := w) (T := Tch T0 E st.blk w) kb.ty kb.p kb.x (E.g b) s _ r3 hy
    have hlen : (over xs lo ys).length = xs.length := length_over xs lo ys (by omega)
    have hcells : ∀ zs : List Int, catF (fun i => foot (.int k) q (zs.getD i (Ty.dflt (.int k))) ((ghAt kb.ty (E.g b) s).at i)) zs.length = [] := fun zs => catF_nil (fun i _ => rfl)
    have hft : ∀ zs : List Int, foot (.slice e (.int k)) (.own q) zs (ghAt kb.ty (E.g b) s) = (ghAt kb.ty (E.g b) s).head.ownBlock.toList := fun zs => by
      show _ ++ catF (fun i => foot (.int k) q (zs.getD i (Ty.dflt (.int k))) ((ghAt kb.ty (E.g b) s).at i)) zs.length = _
      rw [hcells zs, List.append_nil]
    have hTno : ∀ e j, Tch T0 E st.blk w e j → j ∉ (ghAt kb.ty (E.g b) s).head.ownBlock.toList := fun _ j hj hin => hj.2.2 ⟨b, mem_feet_of_foot hk (hsubf j (by rw [hft]; exact hin))⟩
    have hw : Frame w (ghAt kb.ty (E.g b) s).head.ownBlock.toList w' ∧ w'.ownsRow 0 e 1 (ghAt kb.ty (E.g b) s).head (over xs lo ys).length (catN (fun i => cells (.int k) ((over xs lo ys).getD i (Ty.dflt (.int k))) ((ghAt kb.ty (E.g b) s).at i)) (over xs lo ys).length) := by
      rcases hw' with ⟨h0, rfl⟩ | ⟨kk', cur', hA', hheap', hpos, rfl⟩
      · subst h0
        have : over xs lo [] = xs := by simp [over]
        rw [this]
        exact ⟨⟨rfl, rfl, rfl, Nat.le_refl _, fun _ _ _ => rfl⟩, h1⟩
      · have hxs : 0 < xs.length := by omega
        obtain ⟨kk, cap2, cur, hv, hb, hbase, hheap, hc, hcm, hcs, hx⟩ := base_of_row h1 hxs
        obtain ⟨a0, ha0, ha1⟩ := r5 0 (by omega)
        rw [hbase] at ha1
        have hkk : kk' = kk := by
          rw [hA'] at ha0; cases ha0
          have := congrArg Addr.block ha1
          rw [add_block, add_block] at this
          exact this
        subst hkk
        rw [hheap] at hheap'
        have hcur : cur = cur' := by
          have := Option.some.inj hheap'
          injection this
        subst hcur
        refine ⟨⟨rfl, rfl, rfl, by simp [World.setRow], fun j _ hj => setRow_other w kk' j _ (by rw [hb] at hj; simpa using hj)⟩, ?_⟩
        have hcs' : cur.size = cap2 := by have : cur.size = cap2 * 1 := hcs; omega
        have hold : cur.toList.take xs.length = xs.map (Value.int k) := by
          have h2 := h1.2
          rcases h2 with ⟨_, h0⟩ | ⟨g, cap3, cur3, hv3, _, hh3, _, _, _, ht3⟩
          · omega
          · rw [hv] at hv3
            injection hv3 with e1 e2 e3
            injection e1 with e1
            injection e1 with e1
            subst e1
            rw [hheap] at hh3
            have : cur = cur3 := by have := Option.some.inj hh3; injection this
            subst this
            have ht4 : cur.toList.take (xs.length * 1) = catN (fun i => cells (.int k) (xs.getD i (Ty.dflt (.int k))) ((ghAt kb.ty (E.g b) s).at i)) xs.length := ht3
            rw [Nat.mul_one] at ht4
            rw [ht4, catN_ints k xs _ xs.length (Nat.le_refl _), List.take_length]
        refine ⟨by rw [length_catN (s := 1) (fun _ _ => rfl)], .inr ⟨kk', cap2, (cur.toList.take lo ++ ys.map (Value.int k) ++ cur.toList.drop (lo + ys.length)).toArray, by rw [hlen]; exact hv, Nat.zero_le _, setRow_heap w kk' _ _ e _ hheap, by rw [hlen]; exact hc, hcm, ?_, ?_⟩⟩
        · simp; omega
        · have ho : (over xs lo ys).take xs.length = over xs lo ys := List.take_of_length_le (by omega)
          rw [hlen, catN_ints k _ _ _ (by omega), ho]
          simp only [Nat.mul_one]
          have hlo : cur.toList.take lo = (xs.map (Value.int k)).take lo := by rw [← hold, List.take_take, Nat.min_eq_left (by omega)]
          have hls : (cur.toList.take lo ++ ys.map (Value.int k)).length = lo + ys.length := by simp; omega
          rw [List.take_append, List.take_of_length_le (by omega), hls]
          unfold over
          rw [List.map_append, List.map_append, hlo, List.map_take, List.append_assoc]
          congr 2
          rw [List.map_drop, ← hold, List.drop_take]
    have hsz : w.heap.size ≤ w'.heap.size := hw.1.size
    have hlt : ∀ j, j ∈ (ghAt kb.ty (E.g b) s).head.ownBlock.toList → j < w.heap.size := fun j hj => hS.mem.feet_lt (mem_feet_of_foot hk (hsubf j (by rw [hft]; exact hj)))
    refine mut_mem (T' := Tch T0 E st.blk w) (gh' := ghAt kb.ty (E.g b) s) hT0 hS hk hy r3 hz (by rw [hft]; exact hw.1) (hres _ _) ?_ rfl ?_ ?_ ?_
    · simp only [Holds]
      exact ⟨OwnR.of hw.2, fun _ _ => trivial⟩
    · rw [hfoot, hft, List.nil_append]
      cases (ghAt kb.ty (E.g b) s).head.ownBlock <;> simp
    · rw [hfoot, hft, hft, List.nil_append]
      exact fun j hj => ⟨Nat.lt_of_lt_of_le (hlt j hj) hsz, .inr hj⟩
    · rw [hfoot, hft, hft, List.nil_append]
      exact fun e j hj => ⟨.inl hj, Nat.lt_of_lt_of_le hj.2.1 hsz, hTno e j hj⟩
theorem do_copy {E : Env} {st : St} {a : Act} {w : World} {o : Oper} {c : Call} {d : Nat} {t t' : TypeId} {od ox : Operand} {pl : Plan} (hT0 : ∀ (e : TypeId) k, w0.heap.size ≤ k ∨ k ∈ F0 → T0 e k) (hT : TabOk P C) (hS : Sim w0 F0 T0 E st a w) (hfit : Fits st) (hd : d < st.regs.length) (hdst : o.dst = some d)
    (ho : o.op = .call c) (hc : c.callee = .builtin .copy) (hts : c.argTypes = #[t, t']) (has : c.args = #[od, ox]) (hp : copyPlan C st d t (st.opd od) (st.opd ox) = some pl) : PlanDoes P w0 F0 T0 o st a w pl := by
  unfold copyPlan at hp
  split at hp
  case h_2 => cases hp
  rename_i b s lo n hreg
  split at hp
  case h_2 => cases hp
  rename_i e k hty
  split at hp
  case h_2 => cases hp
  rename_i cc hcc
  split at hp
  case isFalse => cases hp
  rename_i hlive
  split at hp
  case h_2 => cases hp
  rename_i u ki hput
  cases hp
  obtain ⟨kb, q, xs, z, hk, hy, hz, rfl, rfl, hk8⟩ := rowPut_out hput
  have hrd := opd_ok hS od
  rw [hreg] at hrd
  obtain ⟨A, cap, hv, hA, hmain⟩ := row_over (List.take n cc.2) hk8 hT0 hS hk hy hrd hz (by simp; omega)
  obtain ⟨gx, hvx, hhx⟩ := cont_holds (st := st) (U := []) hS.mem (fun b k h => h) (fun b s lo n hh => by rw [hh] at hlive; simp [isCut] at hlive) hcc (opd_ok hS ox)
  obtain ⟨Ax, capx, hgx, hx1, hx2⟩ := row_of hhx hlive.1
  have hvx' : a.eval ox = .slice Ax (List.length cc.2) capx := by rw [hvx]; simp [toV, Ty.agg, cells, hgx]
  obtain ⟨hu, hte⟩ := slice_desc hT hty
  have hsz : (P.info? e).map (·.size) = some 1 := by
    obtain ⟨ti, _, htt, hok, _⟩ := ty_ok hT hte
    obtain ⟨i, h1, h2, _⟩ := hok.info
    rw [h1]; simp only [Option.map_some, h2, htt]; rfl
  have hlen : (List.take n cc.2).length = Nat.min (List.length cc.2) n := by rw [List.length_take]; exact Nat.min_comm _ _
  have hend : ∀ w', (Builtin.copy_ #[t, t'] o.type #[a.eval od, a.eval ox]).run P w = .ok (goInt (List.take n cc.2).length) w' → (∃ E1 : Env, Mem w0 F0 T0 E1 (setB (updF st.blk [(b, some ⟨kb.var, kb.pin, z.1, kb.ty, z.2⟩)]) st.blks.length (some ⟨false, false, .ro, .int .i64, ((Nat.min (List.length cc.2) n : Nat) : Int)⟩)) w' ∧
      Carries [.inner b kb.ty s] E w (Tch T0 E st.blk w) st.blk E1 w' (Tch T0 E1 (setB (updF st.blk [(b, some ⟨kb.var, kb.pin, z.1, kb.ty, z.2⟩)]) st.blks.length (some ⟨false, false, .ro, .int .i64, ((Nat.min (List.length cc.2) n : Nat) : Int)⟩)) w') (setB (updF st.blk [(b, some ⟨kb.var, kb.pin, z.1, kb.ty, z.2⟩)]) st.blks.length (some ⟨false, false, .ro, .int .i64, ((Nat.min (List.length cc.2) n : Nat) : Int)⟩)) ∧ E1.g st.blks.length = .leaf) →
      Does P w0 F0 T0 o a w ((keep d 1 (.int .i64) .ro ((Nat.min (List.length cc.2) n : Nat) : Int) [(b, some ⟨kb.var, kb.pin, z.1, kb.ty, z.2⟩)] [.inner b kb.ty s]).apply o.dst st) := fun w' hrun ⟨E1, m1, c1, hg⟩ => by
    obtain ⟨E', hE⟩ := keepIt (d := d) (n := 1) hS hfit hd (fun b' o' h' => by simp at h'; rw [h'.1]; exact ⟨_, hk⟩) m1 c1
    rw [← hdst] at hE
    refine Does.value (v := goInt (List.take n cc.2).length) (w' := w') (E' := E') ?_ ?_
    · rw [run_builtin c _ a o w hc ho, hts, has]
      simp only [builtin, List.map_toArray, List.map_cons, List.map_nil, Sem.run_bind, hrun, Result.andThen_ok, Sem.run_pure]
    · rw [hlen]
      simpa [toV, Ty.agg, cells, goInt] using hE
  by_cases h0 : (List.take n cc.2).length = 0
  · refine hend w ?_ (hmain w (.inl ⟨List.eq_nil_of_length_eq_zero h0, rfl⟩) _ _ _ _ (fun _ _ => trivial) rfl)
    rw [hv, hvx', h0]
    exact run_copy_none (P := P) w t t' o.type e A Ax n cap _ capx hu hsz (by rw [← hlen]; exact h0)
  · obtain ⟨kk, cur, hA1, hheap, hfit2⟩ := hA (by omega)
    refine hend _ ?_ (hmain _ (.inr ⟨kk, cur, hA1, hheap, by omega, rfl⟩) _ _ _ _ (fun _ _ => trivial) rfl)
    rw [hv, hvx', hA1]
    cases Ax with
    | none => exact absurd (by rw [List.length_take, (hx1 rfl).1, Nat.min_zero]) h0
    | some ad =>
      have hm := hx2 ad rfl
      have hcs : ((List.take n cc.2).map (Value.int k)).length = (List.take n cc.2).length := by simp
      have := run_copy_row P w t t' o.type e kk lo n cap ad (List.length cc.2) capx cur e ((List.take n cc.2).map (Value.int k)) hu hsz hheap (by rw [hcs, hlen]) (fun j v hj => ?_) (by rw [hcs]; simp; omega) (fun v hv => by
        obtain ⟨y, _, rfl⟩ := List.mem_map.1 hv; rfl)
      · rw [hcs] at this
        exact this
      · refine hm j v ?_
        have hall := catN_ints k cc.2 gx.at (List.length cc.2) (Nat.le_refl _)
        rw [List.take_length] at hall
        show (catN (fun i => cells (.int k) (List.getD cc.2 i (Ty.dflt (.int k))) (gx.at i)) (List.length cc.2))[j]? = some v
        rw [hall]
        rw [List.getElem?_map] at hj ⊢
        rw [List.getElem?_take] at hj
        split at hj
        · exact hj
        · simp at hj
theorem do_clear {E : Env} {st : St} {a : Act} {w : World} {o : Oper} {c : Call} {t : TypeId} {od : Operand} {pl : Plan} (hT0 : ∀ (e : TypeId) k, w0.heap.size ≤ k ∨ k ∈ F0 → T0 e k) (hT : TabOk P C) (hS : Sim w0 F0 T0 E st a w) (hdst : o.dst = none)
    (ho : o.op = .call c) (hc : c.callee = .builtin .clear) (hts : c.argTypes = #[t]) (has : c.args = #[od]) (hp : clearPlan C st t (st.opd od) = some pl) : PlanDoes P w0 F0 T0 o st a w pl := by
  unfold clearPlan at hp
  split at hp
  case h_2 => cases hp
  rename_i b s lo n hreg
  split at hp
  case h_2 => cases hp
  rename_i e k hty
  split at hp
  case h_2 => cases hp
  rename_i u ki hput
  cases hp
  obtain ⟨kb, q, xs, z, hk, hy, hz, rfl, rfl, hk8⟩ := rowPut_out hput
  have hrd := opd_ok hS od
  rw [hreg] at hrd
  obtain ⟨A, cap, hv, hA, hmain⟩ := row_over (List.replicate n (0 : Int)) hk8 hT0 hS hk hy hrd hz (by simp)
  obtain ⟨hu, hte⟩ := slice_desc hT hty
  have hzero := run_zero hT hte w
  have hend : ∀ w', (Builtin.clear_ #[t] o.type #[a.eval od]).run P w = .ok (.tuple #[]) w' → (∃ E1 : Env, Mem w0 F0 T0 E1 (setB (updF st.blk [(b, some ⟨kb.var, kb.pin, z.1, kb.ty, z.2⟩)]) st.blks.length (some ⟨false, false, .ro, .bool, true⟩)) w' ∧
      Carries [.inner b kb.ty s] E w (Tch T0 E st.blk w) st.blk E1 w' (Tch T0 E1 (setB (updF st.blk [(b, some ⟨kb.var, kb.pin, z.1, kb.ty, z.2⟩)]) st.blks.length (some ⟨false, false, .ro, .bool, true⟩)) w') (setB (updF st.blk [(b, some ⟨kb.var, kb.pin, z.1, kb.ty, z.2⟩)]) st.blks.length (some ⟨false, false, .ro, .bool, true⟩)) ∧ E1.g st.blks.length = .leaf) →
      Does P w0 F0 T0 o a w (({ r := .undef, upd := [(b, some ⟨kb.var, kb.pin, z.1, kb.ty, z.2⟩)], kill := [.inner b kb.ty s] } : Eff).apply o.dst st) := fun w' hrun ⟨E1, m1, c1, hg⟩ => by
    have hU : ∀ b' o', (b', o') ∈ [(b, some (⟨kb.var, kb.pin, z.1, kb.ty, z.2⟩ : Blk))] → ∃ k, st.blk b' = some k := fun b' o' h' => by simp at h'; rw [h'.1]; exact ⟨_, hk⟩
    obtain ⟨m2, k2⟩ := m1.drop st.blks.length
    have hX : setB (setB (updF st.blk [(b, some ⟨kb.var, kb.pin, z.1, kb.ty, z.2⟩)]) st.blks.length (some ⟨false, false, .ro, .bool, true⟩)) st.blks.length none = updF st.blk [(b, some ⟨kb.var, kb.pin, z.1, kb.ty, z.2⟩)] := by
      rw [setB_setB, setB_id (f := updF st.blk [(b, some ⟨kb.var, kb.pin, z.1, kb.ty, z.2⟩)]) (a := st.blks.length) (x := none) (updF_hand hU 0)]
    have c2 := carries_all (E := E1) (E' := E1) (w := w') (w' := w') (blk := setB (updF st.blk [(b, some ⟨kb.var, kb.pin, z.1, kb.ty, z.2⟩)]) st.blks.length (some ⟨false, false, .ro, .bool, true⟩)) st.blks.length none k2 (fun _ _ => rfl) (fun _ _ => rfl)
    have c3 := c1.trans c2
    rw [hX] at m2 c3
    have c4 := Carries.dropHand (K := [.inner b kb.ty s]) (K2 := []) (hand_free st 0) c3
    rw [List.append_nil] at c4
    refine Does.value (v := .tuple #[]) (w' := w') (E' := E1) ?_ (hS.step (blk' := updF st.blk [(b, some ⟨kb.var, kb.pin, z.1, kb.ty, z.2⟩)]) (fun c' o' h' => ?_) rfl m2 c4 trivial)
    · rw [run_builtin c _ a o w hc ho, hts, has]
      simp only [builtin, List.map_toArray, List.map_cons, List.map_nil, Sem.run_bind, hrun, Result.andThen_ok, Sem.run_pure]
    · obtain ⟨k', hk'⟩ := hU c' o' h'; exact blk_lt hk'
  by_cases h0 : n = 0
  · subst h0
    refine hend w ?_ (hmain w (.inl ⟨rfl, rfl⟩) _ _ _ _ (fun _ _ => trivial) rfl)
    rw [hv]
    cases A <;> simp [Builtin.clear_, run_underlying hu, Sem.run_bind, Sem.run_pure, Result.andThen_ok]
  · obtain ⟨kk, cur, hA1, hheap, hfit2⟩ := hA (by simp; omega)
    refine hend _ ?_ (hmain _ (.inr ⟨kk, cur, hA1, hheap, by simp; omega, rfl⟩) _ _ _ _ (fun _ _ => trivial) rfl)
    rw [hv, hA1]
    have hst := run_storeCells_at P kk lo e ((List.replicate n (0 : Int)).map (Value.int k)) 0 cur w hheap (by simp; omega) (fun v hv => by
        obtain ⟨y, _, rfl⟩ := List.mem_map.1 hv; rfl)
    have hzc : (Builtin.zeroCells (toV (.int k) (cells (.int k) (Ty.dflt (.int k)) (Ty.zg (.int k)))).cells n).toList = (List.replicate n (0 : Int)).map (Value.int k) := by
      show (Builtin.zeroCells #[Value.int k 0] n).toList = _
      simp [Builtin.zeroCells, Nat.mod_one]
      apply List.ext_getElem <;> simp
    obtain ⟨n', rfl⟩ : ∃ n', n = n' + 1 := ⟨n - 1, by omega⟩
    simp [Builtin.clear_, run_underlying hu, hzero, hzc] at hst ⊢
    simp [hst]
section
variable (w : World)
theorem run_append_zero2 (t tn ty e : TypeId) (i : TypeInfo) (z : Value) (size bytes : Nat) (ht : P.underlying t = some (.slice e)) (htn : P.underlying tn = some (.int .i64)) (hi : P.info? e = some i) (hz : i.zero = some z)
    (hsize : i.size = size) (hby : i.bytes = bytes) (hzs : z.cells.size = size) (hsz : 0 < size)
    (v : Value) (n : Nat) (xs : List Value) (hown : w.ownsRow 0 e size v n xs) (m : Nat) (news : List Value) (hnews : news = (Builtin.zeroCells z.cells m).toList) (h1 : ∀ u ∈ news, u.oneCell' = true)
    (hbytes : (n + m) * bytes ≤ 140737488355328) (h63 : n + m ≤ maxLen) :
    ∃ v' w', (Builtin.append_ #[t, tn] ty #[v, .int .i64 (m : Int)]).run P w = .ok v' w' ∧ w'.ownsRow 0 e size v' (n + m) (xs ++ news) ∧ w.grownBy w' v.ownBlock ∧
      (v'.ownBlock = v.ownBlock ∨ (v'.ownBlock = some w.heap.size ∧ w.heap.size < w'.heap.size)) := by
  subst hsize
  subst hby
  have hl : news.length = m * i.size := by rw [hnews]; simp [Builtin.zeroCells, hzs]
  have hsmall : n + m ≤ 9223372036854775807 := by simp only [maxLen] at h63; omega
  have hlen : (xs ++ news).length = (n + m) * i.size := by rw [List.length_append, hown.1, hl, Nat.add_mul]
  have hwrap : IntKind.i64.wrap (m : Int) = (m : Int) := by rw [IntKind.wrap_i64]; omega
  have hnn : ¬ ((m : Int) < 0) := by omega
  have hmb : (m : Int) * (i.bytes : Int) ≤ 140737488355328 := by
    have h2 : m * i.bytes ≤ (n + m) * i.bytes := Nat.mul_le_mul_right _ (by omega)
    have h3 : ((m * i.bytes : Nat) : Int) ≤ 140737488355328 := by omega
    rwa [Int.natCast_mul] at h3
  have hmb' : ¬ (281474976710656 < (m : Int) * (i.bytes : Int)) := by omega
  have h63' : ¬ (9223372036854775807 < ((n : Int) + (m : Int))) := by omega
  have hz2 : (if m * i.size = 0 then (#[] : Array Value) else Builtin.zeroCells z.cells m) = news.toArray := by
    rw [hnews]
    split
    · rename_i h0
      have : Builtin.zeroCells z.cells m = #[] := by
        apply Array.eq_empty_of_size_eq_zero
        simp [Builtin.zeroCells, hzs, h0]
      rw [this]
    · simp
  have grown : ∀ (old : Nat), old < n + m → ∀ (row : Option Nat),
      (w.drew.alloc (.cells (xs.toArray ++ news.toArray ++ Builtin.zeroCells z.cells (grownCap w (n + m) old e - (n + m))) e)).ownsRow 0 e i.size
        (.slice (some ⟨w.heap.size, 0, none⟩) (n + m) (grownCap w (n + m) old e)) (n + m) (xs ++ news) ∧
      w.grownBy (w.drew.alloc (.cells (xs.toArray ++ news.toArray ++ Builtin.zeroCells z.cells (grownCap w (n + m) old e - (n + m))) e)) row := by
    intro old ho row
    have hge := grownCap_ge w (n + m) old e
    have hcm : grownCap w (n + m) old e ≤ maxLen := grownCap_le_maxLen w (n + m) old e h63
    refine ⟨⟨hlen, .inr ⟨w.heap.size, _, _, rfl, Nat.zero_le _, heap_alloc_new w.drew _, hge, hcm, ?_, ?_⟩⟩, ⟨rfl, rfl, rfl, by simp, fun k hk _ => heap_alloc_old w.drew _ k hk⟩⟩
    · simp only [Array.size_append, List.size_toArray, size_zeroCells, hzs, hown.1, hl, ← Nat.add_mul]
      congr 1
      omega
    · simp only [Array.toList_append, List.append_assoc]
      rw [← List.append_assoc, ← hlen]
      exact List.take_left
  have hgrow : ∀ (base : Option Addr) (cap : Nat), cap < n + m → (Builtin.firstCells i.size n (.slice base n cap)).run P w.drew = .ok xs.toArray w.drew →
      (Builtin.append_ #[t, tn] ty #[.slice base n cap, .int .i64 (m : Int)]).run P w = .ok (.slice (some ⟨w.heap.size, 0, none⟩) (n + m) (grownCap w (n + m) cap e))
        (w.drew.alloc (.cells (xs.toArray ++ news.toArray ++ Builtin.zeroCells z.cells (grownCap w (n + m) cap e - (n + m))) e)) := fun base cap hg hold => by
    have hn : ¬ (n + m ≤ cap) := by omega
    have h48' : ¬ (281474976710656 < Builtin.nextslicecap (n + m) cap * i.bytes) := by
      have := growslice_fits (need := n + m) (old := cap) (bytes := i.bytes) (by omega) hbytes
      omega
    by_cases h0 : m * i.size = 0
    · rw [if_pos h0] at hz2
      simp [Builtin.append_, run_underlying ht, run_underlying htn, sizeOf, typeInfo, zeroValue, hi, hz, hwrap, hnn, hmb', hn, h63', h48', h0, Question.forced, hold, newRow, grownCap, asInt, asIntOf, ← hz2]
    · rw [if_neg h0] at hz2
      simp [Builtin.append_, run_underlying ht, run_underlying htn, sizeOf, typeInfo, zeroValue, hi, hz, hwrap, hnn, hmb', hn, h63', h48', h0, Question.forced, hold, newRow, grownCap, asInt, asIntOf, ← hz2]
  rcases hown.2 with ⟨rfl, rfl⟩ | ⟨g, cap, cur, rfl, hbg, hg, hnc, hcm, hcs, htake⟩
  · have hx : xs = [] := List.eq_nil_of_length_eq_zero (by simpa using hown.1)
    subst hx
    by_cases hm : m = 0
    · subst hm
      have hn : news = [] := List.eq_nil_of_length_eq_zero (by simpa using hl)
      subst hn
      refine ⟨.slice none 0 0, w, ?_, World.ownsRow_nil w 0 e i.size, ⟨rfl, rfl, rfl, Nat.le_refl _, fun _ _ _ => rfl⟩, .inl rfl⟩
      have hw0 : IntKind.i64.wrap 0 = 0 := by rw [IntKind.wrap_i64]; omega
      simp [Builtin.append_, run_underlying ht, run_underlying htn, sizeOf, typeInfo, hi, asInt, asIntOf, hw0]
    · have hr := hgrow none 0 (by omega) (by simp [Builtin.firstCells])
      have hgr := grown 0 (by omega) (Value.ownBlock (.slice none 0 0))
      exact ⟨_, _, hr, hgr.1, hgr.2, .inr ⟨rfl, by simp⟩⟩
  · by_cases hroom : n + m ≤ cap
    · have hfit : n * i.size + news.length ≤ cur.size := by rw [hl, hcs, ← Nat.add_mul]; exact Nat.mul_le_mul_right _ hroom
      have hst := run_storeCells_at P g (n * i.size) e news 0 cur w hg (by simpa using hfit) h1
      simp only [Nat.add_zero] at hst
      have hr : (Builtin.append_ #[t, tn] ty #[.slice (some ⟨g, 0, none⟩) n cap, .int .i64 (m : Int)]).run P w = .ok (.slice (some ⟨g, 0, none⟩) (n + m) cap) (w.setRow g (cur.toList.take (n * i.size) ++ news ++ cur.toList.drop (n * i.size + news.length)).toArray) := by
        by_cases h0 : m * i.size = 0
        · rw [if_pos h0] at hz2
          have hn0 : news = [] := by have := congrArg Array.toList hz2; simpa using this.symm
          rw [hn0] at hst ⊢
          simp [Builtin.append_, run_underlying ht, run_underlying htn, sizeOf, typeInfo, zeroValue, hi, hz, hwrap, hnn, hmb', hroom, h0, asInt, asIntOf, Addr.add_lit] at hst ⊢
          simp [hst]
        · rw [if_neg h0] at hz2
          simp [Builtin.append_, run_underlying ht, run_underlying htn, sizeOf, typeInfo, zeroValue, hi, hz, hwrap, hnn, hmb', hroom, h0, asInt, asIntOf, Addr.add_lit, hz2, hst]
      refine ⟨_, _, hr, ⟨hlen, .inr ⟨g, cap, _, rfl, hbg, setRow_heap w g cur _ e _ hg, hroom, hcm, ?_, ?_⟩⟩, ⟨rfl, rfl, rfl, by simp, fun k _ hk => setRow_other w g k _ (fun e => hk (by simp [Value.ownBlock, e]))⟩, .inl rfl⟩
      · simp only [List.size_toArray, List.length_append, List.length_take, List.length_drop, Array.length_toList]
        omega
      · rw [htake, ← hlen]
        exact List.take_left
    · have holds : ∀ j u, xs[j]? = some u → w.cell? ((⟨g, 0, none⟩ : Addr).add j) = some u := hown.cells (g := g) rfl
      have hr := hgrow (some ⟨g, 0, none⟩) cap (by omega) (run_firstCells_some w.drew i.size n ⟨g, 0, none⟩ n cap xs hown.1 (by simpa using holds))
      have hgr := grown cap (by omega) (Value.ownBlock (.slice (some ⟨g, 0, none⟩) n cap))
      exact ⟨_, _, hr, hgr.1, hgr.2, .inr ⟨rfl, by simp⟩⟩
end
theorem do_zeros {E : Env} {st : St} {a : Act} {w : World} {o : Oper} {c : Call} {d : Nat} {t t' : TypeId} {os ox : Operand} {pl : Plan} (hT : TabOk P C) (hS : Sim w0 F0 T0 E st a w)
    (ho : o.op = .call c) (hc : c.callee = .builtin .append) (hts : c.argTypes = #[t, t']) (has : c.args = #[os, ox]) (hp : zerosPlan C st t t' (st.opd os) (st.opd ox) = some pl) : PlanDoes P w0 F0 T0 o st a w pl := by
  unfold zerosPlan at hp
  split at hp
  case h_2 => cases hp
  rename_i e u hty
  split at hp
  case h_2 => cases hp
  rename_i m hrx
  split at hp
  case isFalse => cases hp
  rename_i hcond
  obtain ⟨htn, hflat, hu8⟩ := hcond
  split at hp
  case h_2 => cases hp
  rename_i b hreg
  split at hp
  case h_2 => cases hp
  rename_i k hk
  split at hp
  case isFalse => cases hp
  rename_i hpv
  split at hp
  case h_2 => cases hp
  rename_i q hperm
  split at hp
  case isFalse => cases hp
  rename_i hkt
  cases hp
  intro hb
  obtain ⟨kv, kpin, kp, kt, kx⟩ := k
  simp only at hpv hperm hkt
  obtain ⟨hpin, hvar⟩ := hpv
  subst hpin; subst hvar; subst hperm; subst hkt
  have hs := opd_ok hS os
  rw [hreg] at hs
  have hx := opd_ok hS ox
  rw [hrx] at hx
  have ex := val_int hx
  simp only [mkZ, Bool.and_eq_true, decide_eq_true_eq] at hb
  obtain ⟨hm0, hfitB⟩ := hb
  obtain ⟨m', rfl⟩ : ∃ m' : Nat, m = (m' : Int) := ⟨Int.toNat m, (Int.toNat_of_nonneg hm0).symm⟩
  simp only [Int.toNat_natCast, castTo] at hfitB ⊢
  obtain ⟨hd1, hd2⟩ := slice_desc hT hty
  obtain ⟨i, i1, i2, i3, i4⟩ := ty_info hT hd2
  have hpos := ty_pos hT hd2
  have hint : P.underlying t' = some (.int .i64) := by
    obtain ⟨ti, _, htt, hok, _⟩ := ty_ok hT htn
    have hd := hok.desc
    rwa [htt] at hd
  simp only [fitB, Bool.and_eq_true, decide_eq_true_eq] at hfitB
  obtain ⟨k0, y0, s1, s2, _, s4⟩ := hs
  rw [hk] at s1; cases s1
  rw [sub_nil] at s2; cases s2
  have s4' : a.eval os = (E.g b).head := by simpa [ghAt, toV, Ty.agg, cells] using s4
  have hho := (hS.mem.blks b _ hk).holds
  obtain ⟨r1, r2⟩ := row_parts2 hho
  have r1 := r1.plain hu8
  have hfeet : feet E st.blk b = (E.g b).head.ownBlock.toList ++ catF (fun i => foot u q (List.getD kx i u.dflt) ((E.g b).at i)) (List.length kx) := by
    rw [feet_of hk]; simp [foot]
  have hdg : ∀ j, (List.replicate m' u.dflt).getD j u.dflt = u.dflt := fun j => by
    simp only [List.getD_eq_getElem?_getD, List.getElem?_replicate]
    split <;> rfl
  have hcell : catN (fun j => cells u ((List.replicate m' u.dflt).getD j u.dflt) ((fun _ => Ty.zg u) j)) (List.replicate m' u.dflt).length = (Builtin.zeroCells (toV u (cells u u.dflt u.zg)).cells m').toList := by
    rw [zero_cells]
    rw [List.length_replicate]
    refine (catN_of_get (s := u.sz) (fun _ _ => length_cells _ _ _) hpos ?_ (fun j l hj hl => ?_)).symm
    · simp [Builtin.zeroCells, length_cells]
    have hlt : j * u.sz + l < m' * u.sz := by
      have : (j + 1) * u.sz ≤ m' * u.sz := Nat.mul_le_mul_right _ hj
      rw [Nat.add_mul] at this; omega
    rw [hdg]
    have hmod : (j * u.sz + l) % u.sz = l := by rw [Nat.add_comm, Nat.add_mul_mod_self_right]; exact Nat.mod_eq_of_lt hl
    simp [Builtin.zeroCells, length_cells, hlt, hmod]
    have hl' : l < (cells u u.dflt u.zg).length := by rw [length_cells]; exact hl
    rw [List.getElem?_eq_getElem hl']
    simp [hl']
  have hzh := fun (T : TypeId → Nat → Prop) => (zg_holds w T u).1
  obtain ⟨v', w', hr, h1, h2, h3⟩ := run_append_zero2 (P := P) w t t' o.type e i _ u.sz (C.bytes e) hd1 hint i1 i4 i2 i3 (by rw [zero_cells]; simp [length_cells]) hpos (E.g b).head (List.length kx) _ r1 m' _ rfl (fun v hv => by
    rw [← hcell] at hv
    obtain ⟨j, hj, hv⟩ := mem_catN hv
    rw [hdg] at hv
    exact oneCell_cells u _ _ _ (hzh (fun _ _ => True)) v hv) hfitB.2 (by simp only [maxLen]; omega)
  have hN1 := hand_free st 1
  have hbN1 : st.blks.length + 1 ≠ b := fun h => by rw [← h, hN1] at hk; cases hk
  obtain ⟨gz, m1, k1⟩ := append_row_of (v' := v') (w' := w') (e := e) (u := u) (q := q) (ys := List.replicate m' u.dflt) (gs := fun _ => Ty.zg u) (b := b) (H := st.blks.length + 1) (v0 := (E.g b).head) (xs := kx) (gx := (E.g b).at) hS.mem hbN1 r2 (fun k hk => by rw [hfeet]; exact hk) (by rw [← hfeet]; exact hS.mem.sep.nodup b)
    (fun j _ => by rw [hdg]; exact flat_holds _ _ _ _ _ hflat (hzh (fun _ _ => True))) (fun j _ k hk => by rw [flat_foot _ _ _ _ hflat] at hk; cases hk) (by rw [catF_nil (fun i _ => flat_foot _ _ _ _ hflat)]; simp) (by rw [hcell, List.length_replicate]; exact OwnR.of h1) h2 h3
  have hX0 : setB st.blk (st.blks.length + 1) none = st.blk := setB_id (f := st.blk) (a := st.blks.length + 1) (x := none) hN1
  rw [hX0] at m1 k1
  have cnew := carries_all (E := E) (E' := ⟨setG E.g b (.row v' gz), E.base⟩) (w := w) (w' := w') (blk := st.blk) b (some ⟨false, false, .own q, .slice e u, (kx ++ List.replicate m' u.dflt : List u.den)⟩) k1 (fun i hi => setG_ne _ _ hi) (fun _ _ => rfl)
  have hfin : setB st.blk b (some ⟨false, false, .own q, .slice e u, (kx ++ List.replicate m' u.dflt : List u.den)⟩) = updF st.blk [(b, some ⟨false, false, .own q, .slice e u, (kx ++ List.replicate m' u.dflt : List u.den)⟩)] := by rw [updF_one]
  rw [hfin] at m1 cnew
  refine Does.value (v := v') (E' := ⟨setG E.g b (.row v' gz), E.base⟩) ?_ (hS.step (blk' := updF st.blk [(b, some ⟨false, false, .own q, .slice e u, (kx ++ List.replicate m' u.dflt : List u.den)⟩)]) (fun c' o' h' => ?_) rfl m1 cnew ?_)
  · rw [run_builtin c _ a o w hc ho, hts, has]
    rw [← s4'] at hr
    simp only [builtin, List.map_toArray, List.map_cons, List.map_nil, ex, Sem.run_bind, hr, Result.andThen_ok, Sem.run_pure]
  · simp at h'; rw [h'.1]; exact blk_lt hk
  · refine ⟨⟨false, false, .own q, .slice e u, (kx ++ List.replicate m' u.dflt : List u.den)⟩, ⟨.slice e u, .own q, (kx ++ List.replicate m' u.dflt : List u.den)⟩, ?_, sub_nil _ _ _, trivial, ?_⟩
    · rw [← hfin, setB_same]
    · simp [ghAt, toV, Ty.agg, cells, Gh.head]
theorem do_row {E : Env} {st : St} {a : Act} {w : World} {o : Oper} {c : Call} {b : Builtin} {pl : Plan} (hT0 : ∀ (e : TypeId) k, w0.heap.size ≤ k ∨ k ∈ F0 → T0 e k) (hT : TabOk P C) (hS : Sim w0 F0 T0 E st a w) (hfit : Fits st) (hd : ∀ d, o.dst = some d → d < st.regs.length)
    (ho : o.op = .call c) (hc : c.callee = .builtin b) (hp : rowPlan C st o.dst b c.argTypes.toList (regsOf st c.args.toList) = some pl) : PlanDoes P w0 F0 T0 o st a w pl := by
  unfold rowPlan at hp
  split at hp
  · rename_i t t' r x d hts hrs hdst
    obtain ⟨od, ox, hx, hr, hs⟩ := regsOf_two hrs
    rw [← hr, ← hs] at hp
    exact do_copy hT0 hT hS hfit (hd d hdst) hdst ho hc (by rw [← Array.toList_inj, hts]) (by rw [← Array.toList_inj, hx]) hp
  · rename_i t r hts hrs hdst
    obtain ⟨od, hx, hr⟩ := regsOf_one hrs
    rw [← hr] at hp
    exact do_clear hT0 hT hS hdst ho hc (by rw [← Array.toList_inj, hts]) (by rw [← Array.toList_inj, hx]) hp
  · rename_i t t' s x d hts hrs hdst
    split at hp
    · exact do_builtin hT hS hfit (hd d hdst) hdst ho hc (by rw [hts, hrs]; exact hp)
    · obtain ⟨od, ox, hx, hr, hs⟩ := regsOf_two hrs
      rw [← hr, ← hs] at hp
      exact do_zeros (d := d) hT hS ho hc (by rw [← Array.toList_inj, hts]) (by rw [← Array.toList_inj, hx]) hp
  · rename_i d hdst _ _
    exact do_builtin hT hS hfit (hd d hdst) hdst ho hc hp
  · cases hp
theorem mapR_setN (f : Reg → Reg) : ∀ (l : List Reg) (d : Nat) (r : Reg), mapR f (setN l d r) = setN (mapR f l) d (f r)
  | [], _, _ => rfl
  | _ :: _, 0, _ => rfl
  | a :: l, d + 1, r => by simp only [setN_s, mapR_c, mapR_setN f l d r]
theorem setN_setN {α : Type} : ∀ (l : List α) (d : Nat) (r s : α), setN (setN l d r) d s = setN l d s
  | [], _, _, _ => rfl
  | _ :: _, 0, _, _ => rfl
  | a :: l, d + 1, r, s => by simp only [setN_s, setN_setN l d r s]
theorem killAll_append : ∀ (l m : List Kill) (rs : List Reg), killAll (l ++ m) rs = killAll m (killAll l rs)
  | [], _, _ => rfl
  | k :: l, m, rs => by simp only [List.cons_append, killAll]; exact killAll_append l m _
theorem updAll_append : ∀ (l m : List (Nat × Option Blk)) (bs : List (Option Blk)), updAll (l ++ m) bs = updAll m (updAll l bs)
  | [], _, _ => rfl
  | (b, o) :: l, m, bs => by simp only [List.cons_append, updAll]; exact updAll_append l m _
theorem Does.map {o : Oper} {a : Act} {w : World} {s1 s2 : St} (h : Does P w0 F0 T0 o a w s1) (hm : ∀ E a' w', Sim w0 F0 T0 E s1 a' w' → Sim w0 F0 T0 E s2 a' w') : Does P w0 F0 T0 o a w s2 := by
  rcases h with ⟨v, w', E', h1, h2⟩ | ⟨w', E', h1, h2⟩ | ⟨f, args, h1, h2⟩
  · exact .inl ⟨v, w', E', h1, hm _ _ _ h2⟩
  · exact .inr (.inl ⟨w', E', h1, hm _ _ _ h2⟩)
  · exact .inr (.inr ⟨f, args, h1, h2.mono fun e w' ⟨v, E', he, hs⟩ => ⟨v, E', he, hm _ _ _ hs⟩⟩)
theorem Sim.freezeB {E : Env} {st : St} {a : Act} {w : World} {d b : Nat} {k : Blk} (hT0 : ∀ (e : TypeId) k, w0.heap.size ≤ k ∨ k ∈ F0 → T0 e k) (hnd : k.p.noDead = true) (hd : d < st.regs.length) (hr : st.reg d = .vw b []) (hk : st.blk b = some k) (hS : Sim w0 F0 T0 E st a w) :
    Sim w0 F0 T0 E ⟨setN (mapR (killR (.all b)) st.regs) d (.val k.ty k.x), setN st.blks b none⟩ a w := by
  have hlt : b < st.blks.length := blk_lt hk
  have hb2 : (⟨setN (mapR (killR (.all b)) st.regs) d (.val k.ty k.x), setN st.blks b none⟩ : St).blk = setB st.blk b none := by
    funext i
    show nth (setN st.blks b none) i none = _
    rw [nth_setN]
    by_cases e : i = b
    · subst e; rw [setB_same, if_pos ⟨rfl, hlt⟩]
    · rw [setB_ne _ _ e, if_neg (fun h => e h.1)]; rfl
  have hm := hS.mem
  obtain ⟨m2, k2⟩ := hm.drop b
  have hfoot : ∀ e, e ∈ rowTys k.ty → ∀ j, j ∈ foot k.ty k.p k.x (E.g b) → Tch T0 E (setB st.blk b none) w e j := fun e _ j hj => by
    have hf := mem_feet_of_foot (E := E) hk hj
    obtain ⟨g1, g2⟩ := hm.own j ⟨b, hf⟩
    refine ⟨hT0 e j g2, g1, fun ⟨i, hi⟩ => ?_⟩
    by_cases e : i = b
    · subst e; unfold feet at hi; rw [setB_same] at hi; cases hi
    · have : j ∈ feet E st.blk i := by
        unfold feet at hi ⊢; rw [setB_ne _ _ e] at hi; exact hi
      exact e (hm.sep.apart i b j this hf)
  have hc := carries_all (E := E) (E' := E) (w := w) (w' := w) (T := Tch T0 E st.blk w) (T' := Tch T0 E (setB st.blk b none) w) (blk := st.blk) b none k2 (fun _ _ => rfl) (fun _ _ => rfl)
  refine ⟨fun i => ?_, ?_, hS.defers, by rw [hb2]; exact m2⟩
  · rw [hb2]
    have hi := hS.regs i
    have e2 : (⟨setN (mapR (killR (.all b)) st.regs) d (.val k.ty k.x), setN st.blks b none⟩ : St).reg i = if i = d ∧ d < st.regs.length then .val k.ty k.x else killR (.all b) (st.reg i) := by
      show nth (setN (mapR (killR (.all b)) st.regs) d (.val k.ty k.x)) i .undef = _
      rw [nth_setN, length_mapR, nth_mapR _ (killR_undef _)]; rfl
    rw [e2]
    by_cases e : i = d ∧ d < st.regs.length
    · rw [if_pos e]
      rw [e.1, hr] at hi
      obtain ⟨k0, y, q1, q2, _, q4⟩ := hi
      rw [hk] at q1; cases q1
      rw [sub_nil] at q2; cases q2
      simp only [gh_nil] at q4
      rw [e.1]
      exact ⟨E.g b, holds_lent (fun i j hj => (k2 i j hj).2) k.ty k.p k.x (E.g b) (hm.blks b _ hk).holds hnd hfoot, q4⟩
    · rw [if_neg e]
      exact hc _ _ hi
  · have := hS.size
    simpa [length_setN, length_mapR] using this
theorem frz_does {st : St} {a : Act} {w : World} {o : Oper} {d : Nat} {e e' : Eff} (hT0 : ∀ (e : TypeId) k, w0.heap.size ≤ k ∨ k ∈ F0 → T0 e k) (hdl : d < st.regs.length) (hdd : o.dst = some d)
    (h2 : Does P w0 F0 T0 o a w (e.apply o.dst st)) (he : frz e = some e') : Does P w0 F0 T0 o a w (e'.apply o.dst st) := by
  unfold frz at he
  split at he
  case h_3 => cases he
  case h_2 => cases he; exact h2
  rename_i b hr
  split at he
  case h_2 => cases he
  rename_i k hk
  split at he
  case isFalse => cases he
  rename_i hnd
  cases he
  refine h2.map fun E a' w' hS => ?_
  rw [hdd] at hS ⊢
  have hreg : (e.apply (some d) st).reg d = .vw b [] := by
    show nth (setN (killAll e.kill st.regs) d e.r) d .undef = _
    rw [nth_setN, length_killAll, if_pos ⟨rfl, hdl⟩, hr]
  have hrd := hS.regs d
  rw [hreg] at hrd
  obtain ⟨k0, y0, q1, _⟩ := hrd
  have hbl : b < (e.apply (some d) st).blks.length := blk_lt q1
  have hblk : (e.apply (some d) st).blk b = some k := by
    have h3 := nth_upd1 e.upd st.blks b (some k) hk (by simpa [Eff.apply, length_updAll] using hbl)
    exact h3
  have h4 := hS.freezeB hT0 hnd (by simpa [Eff.apply, length_setN, length_killAll] using hdl) hreg hblk
  have he : (({ r := .val k.ty k.x, upd := e.upd ++ [(b, none)], kill := e.kill ++ [.all b] } : Eff).apply (some d) st) = ⟨setN (mapR (killR (.all b)) (e.apply (some d) st).regs) d (.val k.ty k.x), setN (e.apply (some d) st).blks b none⟩ := by
    simp only [Eff.apply, killAll_append, updAll_append, mapR_setN, setN_setN]
    rfl
  rw [he]; exact h4
where
  nth_upd1 : ∀ (u : List (Nat × Option Blk)) (bs : List (Option Blk)) (b : Nat) (x : Option Blk), lookU u b = some x → b < bs.length → nth (updAll u bs) b none = x
    | [], _, _, _, h, _ => by simp [lookU] at h
    | (c, o) :: u, bs, b, x, h, hl => by
      simp only [updAll]
      simp only [lookU] at h
      split at h
      · rename_i y hy
        cases h
        exact nth_upd1 u _ b _ hy (by rw [length_setN]; exact hl)
      · rename_i hy
        split at h
        · rename_i e
          cases h
          subst e
          rw [nth_look u _ c hy, nth_setN, if_pos ⟨rfl, hl⟩]
        · cases h
  nth_look : ∀ (u : List (Nat × Option Blk)) (bs : List (Option Blk)) (b : Nat), lookU u b = none → nth (updAll u bs) b none = nth bs b none
    | [], _, _, _ => rfl
    | (c, o) :: u, bs, b, h => by
      simp only [lookU] at h
      split at h
      · cases h
      · rename_i hy
        split at h
        · cases h
        · rename_i e
          simp only [updAll]
          rw [nth_look u _ b hy, nth_setN, if_neg (fun h => e h.1.symm)]
theorem do_frz {st : St} {a : Act} {w : World} {o : Oper} {pl0 : Option Plan} {pl : Plan} (hT0 : ∀ (e : TypeId) k, w0.heap.size ≤ k ∨ k ∈ F0 → T0 e k) (hd : ∀ d, o.dst = some d → d < st.regs.length) (hdst : o.dst.isSome = true)
    (h0 : ∀ pl', pl0 = some pl' → PlanDoes P w0 F0 T0 o st a w pl') (hp : frzPlan pl0 = some pl) : PlanDoes P w0 F0 T0 o st a w pl := by
  obtain ⟨d, hdd⟩ := Option.isSome_iff_exists.1 hdst
  unfold frzPlan at hp
  split at hp
  case h_4 => cases hp
  case h_3 =>
    rename_i ρ x mk
    cases hp
    intro r e hr he
    simp only at he
    split at he
    case h_2 => cases he
    rename_i e0 he0
    exact frz_does hT0 (hd d hdd) hdd (h0 _ rfl r e0 hr he0) he
  · rename_i pre e
    split at hp
    case h_2 => cases hp
    rename_i e' he
    cases hp
    exact fun hb => frz_does hT0 (hd d hdd) hdd (h0 _ rfl hb) he
  · rename_i e
    split at hp
    case h_2 => cases hp
    rename_i e' he
    cases hp
    exact frz_does hT0 (hd d hdd) hdd (h0 _ rfl) he
theorem do_bytes {E : Env} {st : St} {a : Act} {w : World} {o : Oper} {s t : TypeId} {x : Operand} {e : TypeId} {d : Nat} {z : ByteArray} (hT : TabOk P C) (hS : Sim w0 F0 T0 E st a w) (hfit : Fits st) (hd : d < st.regs.length) (hdst : o.dst = some d) (ho : o.op = .convert s t x)
    (hs : C.ty s = some .str) (ht : C.ty t = some (.slice e (.int .u8))) (hz : st.opd x = .val .str z) :
    PlanDoes P w0 F0 T0 o st a w (.chk (fitB z.size 1) { r := .vw d [], upd := [(d, some ⟨false, false, .own (Ty.zp (.int .u8)), .slice e (.int .u8), (sbytes z : List Int)⟩)], kill := [.all d] }) := by
  intro hb
  simp only [fitB, Bool.and_eq_true, decide_eq_true_eq] at hb
  obtain ⟨ti, _, hty, hok, _⟩ := ty_ok hT hs
  have hds := hok.desc
  rw [hty] at hds
  obtain ⟨hd1, hd2⟩ := slice_desc hT ht
  obtain ⟨ti2, _, hty2, hok2, _⟩ := ty_ok hT hd2
  have he := hok2.desc
  rw [hty2] at he
  have hx := opd_ok hS x
  rw [hz] at hx
  have ex := val_str hx
  have hrun := run_bytes_of_string (P := P) w s t e z hds hd1 he
  generalize hcap : grownCap w z.size 0 e = cap at hrun
  have hge : z.size ≤ cap := by rw [← hcap]; exact grownCap_ge w _ _ _
  have hle : cap ≤ maxLen := by rw [← hcap]; exact grownCap_le_maxLen w _ _ _ (by simp only [maxLen]; omega)
  have hge' : z.data.size ≤ cap := hge
  have hsz : (bytesRow z cap).size = cap := by
    show (z.data.map (fun b => Value.int .u8 b.toNat) ++ Array.replicate (cap - z.data.size) (Value.int .u8 0)).size = cap
    simp only [Array.size_append, Array.size_map, Array.size_replicate]; omega
  have hlen : (sbytes z).length = z.size := by
    show (z.data.toList.map fun b => (b.toNat : Int)).length = z.data.size
    simp only [List.length_map, Array.length_toList]
  have hh : (w.drew.alloc (.cells (bytesRow z cap) e ((bytesRow z cap).size, (bytesRow z cap).size + 1))).heap[w.heap.size]? = some (.cells (bytesRow z cap) e ((bytesRow z cap).size, (bytesRow z cap).size + 1)) := by
    show (w.heap.push _)[w.heap.size]? = _
    simp
  have hown : OwnR (w.drew.alloc (.cells (bytesRow z cap) e ((bytesRow z cap).size, (bytesRow z cap).size + 1))) (.int .u8) e (Ty.sz (.int .u8)) (.slice (some ⟨w.heap.size, 0, none⟩) z.size cap) (sbytes z).length (catN (fun i => cells (.int .u8) ((sbytes z).getD i (Ty.dflt (.int .u8))) ((fun _ => Gh.leaf) i)) (sbytes z).length) := by
    rw [catN_ints .u8 (sbytes z) _ _ (Nat.le_refl _), List.take_length]
    refine ⟨by simp [Ty.sz], .inr ⟨w.heap.size, cap, bytesRow z cap, by rw [hlen], ⟨_, .inr ⟨rfl, rfl⟩, hh⟩, by rw [hlen]; exact hge, hle, by rw [hsz]; simp [Ty.sz], ?_⟩⟩
    rw [hlen]
    simp only [Ty.sz, Nat.mul_one, bytesRow, Array.toList_append, Array.toList_map]
    rw [List.take_append_of_le_length (by show z.data.size ≤ _; simp), List.take_of_length_le (by show _ ≤ z.data.size; simp)]
    simp [sbytes]
  obtain ⟨E', hE⟩ := newRowedR (d := d) (e := e) (u := .int .u8) (q := Ty.zp (.int .u8)) (zs := sbytes z) (gs := fun _ => .leaf) (v := .slice (some ⟨w.heap.size, 0, none⟩) z.size cap) hS hfit hd
    (w' := w.drew.alloc (.cells (bytesRow z cap) e ((bytesRow z cap).size, (bytesRow z cap).size + 1)))
    ⟨rfl, rfl, rfl, by show w.heap.size ≤ (w.heap.push _).size; simp, fun k hk _ => by show (w.heap.push _)[k]? = _; rw [Array.getElem?_push, if_neg (by omega)]⟩
    hown (fun k hk => by simp only [Value.ownBlock, Option.some.injEq] at hk; omega) (fun i _ => by simp [Holds]) (fun i _ => by simp [foot])
  rw [← hdst] at hE
  refine Does.value (v := .slice (some ⟨w.heap.size, 0, none⟩) z.size cap) ?_ hE
  simp only [execOp, ho, ex, Sem.run_bind, hrun, Result.andThen_ok]
  rfl
theorem do_conv {E : Env} {st : St} {a : Act} {w : World} {o : Oper} {s t : TypeId} {x : Operand} {pl : Plan} (hT : TabOk P C) (hS : Sim w0 F0 T0 E st a w) (hfit : Fits st) (hdl : ∀ d, o.dst = some d → d < st.regs.length) (ho : o.op = .convert s t x) (hp : plan0 C st o = some pl) : PlanDoes P w0 F0 T0 o st a w pl := by
  unfold plan0 at hp
  rw [ho] at hp
  simp only at hp
  split at hp
  case h_2 => cases hp
  rename_i us ut hs ht
  split at hp
  · rename_i r hr
    cases hp
    exact do_convR hT hS ho hs ht hr
  · unfold convStr at hp
    split at hp
    case h_3 => cases hp
    · rename_i e _
      split at hp
      case h_2 => cases hp
      rename_i d z hdst hz
      cases hp
      exact do_bytes hT hS hfit (hdl d hdst) hdst ho hs ht hz
    rename_i e _
    split at hp
    case h_2 => cases hp
    rename_i xs hxs
    cases hp
    obtain ⟨ti, _, hty, hok, _⟩ := ty_ok hT hs
    have hd := hok.desc
    rw [hty] at hd
    obtain ⟨hd1, hd2⟩ := hd
    obtain ⟨ti2, _, hty2, hok2, _⟩ := ty_ok hT hd2
    have he := hok2.desc
    rw [hty2] at he
    obtain ⟨ti3, _, hty3, hok3, _⟩ := ty_ok hT ht
    have hdt := hok3.desc
    rw [hty3] at hdt
    have he' : P.underlying e = some (.int .u8) := he
    have hdt' : P.underlying t = some .string := hdt
    have hd1' : P.underlying s = some (.slice e) := hd1
    have hx := opd_ok hS x
    obtain ⟨g, hv, hH⟩ := arg_ok (T1 := fun _ _ => True) hS.mem hxs hx (fun _ _ _ => trivial) (fun _ _ _ _ _ _ _ _ => trivial)
    simp only [Holds] at hH
    obtain ⟨⟨A, cap, h1, h2, _, h4, _, h6⟩, _⟩ := hH
    have ev : a.eval x = .slice A xs.length cap := by rw [hv]; simp [toV, Ty.agg, cells, h1]
    have hrun : (convert s t (.slice A xs.length cap)).run P w = .ok (.string (bstr xs)) w := by
      cases A with
      | none =>
        have h0 := h4 rfl
        have hn : xs = [] := List.eq_nil_of_length_eq_zero (by omega)
        subst hn
        exact run_convert_bytes_nil w s e hd1' he' _ _ t hdt'
      | some b =>
        have h7 := h6 b rfl
        rw [catN_ints .u8 xs _ xs.length (Nat.le_refl _), List.take_length] at h7
        have hl : (loadCells b xs.length).run P w = .ok (xs.map (Value.int .u8)).toArray w := by
          have := run_loadCells_list (P := P) w b (xs.map (Value.int .u8)) h7
          simpa using this
        rw [run_convert_bytes_string w s t e _ _ cap hd1' he' hdt', run_bytesToString w b _ cap xs hl, foldl_push_bytes]
        simp [bstr, ByteArray.empty, ByteArray.emptyWithCapacity]
        rfl
    refine Does.pure hS (v := .string (bstr xs)) ?_ (str_val _)
    simp only [execOp, ho, ev, Sem.run_bind, hrun, Result.andThen_ok]
    rfl
end
end Go.Rx
namespace Go.Rx
noncomputable section
open Go.RowKit
variable {P : Program} {C : Ctx} {w0 : World} {F0 : List Nat} {T0 : TypeId → Nat → Prop}
theorem Sim.stepF {E E' : Env} {st : St} {a : Act} {w w' : World} {f : Reg → Reg} {d : Nat} {r : Reg} {U : List (Nat × Option Blk)} {v : Value} {blk' : Nat → Option Blk} (hS : Sim w0 F0 T0 E st a w) (hf : f .undef = .undef)
    (hb : ∀ c o, (c, o) ∈ U → c < st.blks.length) (hblk : updF st.blk U = blk') (hm : Mem w0 F0 T0 E' blk' w')
    (hc : ∀ r v, RegOk E w (Tch T0 E st.blk w) st.blk r v → RegOk E' w' (Tch T0 E' blk' w') blk' (f r) v)
    (hr : RegOk E' w' (Tch T0 E' blk' w') blk' r v) : Sim w0 F0 T0 E' ⟨setN (mapR f st.regs) d r, updAll U st.blks⟩ (a.put (some d) v) w' := by
  have hblk2 : (⟨setN (mapR f st.regs) d r, updAll U st.blks⟩ : St).blk = blk' := by
    rw [← hblk]; funext b; exact nth_updAll U st.blks b hb
  refine ⟨fun t => ?_, ?_, hS.defers, by rw [hblk2]; exact hm⟩
  · rw [hblk2]
    have hk := hc _ _ (hS.regs t)
    show RegOk _ _ _ _ (nth (setN (mapR f st.regs) d r) t .undef) _
    rw [nth_setN, length_mapR, put_getD, hS.size]
    by_cases e1 : t = d ∧ d < st.regs.length
    · rw [if_pos e1, if_pos e1]; exact hr
    · rw [if_neg e1, if_neg e1, nth_mapR f hf]; exact hk
  · simp only [Act.put, Array.size_setIfInBounds, length_setN, length_mapR]; exact hS.size
theorem intoR_undef (b d : Nat) (K : List Kill) : intoR b d K .undef = .undef := killL_undef K
theorem growR_undef (b : Nat) (K : List Kill) : growR b K .undef = .undef := by unfold growR; rw [killL_undef]; rfl
theorem ghAt_nil (t : Ty) (g : Gh) : ghAt t g [] = g := by cases t <;> rfl
theorem do_into {E : Env} {st : St} {a : Act} {w : World} {o : Oper} {t e : TypeId} {u : Ty} {n d b0 : Nat} {ps : Array (Nat × Operand)} {c : Perm × u.den} {tk : List (Nat × Option Blk) × List Kill}
    (hT : TabOk P C) (hS : Sim w0 F0 T0 E st a w) (hfit : Fits st) (hd : d < st.regs.length) (hdst : o.dst = some d) (ho : o.op = .buildSlice t n ps) (hty : C.ty t = some (.slice e u)) (hn : n = 1)
    (hps : partsOf st ps = [(0, .vw b0 [])]) (hc : contAs st [] u (.vw b0 []) = some c) (hu : takeAs st [] u (.vw b0 []) = some tk) (hsz : u.sz ≤ 16777216) :
    Does P w0 F0 T0 o a w ⟨setN (mapR (intoR b0 d (tk.2 ++ [.all d])) st.regs) d (.vw d []), updAll (tk.1 ++ [(d, some ⟨false, false, .own c.1, .slice e u, ([c.2] : List u.den)⟩)]) st.blks⟩ := by
  subst hn
  obtain ⟨hd1, hd2⟩ := slice_desc hT hty
  have hpos := ty_pos hT hd2
  have hZ := length_cells u u.dflt u.zg
  obtain ⟨x, hps0, hx⟩ : ∃ x, ps.toList = [(0, x)] ∧ st.opd x = .vw b0 [] := by
    simp only [partsOf, parts_go] at hps
    cases hl : ps.toList with
    | nil => rw [hl] at hps; simp at hps
    | cons p l =>
      rw [hl] at hps
      obtain ⟨i, x⟩ := p
      simp at hps
      obtain ⟨⟨rfl, h2⟩, h3⟩ := hps
      exact ⟨x, by rw [h3], h2⟩
  have hxo := opd_ok hS x
  rw [hx] at hxo
  have hxo0 := hxo
  have hdN : st.blks.length ≠ d := hand_ne hfit hd
  obtain ⟨E1, m1, c1, hv, _, hU⟩ := bring (h := st.blks.length) hc hu hS.mem (fun b k h => h) hxo (hand_free st 0)
  have hh := (m1.blks st.blks.length _ (setB_same _ _ _)).holds
  have hcv : (a.eval x).cells = (cells u c.2 (E1.g st.blks.length)).toArray := by rw [hv]; exact toV_cells hh
  have hl := length_cells u c.2 (E1.g st.blks.length)
  have hcl1 : (catN (fun _ => cells u u.dflt u.zg) 1).length = 1 * u.sz := length_catN (fun _ _ => hZ)
  have hstep := fill_cons (place := fun i => some (i * u.sz, u.sz)) (cs := catN (fun _ => cells u u.dflt u.zg) 1) (i := 0) (rest := []) rfl hcv hl (by omega)
  have hspl : spl (catN (fun _ => cells u u.dflt u.zg) 1) (0 * u.sz) (cells u c.2 (E1.g st.blks.length)) = cells u c.2 (E1.g st.blks.length) := by
    simp only [spl, Nat.zero_mul, List.take_zero, List.nil_append, Nat.zero_add]
    rw [hl, List.drop_eq_nil_of_le (by omega), List.append_nil]
  rw [hspl] at hstep
  obtain ⟨w', r1, r2, r3⟩ := run_buildSlice hT hty w 1 (ps.map fun (i, x) => (i, a.eval x)) (cells u c.2 (E1.g st.blks.length)) (by omega) (by rw [parts_eval, hps0]; simp only [List.map_cons, List.map_nil]; rw [hstep]; simp [Instr.fill]) (by omega)
  obtain ⟨m2, k2⟩ := m1.rowed (h := d) (h2 := st.blks.length) hdN (e := e) (u := u) (q := c.1) (zs := ([c.2] : List u.den)) (gs := fun _ => E1.g st.blks.length) (v := .slice (some ⟨w.heap.size, 0, none⟩) 1 1) (row := none) (by simp) r3 (OwnR.of (by simpa [catN] using r2))
    (fun k hk => by simp only [Value.ownBlock, Option.some.injEq] at hk; subst hk; exact .inr ⟨Nat.le_refl _, ownBlock_lt r2 rfl⟩)
    (fun i hi => by simp at hi; subst hi; exact hh) (by simp) (fun i hi k hk => by simp at hi; subst hi; refine .inr ?_; rw [feet_of (setB_same _ _ _)]; simpa using hk)
    (by simp only [List.length_cons, List.length_nil, catF, List.nil_append]; exact foot_nodup m1 (setB_same _ _ _))
  have hfin : setB (setB (setB (updF st.blk tk.1) st.blks.length (some ⟨false, false, c.1, u, c.2⟩)) st.blks.length none) d (some ⟨false, false, .own c.1, .slice e u, ([c.2] : List u.den)⟩) = updF st.blk (tk.1 ++ [(d, some ⟨false, false, .own c.1, .slice e u, ([c.2] : List u.den)⟩)]) := by
    rw [setB_setB, setB_id (f := updF st.blk tk.1) (a := st.blks.length) (x := none) (updF_hand hU 0), updF_append, updF_one]
  rw [hfin] at m2 k2
  have cc1 := carries_all (E := E1) (E' := E1) (w := w) (w' := w) (T := Tch T0 E1 (setB (updF st.blk tk.1) st.blks.length (some ⟨false, false, c.1, u, c.2⟩)) w) (T' := Tch T0 E1 (setB (updF st.blk tk.1) st.blks.length (some ⟨false, false, c.1, u, c.2⟩)) w) (blk := setB (updF st.blk tk.1) st.blks.length (some ⟨false, false, c.1, u, c.2⟩)) st.blks.length none (Kept.refl _ _) (fun _ _ => rfl) (fun _ _ => rfl)
  have cc2 := carries_all (E := E1) (E' := ⟨setG E1.g d (.row (.slice (some ⟨w.heap.size, 0, none⟩) 1 1) fun _ => E1.g st.blks.length), E1.base⟩) (w := w) (w' := w') (blk := setB (setB (updF st.blk tk.1) st.blks.length (some ⟨false, false, c.1, u, c.2⟩)) st.blks.length none) d (some ⟨false, false, .own c.1, .slice e u, ([c.2] : List u.den)⟩) k2 (fun i hi => setG_ne _ _ hi) (fun _ _ => rfl)
  rw [hfin] at cc2
  have ccc := Carries.dropHand (K := tk.2) (K2 := [.all d]) (hand_free st 0) (by simpa using (c1.trans cc1).trans cc2)
  refine .inl ⟨.slice (some ⟨w.heap.size, 0, none⟩) 1 1, w', ⟨setG E1.g d (.row (.slice (some ⟨w.heap.size, 0, none⟩) 1 1) fun _ => E1.g st.blks.length), E1.base⟩, by simp only [execOp, ho, Sem.run_bind, r1, Result.andThen_ok]; rfl, ?_⟩
  rw [hdst]
  refine hS.stepF (intoR_undef _ _ _) (blk' := updF st.blk (tk.1 ++ [(d, some ⟨false, false, .own c.1, .slice e u, ([c.2] : List u.den)⟩)])) (fun c' o' h' => ?_) rfl m2 ?_ ?_
  · rcases List.mem_append.1 h' with h' | h'
    · obtain ⟨k', hk'⟩ := hU c' o' h'; exact blk_lt hk'
    · simp at h'; rw [h'.1, hfit.len]; exact hd
  · intro r v hr
    have hplain := ccc r v hr
    unfold intoR
    split
    · rename_i c'
      cases hcb : Nat.beq c' b0 with
      | false => exact hplain
      | true =>
        have : c' = b0 := Nat.eq_of_beq_eq_true hcb
        subst this
        have hveq : v = a.eval x := by
          obtain ⟨k1, y1, p1, p2, _, p4⟩ := hr
          obtain ⟨k2, y2, s1, s2, _, s4⟩ := hxo0
          rw [p1] at s1; cases s1
          rw [p2] at s2; cases s2
          rw [p4, s4]
        refine ⟨⟨false, false, .own c.1, .slice e u, ([c.2] : List u.den)⟩, ⟨u, c.1, c.2⟩, ?_, ?_, ?_, ?_⟩
        · rw [updF_append, updF_one, setB_same]
        · simp only [sub, List.getD_cons_zero, sub_nil]
        · refine ⟨by simp, ?_⟩
          cases u <;> trivial
        · rw [hveq, hv]
          simp only [ghAt, setG_same, Gh.at, ghAt_nil]
    · exact hplain
  · refine ⟨⟨false, false, .own c.1, .slice e u, ([c.2] : List u.den)⟩, ⟨.slice e u, .own c.1, ([c.2] : List u.den)⟩, ?_, sub_nil _ _ _, trivial, ?_⟩
    · rw [updF_append, updF_one, setB_same]
    · simp [ghAt, toV, Ty.agg, cells, Gh.head]
theorem do_grow {E : Env} {st : St} {a : Act} {w : World} {o : Oper} {c : Call} {d b : Nat} {t e : TypeId} {u : Ty} {os ox : Operand} {cc : Perm × (Ty.slice e u).den} {q : Perm} {tk : List (Nat × Option Blk) × List Kill} {k : Blk} {b1 : Nat} {s1 : Path}
    (hT : TabOk P C) (hS : Sim w0 F0 T0 E st a w) (hfit : Fits st) (hd : d < st.regs.length) (hdst : o.dst = some d)
    (ho : o.op = .call c) (hc : c.callee = .builtin .append) (hts : c.argTypes = #[t, t]) (has : c.args = #[os, ox]) (hty : C.ty t = some (.slice e u)) (hreg : st.opd os = .vw b [])
    (hcc : contAs st [] (.slice e u) (st.opd ox) = some cc) (hq : elemPerm u cc.1 = some q) (htk : elemTake st e u (st.opd ox) = some tk) (hkill : killL tk.2 (.vw b []) = .vw b1 s1) (hk : st.blkU tk.1 b = some k)
    (hpin : k.pin = false) (hvar : k.var = false) (hperm : k.p = .own q) (hkt : k.ty = .slice e u) (hb : fitB ((castTo hkt k.x : List u.den).length + List.length cc.2) (C.bytes e) = true) :
    Does P w0 F0 T0 o a w ⟨setN (mapR (growR b tk.2) st.regs) d (.vw b []), updAll (tk.1 ++ [(b, some ⟨false, false, .own q, .slice e u, ((castTo hkt k.x : List u.den) ++ cc.2 : List u.den)⟩)]) st.blks⟩ := by
  obtain ⟨E1, gs, A, cap, X, m1, c1, hv, hA, hmem, hy, hfy, hndy, hU⟩ := newsIn (h := st.blks.length + 1) hS (hand_free st 1) hcc hq htk
  have hs := opd_ok hS os
  have hex : ∀ v' w', (Builtin.append_ #[t, t] o.type #[a.eval os, .slice A (List.length cc.2) cap]).run P w = .ok v' w' → (execOp a.eval o).run P w = .ok (.value v') w' := fun v' w' h => by
    rw [run_builtin c _ a o w hc ho, hts, has]
    simp only [builtin, List.map_toArray, List.map_cons, List.map_nil, hv, Sem.run_bind, h, Result.andThen_ok, Sem.run_pure]
  have hfreeN1 : updF st.blk tk.1 (st.blks.length + 1) = none := updF_hand hU 1
  have cdrop := carries_all (E := E1) (E' := E1) (w := w) (w' := w) (T := Tch T0 E1 (setB (updF st.blk tk.1) (st.blks.length + 1) X) w) (T' := Tch T0 E1 (setB (updF st.blk tk.1) (st.blks.length + 1) X) w) (blk := setB (updF st.blk tk.1) (st.blks.length + 1) X) (st.blks.length + 1) none (Kept.refl _ _) (fun _ _ => rfl) (fun _ _ => rfl)
  have hX0 : setB (setB (updF st.blk tk.1) (st.blks.length + 1) X) (st.blks.length + 1) none = updF st.blk tk.1 := by
    rw [setB_setB, setB_id (f := updF st.blk tk.1) (a := st.blks.length + 1) (x := none) hfreeN1]
  rw [hreg] at hs
  have hsp : killL tk.2 (.vw b []) = .vw b [] := by
    rcases killL_or tk.2 (.vw b []) with h | h
    · exact h
    · rw [hkill] at h; cases h
  obtain ⟨kv, kpin, kp, kt, kx⟩ := k
  simp only at hpin hvar hperm hkt hb
  subst hpin; subst hvar; subst hperm; subst hkt
  have hbN1 : b ≠ st.blks.length + 1 := fun h => by rw [h] at hk; have : st.blkU tk.1 (st.blks.length + 1) = none := hfreeN1; rw [this] at hk; cases hk
  have hkb : setB (updF st.blk tk.1) (st.blks.length + 1) X b = some ⟨false, false, .own q, .slice e u, kx⟩ := by rw [setB_ne _ _ hbN1]; exact hk
  obtain ⟨k0, y0, s1, s2, _, s4⟩ := hs
  have hs2 := c1 (.vw b []) (a.eval os) ⟨k0, y0, s1, s2, by assumption, s4⟩
  rw [hsp] at hs2
  obtain ⟨k2, y2, t1, t2, _, t4⟩ := hs2
  rw [hkb] at t1; cases t1
  rw [sub_nil] at t2; cases t2
  have t4' : a.eval os = (E1.g b).head := by simpa [ghAt, toV, Ty.agg, cells] using t4
  have hho := (m1.blks b _ hkb).holds
  obtain ⟨r1, r2⟩ := row_parts2 hho
  have hfeet : feet E1 (setB (updF st.blk tk.1) (st.blks.length + 1) X) b = (E1.g b).head.ownBlock.toList ++ catF (fun i => foot u q (List.getD kx i u.dflt) ((E1.g b).at i)) (List.length kx) := by
    rw [feet_of hkb]; simp [foot]
  obtain ⟨v', w', gz, hr, m2, k2, hgz⟩ := append_rowG hT hty o.type m1 (b := b) (H := st.blks.length + 1) (Ne.symm hbN1) (q := q) (v0 := (E1.g b).head) (xs := kx) (gx := (E1.g b).at)
    r1 r2 (fun k hk => by rw [hfeet]; exact hk) (by rw [← hfeet]; exact m1.sep.nodup b) hA hmem hy hfy hndy hb
  rw [← t4'] at hr
  rw [hX0] at m2 k2 cdrop
  have cnew := carries_all (E := E1) (E' := ⟨setG E1.g b (.row v' gz), E1.base⟩) (w := w) (w' := w') (blk := updF st.blk tk.1) b (some ⟨false, false, .own q, .slice e u, (kx ++ cc.2 : List u.den)⟩) k2 (fun i hi => setG_ne _ _ hi) (fun _ _ => rfl)
  have hfin : setB (updF st.blk tk.1) b (some ⟨false, false, .own q, .slice e u, (kx ++ cc.2 : List u.den)⟩) = updF st.blk (tk.1 ++ [(b, some ⟨false, false, .own q, .slice e u, (kx ++ cc.2 : List u.den)⟩)]) := by rw [updF_append, updF_one]
  have hct0 := Carries.dropHand (K := tk.2) (K2 := []) (hand_free st 1) (c1.trans cdrop)
  rw [List.append_nil] at hct0
  have hkb2 : updF st.blk tk.1 b = some ⟨false, false, .own q, .slice e u, kx⟩ := hk
  refine .inl ⟨v', w', ⟨setG E1.g b (.row v' gz), E1.base⟩, hex v' w' hr, ?_⟩
  rw [hdst]
  refine hS.stepF (growR_undef _ _) (blk' := updF st.blk (tk.1 ++ [(b, some ⟨false, false, .own q, .slice e u, (kx ++ cc.2 : List u.den)⟩)])) (fun c' o' h' => ?_) rfl (by rw [← hfin]; exact m2) ?_ ?_
  · rcases List.mem_append.1 h' with h' | h'
    · obtain ⟨k', hk'⟩ := hU c' o' h'; exact blk_lt hk'
    · simp at h'; rw [h'.1]; exact blk_lt s1
  · intro r v hr0
    have hr1 := hct0 r v hr0
    rw [← hfin]
    unfold growR
    split
    · rename_i c' i s' hkl
      rw [hkl] at hr1
      by_cases hcb : c' = b
      · subst hcb
        obtain ⟨k3, y3, p1, p2, p3, p4⟩ := hr1
        rw [hkb2] at p1; cases p1
        have hi : i < List.length kx := p3.1
        have hgl : (kx ++ cc.2 : List u.den).getD i u.dflt = List.getD kx i u.dflt := by
          simp only [List.getD_eq_getElem?_getD]; rw [List.getElem?_append_left hi]
        refine ⟨⟨false, false, .own q, .slice e u, (kx ++ cc.2 : List u.den)⟩, y3, setB_same _ _ _, ?_, ?_, ?_⟩
        · simp only [sub] at p2 ⊢
          rw [hgl]; exact p2
        · refine ⟨by rw [List.length_append]; omega, ?_⟩
          rw [hgl]; exact p3.2
        · rw [p4]
          simp only [ghAt, setG_same, Gh.at]
          rw [hgz i hi]; rfl
      · have h3 := cnew _ _ hr1
        have : killL [.all b] (.vw c' (.idx i :: s')) = .vw c' (.idx i :: s') := by simp [killL, killR, hcb]
        rw [this] at h3; exact h3
    · have h3 := cnew _ _ hr1
      simpa only [killL] using h3
  · rw [← hfin]
    refine ⟨⟨false, false, .own q, .slice e u, (kx ++ cc.2 : List u.den)⟩, ⟨.slice e u, .own q, (kx ++ cc.2 : List u.den)⟩, setB_same _ _ _, sub_nil _ _ _, trivial, ?_⟩
    simp [ghAt, toV, Ty.agg, cells, Gh.head]
theorem takeR_undef (b : Nat) (s : Path) (r' : Reg) (K : List Kill) : takeR b s r' K .undef = .undef := killL_undef K
theorem Sim.alias {E' : Env} {st : St} {a : Act} {w' : World} {e : Eff} {d b : Nat} {s : Path} {v : Value} (hd : d < st.regs.length) (hsz : a.tmps.size = st.regs.length) (hS : Sim w0 F0 T0 E' (e.apply (some d) st) (a.put (some d) v) w') (hv : ∀ t, st.reg t = .vw b s → a.tmps.getD t undef = v) :
    Sim w0 F0 T0 E' ⟨setN (mapR (takeR b s e.r e.kill) st.regs) d e.r, updAll e.upd st.blks⟩ (a.put (some d) v) w' := by
  have hb : (⟨setN (mapR (takeR b s e.r e.kill) st.regs) d e.r, updAll e.upd st.blks⟩ : St).blk = (e.apply (some d) st).blk := rfl
  refine ⟨fun t => ?_, ?_, hS.defers, by rw [hb]; exact hS.mem⟩
  · rw [hb]
    show RegOk _ _ _ _ (nth (setN (mapR (takeR b s e.r e.kill) st.regs) d e.r) t .undef) _
    have h0 := hS.regs t
    have h1 : (e.apply (some d) st).reg t = if t = d ∧ d < st.regs.length then e.r else killL e.kill (st.reg t) := by
      show nth (setN (killAll e.kill st.regs) d e.r) t .undef = _
      rw [nth_setN, length_killAll, nth_killAll]; rfl
    rw [nth_setN, length_mapR]
    by_cases e1 : t = d ∧ d < st.regs.length
    · rw [if_pos e1]
      rw [h1, if_pos e1] at h0
      exact h0
    · rw [if_neg e1, nth_mapR _ (takeR_undef _ _ _ _)]
      rw [h1, if_neg e1] at h0
      show RegOk _ _ _ _ (takeR b s e.r e.kill (st.reg t)) _
      cases hr : st.reg t with
      | vw c q =>
        rw [hr] at h0
        simp only [takeR]
        cases hcq : (Nat.beq c b && decide (q = s)) with
        | false => exact h0
        | true =>
          simp only [Bool.and_eq_true, decide_eq_true_eq] at hcq
          have hc : c = b := Nat.eq_of_beq_eq_true hcq.1
          have hq := hcq.2
          subst hc; subst hq
          have hd1 := hS.regs d
          have h2 : (e.apply (some d) st).reg d = e.r := by
            show nth (setN (killAll e.kill st.regs) d e.r) d .undef = _
            rw [nth_setN, length_killAll, if_pos ⟨rfl, hd⟩]
          rw [h2, put_getD, if_pos ⟨rfl, by rw [hsz]; exact hd⟩] at hd1
          rw [put_getD, if_neg (by rw [hsz]; exact e1), hv t hr]
          exact hd1
      | _ => rw [hr] at h0; exact h0
  · have := hS.size
    simpa [Eff.apply, length_setN, length_killAll, length_mapR] using this
theorem do_out {E : Env} {st : St} {a : Act} {w : World} {o : Oper} {rx : Reg} {vx : Value} {d : Nat} {b : Bool} {st' : St} (hS : Sim w0 F0 T0 E st a w) (hfit : Fits st) (hd : d < st.regs.length) (hdst : o.dst = some d) (hex : (execOp a.eval o).run P w = .ok (.value vx) w) (hxo : RegOk E w (Tch T0 E st.blk w) st.blk rx vx) (hp : outPlan st d rx = some (b, st')) :
    Does P w0 F0 T0 o a w st' ∧ Fits st' ∧ st'.regs.length = st.regs.length := by
  unfold outPlan at hp
  split at hp
  case h_2 => cases hp
  rename_i b0 s0
  split at hp
  case h_2 => cases hp
  rename_i k hk
  split at hp
  case h_2 => cases hp
  rename_i y hy
  split at hp
  case h_2 => cases hp
  rename_i c tk hc hu
  cases hp
  refine ⟨?_, ⟨by simp only [length_updAll, length_setN, length_mapR]; exact hfit.len⟩, by simp only [length_setN, length_mapR]⟩
  have hxo0 := hxo
  obtain ⟨E1, m1, c1, hv, _, hU⟩ := bring (h := st.blks.length) hc hu hS.mem (fun b k h => h) hxo (hand_free st 0)
  obtain ⟨E', hE⟩ := holdIt (d := d) hS hfit hd hU m1 c1
  refine .inl ⟨vx, w, E', hex, ?_⟩
  rw [hdst, hv]
  refine Sim.alias hd hS.size hE (fun t ht => ?_)
  have hr := hS.regs t
  rw [ht] at hr
  obtain ⟨k1, y1, p1, p2, _, p4⟩ := hr
  obtain ⟨k2, y2, q1, q2, _, q4⟩ := hxo0
  rw [p1] at q1; cases q1
  rw [p2] at q2; cases q2
  rw [p4, ← q4, hv]
theorem movPlan_sound {E : Env} {st st' : St} {a : Act} {w : World} {o : Oper} {d : Nat} (hT : TabOk P C) (hS : Sim w0 F0 T0 E st a w) (hfit : Fits st) (hd : d < st.regs.length) (hdst : o.dst = some d) (hp : movPlan C st o d = some (true, st')) :
    Does P w0 F0 T0 o a w st' ∧ Fits st' ∧ st'.regs.length = st.regs.length := by
  have hfit' : ∀ (f : Reg → Reg) (r : Reg) (U : List (Nat × Option Blk)), Fits (⟨setN (mapR f st.regs) d r, updAll U st.blks⟩ : St) ∧ (⟨setN (mapR f st.regs) d r, updAll U st.blks⟩ : St).regs.length = st.regs.length := fun f r U =>
    ⟨⟨by simp only [length_updAll, length_setN, length_mapR]; exact hfit.len⟩, by simp only [length_setN, length_mapR]⟩
  unfold movPlan at hp
  split at hp
  case h_5 => cases hp
  case h_1 x ho => exact do_out hS hfit hd hdst (by simp [execOp, ho]) (opd_ok hS x) hp
  case h_2 t x ho =>
    have hx := opd_ok hS x
    split at hp
    case h_2 => cases hp
    rename_i b s hreg
    rw [hreg] at hx
    obtain ⟨k, y, h1, h2, h3, h4, hv⟩ := hx
    rw [h1] at hp
    simp only at hp
    rw [h2] at hp
    simp only at hp
    split at hp
    case isFalse => cases hp
    rename_i hty
    have hmem := place_mem hS.mem h1 h2 h3 h4
    exact do_out (rx := .vw b s) (vx := toV y.ty (cells y.ty y.x (ghAt k.ty (E.g b) s))) hS hfit hd hdst (by simp only [execOp, ho, hv, Instr.loadAt, Instr.sureAddr, Sem.run_bind, Sem.run_pure, Result.andThen_ok, run_loadVar hT hty hmem.1]) ⟨k, y, h1, h2, h3, rfl⟩ hp
  case h_3 t n ps ho =>
    split at hp
    case h_2 => cases hp
    rename_i e u hty
    split at hp
    case h_2 => cases hp
    rename_i b hps
    split at hp
    case h_2 => cases hp
    rename_i c tk hc hu
    split at hp
    case isFalse => cases hp
    rename_i hcond
    cases hp
    exact ⟨do_into hT hS hfit hd hdst ho hty rfl hps hc hu hcond.2, hfit' _ _ _⟩
  case h_4 c ho =>
    split at hp
    case h_2 => cases hp
    rename_i t t' b x hcal hts hrs
    split at hp
    case isFalse => cases hp
    rename_i htt
    subst htt
    split at hp
    case h_2 => cases hp
    rename_i e u hty
    split at hp
    case h_2 => cases hp
    rename_i cc hcc
    split at hp
    case h_2 => cases hp
    rename_i q tk hq htk
    split at hp
    case h_2 => cases hp
    rename_i b1 s1 k hkill hk
    split at hp
    case isFalse => cases hp
    rename_i hcond
    split at hp
    case isFalse => cases hp
    rename_i hkt
    simp only [Option.some.injEq, Prod.mk.injEq] at hp
    obtain ⟨hb, rfl⟩ := hp
    obtain ⟨os, ox, has, h1, h2⟩ : ∃ os ox, c.args = #[os, ox] ∧ st.opd os = .vw b [] ∧ st.opd ox = x := by
      cases hl : c.args.toList with
      | nil => rw [hl] at hrs; simp [regsOf] at hrs
      | cons y l => cases l with
        | nil => rw [hl] at hrs; simp [regsOf] at hrs
        | cons z l => cases l with
          | cons _ _ => rw [hl] at hrs; simp [regsOf] at hrs
          | nil =>
            rw [hl] at hrs
            simp only [regsOf, List.cons.injEq, and_true] at hrs
            exact ⟨y, z, by rw [← Array.toList_inj, hl], hrs.1, hrs.2⟩
    have hts' : c.argTypes = #[t, t] := by rw [← Array.toList_inj, hts]
    rw [← h2] at hcc htk
    exact ⟨do_grow hT hS hfit hd hdst ho hcal hts' has hty h1 hcc hq htk hkill hk hcond.1 hcond.2.1 hcond.2.2 hkt hb, hfit' _ _ _⟩
end
end Go.Rx
namespace Go.Rx
noncomputable section
open Go.RowKit
variable {P : Program} {C : Ctx} {w0 : World} {F0 : List Nat} {T0 : TypeId → Nat → Prop}
structure CtxOk (P : Program) [Laid P] (C : Ctx) : Prop where
  tab : TabOk P C
  fn : ∀ g sp, C.fn g = some sp → SatT P (keyF g) (keyT g) sp
  mixed : P.follows .mixedOrders = true
  clo : ∀ g sp, C.clo g = some sp → SatC P g sp
theorem plan0_sound {E : Env} {st : St} {a : Act} {w : World} {o : Oper} {pl : Plan} [Laid P] (hC : CtxOk P C) (hT0 : T0Ok P w0 F0 T0) (hS : Sim w0 F0 T0 E st a w) (hfit : Fits st) (hd : ∀ d, o.dst = some d → d < st.regs.length) (hp : plan0 C st o = some pl) : PlanDoes P w0 F0 T0 o st a w pl := by
  have hT := hC.tab
  cases hop : o.op with
  | move x => exact do_move hS hop hp
  | assign x => exact do_assign hS hfit hd hop hp
  | pick c x y => exact do_pick hS hop hp
  | alloc e => exact do_alloc hT hS hfit hd hop hp
  | box e x => exact do_box hS hfit hd hop hp
  | build t ps => exact do_build hT hS hfit hd hop hp
  | buildSlice t n ps => exact do_buildSlice hT0.1 hT hS hfit hd hop hp
  | load t x => exact do_load hT hS hop hp
  | store t p x =>
    have hp' := hp
    unfold plan0 at hp'
    rw [hop] at hp'
    simp only at hp'
    split at hp'
    · rename_i pl' hst
      cases hp'
      exact do_store hT hS hfit hop hst
    · exact do_fill hT hS hfit hop hp'
  | nilCheck x => exact do_nilCheck hS hop hp
  | fieldAddr t x f => exact do_fieldAddr hT hS hop hp
  | field t x f => exact do_field hT hS hop hp
  | indexAddr t x i => exact do_indexAddr hT hS hop hp
  | index t x i => exact do_index hT hS hop hp
  | slice t x lo hi mx => exact do_slice hT hS hop hp
  | makeSlice t n m => exact do_makeSlice hT hS hfit hd hop hp
  | binOp op t x y t' => exact do_bin hT hS hop hp
  | unOp op t x => exact do_un hS hop hp
  | convert s t x => exact do_conv hT hS hfit hd hop hp
  | extract x i => exact do_extract hS hop hp
  | call c =>
    unfold plan0 at hp
    rw [hop] at hp
    simp only at hp
    split at hp
    · rename_i b hcal
      exact do_row hT0.1 hT hS hfit hd hop hcal hp
    · rename_i f hcal
      split at hp
      case h_3 => cases hp
      case h_2 =>
        rename_i g bs hf
        split at hp
        case h_2 => cases hp
        rename_i sp d hsp hdst
        exact do_clo hT0 (hC.clo g sp hsp) hS hfit (hd d hdst) hdst hop hcal hf hp
      rename_i g hf
      split at hp
      case h_3 => cases hp
      case h_2 =>
        rename_i d hsp hdst
        exact do_fn hT0 hC.fn hS hfit (hd d hdst) hdst hop hcal hf hp
      rename_i sp d hsp hdst
      cases hg : Nat.blt g 65536 with
      | false => rw [hg] at hp; cases hp
      | true =>
        rw [hg] at hp
        have h1 := hC.fn g sp hsp
        unfold keyF keyT at h1
        rw [hg] at h1
        exact do_call hT0 h1 hS hfit (hd d hdst) hdst hop hcal hf hp
    · cases hp
  | makeFunc fn first caps => exact do_make hS hop hp
  | _ => unfold plan0 at hp; rw [hop] at hp; cases hp
theorem plan_sound {E : Env} {st : St} {a : Act} {w : World} {o : Oper} {pl : Plan} [Laid P] (hC : CtxOk P C) (hT0 : T0Ok P w0 F0 T0) (hS : Sim w0 F0 T0 E st a w) (hfit : Fits st) (hd : ∀ d, o.dst = some d → d < st.regs.length) (hp : plan C st o = some pl) : PlanDoes P w0 F0 T0 o st a w pl := by
  unfold plan at hp
  split at hp
  · split at hp
    · rename_i d hdst
      cases hfr : C.fro d with
      | false => rw [hfr] at hp; exact plan0_sound hC hT0 hS hfit hd hp
      | true =>
        rw [hfr] at hp
        exact do_frz hT0.1 hd (by rw [hdst]; rfl) (fun pl' h => plan0_sound hC hT0 hS hfit hd h) hp
    · exact plan0_sound hC hT0 hS hfit hd hp
  · exact plan0_sound hC hT0 hS hfit hd hp
theorem Does.wp {o : Oper} {a : Act} {w : World} {st' : St} {K : Act → World → Prop} {Q : Exit → Act → World → Prop} (h : Does P w0 F0 T0 o a w st') (hK : ∀ v w' E', Sim w0 F0 T0 E' st' (a.put o.dst v) w' → K (a.put o.dst v) w') : o.wp P a w K Q := by
  unfold Oper.wp
  rcases h with ⟨v, w', E', h1, h2⟩ | ⟨w', E', h1, h2⟩ | ⟨f, args, h1, h2⟩
  · rw [h1]; exact hK _ _ _ h2
  · rw [h1]; exact hK _ _ _ h2
  · rw [h1]
    exact h2.mono fun e w' ⟨v, E', he, hs⟩ => by subst he; exact hK _ _ _ hs
theorem Sim.skip {E : Env} {st : St} {a : Act} {w : World} {d : Option Nat} (hS : Sim w0 F0 T0 E st a w) : Sim w0 F0 T0 E (match d with | some d => st.put d .no | none => st) (a.put d undef) w := by
  cases d with
  | none => exact hS
  | some d =>
    refine ⟨fun t => ?_, ?_, hS.defers, hS.mem⟩
    · show RegOk E w _ st.blk (nth (setN st.regs d .no) t .undef) _
      rw [nth_setN, put_getD, hS.size]
      by_cases e : t = d ∧ d < st.regs.length
      · rw [if_pos e, if_pos e]; rfl
      · rw [if_neg e, if_neg e]; exact hS.regs t
    · simp only [Act.put, Array.size_setIfInBounds, St.put, length_setN]; exact hS.size
theorem skip_fits {st : St} {d : Option Nat} (h : Fits st) : Fits (match d with | some d => st.put d .no | none => st) := by
  cases d with
  | none => exact h
  | some d => exact ⟨by simp only [St.put, length_setN]; exact h.len⟩
theorem yielded_of {E : Env} {st : St} {a : Act} {w : World} {ops : Array Oper} {j c : Nat} {b : Bool} (hS : Sim w0 F0 T0 E st a w) (hj : (ops[j]?).bind (·.dst) = some c) (hr : st.reg c = .val .bool b) : yielded ops a.tmps j = some b := by
  have h := hS.regs c
  rw [hr] at h
  have hv := val_bool h
  have hlt : c < a.tmps.size := by
    rcases Nat.lt_or_ge c a.tmps.size with h' | h'
    · exact h'
    · rw [Array.getD_eq_getD_getElem?, Array.getElem?_eq_none h'] at hv
      simp [undef] at hv
  unfold yielded
  rw [hj]
  rw [Array.getD_eq_getD_getElem?, Array.getElem?_eq_getElem hlt] at hv
  simp only [Option.bind_some, Array.getElem?_eq_getElem hlt]
  simp only [Option.getD_some] at hv
  rw [hv]
theorem yielded_no {E : Env} {st : St} {a : Act} {w : World} {ops : Array Oper} {j c : Nat} (hS : Sim w0 F0 T0 E st a w) (hj : (ops[j]?).bind (·.dst) = some c) (hr : st.reg c = .no) : yielded ops a.tmps j = none := by
  have h := hS.regs c
  rw [hr] at h
  have hv : a.tmps.getD c undef = undef := h
  unfold yielded
  rw [hj]
  simp only [Option.bind_some]
  rw [Array.getD_eq_getD_getElem?] at hv
  cases hc : a.tmps[c]? with
  | none => rfl
  | some v => rw [hc] at hv; simp only [Option.getD_some] at hv; subst hv; rfl
def dstB (n : Nat) (o : Oper) : Bool := match o.dst with | some d => decide (d < n) | none => true
theorem dstB_out {n : Nat} {o : Oper} (h : dstB n o = true) : ∀ d, o.dst = some d → d < n := by
  intro d hd; simpa [dstB, hd] using h
theorem stepK_sound {R : Type} {r : R} {J : Act → Prop} {ops : Array Oper} {i : Nat} {o : Oper} {E : Env} {st : St} {a : Act} {w : World} {K : St → Option R} {Kw : Act → World → Prop} {Q : Exit → Act → World → Prop} [Laid P] (hC : CtxOk P C) (hT0 : T0Ok P w0 F0 T0) (hS : Sim w0 F0 T0 E st a w) (hfit : Fits st) (hd : dstB st.regs.length o = true)
    (hi : ops[i]? = some o) (hJ : ∀ v, J (a.put o.dst v)) (h : stepK C ops o st K = some r) (hK : ∀ st' E' a' w', K st' = some r → Fits st' → st'.regs.length = st.regs.length → J a' → Sim w0 F0 T0 E' st' a' w' → Kw a' w') : wpOp P ops Q i Kw a w := by
  have hlen : ∀ (e : Eff) dst, (e.apply dst st).regs.length = st.regs.length := fun e dst => by cases dst <;> simp [Eff.apply, length_setN, length_killAll]
  have hrun : (∀ e, plan C st o = some (.go e) → K (e.apply o.dst st) = some r → o.wp P a w Kw Q) ∧ (∀ b e, plan C st o = some (.chk b e) → (bif b then K (e.apply o.dst st) else none) = some r → o.wp P a w Kw Q) ∧
      (∀ ρ x mk, plan C st o = some (.call ρ x mk) → (x.bind fun r' => match mk r' with | some e => K (e.apply o.dst st) | none => none) = some r → o.wp P a w Kw Q) := by
    refine ⟨fun e hp hk => ?_, fun b e hp hk => ?_, fun ρ x mk hp hk => ?_⟩
    · exact Does.wp (plan_sound hC hT0 hS hfit (dstB_out hd) hp) (fun v w' E' hs => hK _ E' _ w' hk (apply_fits hfit) (hlen _ _) (hJ v) hs)
    · cases b with
      | false => cases hk
      | true => exact Does.wp (plan_sound hC hT0 hS hfit (dstB_out hd) hp rfl) (fun v w' E' hs => hK _ E' _ w' hk (apply_fits hfit) (hlen _ _) (hJ v) hs)
    · cases x with
      | none => cases hk
      | some r' =>
        simp only [Option.bind_some] at hk
        cases hm : mk r' with
        | none => rw [hm] at hk; cases hk
        | some e =>
          rw [hm] at hk
          exact Does.wp (plan_sound hC hT0 hS hfit (dstB_out hd) hp r' e rfl hm) (fun v w' E' hs => hK _ E' _ w' hk (apply_fits hfit) (hlen _ _) (hJ v) hs)
  have hrun' : (match (match o.dst with | some d => bif C.fro (1000000 + d) then movPlan C st o d else none | none => none) with | some (b, st') => bif b then K st' else none | none => match plan C st o with | none => none | some (.go e) => K (e.apply o.dst st) | some (.chk b e) => bif b then K (e.apply o.dst st) else none | some (.call _ x mk) => x.bind fun r => match mk r with | some e => K (e.apply o.dst st) | none => none) = some r → o.wp P a w Kw Q := fun hk => by
    cases hm : (match o.dst with | some d => bif C.fro (1000000 + d) then movPlan C st o d else none | none => none) with
    | some z =>
      obtain ⟨b, st'⟩ := z
      rw [hm] at hk
      cases b with
      | false => cases hk
      | true =>
        cases hdd : o.dst with
        | none => rw [hdd] at hm; cases hm
        | some d =>
          rw [hdd] at hm
          simp only at hm
          cases hf : C.fro (1000000 + d) with
          | false => rw [hf] at hm; cases hm
          | true =>
            rw [hf] at hm
            obtain ⟨h1, h2, h3⟩ := movPlan_sound hC.tab hS hfit (dstB_out hd d hdd) hdd hm
            exact Does.wp h1 (fun v w' E' hs => hK _ E' _ w' hk h2 h3 (hJ v) hs)
    | none =>
      rw [hm] at hk
      cases hp : plan C st o with
      | none => rw [hp] at hk; cases hk
      | some pl =>
        rw [hp] at hk
        cases pl with
        | go e => exact hrun.1 e hp hk
        | chk b e => exact hrun.2.1 b e hp hk
        | call ρ x mk => exact hrun.2.2 ρ x mk hp hk
  unfold wpOp
  rw [hi]
  simp only
  unfold stepK at h
  simp only at h
  cases hg : o.guard with
  | none =>
    rw [hg] at h
    simp only [Region.wanted, hg, if_true]
    exact .inl (hrun' h)
  | some jw =>
    obtain ⟨j, want⟩ := jw
    rw [hg] at h
    simp only at h
    split at h
    case h_1 => cases h
    rename_i c hc
    split at h
    case h_3 => cases h
    case h_2 hb =>
      have hy := yielded_no hS hc hb
      simp only [Region.wanted, hg, hy]
      have : ((none : Option Bool) == some want) = false := rfl
      rw [this]
      simp only [Bool.false_eq_true, if_false]
      refine hK _ E _ w h (skip_fits hfit) ?_ (hJ _) hS.skip
      cases o.dst <;> simp [St.put, length_setN]
    rename_i b hb
    have hy := yielded_of hS hc hb
    simp only [Region.wanted, hg, hy]
    cases hbw : (b == want) with
    | true =>
      rw [hbw] at h
      have : (some b == some want) = true := by simpa using hbw
      rw [this, if_pos rfl]
      exact .inl (hrun' h)
    | false =>
      rw [hbw] at h
      have : (some b == some want) = false := by simpa using hbw
      rw [this]
      simp only [Bool.false_eq_true, if_false]
      refine hK _ E _ w h (skip_fits hfit) ?_ (hJ _) hS.skip
      cases o.dst <;> simp [St.put, length_setN]
end
end Go.Rx
namespace Go.Rx
noncomputable section
open Go.RowKit
variable {P : Program} {C : Ctx} {w0 : World} {F0 : List Nat} {T0 : TypeId → Nat → Prop}
def weak : Ty → Perm → Perm → Bool
  | .slice _ t, p, q => match p, q with
    | .own p, .own q => weak t p q
    | .own p, .ro => p.noDead
    | .ro, .ro => true
    | .dead, .dead => true
    | _, _ => false
  | .prod a b, p, q => weak a p.l q.l && weak b p.r q.r
  | _, _, _ => true
theorem holds_weak {w : World} {T T' : TypeId → Nat → Prop} (hT : ∀ e k, T e k → T' e k) : ∀ (t : Ty) (p q : Perm) (x : t.den) (g : Gh), weak t p q = true → Holds w T t p x g → (∀ k, k ∈ foot t p x g → k ∉ foot t q x g → ∀ e, T' e k) → (foot t p x g).Nodup →
    Holds w T' t q x g ∧ (foot t q x g).Sublist (foot t p x g)
  | .int _, _, _, _, _, _, _, _, _ | .bool, _, _, _, _, _, _, _, _ | .str, _, _, _, _, _, _, _, _ => by simp [Holds, foot]
  | .err, _, _, _, _, _, h, _, _ => by simpa [Holds, foot] using h
  | .arr n t, p, q, xs, g, _, h, _, _ => by
    simp only [Holds] at h ⊢
    exact ⟨⟨h.1, fun i hi => Holds.agree t _ _ _ (h.2 i hi) (by simp [foot_ro]) (fun i k hk => ⟨rfl, hT i k hk⟩)⟩, by simp [foot]⟩
  | .prod a b, p, q, x, g, hw, h, hf, hnd => by
    simp only [weak, Bool.and_eq_true] at hw
    simp only [Holds] at h ⊢
    simp only [foot] at hf hnd ⊢
    rw [List.nodup_append] at hnd
    have hsub : ∀ (t : Ty) (p q : Perm) (x : t.den) (g : Gh), weak t p q = true → ∀ k, k ∈ foot t q x g → k ∈ foot t p x g := fun t p q x g h => weak_sub t p q x g h
    obtain ⟨h1, s1⟩ := holds_weak hT a _ _ x.1 g.l hw.1 h.1 (fun k hk hn => hf k (List.mem_append_left _ hk) (fun hin => by
      rcases List.mem_append.1 hin with hin | hin
      · exact hn hin
      · exact hnd.2.2 k hk k (hsub _ _ _ _ _ hw.2 k hin) rfl)) hnd.1
    obtain ⟨h2, s2⟩ := holds_weak hT b _ _ x.2 g.r hw.2 h.2 (fun k hk hn => hf k (List.mem_append_right _ hk) (fun hin => by
      rcases List.mem_append.1 hin with hin | hin
      · exact hnd.2.2 k (hsub _ _ _ _ _ hw.1 k hin) k hk rfl
      · exact hn hin)) hnd.2.1
    exact ⟨⟨h1, h2⟩, s1.append s2⟩
  | .slice e t, .own p, .own q, xs, g, hw, h, hf, hnd => by
    simp only [weak] at hw
    simp only [Holds] at h ⊢
    simp only [foot] at hf hnd ⊢
    rw [List.nodup_append] at hnd
    have key : ∀ n, n ≤ xs.length → (∀ i, i < n → Holds w T' t q (xs.getD i t.dflt) (g.at i)) ∧ (catF (fun i => foot t q (xs.getD i t.dflt) (g.at i)) n).Sublist (catF (fun i => foot t p (xs.getD i t.dflt) (g.at i)) n) := fun n hn => by
      have hone : ∀ i, i < xs.length → Holds w T' t q (xs.getD i t.dflt) (g.at i) ∧ (foot t q (xs.getD i t.dflt) (g.at i)).Sublist (foot t p (xs.getD i t.dflt) (g.at i)) := fun i hi =>
        holds_weak hT t _ _ _ _ hw (h.2 i hi) (fun k hk hn => hf k (List.mem_append_right _ (mem_catF.2 ⟨i, hi, hk⟩)) (fun hin => by
          rcases List.mem_append.1 hin with hin | hin
          · exact hnd.2.2 k hin k (mem_catF.2 ⟨i, hi, hk⟩) rfl
          · obtain ⟨j, hj, hin⟩ := mem_catF.1 hin
            by_cases e' : j = i
            · subst e'; exact hn hin
            · exact catF_apart hnd.2.1 hj hi e' (weak_sub t _ _ _ _ hw k hin) hk)) (catF_nodup hnd.2.1 hi)
      refine ⟨fun i hi => ?_, ?_⟩
      · by_cases hl : i < xs.length
        · exact (hone i hl).1
        · exact absurd hi (by omega)
      · exact catF_sub (fun i hi => (hone i (by omega)).2)
    obtain ⟨h1, h2⟩ := key xs.length (Nat.le_refl _)
    exact ⟨⟨h.1, h1⟩, List.Sublist.append_left h2 _⟩
  | .slice e t, .own p, .ro, xs, g, hw, h, hf, _ => by
    simp only [weak] at hw
    exact ⟨holds_lent hT (.slice e t) (.own p) xs g h hw (fun e' _ k hk => hf k hk (by rw [foot_ro]; simp) e'), by rw [foot_ro]; simp⟩
  | .slice e t, .ro, .ro, xs, g, _, h, _, _ => ⟨Holds.agree (.slice e t) .ro _ _ h (by simp [foot]) (fun i k hk => ⟨rfl, hT i k hk⟩), List.Sublist.refl _⟩
  | .slice e t, .dead, .dead, xs, g, _, h, _, _ => ⟨by simpa [Holds] using h, List.Sublist.refl _⟩
  | .slice _ _, .own _, .dead, _, _, hw, _, _, _ | .slice _ _, .own _, .pr _ _, _, _, hw, _, _, _ => by simp [weak] at hw
  | .slice _ _, .ro, .own _, _, _, hw, _, _, _ | .slice _ _, .ro, .dead, _, _, hw, _, _, _ | .slice _ _, .ro, .pr _ _, _, _, hw, _, _, _ => by simp [weak] at hw
  | .slice _ _, .dead, .own _, _, _, hw, _, _, _ | .slice _ _, .dead, .ro, _, _, hw, _, _, _ | .slice _ _, .dead, .pr _ _, _, _, hw, _, _, _ => by simp [weak] at hw
  | .slice _ _, .pr _ _, _, _, _, hw, _, _, _ => by simp [weak] at hw
where
  weak_sub : ∀ (t : Ty) (p q : Perm) (x : t.den) (g : Gh), weak t p q = true → ∀ k, k ∈ foot t q x g → k ∈ foot t p x g
  | .int _, _, _, _, _, _, k, hk | .bool, _, _, _, _, _, k, hk | .str, _, _, _, _, _, k, hk | .err, _, _, _, _, _, k, hk | .arr _ _, _, _, _, _, _, k, hk => by simp [foot] at hk
  | .prod a b, p, q, x, g, hw, k, hk => by
    simp only [weak, Bool.and_eq_true] at hw
    simp only [foot, List.mem_append] at hk ⊢
    exact hk.imp (weak_sub a _ _ _ _ hw.1 k) (weak_sub b _ _ _ _ hw.2 k)
  | .slice e t, .own p, .own q, xs, g, hw, k, hk => by
    simp only [weak] at hw
    simp only [foot, List.mem_append] at hk ⊢
    refine hk.imp id fun hk => ?_
    obtain ⟨i, hi, hk⟩ := mem_catF.1 hk
    exact mem_catF.2 ⟨i, hi, weak_sub t _ _ _ _ hw k hk⟩
  | .slice _ _, .own _, .ro, _, _, _, k, hk | .slice _ _, .ro, .ro, _, _, _, k, hk | .slice _ _, .dead, .dead, _, _, _, k, hk => by simp [foot] at hk
  | .slice _ _, .own _, .dead, _, _, hw, _, _ | .slice _ _, .own _, .pr _ _, _, _, hw, _, _ => by simp [weak] at hw
  | .slice _ _, .ro, .own _, _, _, hw, _, _ | .slice _ _, .ro, .dead, _, _, hw, _, _ | .slice _ _, .ro, .pr _ _, _, _, hw, _, _ => by simp [weak] at hw
  | .slice _ _, .dead, .own _, _, _, hw, _, _ | .slice _ _, .dead, .ro, _, _, hw, _, _ | .slice _ _, .dead, .pr _ _, _, _, hw, _, _ => by simp [weak] at hw
  | .slice _ _, .pr _ _, _, _, _, hw, _, _ => by simp [weak] at hw
  catF_apart {f : Nat → List Nat} : ∀ {n : Nat}, (catF f n).Nodup → ∀ {i j k : Nat}, i < n → j < n → i ≠ j → k ∈ f i → k ∈ f j → False
  | 0, _, i, _, _, hi, _, _, _, _ => absurd hi (by omega)
  | n + 1, hnd, i, j, k, hi, hj, hne, h1, h2 => by
    simp only [catF] at hnd
    rw [List.nodup_append] at hnd
    by_cases e1 : i = n <;> by_cases e2 : j = n
    · omega
    · subst e1; exact hnd.2.2 k (mem_catF.2 ⟨j, by omega, h2⟩) k h1 rfl
    · subst e2; exact hnd.2.2 k (mem_catF.2 ⟨i, by omega, h1⟩) k h2 rfl
    · exact catF_apart hnd.1 (by omega) (by omega) hne h1 h2
  catF_nodup {f : Nat → List Nat} : ∀ {n : Nat}, (catF f n).Nodup → ∀ {i : Nat}, i < n → (f i).Nodup
  | 0, _, i, hi => absurd hi (by omega)
  | n + 1, hnd, i, hi => by
    simp only [catF] at hnd
    rw [List.nodup_append] at hnd
    by_cases e : i = n
    · subst e; exact hnd.2.1
    · exact catF_nodup hnd.1 (by omega)
  catF_sub {f g : Nat → List Nat} : ∀ {n : Nat}, (∀ i, i < n → (f i).Sublist (g i)) → (catF f n).Sublist (catF g n)
  | 0, _ => List.Sublist.refl _
  | n + 1, h => by simp only [catF]; exact (catF_sub (fun i hi => h i (by omega))).append (h n (by omega))
end
end Go.Rx
namespace Go.Rx
noncomputable section
open Go.RowKit
variable {P : Program} {C : Ctx} {w0 : World} {F0 : List Nat} {T0 : TypeId → Nat → Prop}
inductive SReg where
  | val (t : Ty)
  | vw (b : Nat) (s : Path)
  | ptr (b : Nat) (s : Path)
  | nil
  | fn (f : Nat)
  | vwi (b : Nat) (s : Path)
  | clo (g : Nat) (bs : List Nat)
structure SBlk where
  b : Nat
  var : Bool
  pin : Bool
  p : Perm
  ty : Ty
structure Shape where
  n : Nat
  regs : List (Nat × SReg)
  blks : List SBlk
abbrev VDen : List (Nat × SReg) → Type
  | [] => Unit
  | (_, .val t) :: l => t.den × VDen l
  | (_, .vw _ _) :: l => VDen l
  | (_, .ptr _ _) :: l => VDen l
  | (_, .nil) :: l => VDen l
  | (_, .fn _) :: l => VDen l
  | (_, .vwi _ _) :: l => Nat × VDen l
  | (_, .clo _ _) :: l => VDen l
abbrev BDen : List SBlk → Type
  | [] => Unit
  | k :: l => k.ty.den × BDen l
abbrev Shape.den (sh : Shape) : Type := VDen sh.regs × BDen sh.blks
def mkRegs : (l : List (Nat × SReg)) → VDen l → List Reg → List Reg
  | [], _, rs => rs
  | (t, .val ty) :: l, v, rs => mkRegs l v.2 (setN rs t (.val ty v.1))
  | (t, .vw b s) :: l, v, rs => mkRegs l v (setN rs t (.vw b s))
  | (t, .ptr b s) :: l, v, rs => mkRegs l v (setN rs t (.ptr b s))
  | (t, .nil) :: l, v, rs => mkRegs l v (setN rs t .nilS)
  | (t, .fn f) :: l, v, rs => mkRegs l v (setN rs t (.fn f))
  | (t, .vwi b s) :: l, v, rs => mkRegs l v.2 (setN rs t (.vw b (s ++ [.idx v.1])))
  | (t, .clo g bs) :: l, v, rs => mkRegs l v (setN rs t (.clo g bs))
def mkBlks : (l : List SBlk) → BDen l → List (Option Blk) → List (Option Blk)
  | [], _, bs => bs
  | k :: l, v, bs => mkBlks l v.2 (setN bs k.b (some ⟨k.var, k.pin, k.p, k.ty, v.1⟩))
def rep {α : Type} : Nat → α → List α
  | 0, _ => []
  | n + 1, a => a :: rep n a
def mkSt (sh : Shape) (v : sh.den) : St := ⟨mkRegs sh.regs v.1 (rep sh.n .undef), mkBlks sh.blks v.2 (rep sh.n none)⟩
def lookN : List (Nat × Nat) → Nat → Option Nat
  | [], _ => none
  | (a, c) :: l, b => if a = b then some c else lookN l b
def hasN : List (Nat × Nat) → Nat → Bool
  | [], _ => false
  | (_, c) :: l, b => decide (c = b) || hasN l b
def apartN : List (Nat × Nat) → Bool
  | [] => true
  | (_, c) :: l => !hasN l c && apartN l
def zipN : List (Nat × Nat) → List Nat → List Nat → List (Nat × Nat)
  | ρ, b :: l, b' :: l' => match lookN ρ b with | none => zipN ((b, b') :: ρ) l l' | some _ => zipN ρ l l'
  | ρ, _, _ => ρ
def cloB (ρ : List (Nat × Nat)) (blks : List (Option Blk)) : List Nat → List Nat → Bool
  | [], [] => true
  | b :: l, b' :: l' => (match lookN ρ b with | some c => decide (c = b') | none => false) && ((match nth blks b none with | some k => k.var | none => false) && cloB ρ blks l l')
  | _, _ => false
def renOf (st : St) : List (Nat × SReg) → List (Nat × Nat) → List (Nat × Nat)
  | [], ρ => ρ
  | (t, .vw b _) :: l, ρ => match lookN ρ b, st.reg t with
    | none, .vw b' _ => renOf st l ((b, b') :: ρ)
    | _, _ => renOf st l ρ
  | (t, .ptr b _) :: l, ρ => match lookN ρ b, st.reg t with
    | none, .ptr b' _ => renOf st l ((b, b') :: ρ)
    | _, _ => renOf st l ρ
  | (t, .vwi b _) :: l, ρ => match lookN ρ b, st.reg t with
    | none, .vw b' _ => renOf st l ((b, b') :: ρ)
    | _, _ => renOf st l ρ
  | (t, .clo _ bs) :: l, ρ => match st.reg t with
    | .clo _ bs' => renOf st l (zipN ρ bs bs')
    | _ => renOf st l ρ
  | _ :: l, ρ => renOf st l ρ
def noneIn (ρ : List (Nat × Nat)) : List Nat → Bool
  | [] => true
  | b :: l => !hasN ρ b && noneIn ρ l
def seen (bs : List (Option Blk)) (b : Nat) (s : Path) : Bool := match nth bs b none with
  | some k => (sub k.ty k.p k.x s).isSome
  | none => false
def idxOf : Path → Path → Option Nat
  | [], [.idx i] => some i
  | .fst :: s0, .fst :: s => idxOf s0 s
  | .snd :: s0, .snd :: s => idxOf s0 s
  | _, _ => none
theorem idxOf_is : ∀ (s0 s : Path) (i : Nat), idxOf s0 s = some i → s = s0 ++ [.idx i]
  | [], [.idx j], i, h => by simp only [idxOf, Option.some.injEq] at h; subst h; rfl
  | .fst :: s0, .fst :: s, i, h => by simp only [idxOf] at h; rw [idxOf_is s0 s i h]; rfl
  | .snd :: s0, .snd :: s, i, h => by simp only [idxOf] at h; rw [idxOf_is s0 s i h]; rfl
  | [], [], _, h => by simp [idxOf] at h
  | [], .fst :: _, _, h => by simp [idxOf] at h
  | [], .snd :: _, _, h => by simp [idxOf] at h
  | [], .idx _ :: _ :: _, _, h => by simp [idxOf] at h
  | .fst :: _, [], _, h => by simp [idxOf] at h
  | .fst :: _, .snd :: _, _, h => by simp [idxOf] at h
  | .fst :: _, .idx _ :: _, _, h => by simp [idxOf] at h
  | .snd :: _, [], _, h => by simp [idxOf] at h
  | .snd :: _, .fst :: _, _, h => by simp [idxOf] at h
  | .snd :: _, .idx _ :: _, _, h => by simp [idxOf] at h
  | .idx _ :: _, _, _, h => by simp [idxOf] at h
def readV (st : St) (ρ : List (Nat × Nat)) (bs : List (Option Blk)) : (l : List (Nat × SReg)) → Option (VDen l)
  | [] => some ()
  | (t, .val ty) :: l => match argOf st ty (st.reg t) with
    | some x => if noneIn ρ (lent [st.reg t]) then (match readV st ρ bs l with | some v => some (x, v) | none => none) else none
    | none => none
  | (t, .vw b s) :: l => match st.reg t with
    | .vw b' s' => if s' = s ∧ lookN ρ b = some b' ∧ seen bs b s = true then readV st ρ bs l else none
    | _ => none
  | (t, .ptr b s) :: l => match st.reg t with
    | .ptr b' s' => if s' = s ∧ lookN ρ b = some b' ∧ seen bs b s = true then readV st ρ bs l else none
    | _ => none
  | (t, .nil) :: l => match st.reg t with
    | .nilS => readV st ρ bs l
    | _ => none
  | (t, .fn f) :: l => match st.reg t with
    | .fn g => if f = g then readV st ρ bs l else none
    | _ => none
  | (t, .vwi b s0) :: l => match st.reg t with
    | .vw b' s => match idxOf s0 s with
      | some i => if lookN ρ b = some b' ∧ seen bs b s = true then (match readV st ρ bs l with | some v => some (i, v) | none => none) else none
      | none => none
    | _ => none
  | (t, .clo g cs) :: l => match st.reg t with
    | .clo g' cs' => if g = g' ∧ cloB ρ bs cs cs' = true then readV st ρ bs l else none
    | _ => none
def readB (st : St) (ρ : List (Nat × Nat)) : (l : List SBlk) → Option (BDen l)
  | [] => some ()
  | sb :: l => match lookN ρ sb.b with
    | some b' => match st.blk b' with
      | some k => if h : k.ty = sb.ty then (if k.var = sb.var ∧ weak k.ty k.p sb.p = true then (match readB st ρ l with | some v => some (castTo h k.x, v) | none => none) else none) else none
      | none => none
    | none => none
def toShape (sh : Shape) (st : St) : Option sh.den :=
  let ρ := renOf st sh.regs []
  if sh.n = st.regs.length ∧ apartN ρ = true then
    match readB st ρ sh.blks with
    | some bv => match readV st ρ (mkBlks sh.blks bv (rep sh.n none)) sh.regs with
      | some v => some (v, bv)
      | none => none
    | none => none
  else none
theorem rep_nth {α : Type} (a d : α) : ∀ (n t : Nat), nth (rep n a) t d = if t < n then a else d
  | 0, t => by simp [rep]
  | n + 1, 0 => by simp [rep]
  | n + 1, t + 1 => by simp [rep, rep_nth a d n t]
theorem rep_len {α : Type} (a : α) : ∀ n, (rep n a).length = n
  | 0 => rfl
  | n + 1 => by simp [rep, rep_len a n]
theorem mkRegs_len : ∀ (l : List (Nat × SReg)) (v : VDen l) (rs : List Reg), (mkRegs l v rs).length = rs.length
  | [], _, _ => rfl
  | (_, .val _) :: l, v, rs => by simp [mkRegs, mkRegs_len l, length_setN]
  | (_, .vw _ _) :: l, v, rs => by simp [mkRegs, mkRegs_len l, length_setN]
  | (_, .ptr _ _) :: l, v, rs => by simp [mkRegs, mkRegs_len l, length_setN]
  | (_, .nil) :: l, v, rs => by simp [mkRegs, mkRegs_len l, length_setN]
  | (_, .fn _) :: l, v, rs => by simp [mkRegs, mkRegs_len l, length_setN]
  | (_, .vwi _ _) :: l, v, rs => by simp [mkRegs, mkRegs_len l, length_setN]
  | (_, .clo _ _) :: l, v, rs => by simp [mkRegs, mkRegs_len l, length_setN]
theorem mkBlks_len : ∀ (l : List SBlk) (v : BDen l) (bs : List (Option Blk)), (mkBlks l v bs).length = bs.length
  | [], _, _ => rfl
  | _ :: l, v, bs => by simp [mkBlks, mkBlks_len l, length_setN]
theorem mkSt_fits (sh : Shape) (v : sh.den) : Fits (mkSt sh v) := ⟨by simp [mkSt, mkRegs_len, mkBlks_len, rep_len]⟩
theorem mkSt_len (sh : Shape) (v : sh.den) : (mkSt sh v).regs.length = sh.n := by simp [mkSt, mkRegs_len, rep_len]
theorem hasN_of_look {ρ : List (Nat × Nat)} {b c : Nat} (h : lookN ρ b = some c) : hasN ρ c = true := by
  induction ρ with
  | nil => cases h
  | cons p ρ ih =>
    obtain ⟨x, y⟩ := p
    simp only [lookN] at h
    split at h
    · cases h; simp [hasN]
    · simp [hasN, ih h]
theorem apart_look {ρ : List (Nat × Nat)} (h : apartN ρ = true) {b b' c : Nat} (h1 : lookN ρ b = some c) (h2 : lookN ρ b' = some c) : b = b' := by
  induction ρ with
  | nil => cases h1
  | cons p ρ ih =>
    obtain ⟨x, y⟩ := p
    simp only [apartN, Bool.and_eq_true, Bool.not_eq_true'] at h
    simp only [lookN] at h1 h2
    split at h1 <;> split at h2
    · omega
    · cases h1; rw [hasN_of_look h2] at h; simp at h
    · cases h2; rw [hasN_of_look h1] at h; simp at h
    · exact ih h.2 h1 h2
theorem noneIn_out {ρ : List (Nat × Nat)} : ∀ {l : List Nat}, noneIn ρ l = true → ∀ b, b ∈ l → hasN ρ b = false
  | [], _, b, hb => by cases hb
  | a :: l, h, b, hb => by
    simp only [noneIn, Bool.and_eq_true, Bool.not_eq_true'] at h
    rcases List.mem_cons.1 hb with rfl | hb
    · exact h.1
    · exact noneIn_out h.2 b hb
theorem sub_perm : ∀ (t : Ty) (p q : Perm) (x : t.den) (s : Path) (y y' : Sub), sub t p x s = some y → sub t q x s = some y' → ∃ p', y' = ⟨y.ty, p', y.x⟩
  | t, p, q, x, [], y, y', h, h' => by rw [sub_nil] at h h'; cases h; cases h'; exact ⟨_, rfl⟩
  | .prod a b, p, q, x, .fst :: s, y, y', h, h' => by simp only [sub] at h h'; exact sub_perm a _ _ _ s y y' h h'
  | .prod a b, p, q, x, .snd :: s, y, y', h, h' => by simp only [sub] at h h'; exact sub_perm b _ _ _ s y y' h h'
  | .arr n t, p, q, xs, .idx i :: s, y, y', h, h' => by simp only [sub] at h h'; exact sub_perm t _ _ _ s y y' h h'
  | .slice e t, .own p, .own q, xs, .idx i :: s, y, y', h, h' | .slice e t, .own p, .hole z0 q, xs, .idx i :: s, y, y', h, h' | .slice e t, .hole z0 p, .own q, xs, .idx i :: s, y, y', h, h' | .slice e t, .hole z1 p, .hole z0 q, xs, .idx i :: s, y, y', h, h' => by simp only [sub] at h h'; exact sub_perm t _ _ _ s y y' h h'
  | .int _, _, _, _, _ :: _, _, _, h, _ | .bool, _, _, _, _ :: _, _, _, h, _ | .str, _, _, _, _ :: _, _, _, h, _ | .err, _, _, _, _ :: _, _, _, h, _ => by simp [sub] at h
  | .prod _ _, _, _, _, .idx _ :: _, _, _, h, _ | .arr _ _, _, _, _, .fst :: _, _, _, h, _ | .arr _ _, _, _, _, .snd :: _, _, _, h, _ => by simp [sub] at h
  | .slice _ _, .own _, _, _, .fst :: _, _, _, h, _ | .slice _ _, .own _, _, _, .snd :: _, _, _, h, _ | .slice _ _, .hole _ _, _, _, .fst :: _, _, _, h, _ | .slice _ _, .hole _ _, _, _, .snd :: _, _, _, h, _ => by simp [sub] at h
  | .slice _ _, .ro, _, _, _ :: _, _, _, h, _ | .slice _ _, .dead, _, _, _ :: _, _, _, h, _ | .slice _ _, .pr _ _, _, _, _ :: _, _, _, h, _ => by simp [sub] at h
  | .slice _ _, .own _, .ro, _, .idx _ :: _, _, _, _, h | .slice _ _, .own _, .dead, _, .idx _ :: _, _, _, _, h | .slice _ _, .own _, .pr _ _, _, .idx _ :: _, _, _, _, h => by simp [sub] at h
  | .slice _ _, .hole _ _, .ro, _, .idx _ :: _, _, _, _, h | .slice _ _, .hole _ _, .dead, _, .idx _ :: _, _, _, _, h | .slice _ _, .hole _ _, .pr _ _, _, .idx _ :: _, _, _, _, h => by simp [sub] at h
theorem readB_ok {st : St} {ρ : List (Nat × Nat)} : ∀ (l : List SBlk) (v : BDen l) (bs : List (Option Blk)), readB st ρ l = some v → (∀ b k', nth bs b none = some k' → ∃ b' k q, lookN ρ b = some b' ∧ st.blk b' = some k ∧ weak k.ty k.p q = true ∧ ∃ pin, k' = ⟨k.var, pin, q, k.ty, k.x⟩) →
    ∀ b k', nth (mkBlks l v bs) b none = some k' → ∃ b' k q, lookN ρ b = some b' ∧ st.blk b' = some k ∧ weak k.ty k.p q = true ∧ ∃ pin, k' = ⟨k.var, pin, q, k.ty, k.x⟩
  | [], _, _, _, h0, b, k', hb => h0 b k' hb
  | sb :: l, v, bs, h, h0, b, k', hb => by
    simp only [readB] at h
    split at h
    case h_2 => cases h
    rename_i b' hl
    split at h
    case h_2 => cases h
    rename_i k hk
    split at h
    case isFalse => cases h
    rename_i ht
    split at h
    case isFalse => cases h
    rename_i hc
    split at h
    case h_2 => cases h
    rename_i v' hv'
    cases h
    simp only [mkBlks] at hb
    refine readB_ok l v' _ hv' (fun c kc hkc => ?_) b k' hb
    rw [nth_setN] at hkc
    split at hkc
    · rename_i hcc
      obtain ⟨rfl, _⟩ := hcc
      cases hkc
      obtain ⟨sbb, sv, sp, spp, sty⟩ := sb
      simp only at ht hc hl
      subst ht
      exact ⟨b', k, spp, hl, hk, hc.2, sp, by rw [hc.1]; rfl⟩
    · exact h0 c kc hkc
theorem cloB_ok {ρ : List (Nat × Nat)} {blks : List (Option Blk)} {E E' : Env} (hE : ∀ b c, lookN ρ b = some c → E'.base b = E.base c) : ∀ (cs cs' : List Nat), cloB ρ blks cs cs' = true → (∀ b, b ∈ cs → ∃ k, nth blks b none = some k ∧ k.var = true) ∧ (cs.map fun b => Value.pointer (some ⟨E'.base b, 0, none⟩)) = cs'.map fun b => Value.pointer (some ⟨E.base b, 0, none⟩)
  | [], [], _ => ⟨fun b hb => (by cases hb), rfl⟩
  | [], _ :: _, h => by cases h
  | _ :: _, [], h => by cases h
  | b :: l, b' :: l', h => by
    simp only [cloB, Bool.and_eq_true] at h
    obtain ⟨h1, h2, h3⟩ := h
    obtain ⟨i1, i2⟩ := cloB_ok hE l l' h3
    split at h1
    case h_2 => cases h1
    rename_i c hc
    have hcb : c = b' := of_decide_eq_true h1
    subst hcb
    split at h2
    case h_2 => cases h2
    rename_i k hk
    refine ⟨fun d hd => ?_, ?_⟩
    · rcases List.mem_cons.1 hd with rfl | hd
      · exact ⟨k, hk, h2⟩
      · exact i1 d hd
    · simp only [List.map_cons, i2, hE b c hc]
theorem toShape_sound {E : Env} {st : St} {a : Act} {w : World} {sh : Shape} {v : sh.den} (hT0 : ∀ (e : TypeId) k, w0.heap.size ≤ k ∨ k ∈ F0 → T0 e k) (hS : Sim w0 F0 T0 E st a w) (h : toShape sh st = some v) : (∃ E', Sim w0 F0 T0 E' (mkSt sh v) a w) ∧ Fits (mkSt sh v) ∧ (mkSt sh v).regs.length = st.regs.length := by
  unfold toShape at h
  simp only at h
  split at h
  case isFalse => cases h
  rename_i hc
  obtain ⟨hn, hap⟩ := hc
  split at h
  case h_2 => cases h
  rename_i bv hbv
  split at h
  case h_2 => cases h
  rename_i vv hvv
  cases h
  generalize renOf st sh.regs [] = ρ at *
  refine ⟨?_, mkSt_fits _ _, by rw [mkSt_len, hn]⟩
  have hblk : ∀ b k', (mkSt sh (vv, bv)).blk b = some k' → ∃ b' k q, lookN ρ b = some b' ∧ st.blk b' = some k ∧ weak k.ty k.p q = true ∧ ∃ pin, k' = ⟨k.var, pin, q, k.ty, k.x⟩ :=
    readB_ok sh.blks bv (rep sh.n none) hbv (fun b k' hb => by rw [rep_nth] at hb; split at hb <;> cases hb)
  let E' : Env := ⟨fun b => E.g ((lookN ρ b).getD 0), fun b => E.base ((lookN ρ b).getD 0)⟩
  have hfeet : ∀ b k', (mkSt sh (vv, bv)).blk b = some k' → ∃ b' k, lookN ρ b = some b' ∧ st.blk b' = some k ∧ (feet E' (mkSt sh (vv, bv)).blk b).Sublist (feet E st.blk b') := fun b k' hb => by
    obtain ⟨b', k, q, h1, h2, h3, pin, rfl⟩ := hblk b k' hb
    refine ⟨b', k, h1, h2, ?_⟩
    rw [feet_of hb, feet_of h2]
    have e1 : E'.g b = E.g b' := by simp [E', h1]
    have e2 : E'.base b = E.base b' := by simp [E', h1]
    have := (holds_weak (T' := fun _ _ => True) (fun _ _ _ => trivial) k.ty k.p q k.x (E.g b') h3 (hS.mem.blks b' k h2).holds (fun _ _ _ _ => trivial) (foot_nodup hS.mem h2)).2
    simp only [e1, e2]
    exact List.Sublist.append_left this _
  have hown : ∀ b j, j ∈ feet E' (mkSt sh (vv, bv)).blk b → ∃ b', lookN ρ b = some b' ∧ j ∈ feet E st.blk b' := fun b j hj => by
    cases hb : (mkSt sh (vv, bv)).blk b with
    | none => unfold feet at hj; rw [hb] at hj; cases hj
    | some k' =>
      obtain ⟨b', k, h1, h2, h3⟩ := hfeet b k' hb
      exact ⟨b', h1, h3.subset hj⟩
  have hTch : ∀ e k, Tch T0 E st.blk w e k → Tch T0 E' (mkSt sh (vv, bv)).blk w e k := fun _ k hk =>
    ⟨hk.1, hk.2.1, fun ⟨b, hb⟩ => let ⟨b', _, h'⟩ := hown b k hb; hk.2.2 ⟨b', h'⟩⟩
  have hfree : ∀ b0 k, k ∈ feet E st.blk b0 → (∀ b, lookN ρ b = some b0 → k ∉ feet E' (mkSt sh (vv, bv)).blk b) → ∀ e, Tch T0 E' (mkSt sh (vv, bv)).blk w e k := fun b0 k hk hno e =>
    ⟨hT0 e k (hS.mem.own k ⟨b0, hk⟩).2, hS.mem.feet_lt hk, fun ⟨b, hb⟩ => by
      obtain ⟨b', h1, h2⟩ := hown b k hb
      have : b' = b0 := hS.mem.sep.apart b' b0 k h2 hk
      subst this
      exact hno b h1 hb⟩
  have hmem : Mem w0 F0 T0 E' (mkSt sh (vv, bv)).blk w := by
    refine ⟨fun b k' hb => ?_, ⟨fun b => ?_, fun b b2 j hj hj2 => ?_⟩, fun k hk => ?_, hS.mem.frame⟩
    · obtain ⟨b', k, q, h1, h2, h3, pin, rfl⟩ := hblk b k' hb
      have e1 : E'.g b = E.g b' := by simp [E', h1]
      have e2 : E'.base b = E.base b' := by simp [E', h1]
      have hbk := hS.mem.blks b' k h2
      refine ⟨?_, fun hv => ?_⟩
      · rw [e1]
        refine (holds_weak hTch k.ty k.p q k.x (E.g b') h3 hbk.holds (fun j hj hn' => hfree b' j (mem_feet_of_foot h2 hj) (fun b3 hb3 hin => ?_)) (foot_nodup hS.mem h2)).1
        have : b3 = b := apart_look hap hb3 h1
        subst this
        rw [feet_of hb] at hin
        rcases List.mem_append.1 hin with hin | hin
        · have hnd := hS.mem.sep.nodup b'
          rw [feet_of h2, List.nodup_append] at hnd
          simp only [e2] at hin
          exact hnd.2.2 j hin j hj rfl
        · simp only [e1] at hin
          exact hn' hin
      · rw [e1, e2]; exact hbk.var hv
    · cases hb : (mkSt sh (vv, bv)).blk b with
      | none => unfold feet; rw [hb]; simp
      | some k' =>
        obtain ⟨b', k, h1, h2, h3⟩ := hfeet b k' hb
        exact (hS.mem.sep.nodup b').sublist h3
    · obtain ⟨b', h1, h2⟩ := hown b j hj
      obtain ⟨b2', h3, h4⟩ := hown b2 j hj2
      have : b' = b2' := hS.mem.sep.apart b' b2' j h2 h4
      subst this
      exact apart_look hap h1 h3
    · obtain ⟨b, hb⟩ := hk
      obtain ⟨b', _, h2⟩ := hown b k hb
      exact hS.mem.own k ⟨b', h2⟩
  refine ⟨E', ⟨?_, by rw [hS.size, mkSt_len, hn], hS.defers, hmem⟩⟩
  have key : ∀ (l : List (Nat × SReg)) (vl : VDen l) (rs : List Reg), readV st ρ (mkSt sh (vv, bv)).blks l = some vl → (∀ t, RegOk E' w (Tch T0 E' (mkSt sh (vv, bv)).blk w) (mkSt sh (vv, bv)).blk (nth rs t .undef) (a.tmps.getD t undef)) →
      ∀ t, RegOk E' w (Tch T0 E' (mkSt sh (vv, bv)).blk w) (mkSt sh (vv, bv)).blk (nth (mkRegs l vl rs) t .undef) (a.tmps.getD t undef) := by
    have hset : ∀ (rs : List Reg) (t0 : Nat) (r0 : Reg), RegOk E' w (Tch T0 E' (mkSt sh (vv, bv)).blk w) (mkSt sh (vv, bv)).blk r0 (a.tmps.getD t0 undef) → (∀ t, RegOk E' w (Tch T0 E' (mkSt sh (vv, bv)).blk w) (mkSt sh (vv, bv)).blk (nth rs t .undef) (a.tmps.getD t undef)) →
        ∀ t, RegOk E' w (Tch T0 E' (mkSt sh (vv, bv)).blk w) (mkSt sh (vv, bv)).blk (nth (setN rs t0 r0) t .undef) (a.tmps.getD t undef) := fun rs t0 r0 h0 h1 t => by
      rw [nth_setN]
      by_cases e : t = t0 ∧ t0 < rs.length
      · rw [if_pos e, e.1]; exact h0
      · rw [if_neg e]; exact h1 t
    intro l
    induction l with
    | nil => intro vl rs _ h t; exact h t
    | cons e l ih =>
      obtain ⟨t0, sr⟩ := e
      intro vl rs hr hrs
      have hreg := hS.regs t0
      cases sr with
      | val ty =>
        simp only [readV] at hr
        split at hr
        case h_2 => cases hr
        rename_i x hx
        split at hr
        case isFalse => cases hr
        rename_i hno
        split at hr
        case h_2 => cases hr
        rename_i v' hv'
        cases hr
        simp only [mkRegs]
        refine ih v' _ hv' (hset rs t0 _ ?_ hrs)
        obtain ⟨g, h1, h2⟩ := arg_ok hS.mem hx hreg hTch (fun b0 hb0 _ _ e _ k hk => hfree b0 k hk (fun b hb _ => by
          have := noneIn_out hno b0 hb0
          rw [hasN_of_look hb] at this; cases this) e)
        exact ⟨g, h2, h1⟩
      | vw b s =>
        simp only [readV] at hr
        split at hr
        case h_2 => cases hr
        rename_i b' s' hrg
        split at hr
        case isFalse => cases hr
        rename_i hcc
        obtain ⟨rfl, hl, hse⟩ := hcc
        simp only [mkRegs]
        refine ih vl _ hr (hset rs t0 _ ?_ hrs)
        rw [hrg] at hreg
        obtain ⟨k, y, q1, q2, q3, q4⟩ := hreg
        unfold seen at hse
        split at hse
        case h_2 => cases hse
        rename_i k' hk'
        have hk'' : (mkSt sh (vv, bv)).blk b = some k' := hk'
        obtain ⟨b2, k2, q, h1, h2, h3, pin, rfl⟩ := hblk b k' hk''
        rw [hl] at h1; cases h1
        rw [q1] at h2; cases h2
        obtain ⟨y', hy'⟩ := Option.isSome_iff_exists.1 hse
        obtain ⟨p', rfl⟩ := sub_perm _ _ _ _ _ _ _ q2 hy'
        exact ⟨_, _, hk'', hy', q3, by simp only [E', hl, Option.getD_some]; exact q4⟩
      | ptr b s =>
        simp only [readV] at hr
        split at hr
        case h_2 => cases hr
        rename_i b' s' hrg
        split at hr
        case isFalse => cases hr
        rename_i hcc
        obtain ⟨rfl, hl, hse⟩ := hcc
        simp only [mkRegs]
        refine ih vl _ hr (hset rs t0 _ ?_ hrs)
        rw [hrg] at hreg
        obtain ⟨k, y, q1, q2, q3, q5, q4⟩ := hreg
        unfold seen at hse
        split at hse
        case h_2 => cases hse
        rename_i k' hk'
        have hk'' : (mkSt sh (vv, bv)).blk b = some k' := hk'
        obtain ⟨b2, k2, q, h1, h2, h3, pin, rfl⟩ := hblk b k' hk''
        rw [hl] at h1; cases h1
        rw [q1] at h2; cases h2
        obtain ⟨y', hy'⟩ := Option.isSome_iff_exists.1 hse
        exact ⟨_, _, hk'', hy', q3, q5, by simp only [E', hl, Option.getD_some]; exact q4⟩
      | nil =>
        simp only [readV] at hr
        split at hr
        case h_2 => cases hr
        rename_i hrg
        rw [hrg] at hreg
        simp only [mkRegs]
        exact ih vl _ hr (hset rs t0 _ hreg hrs)
      | fn f =>
        simp only [readV] at hr
        split at hr
        case h_2 => cases hr
        rename_i g hrg
        split at hr
        case isFalse => cases hr
        rename_i hfg
        subst hfg
        rw [hrg] at hreg
        simp only [mkRegs]
        exact ih vl _ hr (hset rs t0 _ hreg hrs)
      | vwi b s0 =>
        simp only [readV] at hr
        split at hr
        case h_2 => cases hr
        rename_i b' s' hrg
        split at hr
        case h_2 => cases hr
        rename_i i' hid
        have hsi := idxOf_is _ _ _ hid
        subst hsi
        split at hr
        case isFalse => cases hr
        rename_i hcc
        obtain ⟨hl, hse⟩ := hcc
        split at hr
        case h_2 => cases hr
        rename_i v' hv'
        cases hr
        simp only [mkRegs]
        refine ih v' _ hv' (hset rs t0 _ ?_ hrs)
        rw [hrg] at hreg
        obtain ⟨k, y, q1, q2, q3, q4⟩ := hreg
        unfold seen at hse
        split at hse
        case h_2 => cases hse
        rename_i k' hk'
        have hk'' : (mkSt sh (vv, bv)).blk b = some k' := hk'
        obtain ⟨b2, k2, q, h1, h2, h3, pin, rfl⟩ := hblk b k' hk''
        rw [hl] at h1; cases h1
        rw [q1] at h2; cases h2
        obtain ⟨y', hy'⟩ := Option.isSome_iff_exists.1 hse
        obtain ⟨p', rfl⟩ := sub_perm _ _ _ _ _ _ _ q2 hy'
        exact ⟨_, _, hk'', hy', q3, by simp only [E', hl, Option.getD_some]; exact q4⟩
      | clo g0 cs =>
        simp only [readV] at hr
        split at hr
        case h_2 => cases hr
        rename_i g' cs' hrg
        split at hr
        case isFalse => cases hr
        rename_i hcc
        obtain ⟨rfl, hcl⟩ := hcc
        simp only [mkRegs]
        refine ih vl _ hr (hset rs t0 _ ?_ hrs)
        rw [hrg] at hreg
        obtain ⟨q1, q2⟩ := cloB_ok (E := E) (E' := E') (fun b c hbc => by simp [E', hbc]) cs cs' hcl
        exact ⟨q1, by rw [hreg.2, q2]⟩
  exact key sh.regs vv (rep sh.n .undef) hvv (fun t => by rw [rep_nth]; split <;> trivial)
end
end Go.Rx
namespace Go.Rx
noncomputable section
open Go.RowKit
def blkOf : Reg → List Nat
  | .vw b _ => [b]
  | .sl b _ _ _ => [b]
  | .ptr b _ => [b]
  | .tup b _ => [b]
  | .clo _ bs => bs
  | _ => []
def Same (st st' : St) (r : Reg) : Prop := ∀ b, b ∈ blkOf r → st.blk b = st'.blk b
theorem Same.kill {st st' : St} {r : Reg} (h : Same st st' r) (K : List Kill) : Same st st' (killL K r) := by
  rcases killL_or K r with e | e <;> rw [e]
  · exact h
  · intro b hb; cases hb
theorem blkU_congr {st st' : St} {b : Nat} (h : st.blk b = st'.blk b) (U : List (Nat × Option Blk)) : st.blkU U b = st'.blkU U b := by
  unfold St.blkU; rw [h]
theorem cont_congr {st st' : St} {r : Reg} (h : Same st st' r) (U : List (Nat × Option Blk)) : r.cont st U = r.cont st' U := by
  cases r with
  | vw b s => simp only [Reg.cont]; rw [blkU_congr (h b (by simp [blkOf])) U]
  | sl b s lo n => simp only [Reg.cont]; rw [blkU_congr (h b (by simp [blkOf])) U]
  | _ => rfl
theorem contOf_congr {st st' : St} {r : Reg} (h : Same st st' r) (U : List (Nat × Option Blk)) (t : Ty) : contOf st U t r = contOf st' U t r := by
  cases r with
  | nilS => rfl
  | _ => simp only [contOf]; exact cont_congr h U
theorem contAs_congr {st st' : St} {r : Reg} (h : Same st st' r) (U : List (Nat × Option Blk)) (t : Ty) : contAs st U t r = contAs st' U t r := by
  unfold contAs; rw [contOf_congr h]
theorem src_of {st : St} {U : List (Nat × Option Blk)} {t : Ty} {r : Reg} {c : Cont} (h : contOf st U t r = some c) : ∀ b s, c.src = some (b, s) → b ∈ blkOf r := by
  intro b s hs
  cases r with
  | nilS => cases t <;> simp [contOf] at h; subst h; cases hs
  | val t x => simp only [contOf, Reg.cont, Option.some.injEq] at h; subst h; cases hs
  | vw b' s' =>
    simp only [contOf, Reg.cont] at h
    split at h
    · split at h
      · cases h; cases hs; simp [blkOf]
      · cases h
    · cases h
  | sl b' s' lo n =>
    simp only [contOf, Reg.cont] at h
    split at h
    · split at h
      · cases h; cases hs
      · cases h
    · cases h
  | _ => simp [contOf, Reg.cont] at h
theorem takeOf_congr {st st' : St} {U : List (Nat × Option Blk)} {t : Ty} {r : Reg} {c : Cont} (h : Same st st' r) (hc : contOf st U t r = some c) : takeOf st U r c = takeOf st' U r c := by
  have hs := src_of hc
  unfold takeOf
  split
  · rfl
  · split
    · rfl
    · split
      · rfl
      · rename_i b s hsrc
        rw [blkU_congr (h b (hs b s hsrc)) U]
theorem takeAs_congr {st st' : St} {r : Reg} (h : Same st st' r) (U : List (Nat × Option Blk)) (t : Ty) : takeAs st U t r = takeAs st' U t r := by
  unfold takeAs
  rw [← contOf_congr h]
  cases hc : contOf st U t r with
  | none => rfl
  | some c => exact takeOf_congr h hc
theorem fill_congr {st st' : St} {nf : Nat} : ∀ (ps : List (Nat × Reg)) (t : Ty) (p : Perm) (x : t.den) (U : List (Nat × Option Blk)) (K : List Kill), (∀ q, q ∈ ps → Same st st' q.2) → fill st nf ps t p x U K = fill st' nf ps t p x U K
  | [], _, _, _, _, _, _ => rfl
  | (i, r) :: ps, t, p, x, U, K, h => by
    have hr : Same st st' r := h (i, r) (by simp)
    simp only [fill]
    split
    · cases hsub : sub t p x (fieldPath nf i) with
      | none => rfl
      | some y =>
        simp only
        rw [contAs_congr (hr.kill K), takeAs_congr (hr.kill K)]
        split
        · split
          · exact fill_congr ps _ _ _ _ _ (fun q hq => h q (List.mem_cons_of_mem _ hq))
          · rfl
        · rfl
    · rfl
theorem flatRow_congr {st st' : St} {t : Ty} : ∀ (ps : List (Nat × Reg)) (n : Nat), (∀ q, q ∈ ps → Same st st' q.2) → flatRow st t n ps = flatRow st' t n ps
  | [], _, _ => rfl
  | (i, r) :: ps, n, h => by
    simp only [flatRow]
    rw [contAs_congr (h (i, r) (by simp)), flatRow_congr ps (n + 1) (fun q hq => h q (List.mem_cons_of_mem _ hq))]
theorem flatArr_congr {st st' : St} {t : Ty} {n : Nat} : ∀ (ps : List (Nat × Reg)) (xs : List t.den), (∀ q, q ∈ ps → Same st st' q.2) → flatArr st t n ps xs = flatArr st' t n ps xs
  | [], _, _ => rfl
  | (i, r) :: ps, xs, h => by
    simp only [flatArr]
    rw [contAs_congr (h (i, r) (by simp))]
    cases contAs st' [] t r with
    | none => rfl
    | some c =>
      simp only
      rw [flatArr_congr ps _ (fun q hq => h q (List.mem_cons_of_mem _ hq))]
theorem argOf_congr {st st' : St} {r : Reg} (h : Same st st' r) (t : Ty) : argOf st t r = argOf st' t r := by
  unfold argOf; rw [contAs_congr h]
theorem argsOf_congr {st st' : St} : ∀ (l : List Ty) (rs : List Reg), (∀ r, r ∈ rs → Same st st' r) → argsOf st l rs = argsOf st' l rs
  | [], [], _ => rfl
  | [], _ :: _, _ => rfl
  | _ :: _, [], _ => rfl
  | t :: l, r :: rs, h => by
    simp only [argsOf]
    rw [argOf_congr (h r (by simp)), argsOf_congr l rs (fun q hq => h q (List.mem_cons_of_mem _ hq))]
theorem givOf_congr {st st' : St} (g : Giv) (rs : List Reg) (h : ∀ r, r ∈ rs → Same st st' r) : givOf st g rs = givOf st' g rs := by
  cases rs with
  | nil => cases g <;> rfl
  | cons r rs =>
    have hr := h r (by simp)
    cases g <;> cases r <;> first | rfl | skip
    all_goals
      rename_i b s
      cases s with
      | nil => simp only [givOf]; rw [hr b (by simp [blkOf])]
      | cons _ _ => rfl
theorem givOf_blk {st : St} {g : Giv} {rs : List Reg} {x : g.den} {b : Nat} {rs' : List Reg} (h : givOf st g rs = some (x, some b, rs')) : ∃ r, r ∈ rs ∧ b ∈ blkOf r := by
  cases g with
  | none => simp [givOf] at h
  | move t p => obtain ⟨b', rs0, k, ht, hk, hrs, _, _, _, _, hz⟩ := givOf_move' h; simp only [Prod.mk.injEq, Option.some.injEq] at hz; exact ⟨.vw b' [], by rw [hrs]; simp, by rw [hz.2.1]; simp [blkOf]⟩
  | «mut» t p q => simp [givOf] at h
  | ptr t p q => obtain ⟨b', rs0, k, ht, hk, hrs, _, _, _, hz⟩ := givOf_ptr' h; simp only [Prod.mk.injEq, Option.some.injEq] at hz; exact ⟨.ptr b' [], by rw [hrs]; simp, by rw [hz.2.1]; simp [blkOf]⟩
where
  givOf_move' {st : St} {t : Ty} {p : Perm} {rs : List Reg} {z : t.den × Option Nat × List Reg} (h : givOf st (.move t p) rs = some z) := givOf_move h
  givOf_ptr' {st : St} {t : Ty} {p q : Perm} {rs : List Reg} {z : t.den × Option Nat × List Reg} (h : givOf st (.ptr t p q) rs = some z) := givOf_ptr h
theorem givOf_rest {st : St} {g : Giv} {rs : List Reg} {x : g.den} {ob : Option Nat} {rs' : List Reg} (h : givOf st g rs = some (x, ob, rs')) : ∀ r, r ∈ rs' → r ∈ rs := by
  cases g with
  | none => simp only [givOf, Option.some.injEq, Prod.mk.injEq] at h; rw [h.2.2]; exact fun _ h => h
  | move t p => obtain ⟨b', rs0, k, ht, hk, hrs, _, _, _, _, hz⟩ := givOf_move h; simp only [Prod.mk.injEq] at hz; rw [hrs, hz.2.2]; exact fun _ h => List.mem_cons_of_mem _ h
  | «mut» t p q => simp [givOf] at h
  | ptr t p q => obtain ⟨b', rs0, k, ht, hk, hrs, _, _, _, hz⟩ := givOf_ptr h; simp only [Prod.mk.injEq] at hz; rw [hrs, hz.2.2]; exact fun _ h => List.mem_cons_of_mem _ h
theorem outOf_congr {st st' : St} {b : Nat} (h : st.blk b = st'.blk b) (g : Giv) (x : g.out) : outOf st b g x = outOf st' b g x := by
  have : pinOf st b = pinOf st' b := by unfold pinOf; rw [h]
  cases g <;> simp only [outOf, this]
theorem lentTys_congr {st st' : St} : ∀ (rs : List Reg), (∀ r, r ∈ rs → Same st st' r) → lentTys st (lent rs) = lentTys st' (lent rs)
  | [], _ => rfl
  | r :: rs, h => by
    have ih := lentTys_congr rs fun q hq => h q (List.mem_cons_of_mem _ hq)
    have h0 := h r (by simp)
    cases r with
    | vw b s => simp only [lent, lentTys]; rw [ih, h0 b (by simp [blkOf])]
    | sl b s lo n => simp only [lent, lentTys]; rw [ih, h0 b (by simp [blkOf])]
    | _ => simpa only [lent] using ih
theorem callOld_congr {st st' : St} {d : Nat} {sp : Spec} {rs : List Reg} (h : ∀ r, r ∈ rs → Same st st' r) (hl : st.blks.length = st'.blks.length) : callOld st d sp rs = callOld st' d sp rs := by
  unfold callOld
  rw [← givOf_congr sp.giv rs h]
  cases hg : givOf st sp.giv rs with
  | none => rfl
  | some gv =>
    obtain ⟨x, ob, rs'⟩ := gv
    simp only
    have hrs' : ∀ r, r ∈ rs' → Same st st' r := fun r hr => h r (givOf_rest hg r hr)
    rw [← argsOf_congr sp.args rs' hrs', ← lentTys_congr rs' hrs', ← hl]
    have hout : ∀ y, outOf st (ob.getD st.blks.length) sp.giv y = outOf st' (ob.getD st.blks.length) sp.giv y := fun y => by
      cases ob with
      | none =>
        have h0 : st.blk st.blks.length = st'.blk st.blks.length := by
          have e1 : st.blk st.blks.length = none := hand_free st 0
          have e2 : st'.blk st.blks.length = none := by rw [hl]; exact hand_free st' 0
          rw [e1, e2]
        exact outOf_congr h0 _ _
      | some b =>
        obtain ⟨r, hr, hb⟩ := givOf_blk hg
        exact outOf_congr (h r hr b hb) _ _
    simp only [hout]
theorem callMut_congr {st st' : St} {d : Nat} {t : Ty} {p q : Perm} {args : List Ty} {res : Ty} {n : Nat} {pr : Perm} {f : t.den → ADen args → Option (res.den × t.den)} {rs : List Reg} (h : ∀ r, r ∈ rs → Same st st' r) : callMut st d t p q args res n pr f rs = callMut st' d t p q args res n pr f rs := by
  cases rs with
  | nil => rfl
  | cons r rs => cases r with
    | vw b s =>
      simp only [callMut]
      rw [h (.vw b s) (by simp) b (by simp [blkOf]), argsOf_congr args rs (fun q hq => h q (List.mem_cons_of_mem _ hq))]
    | _ => rfl
theorem lastFn_mem : ∀ {rs : List Reg} {kl : Nat × List Reg}, lastFn rs = some kl → ∀ r, r ∈ kl.2 → r ∈ rs
  | [], _, h, _, _ => by simp [lastFn] at h
  | r0 :: rs, kl, h, r, hr => by
    simp only [lastFn] at h
    split at h
    · rename_i k l hl
      cases h
      rcases List.mem_cons.1 hr with e | e
      · rw [e]; exact List.mem_cons_self ..
      · exact List.mem_cons_of_mem _ (lastFn_mem hl r e)
    · split at h
      · cases h; cases hr
      · cases h
theorem callPlan_congr {st st' : St} {d : Nat} {sp : Spec} {rs : List Reg} (h : ∀ r, r ∈ rs → Same st st' r) (hl : st.blks.length = st'.blks.length) : callPlan st d sp rs = callPlan st' d sp rs := by
  obtain ⟨g, args, res, n, pr, F⟩ := sp
  cases g with
  | «mut» t p q => exact callMut_congr h
  | none => exact callOld_congr (sp := ⟨.none, args, res, n, pr, F⟩) h hl
  | move t p => exact callOld_congr (sp := ⟨.move t p, args, res, n, pr, F⟩) h hl
  | ptr t p q => exact callOld_congr (sp := ⟨.ptr t p q, args, res, n, pr, F⟩) h hl
theorem boxHere_congr {st st' : St} {t : Ty} {r : Reg} (h : Same st st' r) : boxHere st t r = boxHere st' t r := by
  cases r with
  | vw b s =>
    cases b with
    | zero => cases s with
      | nil => simp only [boxHere]; rw [h 0 (by simp [blkOf])]
      | cons _ _ => rfl
    | succ b => rfl
  | _ => rfl
theorem regsOf_congr {st st' : St} : ∀ (l : List Operand), (∀ x, x ∈ l → st.opd x = st'.opd x) → regsOf st l = regsOf st' l
  | [], _ => rfl
  | x :: l, h => by simp only [regsOf]; rw [h x (by simp), regsOf_congr l (fun y hy => h y (List.mem_cons_of_mem _ hy))]
theorem regsOf_mem {st : St} : ∀ {l : List Operand} {r : Reg}, r ∈ regsOf st l → ∃ x, x ∈ l ∧ st.opd x = r
  | [], r, h => by cases h
  | x :: l, r, h => by
    simp only [regsOf, List.mem_cons] at h
    rcases h with rfl | h
    · exact ⟨x, by simp, rfl⟩
    · obtain ⟨y, hy, he⟩ := regsOf_mem h; exact ⟨y, List.mem_cons_of_mem _ hy, he⟩
theorem lenReg_congr {st st' : St} {t : Option Ty} {r : Reg} (h : Same st st' r) : lenReg st t r = lenReg st' t r := by
  cases r with
  | vw b s => simp only [lenReg]; rw [cont_congr h]
  | sl b s lo n => rfl
  | val t x => cases t <;> first | rfl | (simp only [lenReg]; rw [cont_congr h])
  | _ => rfl
theorem elemTake_congr {st st' : St} {e : TypeId} {u : Ty} {r : Reg} (h : Same st st' r) : elemTake st e u r = elemTake st' e u r := by
  unfold elemTake; rw [takeAs_congr h]
theorem appendPlan_congr {C : Ctx} {st st' : St} {d : Nat} {t : TypeId} {s x : Reg} (hs : Same st st' s) (hx : Same st st' x) : appendPlan C st d t s x = appendPlan C st' d t s x := by
  unfold appendPlan
  cases C.ty t with
  | none => rfl
  | some ty => cases ty with
    | slice e u =>
      simp only
      rw [contAs_congr hx, elemTake_congr hx]
      cases contAs st' [] (.slice e u) x with
      | none => rfl
      | some c =>
        simp only
        cases elemPerm u c.1 with
        | none => rfl
        | some q => cases elemTake st' e u x with
          | none => rfl
          | some tk =>
            simp only
            cases s with
            | vw b p => cases p with
              | nil => simp only; rw [blkU_congr (hs b (by simp [blkOf])) tk.1]
              | cons a p => simp only; rw [blkU_congr (hs b (by simp [blkOf])) tk.1]
            | _ => rfl
    | _ => rfl
theorem builtinPlan_congr {C : Ctx} {st st' : St} {d : Nat} {b : Builtin} {ts : List TypeId} {rs : List Reg} (h : ∀ r, r ∈ rs → Same st st' r) : builtinPlan C st d b ts rs = builtinPlan C st' d b ts rs := by
  unfold builtinPlan
  split
  · rw [lenReg_congr (h _ (by simp))]
  · rw [appendPlan_congr (h _ (by simp)) (h _ (by simp))]
  · rfl
  · rfl
  · rfl
theorem rowPut_congr {st st' : St} {b : Nat} (h : st.blk b = st'.blk b) (s : Path) (e : TypeId) (k : IntKind) (f : List Int → List Int) : rowPut st b s e k f = rowPut st' b s e k f := by
  unfold rowPut; rw [h]
theorem rowPlan_congr {C : Ctx} {st st' : St} {dst : Option Nat} {b : Builtin} {ts : List TypeId} {rs : List Reg} (h : ∀ r, r ∈ rs → Same st st' r) : rowPlan C st dst b ts rs = rowPlan C st' dst b ts rs := by
  unfold rowPlan
  split
  · rename_i t t' r x d
    unfold copyPlan
    split
    · rename_i b' s lo n
      split
      · rw [contAs_congr (h x (by simp))]
        split
        · rw [rowPut_congr (h (.sl b' s lo n) (by simp) b' (by simp [blkOf]))]
        · rfl
      · rfl
    · rfl
  · rename_i t r
    unfold clearPlan
    split
    · rename_i b' s lo n
      split
      · rw [rowPut_congr (h (.sl b' s lo n) (by simp) b' (by simp [blkOf]))]
      · rfl
    · rfl
  · rename_i t t' s x d
    split
    · exact builtinPlan_congr h
    · unfold zerosPlan
      split
      · split
        · split
          · split
            · rename_i b'
              rw [h (.vw b' []) (by simp) b' (by simp [blkOf])]
            · rfl
          · rfl
        · rfl
      · rfl
  · exact builtinPlan_congr h
  · rfl
def opsOf (o : Oper) : List Operand := o.op.operands.toList
theorem capsOf_congr {st st' : St} : ∀ (l : List Ty) (bs : List Nat), (∀ b, b ∈ bs → st.blk b = st'.blk b) → capsOf st l bs = capsOf st' l bs
  | [], [], _ => rfl
  | [], _ :: _, _ => rfl
  | _ :: _, [], _ => rfl
  | t :: l, b :: bs, h => by
    simp only [capsOf]
    rw [h b (by simp), capsOf_congr l bs (fun c hc => h c (by simp [hc]))]
theorem callClo_congr {st st' : St} {d : Nat} {sp : CSpec} {bs : List Nat} {rs : List Reg} (h : ∀ r, r ∈ rs → Same st st' r) (hb : ∀ b, b ∈ bs → st.blk b = st'.blk b) : callClo st d sp bs rs = callClo st' d sp bs rs := by
  unfold callClo
  rw [argsOf_congr _ _ h, capsOf_congr _ _ hb]
theorem varsOf_mem : ∀ {rs : List Reg} {bs : List Nat}, varsOf rs = some bs → ∀ b, b ∈ bs → ∃ r, r ∈ rs ∧ b ∈ blkOf r
  | [], bs, h, b, hb => by simp [varsOf] at h; subst h; cases hb
  | r :: rs, bs, h, b, hb => by
    unfold varsOf at h
    split at h
    · rename_i heq; cases heq
    · rename_i c rs' heq
      simp only [List.cons.injEq] at heq
      obtain ⟨rfl, rfl⟩ := heq
      split at h
      case h_2 => cases h
      rename_i l hl
      cases h
      rcases List.mem_cons.1 hb with rfl | hb
      · exact ⟨.ptr b [], by simp, by simp [blkOf]⟩
      · obtain ⟨r', h1, h2⟩ := varsOf_mem hl b hb
        exact ⟨r', by simp [h1], h2⟩
    · cases h
theorem parts_congr {st st' : St} {ps : Array (Nat × Operand)} (h : ∀ q, q ∈ ps.toList → st.opd q.2 = st'.opd q.2) : partsOf st ps = partsOf st' ps := by
  unfold partsOf
  rw [parts_go, parts_go]
  exact List.map_congr_left (fun q hq => by rw [h q hq])
theorem parts_mem {st : St} {ps : Array (Nat × Operand)} {q : Nat × Reg} (h : q ∈ partsOf st ps) : ∃ x, (∃ i, (i, x) ∈ ps.toList) ∧ st.opd x = q.2 := by
  unfold partsOf at h
  rw [parts_go] at h
  obtain ⟨p, hp, rfl⟩ := List.mem_map.1 h
  exact ⟨p.2, ⟨p.1, hp⟩, rfl⟩
theorem plan0_congr {C : Ctx} {st st' : St} {o : Oper} (h : ∀ x, x ∈ opsOf o → st.opd x = st'.opd x) (hb : ∀ x, x ∈ opsOf o → Same st st' (st'.opd x)) (hl : st.blks.length = st'.blks.length) : plan0 C st o = plan0 C st' o := by
  unfold opsOf at *
  unfold plan0
  cases hop : o.op with
  | move x =>
    rw [hop] at h
    simp only [h x (by simp [Op.operands])]
  | assign x =>
    rw [hop] at h
    simp only [h x (by simp [Op.operands])]
  | pick c x y =>
    rw [hop] at h
    simp only [h c (by simp [Op.operands]), h x (by simp [Op.operands]), h y (by simp [Op.operands])]
  | box e x =>
    rw [hop] at h hb
    have hs := hb x (by simp [Op.operands])
    simp only [h x (by simp [Op.operands])]
    cases o.dst with
    | none => rfl
    | some d => cases C.ty e with
      | none => rfl
      | some t => simp only [boxHere_congr hs, contAs_congr hs, takeAs_congr hs]
  | build t ps =>
    rw [hop] at h hb
    have hp : partsOf st ps = partsOf st' ps := parts_congr (fun q hq => h q.2 (by simp only [Op.operands]; simp; exact ⟨q.1, by simpa using hq⟩))
    have hq : ∀ q, q ∈ partsOf st' ps → Same st st' q.2 := fun q hq => by
      obtain ⟨x, ⟨i, hx⟩, he⟩ := parts_mem hq
      rw [← he]
      exact hb x (by simp only [Op.operands]; simp; exact ⟨i, by simpa using hx⟩)
    simp only [hp]
    cases o.dst with
    | none => rfl
    | some d => cases C.ty t with
      | none => rfl
      | some ty => cases ty with
        | prod a b => simp only [fill_congr _ _ _ _ _ _ hq]
        | arr n u => simp only [flatArr_congr _ _ hq]
        | _ => rfl
  | buildSlice t n ps =>
    rw [hop] at h hb
    have hp : partsOf st ps = partsOf st' ps := parts_congr (fun q hq => h q.2 (by simp only [Op.operands]; simp; exact ⟨q.1, by simpa using hq⟩))
    have hq : ∀ q, q ∈ partsOf st' ps → Same st st' q.2 := fun q hq => by
      obtain ⟨x, ⟨i, hx⟩, he⟩ := parts_mem hq
      rw [← he]
      exact hb x (by simp only [Op.operands]; simp; exact ⟨i, by simpa using hx⟩)
    simp only [hp]
    cases o.dst with
    | none => rfl
    | some d => cases C.ty t with
      | none => rfl
      | some ty => cases ty with
        | slice e u =>
          simp only [flatRow_congr _ _ hq]
          by_cases hf : u.flat = true
          · simp only [hf, if_true]
          · simp only [if_neg hf]
            split
            · rfl
            · rename_i r hps
              have hr : Same st st' r := hq (0, r) (by rw [hps]; simp)
              rw [contAs_congr hr, takeAs_congr hr]
            · rfl
            · rfl
        | _ => rfl
  | load t a =>
    rw [hop] at h hb
    have hs := hb a (by simp [Op.operands])
    simp only [h a (by simp [Op.operands])]
    cases hr : st'.opd a with
    | ptr b s => rw [hr] at hs; simp only; rw [hs b (by simp [blkOf])]
    | _ => rfl
  | store t a x =>
    rw [hop] at h hb
    have hs := hb a (by simp [Op.operands])
    have hx := hb x (by simp [Op.operands])
    have e1 : storePlan C st t a x = storePlan C st' t a x := by
      unfold storePlan
      simp only [h a (by simp [Op.operands]), h x (by simp [Op.operands])]
      cases hr : st'.opd a with
      | ptr b s =>
        rw [hr] at hs
        have e := hs b (by simp [blkOf])
        simp only
        rw [e]
        cases st'.blk b with
        | none => rfl
        | some k0 =>
          simp only
          cases sub k0.ty k0.p k0.x s with
          | none => rfl
          | some y => simp only [contAs_congr hx, takeAs_congr hx, blkU_congr e]
      | _ => rfl
    have e2 : fillPlan C st t a x = fillPlan C st' t a x := by
      unfold fillPlan
      simp only [h a (by simp [Op.operands]), h x (by simp [Op.operands])]
      split
      · rename_i b j d h1 h2
        rw [h1] at hs
        rw [h2] at hx
        simp only [hs b (by simp [blkOf]), hx d (by simp [blkOf])]
      · rfl
    simp only [e1, e2]
  | nilCheck x =>
    rw [hop] at h
    simp only [h x (by simp [Op.operands])]
  | fieldAddr t x f =>
    rw [hop] at h hb
    have hs := hb x (by simp [Op.operands])
    simp only [h x (by simp [Op.operands])]
    cases hr : st'.opd x with
    | ptr b s => rw [hr] at hs; simp only; rw [hs b (by simp [blkOf])]
    | _ => rfl
  | field t x f =>
    rw [hop] at h hb
    have hs := hb x (by simp [Op.operands])
    simp only [h x (by simp [Op.operands])]
    cases hr : st'.opd x with
    | vw b s => rw [hr] at hs; simp only; rw [hs b (by simp [blkOf])]
    | _ => rfl
  | indexAddr t x i =>
    rw [hop] at h hb
    have hs := hb x (by simp [Op.operands])
    simp only [h x (by simp [Op.operands]), h i (by simp [Op.operands])]
    cases hr : st'.opd x with
    | vw b s => rw [hr] at hs; simp only; rw [hs b (by simp [blkOf])]
    | ptr b s => rw [hr] at hs; simp only; rw [hs b (by simp [blkOf])]
    | val ty y => cases ty <;> rfl
    | rp ty y => cases ty <;> rfl
    | _ => rfl
  | index t x i =>
    rw [hop] at h
    simp only [h x (by simp [Op.operands]), h i (by simp [Op.operands])]
  | slice t x lo hi mx =>
    rw [hop] at h hb
    have hs := hb x (by simp [Op.operands])
    have hlo : ∀ l, lo = some l → st.opd l = st'.opd l := fun l hl => h l (by subst hl; simp [Op.operands])
    have hhi : ∀ l, hi = some l → st.opd l = st'.opd l := fun l hl => h l (by subst hl; simp [Op.operands])
    simp only [h x (by simp [Op.operands])]
    have hvw : ∀ b s, st'.opd x = .vw b s → st.blk b = st'.blk b := fun b s hr => hs b (by rw [hr]; simp [blkOf])
    rcases lo with _ | l <;> rcases hi with _ | m
    · simp only [Option.elim]
      cases hr : st'.opd x with
      | vw b s => simp only; rw [hvw b s hr]
      | val ty y => cases ty <;> rfl
      | _ => rfl
    · simp only [Option.elim, hhi m rfl]
      cases hr : st'.opd x with
      | vw b s => simp only; rw [hvw b s hr]
      | val ty y => cases ty <;> rfl
      | _ => rfl
    · simp only [Option.elim, hlo l rfl]
      cases hr : st'.opd x with
      | vw b s => simp only; rw [hvw b s hr]
      | val ty y => cases ty <;> rfl
      | _ => rfl
    · simp only [Option.elim, hlo l rfl, hhi m rfl]
      cases hr : st'.opd x with
      | vw b s => simp only; rw [hvw b s hr]
      | val ty y => cases ty <;> rfl
      | _ => rfl
  | makeSlice t n m =>
    rw [hop] at h
    simp only [h n (by simp [Op.operands])]
  | binOp op t x y t' =>
    rw [hop] at h
    simp only [h x (by simp [Op.operands]), h y (by simp [Op.operands])]
  | unOp op t x =>
    rw [hop] at h
    simp only [h x (by simp [Op.operands])]
  | convert s t x =>
    rw [hop] at h hb
    have hs := hb x (by simp [Op.operands])
    have hc : ∀ us u, convStr o.dst us u st (st'.opd x) = convStr o.dst us u st' (st'.opd x) := fun us u => by
      unfold convStr
      split
      · rfl
      · rw [argOf_congr hs]
      · rfl
    simp only [h x (by simp [Op.operands]), hc]
  | extract x i =>
    rw [hop] at h hb
    have hs := hb x (by simp [Op.operands])
    simp only [h x (by simp [Op.operands])]
    cases hr : st'.opd x with
    | tup b n => rw [hr] at hs; simp only; rw [hs b (by simp [blkOf])]
    | _ => rfl
  | call c =>
    rw [hop] at h hb
    have ha : ∀ x, x ∈ c.args.toList → x ∈ (Op.call c).operands.toList := fun x hx => by
      have hx' : x ∈ c.args := by simpa using hx
      cases hcal : c.callee <;> simp [Op.operands, Call.operands, hcal, hx']
    have hrs : regsOf st c.args.toList = regsOf st' c.args.toList := regsOf_congr _ (fun x hx => h x (ha x hx))
    have hsm : ∀ r, r ∈ regsOf st' c.args.toList → Same st st' r := fun r hr => by
      obtain ⟨x, hx, he⟩ := regsOf_mem hr
      rw [← he]; exact hb x (ha x hx)
    simp only [hrs]
    cases hcal : c.callee with
    | builtin b => exact rowPlan_congr hsm
    | value f =>
      simp only
      have hsf := hb f (by simp [Op.operands, Call.operands, hcal])
      rw [h f (by simp [Op.operands, Call.operands, hcal])]
      cases hfr : st'.opd f with
      | clo g bs =>
        rw [hfr] at hsf
        simp only
        cases C.clo g with
        | none => rfl
        | some sp => cases o.dst with
          | none => rfl
          | some d => simp only; rw [callClo_congr (bs := bs) hsm (fun b hb' => hsf b hb')]
      | fn g =>
        simp only
        cases C.fn g with
        | none => cases o.dst with
          | none => rfl
          | some d =>
            simp only
            unfold callFn
            cases hlf : lastFn (regsOf st' c.args.toList) with
            | none => rfl
            | some kl =>
              simp only
              have hsm' : ∀ r, r ∈ kl.2 → Same st st' r := fun r hr => hsm r (lastFn_mem hlf r hr)
              cases C.fn (65536 * (g + 1) + kl.1) with
              | none => rfl
              | some sp =>
                obtain ⟨gv, args, res, n, p, F⟩ := sp
                cases gv with
                | none => simp only; rw [show callOld st d ⟨.none, args, res, n, p, F⟩ kl.2 = callOld st' d ⟨.none, args, res, n, p, F⟩ kl.2 from callPlan_congr (sp := ⟨.none, args, res, n, p, F⟩) hsm' hl]
                | «mut» t q r => simp only; rw [callMut_congr hsm']
                | _ => rfl
        | some sp => cases o.dst with
          | none => rfl
          | some d => simp only; rw [callPlan_congr hsm hl]
      | _ => rfl
    | invoke r m => rfl
  | makeFunc fn first caps =>
    rw [hop] at h hb
    cases fn with
    | func g =>
      have ha : ∀ x, x ∈ caps.toList → x ∈ (Op.makeFunc (.func g) first caps).operands.toList := fun x hx => by
        have hx' : x ∈ caps := by simpa using hx
        simp [Op.operands, hx']
      have hrs : regsOf st caps.toList = regsOf st' caps.toList := regsOf_congr _ (fun x hx => h x (ha x hx))
      simp only [hrs]
      cases first.toList with
      | cons _ _ => rfl
      | nil =>
        cases hv : varsOf (regsOf st' caps.toList) with
        | none => rfl
        | some bs =>
          simp only
          have e : bs.all (varB st) = bs.all (varB st') := by
            rw [Bool.eq_iff_iff, List.all_eq_true, List.all_eq_true]
            have key : ∀ b, b ∈ bs → varB st b = varB st' b := fun b hb' => by
              obtain ⟨r, h1, h2⟩ := varsOf_mem hv b hb'
              obtain ⟨x, hx, he⟩ := regsOf_mem h1
              unfold varB
              rw [hb x (ha x hx) b (by rw [he]; exact h2)]
            exact ⟨fun hh b hb' => by rw [← key b hb']; exact hh b hb', fun hh b hb' => by rw [key b hb']; exact hh b hb'⟩
          rw [e]
    | _ => rfl
  | _ => rfl
theorem plan_congr {C : Ctx} {st st' : St} {o : Oper} (h : ∀ x, x ∈ opsOf o → st.opd x = st'.opd x) (hb : ∀ x, x ∈ opsOf o → Same st st' (st'.opd x)) (hl : st.blks.length = st'.blks.length) : plan C st o = plan C st' o := by
  have h0 := plan0_congr (C := C) h hb hl
  unfold plan
  rw [h0]
end
end Go.Rx
namespace Go.Rx
noncomputable section
open Go.RowKit
theorem killR_comm (k k' : Kill) (r : Reg) : killR k (killR k' r) = killR k' (killR k r) := by
  rcases killR_or k r with h | h <;> rcases killR_or k' r with h' | h' <;> simp [h, h']
theorem killL_killR (K : List Kill) (k : Kill) (r : Reg) : killL K (killR k r) = killR k (killL K r) := by
  induction K generalizing r with
  | nil => rfl
  | cons a K ih => simp only [killL]; rw [killR_comm, ih]
theorem killL_comm (K K' : List Kill) (r : Reg) : killL K (killL K' r) = killL K' (killL K r) := by
  induction K' generalizing r with
  | nil => rfl
  | cons a K' ih => simp only [killL]; rw [ih, killL_killR]
def keepsB (K : List Kill) (r : Reg) : Bool := match killL K r, r with
  | .undef, .undef => true
  | .undef, _ => false
  | _, _ => true
theorem keepsB_out {K : List Kill} {r : Reg} (h : keepsB K r = true) : killL K r = r := by
  rcases killL_or K r with e | e
  · exact e
  · unfold keepsB at h
    rw [e] at h ⊢
    cases r <;> first | rfl | cases h
theorem nth_ext {α : Type} (d : α) : ∀ {l m : List α}, l.length = m.length → (∀ t, nth l t d = nth m t d) → l = m
  | [], [], _, _ => rfl
  | a :: l, b :: m, hl, h => by
    have h0 := h 0
    simp only [nth_0] at h0
    have h1 := nth_ext d (l := l) (m := m) (by simpa using hl) (fun t => by simpa using h (t + 1))
    rw [h0, h1]
  | [], _ :: _, hl, _ => by simp at hl
  | _ :: _, [], hl, _ => by simp at hl
def idsOf : List (Nat × Option Blk) → List Nat
  | [] => []
  | (b, _) :: l => b :: idsOf l
theorem nth_updAll_ne : ∀ (U : List (Nat × Option Blk)) (bs : List (Option Blk)) (b : Nat), b ∉ idsOf U → nth (updAll U bs) b none = nth bs b none
  | [], _, _, _ => rfl
  | (c, o) :: U, bs, b, h => by
    simp only [idsOf, List.mem_cons, not_or] at h
    simp only [updAll]
    rw [nth_updAll_ne U _ b h.2, nth_setN, if_neg (fun hh => h.1 hh.1)]
theorem nth_updAll_mem : ∀ (U : List (Nat × Option Blk)) (bs bs' : List (Option Blk)) (b : Nat), bs.length = bs'.length → b ∈ idsOf U → nth (updAll U bs) b none = nth (updAll U bs') b none
  | [], _, _, _, _, h => by cases h
  | (c, o) :: U, bs, bs', b, hl, h => by
    simp only [updAll]
    by_cases hb : b ∈ idsOf U
    · exact nth_updAll_mem U _ _ b (by simp [length_setN, hl]) hb
    · have hbc : b = c := by simp only [idsOf, List.mem_cons] at h; exact h.resolve_right hb
      subst hbc
      rw [nth_updAll_ne U _ b hb, nth_updAll_ne U _ b hb, nth_setN, nth_setN, hl]
      by_cases hlt : b < bs'.length
      · rw [if_pos ⟨rfl, hlt⟩, if_pos ⟨rfl, hlt⟩]
      · rw [if_neg (fun h => hlt h.2), if_neg (fun h => hlt h.2), nth_none _ _ (by omega), nth_none _ _ (by omega)]
theorem st_ext {a b : St} (h1 : a.regs = b.regs) (h2 : a.blks = b.blks) : a = b := by
  cases a; cases b; simp only at h1 h2; rw [h1, h2]
inductive Soft where
  | ty (b : Nat) (s : Path) (T : Ty)
  | vl (b : Nat) (q : Path)
structure Rec where
  dst : Option Nat
  e : Eff
  st : St
  reads : List Nat
  nb : Bool
  soft : Option Soft
  touch : Option (List (Nat × Path))
def Rec.app (r : Rec) (s : St) : St := r.e.apply r.dst s
theorem app_reg (r : Rec) (s : St) (t : Nat) : (r.app s).reg t = if r.dst = some t ∧ t < s.regs.length then r.e.r else killL r.e.kill (s.reg t) := by
  obtain ⟨dst, e, st, reads, nb, soft, touch⟩ := r
  unfold Rec.app St.reg
  cases dst with
  | none => simp only [Eff.apply]; rw [nth_killAll]; simp
  | some d =>
    simp only [Eff.apply]
    rw [nth_setN, length_killAll, nth_killAll]
    by_cases h : t = d ∧ d < s.regs.length
    · rw [if_pos h, if_pos ⟨by rw [h.1], by rw [h.1]; exact h.2⟩]
    · rw [if_neg h, if_neg (fun hh => h ⟨(Option.some.inj hh.1).symm, by rw [Option.some.inj hh.1]; exact hh.2⟩)]
theorem app_len (r : Rec) (s : St) : (r.app s).regs.length = s.regs.length ∧ (r.app s).blks.length = s.blks.length := by
  unfold Rec.app Eff.apply
  cases r.dst <;> simp [length_setN, length_killAll, length_updAll]
theorem app_blk (r : Rec) (s : St) (b : Nat) : (r.app s).blk b = nth (updAll r.e.upd s.blks) b none := by
  unfold Rec.app Eff.apply St.blk; cases r.dst <;> rfl
def disjB : List Nat → List Nat → Bool
  | [], _ => true
  | a :: l, m => !m.contains a && disjB l m
theorem disjB_out : ∀ {l m : List Nat}, disjB l m = true → ∀ b, b ∈ l → b ∉ m
  | [], _, _, b, hb => by cases hb
  | a :: l, m, h, b, hb => by
    simp only [disjB, Bool.and_eq_true, Bool.not_eq_true'] at h
    rcases List.mem_cons.1 hb with rfl | hb
    · simpa using h.1
    · exact disjB_out h.2 b hb
def dstNe : Option Nat → Option Nat → Bool
  | some a, some b => !decide (a = b)
  | _, _ => true
def commB (r r' : Rec) : Bool := dstNe r.dst r'.dst && (keepsB r'.e.kill r.e.r && (keepsB r.e.kill r'.e.r && disjB (idsOf r.e.upd) (idsOf r'.e.upd)))
theorem app_comm {r r' : Rec} (h : commB r r' = true) (s : St) : r.app (r'.app s) = r'.app (r.app s) := by
  simp only [commB, Bool.and_eq_true] at h
  obtain ⟨h1, h2, h3, h4⟩ := h
  have hd : ∀ t, ¬ (r.dst = some t ∧ r'.dst = some t) := fun t ⟨e1, e2⟩ => by rw [e1, e2] at h1; simp [dstNe] at h1
  have k1 := keepsB_out h2
  have k2 := keepsB_out h3
  have hdis := disjB_out h4
  have hreg : (r.app (r'.app s)).regs = (r'.app (r.app s)).regs := by
    refine nth_ext .undef (by rw [(app_len _ _).1, (app_len _ _).1, (app_len _ _).1, (app_len _ _).1]) (fun t => ?_)
    show (r.app (r'.app s)).reg t = (r'.app (r.app s)).reg t
    rw [app_reg, app_reg, app_reg, app_reg, (app_len _ _).1, (app_len _ _).1]
    by_cases e1 : r.dst = some t ∧ t < s.regs.length
    · have e2 : ¬ (r'.dst = some t ∧ t < s.regs.length) := fun e => hd t ⟨e1.1, e.1⟩
      rw [if_pos e1, if_neg e2, if_pos e1, k1]
    · by_cases e2 : r'.dst = some t ∧ t < s.regs.length
      · rw [if_neg e1, if_pos e2, if_pos e2, k2]
      · rw [if_neg e1, if_neg e2, if_neg e2, if_neg e1, killL_comm]
  have hblk : (r.app (r'.app s)).blks = (r'.app (r.app s)).blks := by
    refine nth_ext none (by rw [(app_len _ _).2, (app_len _ _).2, (app_len _ _).2, (app_len _ _).2]) (fun b => ?_)
    show (r.app (r'.app s)).blk b = (r'.app (r.app s)).blk b
    rw [app_blk, app_blk]
    by_cases e1 : b ∈ idsOf r.e.upd
    · have e2 := hdis b e1
      rw [nth_updAll_ne _ _ b e2]
      show _ = (r.app s).blk b
      rw [app_blk]
      exact nth_updAll_mem _ _ _ b (app_len _ _).2 e1
    · rw [nth_updAll_ne _ _ b e1]
      show (r'.app s).blk b = _
      rw [app_blk]
      by_cases e2 : b ∈ idsOf r'.e.upd
      · exact nth_updAll_mem _ _ _ b (app_len _ _).2.symm e2
      · rw [nth_updAll_ne _ _ b e2, nth_updAll_ne _ _ b e2]
        show s.blk b = (r.app s).blk b
        rw [app_blk, nth_updAll_ne _ _ b e1]; rfl
  exact st_ext hreg hblk
end
end Go.Rx
namespace Go.Rx
noncomputable section
open Go.RowKit
variable {P : Program} {C : Ctx} {w0 : World} {F0 : List Nat} {T0 : TypeId → Nat → Prop}
def Gives : Plan → Eff → Prop
  | .go e', e => e' = e
  | .chk b e', e => b = true ∧ e' = e
  | .call _ x mk, e => ∃ r, x = some r ∧ mk r = some e
def Goes (C : Ctx) (ops : Array Oper) (o : Oper) (st : St) (e : Eff) : Prop :=
  match o.guard with
  | none => ∃ pl, plan C st o = some pl ∧ Gives pl e
  | some (j, want) => ∃ c, (ops[j]?).bind (·.dst) = some c ∧ ((∃ b, st.reg c = .val .bool b ∧ ((b = want ∧ ∃ pl, plan C st o = some pl ∧ Gives pl e) ∨ (b ≠ want ∧ e = { r := .no }))) ∨ (st.reg c = .no ∧ e = { r := .no }))
def tmpsOf : List Operand → List Nat
  | [] => []
  | .tmp t :: l => t :: tmpsOf l
  | _ :: l => tmpsOf l
theorem tmpsOf_mem {t : Nat} : ∀ {l : List Operand}, Operand.tmp t ∈ l → t ∈ tmpsOf l
  | [], h => by cases h
  | x :: l, h => by
    rcases List.mem_cons.1 h with rfl | h
    · simp [tmpsOf]
    · have := tmpsOf_mem h
      cases x <;> simp [tmpsOf, this]
def looks (ops : Array Oper) (o : Oper) : List Nat := tmpsOf (opsOf o) ++ (match o.guard with | some (j, _) => (match (ops[j]?).bind (·.dst) with | some c => [c] | none => []) | none => [])
theorem goes_congr {ops : Array Oper} {o : Oper} {st st' : St} {e : Eff} (h : ∀ t, t ∈ looks ops o → st'.reg t = st.reg t) (hb : ∀ t, t ∈ looks ops o → ∀ b, b ∈ blkOf (st.reg t) → st'.blk b = st.blk b) (hl : st'.blks.length = st.blks.length) (hg : Goes C ops o st e) : Goes C ops o st' e := by
  have hopd : ∀ x, x ∈ opsOf o → st'.opd x = st.opd x := fun x hx => by
    cases x with
    | tmp t => exact h t (List.mem_append_left _ (tmpsOf_mem hx))
    | _ => rfl
  have hsame : ∀ x, x ∈ opsOf o → Same st' st (st.opd x) := fun x hx b hbb => by
    cases x with
    | tmp t => exact hb t (List.mem_append_left _ (tmpsOf_mem hx)) b hbb
    | const v => exfalso; revert hbb; show b ∈ blkOf (constReg v) → False; unfold constReg; split <;> simp [blkOf]
    | _ => cases hbb
  have hp : plan C st' o = plan C st o := plan_congr hopd hsame hl
  unfold Goes at *
  cases hgd : o.guard with
  | none => rw [hgd] at hg; rw [hp]; exact hg
  | some jw =>
    obtain ⟨j, want⟩ := jw
    rw [hgd] at hg
    obtain ⟨c, h1, h2⟩ := hg
    refine ⟨c, h1, ?_⟩
    rw [h c (List.mem_append_right _ (by rw [hgd]; simp [h1])), hp]
    exact h2
theorem goes_sound {ops : Array Oper} {i : Nat} {o : Oper} {E : Env} {st : St} {a : Act} {w : World} {e : Eff} {Kw : Act → World → Prop} {Q : Exit → Act → World → Prop} [Laid P] (hC : CtxOk P C) (hT0 : T0Ok P w0 F0 T0) (hS : Sim w0 F0 T0 E st a w) (hfit : Fits st) (hd : dstB st.regs.length o = true)
    (hi : ops[i]? = some o) (h : Goes C ops o st e) (hK : ∀ E' v w', Sim w0 F0 T0 E' (e.apply o.dst st) (a.put o.dst v) w' → Kw (a.put o.dst v) w') : wpOp P ops Q i Kw a w := by
  have hrun : (∃ pl, plan C st o = some pl ∧ Gives pl e) → o.wp P a w Kw Q := fun ⟨pl, hp, hg⟩ => by
    have hs := plan_sound hC hT0 hS hfit (dstB_out hd) hp
    cases pl with
    | go e' => have he : e' = e := hg; subst he; exact Does.wp hs (fun v w' E' h => hK E' v w' h)
    | chk b e' => obtain ⟨hb, he⟩ := hg; subst he; exact Does.wp (hs hb) (fun v w' E' h => hK E' v w' h)
    | call ρ x mk => obtain ⟨r, h1, h2⟩ := hg; exact Does.wp (hs r e h1 h2) (fun v w' E' h => hK E' v w' h)
  unfold wpOp
  rw [hi]
  simp only
  unfold Goes at h
  cases hgd : o.guard with
  | none =>
    rw [hgd] at h
    simp only [Region.wanted, hgd, if_true]
    exact .inl (hrun h)
  | some jw =>
    obtain ⟨j, want⟩ := jw
    rw [hgd] at h
    obtain ⟨c, h1, h23⟩ := h
    have hskip : e = { r := .no } → Kw (a.put o.dst undef) w := fun he => by
      subst he
      refine hK E undef w ?_
      have := hS.skip (d := o.dst)
      cases hdst : o.dst with
      | none => rw [hdst] at this; exact this
      | some d => rw [hdst] at this; exact this
    rcases h23 with ⟨b, h2, h3⟩ | ⟨h2, he⟩
    case inr =>
      have hy := yielded_no hS h1 h2
      simp only [Region.wanted, hgd, hy]
      have : ((none : Option Bool) == some want) = false := rfl
      rw [this]
      simp only [Bool.false_eq_true, if_false]
      exact hskip he
    have hy := yielded_of hS h1 h2
    simp only [Region.wanted, hgd, hy]
    rcases h3 with ⟨rfl, h3⟩ | ⟨hne, rfl⟩
    · simp only [beq_self_eq_true, if_true]
      exact .inl (hrun h3)
    · have : (some b == some want) = false := by simpa using hne
      rw [this]
      simp only [Bool.false_eq_true, if_false]
      exact hskip rfl
def runS : List Rec → (Nat → Bool) → Nat → St → St
  | [], _, _, s => s
  | r :: l, S, m, s => runS l S (m + 1) (bif S m then r.app s else s)
def seqS : List Rec → St → St
  | [], s => s
  | r :: l, s => seqS l (r.app s)
theorem runS_len : ∀ (l : List Rec) (S : Nat → Bool) (m : Nat) (s : St), (runS l S m s).regs.length = s.regs.length ∧ (runS l S m s).blks.length = s.blks.length
  | [], _, _, _ => ⟨rfl, rfl⟩
  | r :: l, S, m, s => by
    simp only [runS]
    have := runS_len l S (m + 1) (bif S m then r.app s else s)
    cases hS : S m with
    | true => simp only [hS, cond_true] at this ⊢; rw [this.1, this.2]; exact app_len r s
    | false => simp only [hS, cond_false] at this ⊢; exact this
theorem runS_same : ∀ (l : List Rec) (S S' : Nat → Bool) (m : Nat) (s : St), (∀ k, m ≤ k → k < m + l.length → S k = S' k) → runS l S m s = runS l S' m s
  | [], _, _, _, _, _ => rfl
  | r :: l, S, S', m, s, h => by
    simp only [runS]
    rw [h m (Nat.le_refl _) (by simp)]
    exact runS_same l S S' (m + 1) _ (fun k h1 h2 => h k (by omega) (by simp only [List.length_cons]; omega))
theorem runS_append : ∀ (l l' : List Rec) (S : Nat → Bool) (m : Nat) (s : St), runS (l ++ l') S m s = runS l' S (m + l.length) (runS l S m s)
  | [], _, _, _, _ => rfl
  | r :: l, l', S, m, s => by
    simp only [List.cons_append, runS]
    rw [runS_append l l' S (m + 1), List.length_cons, Nat.add_assoc, Nat.add_comm 1]
theorem runS_all : ∀ (l : List Rec) (S : Nat → Bool) (m : Nat) (s : St), (∀ k, m ≤ k → k < m + l.length → S k = true) → runS l S m s = seqS l s
  | [], _, _, _, _ => rfl
  | r :: l, S, m, s, h => by
    simp only [runS, seqS]
    rw [h m (Nat.le_refl _) (by simp)]
    exact runS_all l S (m + 1) _ (fun k h1 h2 => h k (by omega) (by simp only [List.length_cons]; omega))
theorem runS_none : ∀ (l : List Rec) (S : Nat → Bool) (m : Nat) (s : St), (∀ k, S k = false) → runS l S m s = s
  | [], _, _, _, _ => rfl
  | r :: l, S, m, s, h => by simp only [runS, h m, cond_false]; exact runS_none l S (m + 1) s h
theorem runS_move (r : Rec) : ∀ (l : List Rec) (S : Nat → Bool) (m : Nat) (s : St), (∀ k r', l[k]? = some r' → S (m + k) = true → commB r' r = true) → runS l S m (r.app s) = r.app (runS l S m s)
  | [], _, _, _, _ => rfl
  | r' :: l, S, m, s, h => by
    simp only [runS]
    have ht := runS_move r l S (m + 1)
    have h' : ∀ s, runS l S (m + 1) (r.app s) = r.app (runS l S (m + 1) s) := fun s => ht s (fun k r'' h1 h2 => h (k + 1) r'' (by simpa using h1) (by rw [← h2]; congr 1; omega))
    cases hS : S m with
    | false => simp only [cond_false]; exact h' s
    | true =>
      simp only [cond_true]
      rw [app_comm (h 0 r' rfl (by simpa using hS))]
      exact h' _
def sparesB (st : St) (r' : Rec) (ts : List Nat) (bs : List Nat) : Bool :=
  ts.all (fun t => (match r'.dst with | some d => !decide (d = t) | none => true) && keepsB r'.e.kill (st.reg t)) && disjB bs (idsOf r'.e.upd)
theorem spares_reg {st s : St} {r' : Rec} {ts bs : List Nat} (h : sparesB st r' ts bs = true) {t : Nat} (ht : t ∈ ts) (hs : s.reg t = st.reg t) : (r'.app s).reg t = st.reg t := by
  simp only [sparesB, Bool.and_eq_true] at h
  have h1 := List.all_eq_true.1 h.1 t ht
  simp only [Bool.and_eq_true] at h1
  rw [app_reg]
  have hd : ¬ (r'.dst = some t ∧ t < s.regs.length) := fun ⟨e, _⟩ => by rw [e] at h1; simp at h1
  rw [if_neg hd, hs]
  exact keepsB_out h1.2
theorem spares_blk {st s : St} {r' : Rec} {ts bs : List Nat} (h : sparesB st r' ts bs = true) {b : Nat} (hb : b ∈ bs) : (r'.app s).blk b = s.blk b := by
  simp only [sparesB, Bool.and_eq_true] at h
  rw [app_blk, nth_updAll_ne _ _ b (disjB_out h.2 b hb)]
  rfl
theorem agree_before {ts bs : List Nat} : ∀ (l : List Rec) (S : Nat → Bool) (m : Nat) (q s : St), q.regs.length = s.regs.length → q.blks.length = s.blks.length → (∀ t, t ∈ ts → s.reg t = q.reg t) → (∀ b, b ∈ bs → s.blk b = q.blk b) →
    (∀ k r, l[k]? = some r → S (m + k) = true ∨ sparesB (seqS (l.take k) q) r ts bs = true) → (∀ t, t ∈ ts → (runS l S m s).reg t = (seqS l q).reg t) ∧ (∀ b, b ∈ bs → (runS l S m s).blk b = (seqS l q).blk b)
  | [], _, _, _, _, _, _, h1, h2, _ => ⟨h1, h2⟩
  | r :: l, S, m, q, s, hl, hl2, h1, h2, h => by
    simp only [runS, seqS]
    have h0 := h 0 r rfl
    simp only [Nat.add_zero, List.take_zero, seqS] at h0
    have hrest : ∀ k r', l[k]? = some r' → S (m + 1 + k) = true ∨ sparesB (seqS (l.take k) (r.app q)) r' ts bs = true := fun k r' hk => by
      have := h (k + 1) r' (by simpa using hk)
      rw [show m + 1 + k = m + (k + 1) by omega]
      simpa [seqS] using this
    cases hS : S m with
    | true =>
      simp only [cond_true]
      refine agree_before l S (m + 1) (r.app q) (r.app s) (by rw [(app_len _ _).1, (app_len _ _).1, hl]) (by rw [(app_len _ _).2, (app_len _ _).2, hl2]) (fun t ht => ?_) (fun b hb => ?_) hrest
      · rw [app_reg, app_reg, h1 t ht, hl]
      · rw [app_blk, app_blk]
        by_cases e : b ∈ idsOf r.e.upd
        · exact nth_updAll_mem _ _ _ b hl2.symm e
        · rw [nth_updAll_ne _ _ b e, nth_updAll_ne _ _ b e]; exact h2 b hb
    | false =>
      simp only [cond_false]
      have hsp : sparesB q r ts bs = true := by rcases h0 with h0 | h0; rw [hS] at h0; cases h0; exact h0
      refine agree_before l S (m + 1) (r.app q) s (by rw [(app_len _ _).1, hl]) (by rw [(app_len _ _).2, hl2]) (fun t ht => ?_) (fun b hb => ?_) hrest
      · rw [spares_reg hsp ht rfl, h1 t ht]
      · rw [spares_blk hsp hb, h2 b hb]
theorem agree_after {ts bs : List Nat} {q : St} : ∀ (l : List Rec) (S : Nat → Bool) (m : Nat) (s : St), (∀ t, t ∈ ts → s.reg t = q.reg t) → (∀ b, b ∈ bs → s.blk b = q.blk b) →
    (∀ k r, l[k]? = some r → S (m + k) = true → sparesB q r ts bs = true) → (∀ t, t ∈ ts → (runS l S m s).reg t = q.reg t) ∧ (∀ b, b ∈ bs → (runS l S m s).blk b = q.blk b)
  | [], _, _, _, h1, h2, _ => ⟨h1, h2⟩
  | r :: l, S, m, s, h1, h2, h => by
    simp only [runS]
    have hrest : ∀ k r', l[k]? = some r' → S (m + 1 + k) = true → sparesB q r' ts bs = true := fun k r' hk hS => h (k + 1) r' (by simpa using hk) (by rw [← hS]; congr 1; omega)
    cases hS : S m with
    | false => simp only [cond_false]; exact agree_after l S (m + 1) s h1 h2 hrest
    | true =>
      simp only [cond_true]
      have hsp := h 0 r rfl (by simpa using hS)
      exact agree_after l S (m + 1) (r.app s) (fun t ht => spares_reg hsp ht (h1 t ht)) (fun b hb => by rw [spares_blk hsp hb, h2 b hb]) hrest
def softB (s : Path) (T : Ty) (o : Option Blk) : Bool := match o with
  | some k => (match sub k.ty k.p k.x s with
    | some y => decide (y.ty = T) && !y.p.plain
    | none => false)
  | none => false
def disP : Path → Path → Bool
  | .fst :: s, .fst :: q => disP s q
  | .snd :: s, .snd :: q => disP s q
  | .fst :: _, .snd :: _ => true
  | .snd :: _, .fst :: _ => true
  | _, _ => false
def subAt (o : Option Blk) (q : Path) : Option Sub := match o with
  | some k => sub k.ty k.p k.x q
  | none => none
theorem mk_l (a b : Perm) : (Perm.mk a b).l = a := by cases a <;> cases b <;> rfl
theorem mk_r (a b : Perm) : (Perm.mk a b).r = b := by cases a <;> cases b <;> rfl
theorem sub_put_dis : ∀ (t : Ty) (p : Perm) (x : t.den) (s : Path) (t' : Ty) (q0 : Perm) (v : t'.den) (r : Perm × t.den) (q : Path), disP s q = true → put t p x s t' q0 v = some r → sub t r.1 r.2 q = sub t p x q
  | .prod a b, p, x, .fst :: s, t', q0, v, r, .fst :: q, hd, hp => by
    simp only [put, Option.map_eq_some_iff] at hp
    obtain ⟨z, hz, rfl⟩ := hp
    simp only [sub, mk_l]
    exact sub_put_dis a p.l x.1 s t' q0 v z q (by simpa [disP] using hd) hz
  | .prod a b, p, x, .snd :: s, t', q0, v, r, .snd :: q, hd, hp => by
    simp only [put, Option.map_eq_some_iff] at hp
    obtain ⟨z, hz, rfl⟩ := hp
    simp only [sub, mk_r]
    exact sub_put_dis b p.r x.2 s t' q0 v z q (by simpa [disP] using hd) hz
  | .prod a b, p, x, .fst :: s, t', q0, v, r, .snd :: q, hd, hp => by
    simp only [put, Option.map_eq_some_iff] at hp
    obtain ⟨z, hz, rfl⟩ := hp
    simp only [sub, mk_r]
  | .prod a b, p, x, .snd :: s, t', q0, v, r, .fst :: q, hd, hp => by
    simp only [put, Option.map_eq_some_iff] at hp
    obtain ⟨z, hz, rfl⟩ := hp
    simp only [sub, mk_l]
  | .int _, _, _, .fst :: _, _, _, _, _, _, _, hp | .int _, _, _, .snd :: _, _, _, _, _, _, _, hp | .bool, _, _, .fst :: _, _, _, _, _, _, _, hp | .bool, _, _, .snd :: _, _, _, _, _, _, _, hp
  | .str, _, _, .fst :: _, _, _, _, _, _, _, hp | .str, _, _, .snd :: _, _, _, _, _, _, _, hp | .err, _, _, .fst :: _, _, _, _, _, _, _, hp | .err, _, _, .snd :: _, _, _, _, _, _, _, hp
  | .arr _ _, _, _, .fst :: _, _, _, _, _, _, _, hp | .arr _ _, _, _, .snd :: _, _, _, _, _, _, _, hp | .slice _ _, _, _, .fst :: _, _, _, _, _, _, _, hp | .slice _ _, _, _, .snd :: _, _, _, _, _, _, _, hp => by simp [put] at hp
  | _, _, _, [], _, _, _, _, _, hd, _ => by simp [disP] at hd
  | _, _, _, .idx _ :: _, _, _, _, _, _, hd, _ => by simp [disP] at hd
  | .prod _ _, _, _, .fst :: _, _, _, _, _, [], hd, _ | .prod _ _, _, _, .snd :: _, _, _, _, _, [], hd, _ => by simp [disP] at hd
  | .prod _ _, _, _, .fst :: _, _, _, _, _, .idx _ :: _, hd, _ | .prod _ _, _, _, .snd :: _, _, _, _, _, .idx _ :: _, hd, _ => by simp [disP] at hd
def sparesS (st : St) (r' : Rec) : Option Soft → Bool
  | none => true
  | some (.ty b s T) => (match lookU r'.e.upd b with | none => true | some o => softB s T (st.blk b) && softB s T o)
  | some (.vl b q) => (match lookU r'.e.upd b with
    | none => true
    | some _ => (match r'.touch with
      | some l => l.all fun p => !decide (p.1 = b) || disP p.2 q
      | none => false))
def Keeps (r : Rec) : Prop := ∀ l, r.touch = some l → ∀ (b : Nat) (o : Option Blk) (q : Path), lookU r.e.upd b = some o → (∀ p, p ∈ l → p.1 = b → disP p.2 q = true) → subAt o q = subAt (r.st.blk b) q
theorem nth_updAll_lt : ∀ (U : List (Nat × Option Blk)) (bs : List (Option Blk)) (b : Nat), b < bs.length → nth (updAll U bs) b none = match lookU U b with | some x => x | none => nth bs b none
  | [], _, _, _ => rfl
  | (c, o) :: U, bs, b, h => by
    simp only [updAll, lookU]
    rw [nth_updAll_lt U _ b (by rw [length_setN]; exact h)]
    cases lookU U b with
    | some x => rfl
    | none =>
      simp only
      rw [nth_setN]
      by_cases e : c = b
      · subst e; rw [if_pos ⟨rfl, h⟩, if_pos rfl]
      · rw [if_neg (fun hh => e hh.1.symm), if_neg e]
theorem app_soft {r : Rec} {s : St} {b : Nat} {p : Path} {T : Ty} (h : softB p T (s.blk b) = true) (hu : (match lookU r.e.upd b with | none => true | some o => softB p T o) = true) : softB p T ((r.app s).blk b) = true := by
  have hlt : b < s.blks.length := by
    rcases Nat.lt_or_ge b s.blks.length with h1 | h1
    · exact h1
    · unfold St.blk at h; rw [nth_none _ _ h1] at h; cases h
  rw [app_blk, nth_updAll_lt _ _ _ hlt]
  cases hl : lookU r.e.upd b with
  | none => exact h
  | some o => rw [hl] at hu; exact hu
theorem app_same {r : Rec} {q : St} {b : Nat} (h : lookU r.e.upd b = none) : (r.app q).blk b = q.blk b := by
  rw [app_blk]
  by_cases hlt : b < q.blks.length
  · rw [nth_updAll_lt _ _ _ hlt, h]; rfl
  · have h1 : q.blk b = none := nth_none _ _ (by omega)
    rw [nth_none _ _ (by rw [length_updAll]; omega), h1]
theorem soft_before {b : Nat} {p : Path} {T : Ty} : ∀ (l : List Rec) (S : Nat → Bool) (m : Nat) (q s : St), q.blks.length = s.blks.length → (s.blk b = q.blk b ∨ (softB p T (s.blk b) = true ∧ softB p T (q.blk b) = true)) →
    (∀ k r, l[k]? = some r → S (m + k) = true ∨ sparesS (seqS (l.take k) q) r (some (.ty b p T)) = true) → (runS l S m s).blk b = (seqS l q).blk b ∨ (softB p T ((runS l S m s).blk b) = true ∧ softB p T ((seqS l q).blk b) = true)
  | [], _, _, _, _, _, h1, _ => h1
  | r :: l, S, m, q, s, hl2, h1, h => by
    simp only [runS, seqS]
    have h0 := h 0 r rfl
    simp only [Nat.add_zero, List.take_zero, seqS] at h0
    have hrest : ∀ k r', l[k]? = some r' → S (m + 1 + k) = true ∨ sparesS (seqS (l.take k) (r.app q)) r' (some (.ty b p T)) = true := fun k r' hk => by
      have := h (k + 1) r' (by simpa using hk)
      rw [show m + 1 + k = m + (k + 1) by omega]
      simpa [seqS] using this
    cases hS : S m with
    | true =>
      simp only [cond_true]
      refine soft_before l S (m + 1) (r.app q) (r.app s) (by rw [(app_len _ _).2, (app_len _ _).2, hl2]) ?_ hrest
      rw [app_blk, app_blk]
      by_cases e : b ∈ idsOf r.e.upd
      · exact .inl (nth_updAll_mem _ _ _ b hl2.symm e)
      · rw [nth_updAll_ne _ _ b e, nth_updAll_ne _ _ b e]; exact h1
    | false =>
      simp only [cond_false]
      have hsp : sparesS q r (some (.ty b p T)) = true := by rcases h0 with h0 | h0; rw [hS] at h0; cases h0; exact h0
      simp only [sparesS] at hsp
      cases hl : lookU r.e.upd b with
      | none => exact soft_before l S (m + 1) (r.app q) s (by rw [(app_len _ _).2, hl2]) (by rw [app_same hl]; exact h1) hrest
      | some o =>
        rw [hl] at hsp
        simp only [Bool.and_eq_true] at hsp
        refine soft_before l S (m + 1) (r.app q) s (by rw [(app_len _ _).2, hl2]) (.inr ⟨?_, app_soft hsp.1 (by rw [hl]; exact hsp.2)⟩) hrest
        rcases h1 with h1 | h1
        · rw [h1]; exact hsp.1
        · exact h1.1
theorem soft_after {b : Nat} {p : Path} {T : Ty} {q : St} : ∀ (l : List Rec) (S : Nat → Bool) (m : Nat) (s : St), softB p T (s.blk b) = true →
    (∀ k r, l[k]? = some r → S (m + k) = true → sparesS q r (some (.ty b p T)) = true) → softB p T ((runS l S m s).blk b) = true
  | [], _, _, _, h1, _ => h1
  | r :: l, S, m, s, h1, h => by
    simp only [runS]
    have hrest : ∀ k r', l[k]? = some r' → S (m + 1 + k) = true → sparesS q r' (some (.ty b p T)) = true := fun k r' hk hS => h (k + 1) r' (by simpa using hk) (by rw [← hS]; congr 1; omega)
    cases hS : S m with
    | false => simp only [cond_false]; exact soft_after l S (m + 1) s h1 hrest
    | true =>
      simp only [cond_true]
      have hsp := h 0 r rfl (by simpa using hS)
      simp only [sparesS] at hsp
      refine soft_after l S (m + 1) (r.app s) (app_soft h1 ?_) hrest
      cases hl : lookU r.e.upd b with
      | none => rfl
      | some o => rw [hl] at hsp; simp only [Bool.and_eq_true] at hsp; exact hsp.2
theorem lookU_ids : ∀ {U : List (Nat × Option Blk)} {b : Nat}, b ∉ idsOf U → lookU U b = none
  | [], _, _ => rfl
  | (c, o) :: U, b, h => by
    simp only [idsOf, List.mem_cons, not_or] at h
    simp only [lookU, lookU_ids h.2]
    rw [if_neg (fun e => h.1 e.symm)]
theorem app_vl {r : Rec} {s : St} {b : Nat} {q : Path} {V : Option Sub} (h : subAt (s.blk b) q = V) (hu : ∀ o, lookU r.e.upd b = some o → subAt o q = V) : subAt ((r.app s).blk b) q = V := by
  rw [app_blk]
  by_cases hlt : b < s.blks.length
  · rw [nth_updAll_lt _ _ _ hlt]
    cases hl : lookU r.e.upd b with
    | none => exact h
    | some o => exact hu o hl
  · have h1 : s.blk b = none := nth_none _ _ (by omega)
    have h2 : nth (updAll r.e.upd s.blks) b none = none := nth_none _ _ (by rw [length_updAll]; omega)
    rw [h2, ← h1]; exact h
theorem spares_vl {st : St} {r : Rec} {b : Nat} {q : Path} (hk : Keeps r) (h : sparesS st r (some (.vl b q)) = true) {o : Option Blk} (ho : lookU r.e.upd b = some o) : subAt o q = subAt (r.st.blk b) q := by
  simp only [sparesS, ho] at h
  split at h
  · rename_i l hl
    refine hk l hl b o q ho (fun p hp hb => ?_)
    have := List.all_eq_true.1 h p hp
    simpa [hb] using this
  · cases h
theorem vl_before {b : Nat} {q : Path} : ∀ (l : List Rec) (S : Nat → Bool) (m : Nat) (c s : St), c.blks.length = s.blks.length → subAt (s.blk b) q = subAt (c.blk b) q →
    (∀ k r, l[k]? = some r → Keeps r ∧ r.st = seqS (l.take k) c ∧ (S (m + k) = true ∨ sparesS (seqS (l.take k) c) r (some (.vl b q)) = true)) → subAt ((runS l S m s).blk b) q = subAt ((seqS l c).blk b) q
  | [], _, _, _, _, _, h1, _ => h1
  | r :: l, S, m, c, s, hl2, h1, h => by
    simp only [runS, seqS]
    obtain ⟨hk0, hst0, h0⟩ := h 0 r rfl
    simp only [Nat.add_zero, List.take_zero, seqS] at h0 hst0
    have hrest : ∀ k r', l[k]? = some r' → Keeps r' ∧ r'.st = seqS (l.take k) (r.app c) ∧ (S (m + 1 + k) = true ∨ sparesS (seqS (l.take k) (r.app c)) r' (some (.vl b q)) = true) := fun k r' hk => by
      have := h (k + 1) r' (by simpa using hk)
      rw [show m + 1 + k = m + (k + 1) by omega]
      simpa [seqS] using this
    cases hS : S m with
    | true =>
      simp only [cond_true]
      refine vl_before l S (m + 1) (r.app c) (r.app s) (by rw [(app_len _ _).2, (app_len _ _).2, hl2]) ?_ hrest
      rw [app_blk, app_blk]
      by_cases e : b ∈ idsOf r.e.upd
      · rw [nth_updAll_mem _ _ _ b hl2.symm e]
      · rw [nth_updAll_ne _ _ b e, nth_updAll_ne _ _ b e]; exact h1
    | false =>
      simp only [cond_false]
      have hsp : sparesS c r (some (.vl b q)) = true := by rcases h0 with h0 | h0; rw [hS] at h0; cases h0; exact h0
      refine vl_before l S (m + 1) (r.app c) s (by rw [(app_len _ _).2, hl2]) ?_ hrest
      rw [h1]
      exact (app_vl rfl (fun o ho => by rw [spares_vl hk0 hsp ho, hst0])).symm
theorem vl_canon {b : Nat} {q : Path} {l : List Rec} {S : Nat → Bool} {m : Nat} {c cs : St} : ∀ k, k ≤ l.length →
    (∀ k' r', k' < k → l[k']? = some r' → Keeps r' ∧ r'.st = seqS (l.take k') c ∧ (S (m + k') = true → sparesS cs r' (some (.vl b q)) = true) ∧ (S (m + k') = false → b ∉ idsOf r'.e.upd)) → subAt ((seqS (l.take k) c).blk b) q = subAt (c.blk b) q
  | 0, _, _ => rfl
  | k + 1, hk, h => by
    have ih := vl_canon (b := b) (q := q) (l := l) (S := S) (m := m) (c := c) (cs := cs) k (by omega) (fun k' r' hk' => h k' r' (by omega))
    have hlt : k < l.length := by omega
    have hr : l[k]? = some l[k] := List.getElem?_eq_getElem hlt
    obtain ⟨h1, h2, h3, h4⟩ := h k _ (by omega) hr
    have hsplit : l.take (k + 1) = l.take k ++ [l[k]] := by rw [List.take_add_one, hr]; rfl
    have hseq : seqS (l.take (k + 1)) c = (l[k]).app (seqS (l.take k) c) := by
      rw [hsplit]
      have : ∀ (a : List Rec) (r : Rec) (s : St), seqS (a ++ [r]) s = r.app (seqS a s) := fun a r s => by
        induction a generalizing s with
        | nil => rfl
        | cons x a ih => exact ih (x.app s)
      exact this _ _ _
    rw [hseq]
    refine app_vl ih (fun o ho => ?_)
    cases hS : S (m + k) with
    | true => rw [spares_vl h1 (h3 hS) ho, h2, ih]
    | false => rw [lookU_ids (h4 hS)] at ho; cases ho
theorem vl_after {b : Nat} {q : Path} {l : List Rec} {S : Nat → Bool} {m : Nat} {c cs s : St} (hs : subAt (s.blk b) q = subAt (c.blk b) q)
    (h : ∀ k r, l[k]? = some r → Keeps r ∧ r.st = seqS (l.take k) c ∧ (S (m + k) = true → sparesS cs r (some (.vl b q)) = true))
    (hd : ∀ k r k' r', k' < k → l[k]? = some r → l[k']? = some r' → S (m + k) = true → S (m + k') = false → b ∈ idsOf r.e.upd → b ∉ idsOf r'.e.upd) : ∀ j, j ≤ l.length → subAt ((runS (l.take j) S m s).blk b) q = subAt (c.blk b) q
  | 0, _ => hs
  | j + 1, hj => by
    have ih := vl_after hs h hd j (by omega)
    have hlt : j < l.length := by omega
    have hr : l[j]? = some l[j] := List.getElem?_eq_getElem hlt
    obtain ⟨h1, h2, h3⟩ := h j _ hr
    have hsplit : l.take (j + 1) = l.take j ++ [l[j]] := by rw [List.take_add_one, hr]; rfl
    have hlen : (l.take j).length = j := by rw [List.length_take]; omega
    rw [hsplit, runS_append, hlen]
    simp only [runS]
    cases hS : S (m + j) with
    | false => exact ih
    | true =>
      simp only [cond_true]
      refine app_vl ih (fun o ho => ?_)
      have hin : b ∈ idsOf l[j].e.upd := by
        by_cases e : b ∈ idsOf l[j].e.upd
        · exact e
        · rw [lookU_ids e] at ho; cases ho
      rw [spares_vl h1 (h3 hS) ho, h2]
      exact vl_canon (S := S) (m := m) (cs := cs) j (by omega) (fun k' r' hk' hr' => by
        obtain ⟨a1, a2, a3⟩ := h k' r' hr'
        exact ⟨a1, a2, a3, fun hf => hd j _ k' r' hk' hr hr' hS hf hin⟩)
end
end Go.Rx

