/- This text proves laws about a reflected evaluator of Go code, part 4 of 4; no condition beyond those each theorem states. -/
import Derived.Handed
import Derived.Lib.AppendIntMem
import Derived.Lib.IndexAny
import Derived.Lib.IndexBytes
import Derived.Lib.ItoaLen
import Derived.Lib.LaidTab
import Derived.Lib.Strings
import Derived.ProofKit
import Derived.Shelf.Strconv.Itoa1
import Derived.Shelf.Strings.Cut
import Derived.Test.YtpoaciklldghkaaRxc
set_option linter.unusedVariables false
set_option linter.unusedSimpArgs false
/- A reflected evaluator for Go code, part 37: a table of types is checked. -/
namespace Go.Rx
noncomputable section
open Go.RowKit

def eqCell : Value → Value → Bool
  | .int k n, .int k' n' => decide (k = k') && decide (n = n')
  | .bool b, .bool b' => b == b'
  | .string s, .string s' => decide (s = s')
  | .slice none n c, .slice none n' c' => decide (n = n') && decide (c = c')
  | .nilIface, .nilIface => true
  | _, _ => false
theorem eqCell_out : ∀ {v v' : Value}, eqCell v v' = true → v = v' := by
  intro v v' h
  unfold eqCell at h
  split at h
  · simp at h; rw [h.1, h.2]
  · simp at h; rw [h]
  · simp at h; rw [h]
  · simp at h; rw [h.1, h.2]
  · rfl
  · cases h
def eqCells : List Value → List Value → Bool
  | [], [] => true
  | v :: vs, w :: ws => eqCell v w && eqCells vs ws
  | _, _ => false
theorem eqCells_out : ∀ {vs ws : List Value}, eqCells vs ws = true → vs = ws
  | [], [], _ => rfl
  | v :: vs, w :: ws, h => by
    simp only [eqCells, Bool.and_eq_true] at h
    rw [eqCell_out h.1, eqCells_out h.2]
  | [], _ :: _, h => by cases h
  | _ :: _, [], h => by cases h
def zeroB (t : Ty) : Option Value → Bool
  | some v => match t.agg, v with
    | true, .agg cs => eqCells cs.toList (cells t t.dflt t.zg)
    | false, v => eqCells [v] (cells t t.dflt t.zg)
    | _, _ => false
  | none => false
theorem zeroB_out {t : Ty} {v : Option Value} (h : zeroB t v = true) : v = some (toV t (cells t t.dflt t.zg)) := by
  unfold zeroB at h
  split at h
  case h_2 => cases h
  rename_i v
  split at h
  · rename_i cs hag
    have := eqCells_out h
    simp only [toV, hag, if_true, ← this]
  · rename_i v' hag
    have := eqCells_out h
    simp [toV, hag, ← this]
  · cases h
def fieldsB (C : Ctx) (t : Ty) (nf : Nat) (fs : Array Field) : Nat → Bool
  | 0 => true
  | f + 1 => fieldsB C t nf fs f && (match fs[f]?, tyAt t (fieldPath nf f) with
    | some fl, some u => decide (C.ty fl.type = some u) && decide (fl.offset = offOf t (fieldPath nf f))
    | _, _ => false)
theorem fieldsB_out {C : Ctx} {t : Ty} {nf : Nat} {fs : Array Field} : ∀ {n : Nat}, fieldsB C t nf fs n = true → ∀ f, f < n → ∃ (fl : Field) (u : Ty), fs[f]? = some fl ∧ tyAt t (fieldPath nf f) = some u ∧ C.ty fl.type = some u ∧ fl.offset = offOf t (fieldPath nf f)
  | 0, _, f, hf => absurd hf (by omega)
  | n + 1, h, f, hf => by
    simp only [fieldsB, Bool.and_eq_true] at h
    by_cases e : f = n
    · subst e
      have h2 := h.2
      split at h2
      · rename_i fl u h3 h4
        simp only [Bool.and_eq_true, decide_eq_true_eq] at h2
        exact ⟨fl, u, h3, h4, h2.1, h2.2⟩
      · cases h2
    · exact fieldsB_out h.1 f (by omega)
def descB (C : Ctx) (nf : Nat) : Ty → Option TypeDesc → Bool
  | .int k, some (.int k') => decide (k = k')
  | .bool, some .bool => true
  | .str, some .string => true
  | .err, some (.interface _) => true
  | .slice e u, some (.slice e') => decide (e = e') && decide (C.ty e = some u)
  | .arr n u, some (.array n' e) => decide (n = n') && decide (C.ty e = some u)
  | .prod a b, some (.struct fs) => decide (fs.size = nf) && fieldsB C (.prod a b) nf fs nf
  | _, _ => false
theorem descB_out {P : Program} {C : Ctx} {t : TypeId} {nf : Nat} : ∀ {ty : Ty}, descB C nf ty (P.underlying t) = true → DescOk P C t nf ty := by
  intro ty h
  unfold descB at h
  split at h
  · rename_i k k' e; simp at h; subst h; exact e
  · rename_i e; exact e
  · rename_i e; exact e
  · rename_i ms e; exact ⟨ms, e⟩
  · rename_i e u e' he; simp at h; obtain ⟨rfl, h⟩ := h; exact ⟨he, h⟩
  · rename_i n u n' e he; simp at h; obtain ⟨rfl, h⟩ := h; exact ⟨e, he, h⟩
  · rename_i a b fs he
    simp only [Bool.and_eq_true, decide_eq_true_eq] at h
    exact ⟨fs, he, h.1, fieldsB_out h.2⟩
  · cases h
def nfB (nf : Nat) : Ty → Bool
  | .prod _ _ => decide (1 ≤ nf)
  | _ => true
theorem nfB_out {nf : Nat} {t : Ty} (h : nfB nf t = true) : t.agg = true → 1 ≤ nf ∨ ∃ n u, t = .arr n u := by
  intro ha
  cases t <;> first | (simp [Ty.agg] at ha; done) | skip
  · left; simpa [nfB] using h
  · exact .inr ⟨_, _, rfl⟩
def cmpFB (C : Ctx) : Nat → Ty → Nat → List Field → Bool
  | 1, t, off, [f] => !(f.name == "_") && (decide (C.ty f.type = some t) && decide (f.offset = off))
  | n + 2, .prod a b, off, f :: fs => !(f.name == "_") && (decide (C.ty f.type = some a) && (decide (f.offset = off) && cmpFB C (n + 1) b (off + a.sz) fs))
  | _, _, _, _ => false
theorem cmpFB_out {C : Ctx} : ∀ (n : Nat) (u : Ty) (off : Nat) (fs : List Field), cmpFB C n u off fs = true → cmpFs C n u off fs
  | 0, u, _, _, h => by cases u <;> simp [cmpFB] at h
  | 1, u, off, fs, h => by
    have key : ∀ f : Field, (!(f.name == "_") && (decide (C.ty f.type = some u) && decide (f.offset = off))) = true → f.name ≠ "_" ∧ C.ty f.type = some u ∧ f.offset = off := fun f h => by
      simpa using h
    cases u <;> (match fs, h with | [f], h => exact key f h)
  | n + 2, u, off, fs, h => by
    cases u with
    | prod a b =>
      match fs, h with
      | f :: fs, h =>
        simp only [cmpFB, Bool.and_eq_true, decide_eq_true_eq, Bool.not_eq_true', beq_eq_false_iff_ne] at h
        exact ⟨h.1, h.2.1, h.2.2.1, cmpFB_out (n + 1) b _ fs h.2.2.2⟩
    | _ => simp [cmpFB] at h
def cmpOkB (P : Program) (C : Ctx) (t : TypeId) (ti : TI) : Bool := !cmpN ti.nf ti.ty || (match P.underlying t with
  | some (.struct fs) => cmpFB C ti.nf ti.ty 0 fs.toList && (!P.stoodInHeld t && !P.eqGuardType P.depth t)
  | _ => false)
theorem cmpOkB_out {P : Program} {C : Ctx} {t : TypeId} {ti : TI} (h : cmpOkB P C t ti = true) (hc : cmpN ti.nf ti.ty = true) : ∃ fs : Array Field, P.underlying t = some (.struct fs) ∧ cmpFs C ti.nf ti.ty 0 fs.toList ∧ P.stoodInHeld t = false ∧ P.eqGuardType P.depth t = false := by
  unfold cmpOkB at h
  rw [hc] at h
  simp only [Bool.not_true, Bool.false_or] at h
  split at h
  · rename_i fs hfs
    simp only [Bool.and_eq_true, Bool.not_eq_true'] at h
    exact ⟨fs, hfs, cmpFB_out _ _ _ _ h.1, h.2.1, h.2.2⟩
  · cases h
def tyB (P : Program) (C : Ctx) (t : TypeId) (ti : TI) : Bool :=
  match P.info? t with
  | some i => decide (i.size = ti.ty.sz) && (decide (i.bytes = ti.bytes) && (zeroB ti.ty i.zero && (decide (0 < ti.ty.sz) && (descB C ti.nf ti.ty (P.underlying t) && (nfB ti.nf ti.ty && cmpOkB P C t ti)))))
  | none => false
theorem tyB_out {P : Program} {C : Ctx} {t : TypeId} {ti : TI} (h : tyB P C t ti = true) : TyOk P C t ti := by
  unfold tyB at h
  split at h
  case h_2 => cases h
  rename_i i hi
  simp only [Bool.and_eq_true, decide_eq_true_eq] at h
  obtain ⟨h1, h2, h3, h4, h5, h6, h7⟩ := h
  exact ⟨⟨i, hi, h1, h2, zeroB_out h3⟩, h4, descB_out h5, nfB_out h6, cmpOkB_out h7⟩
def tabB (P : Program) (C : Ctx) : List (Nat × TI) → Bool
  | [] => true
  | (t, ti) :: l => tyB P C t ti && tabB P C l
theorem tabB_out {P : Program} {C : Ctx} : ∀ {l : List (Nat × TI)}, tabB P C l = true → ∀ t ti, lookT l t = some ti → TyOk P C t ti
  | [], _, t, ti, h => by cases h
  | (a, x) :: l, h, t, ti, hl => by
    simp only [tabB, Bool.and_eq_true] at h
    simp only [lookT] at hl
    split at hl
    · rename_i e; subst e; cases hl; exact tyB_out h.1
    · exact tabB_out h.2 t ti hl
theorem tab_ok {P : Program} {C : Ctx} (h : tabB P C C.tab = true) : TabOk P C := tabB_out h

/-! ### To print a table -/
def tyOf (P : Program) : Nat → TypeId → Option Ty
  | 0, _ => none
  | fuel + 1, t => match P.underlying t with
    | some (.int k) => some (.int k)
    | some .bool => some .bool
    | some .string => some .str
    | some (.interface _) => some .err
    | some (.slice e) => (tyOf P fuel e).map (.slice e)
    | some (.array n e) => (tyOf P fuel e).map (.arr n)
    | some (.struct fs) => if (decide (2 ≤ fs.size) && !P.stoodInHeld t) = true then (fs.toList.mapM fun f => tyOf P fuel f.type).bind fold else none
    | _ => none
where fold : List Ty → Option Ty
  | [] => none
  | [a] => some a
  | a :: l => (fold l).map (.prod a)
def nfOf (P : Program) (t : TypeId) : Nat := match P.underlying t with | some (.struct fs) => fs.size | _ => 0
end
end Go.Rx
/- A reflected evaluator for Go code, part 38: functions known, one by one. -/
namespace Go.Rx
noncomputable section
open Go.RowKit
variable {P : Program}

def lookF : List (Nat × Spec) → Nat → Option Spec
  | [], _ => none
  | (a, x) :: l, g => if a = g then some x else lookF l g
def hasD : List Nat → Nat → Bool
  | [], _ => false
  | a :: l, d => decide (a = d) || hasD l d
def ctxF (tab : List (Nat × TI)) (l : List (Nat × Spec)) (fr : List Nat) : Ctx := ⟨tab, lookF l, hasD fr⟩
def ctx (tab : List (Nat × TI)) (l : List (Nat × Spec)) : Ctx := ctxF tab l []
theorem cmpFs_ctx {tab : List (Nat × TI)} {l l' : List (Nat × Spec)} {fr fr' : List Nat} : ∀ {n : Nat} {u : Ty} {off : Nat} {fs : List Field}, cmpFs (ctxF tab l fr) n u off fs → cmpFs (ctxF tab l' fr') n u off fs
  | 0, u, _, _, h => by cases u <;> exact h.elim
  | 1, u, _, fs, h => by cases u <;> (match fs, h with | [f], h => exact h)
  | n + 2, u, _, fs, h => by
    cases u with
    | prod a b =>
      match fs, h with
      | f :: fs, h => exact ⟨h.1, h.2.1, h.2.2.1, cmpFs_ctx h.2.2.2⟩
    | _ => exact h.elim
theorem ctxF_ok [Laid P] {tab : List (Nat × TI)} {l : List (Nat × Spec)} (h : CtxOk P (ctx tab l)) (fr : List Nat) : CtxOk P (ctxF tab l fr) := by
  refine ⟨fun t ti ht => ?_, h.fn, h.mixed⟩
  have h1 := h.tab t ti ht
  refine ⟨h1.info, h1.pos, ?_, h1.nf, fun hc => ?_⟩
  · have hd := h1.desc
    revert hd
    cases ti.ty <;> exact id
  · obtain ⟨fs, a1, a2, a3⟩ := h1.cmp hc
    exact ⟨fs, a1, cmpFs_ctx a2, a3⟩
theorem ctx_nil [Laid P] {tab : List (Nat × TI)} (h : ∀ l, TabOk P (ctx tab l)) (hm : P.follows .mixedOrders = true) : CtxOk P (ctx tab []) := ⟨h [], (fun g sp hg => by cases hg), hm⟩
theorem ctx_cons [Laid P] {tab : List (Nat × TI)} {l : List (Nat × Spec)} {f : Nat} {sp : Spec} (hT : ∀ l, TabOk P (ctx tab l)) (hl : CtxOk P (ctx tab l)) (h : Sat P f sp) : CtxOk P (ctx tab ((f, sp) :: l)) := by
  refine ⟨hT _, fun g sp' hg => ?_, hl.mixed⟩
  simp only [ctx, ctxF, lookF] at hg
  split at hg
  · rename_i e; subst e; cases hg; exact h
  · exact hl.fn g sp' hg
/-- A table does not hang on the functions known. -/
theorem tab_all {tab : List (Nat × TI)} (h : tabB P (ctx tab []) tab = true) : ∀ l, TabOk P (ctx tab l) := fun l => by
  have := tab_ok (P := P) (C := ctx tab []) h
  intro t ti ht
  have h1 := this t ti ht
  refine ⟨h1.info, h1.pos, ?_, h1.nf, fun hc => ?_⟩
  · have hd := h1.desc
    revert hd
    cases ti.ty <;> exact id
  · obtain ⟨fs, a1, a2, a3⟩ := h1.cmp hc
    exact ⟨fs, a1, cmpFs_ctx a2, a3⟩
end
end Go.Rx
/- What the plain functions are made of: a check; a law that changes a contract's spelling. -/
namespace Go.Rx
noncomputable section
open Go.RowKit
variable {P : Program} {C : Ctx}
def chk {α : Type} (b : Bool) (x : Option α) : Option α := bif b then x else none
def gd {α : Type} (xs : List α) (i : Nat) (d : α) : α := xs.getD i d
theorem chk_true {α : Type} (x : Option α) : chk true x = x := rfl
theorem chk_of {α : Type} {b : Bool} (h : b = true) (x : Option α) : chk b x = x := by rw [h]; rfl
/-- A loop that goes through given states. -/
theorem loop_run {σ R : Type} {L : Nat → σ → R} {B : (σ → R) → σ → R} (hs : ∀ m s, L (m + 1) s = B (L m) s) (s : Nat → σ) (n : Nat) {res : R} (hstep : ∀ i, i < n → ∀ k, B k (s i) = k (s (i + 1))) (hend : ∀ k, B k (s n) = res) (m : Nat) (hm : n < m) : L m (s 0) = res := by
  have key : ∀ d j, j + d = n → ∀ m, d < m → L m (s j) = res := by
    intro d
    induction d with
    | zero =>
      intro j hj m hm
      obtain ⟨q, rfl⟩ : ∃ q, m = q + 1 := ⟨m - 1, by omega⟩
      obtain rfl : j = n := by omega
      rw [hs, hend]
    | succ d ih =>
      intro j hj m hm
      obtain ⟨q, rfl⟩ : ∃ q, m = q + 1 := ⟨m - 1, by omega⟩
      rw [hs, hstep j (by omega)]
      exact ih (j + 1) (by omega) q (by omega)
  exact key n 0 (by omega) m hm
theorem sat_eq [Laid P] (hC : CtxOk P C) {N : Nat} {f : FuncId} {fn : Func} {h : H} {g : Giv} {l : List Ty} {res : Ty} {n : Nat} {p : Perm} {F : g.den → ADen l → Option (res.den × g.out)} (hf : P.funcs[f]? = some fn) (hname : (fn.name == "runtime.NumGoroutine") = false) (hb0 : fn.body.isSome = true)
    (hn : givN g + l.length ≤ fn.ntmps) (hn0 : 0 < fn.ntmps) (he : evalFn C N h fn g l res n p = F) : Sat P f ⟨g, l, res, n, p, F⟩ := he ▸ sat_of_eval hC hf hname hb0 hn hn0
end
end Go.Rx
/- A reflected evaluator for Go code, part 39: arguments as a row's statement reads them, of every type. -/
namespace Go.Rx
noncomputable section
open Go.RowKit
variable {P : Program} {C : Ctx}

/-- The ranges of a value that a statement reads. -/
def Rng : (t : Ty) → t.den → Prop
  | .int k, x => (Lit.int k x).wf = true
  | .bool, _ => True
  | .str, s => s.size ≤ maxLen
  | .err, _ => True
  | .prod a b, x => Rng a x.1 ∧ Rng b x.2
  | .slice _ t, xs => xs.length ≤ maxLen ∧ ∀ i, i < xs.length → Rng t (xs.getD i t.dflt)
  | .arr n t, xs => xs.length = n ∧ ∀ i, i < n → Rng t (xs.getD i t.dflt)
def Good (w : World) (u : Ty) (cs : List Value) : Prop := ∃ x g, cs = cells u x g ∧ Holds w (fun _ k => k < w.heap.size) u .ro x g ∧ Rng u x

theorem cells_of {t : TypeId} {u : Ty} (hT : TabOk P C) (ht : C.ty t = some u) : P.cellsOf t = u.sz := by
  obtain ⟨i, h1, h2, _⟩ := ty_info hT ht
  simp [Program.cellsOf, h1, h2]

theorem list_of {α : Type} {n : Nat} {Pr : Nat → α → Gh → Prop} (d : α) (h : ∀ i, i < n → ∃ x g, Pr i x g) : ∃ (xs : List α) (gs : Nat → Gh), xs.length = n ∧ ∀ i, i < n → Pr i (xs.getD i d) (gs i) := by
  induction n with
  | zero => exact ⟨[], fun _ => .leaf, rfl, fun i hi => absurd hi (by omega)⟩
  | succ n ih =>
    obtain ⟨xs, gs, h1, h2⟩ := ih (fun i hi => h i (by omega))
    obtain ⟨x, g, hx⟩ := h n (by omega)
    refine ⟨xs ++ [x], fun i => if i = n then g else gs i, by simp [h1], fun i hi => ?_⟩
    by_cases e : i = n
    · subst e
      have : (xs ++ [x]).getD i d = x := by simp [List.getD_eq_getElem?_getD, ← h1]
      simp only [this, if_true]; exact hx
    · have hi' : i < n := by omega
      have : (xs ++ [x]).getD i d = xs.getD i d := by simp only [List.getD_eq_getElem?_getD]; rw [List.getElem?_append_left (by omega)]
      simp only [this, if_neg e]; exact h2 i hi'

theorem good_chain {w : World} : ∀ (n : Nat) (ty : Ty) (cs : List Value), 1 ≤ n → cs.length = ty.sz → (∀ f, f < n → ∃ u, tyAt ty (fieldPath n f) = some u ∧ Good w u ((cs.drop (offOf ty (fieldPath n f))).take u.sz)) → Good w ty cs
  | 0, _, _, h, _, _ => by omega
  | 1, ty, cs, _, hl, h => by
    obtain ⟨u, h1, h2⟩ := h 0 (by omega)
    simp only [fieldPath] at h1 h2
    have e1 : tyAt ty [] = some ty := by cases ty <;> rfl
    have e2 : offOf ty [] = 0 := by cases ty <;> rfl
    rw [e1] at h1; cases h1
    rw [e2, List.drop_zero, ← hl, List.take_length] at h2
    exact h2
  | n + 2, ty, cs, _, hl, h => by
    cases ty with
    | prod a b =>
      obtain ⟨u, h1, h2⟩ := h 0 (by omega)
      have e1 : tyAt (.prod a b) (fieldPath (n + 2) 0) = some a := by show tyAt a [] = some a; cases a <;> rfl
      have e2 : offOf (.prod a b) (fieldPath (n + 2) 0) = 0 := by show offOf a [] = 0; cases a <;> rfl
      rw [e1] at h1; cases h1
      rw [e2, List.drop_zero] at h2
      simp only [Ty.sz] at hl
      have hb := good_chain (w := w) (n + 1) b (cs.drop a.sz) (by omega) (by simp; omega) (fun f hf => by
        obtain ⟨u, g1, g2⟩ := h (f + 1) (by omega)
        refine ⟨u, g1, ?_⟩
        have e3 : offOf (.prod a b) (fieldPath (n + 2) (f + 1)) = a.sz + offOf b (fieldPath (n + 1) f) := rfl
        rw [e3] at g2
        rw [List.drop_drop]
        exact g2)
      obtain ⟨x, g, q1, q2, q3⟩ := h2
      obtain ⟨y, g', r1, r2, r3⟩ := hb
      refine ⟨(x, y), .pr g g', ?_, ⟨q2, r2⟩, ⟨q3, r3⟩⟩
      show cs = cells a x g ++ cells b y g'
      rw [← q1, ← r1, List.take_append_drop]
    | _ =>
      obtain ⟨u, h1, _⟩ := h 0 (by omega)
      simp [fieldPath, tyAt] at h1

theorem open_ty {H : Type} {enc : TypeId × Value → H} {w : World} (hT : TabOk P C) : ∀ (fuel : Nat) (ty : Ty) (t : TypeId) (cs : List Value) (x : DataW H × List MemPlace), C.ty t = some ty → DataW.trod enc P w 0 (fun _ => true) true fuel t cs = some x → Good w ty cs
  | 0, _, _, _, _, _, h => by simp [DataW.trod] at h
  | fuel + 1, ty, t, cs, x, ht, h => by
    obtain ⟨ti, _, hti, hok, hnf, _⟩ := ty_ok hT ht
    have hd := hok.desc
    rw [hti] at hd
    cases ty with
    | int k =>
      have hd : P.underlying t = some (.int k) := hd
      match cs, h with
      | [v], h =>
        cases v <;> simp [DataW.trod, hd] at h
        rename_i k' n
        obtain ⟨⟨rfl, h2⟩, _⟩ := h
        exact ⟨n, .leaf, rfl, trivial, h2⟩
      | [], h => simp [DataW.trod, hd] at h
      | _ :: _ :: _, h => simp [DataW.trod, hd] at h
    | bool =>
      have hd : P.underlying t = some .bool := hd
      match cs, h with
      | [v], h =>
        cases v <;> simp [DataW.trod, hd] at h
        rename_i b
        exact ⟨b, .leaf, rfl, trivial, trivial⟩
      | [], h => simp [DataW.trod, hd] at h
      | _ :: _ :: _, h => simp [DataW.trod, hd] at h
    | str =>
      have hd : P.underlying t = some .string := hd
      match cs, h with
      | [v], h =>
        cases v <;> simp [DataW.trod, hd] at h
        rename_i s
        exact ⟨s, .leaf, rfl, trivial, h.1⟩
      | [], h => simp [DataW.trod, hd] at h
      | _ :: _ :: _, h => simp [DataW.trod, hd] at h
    | err =>
      obtain ⟨ms, hd⟩ : ∃ ms, P.underlying t = some (.interface ms) := hd
      match cs, h with
      | [v], h =>
        cases v <;> simp [DataW.trod, hd] at h
        case nilIface => exact ⟨true, .hd .nilIface, rfl, .inl ⟨rfl, rfl⟩, trivial⟩
        case iface u v => exact ⟨false, .hd (.iface u v), rfl, .inr ⟨u, v, rfl, rfl⟩, trivial⟩
      | [], h => simp [DataW.trod, hd] at h
      | _ :: _ :: _, h => simp [DataW.trod, hd] at h
    | prod a b =>
      obtain ⟨fs, hu, hsz, hf⟩ : ∃ fs : Array Field, P.underlying t = some (.struct fs) ∧ fs.size = ti.nf ∧ ∀ f, f < ti.nf → ∃ (fl : Field) (u : Ty), fs[f]? = some fl ∧ tyAt (.prod a b) (fieldPath ti.nf f) = some u ∧ C.ty fl.type = some u ∧ fl.offset = offOf (.prod a b) (fieldPath ti.nf f) := hd
      have hcs := cells_of hT ht
      simp only [DataW.trod, hu] at h
      split at h
      case isFalse => cases h
      rename_i hl
      rw [hcs] at hl
      simp only [Option.map_eq_some_iff] at h
      obtain ⟨xs, h, _⟩ := h
      have hpos : 1 ≤ ti.nf := by
        rcases hok.nf (by rw [hti]; rfl) with h0 | ⟨n, u, h0⟩
        · exact h0
        · rw [hti] at h0; cases h0
      refine good_chain ti.nf _ cs hpos hl (fun f hff => ?_)
      obtain ⟨fl, u, h1, h2, h3, h4⟩ := hf f hff
      have hg := mapM_some_get h f fl (by simpa using h1)
      have hlen := mapM_some_length h
      have hxf : ∃ y, xs[f]? = some y := ⟨_, List.getElem?_eq_getElem (by rw [hlen]; simp; omega)⟩
      obtain ⟨y, hy⟩ := hxf
      rw [hy] at hg
      refine ⟨u, h2, ?_⟩
      rw [← h4, ← cells_of hT h3]
      exact open_ty hT fuel u fl.type _ y h3 hg
    | arr n u =>
      obtain ⟨e, hu, he⟩ : ∃ e, P.underlying t = some (.array n e) ∧ C.ty e = some u := hd
      have hcs := cells_of hT ht
      have hce := cells_of hT he
      have hpos := ty_pos hT he
      simp only [DataW.trod, hu] at h
      split at h
      case isFalse => cases h
      rename_i hl
      rw [hcs] at hl
      simp only [Option.map_eq_some_iff] at h
      obtain ⟨xs, h, _⟩ := h
      have hlen := mapM_some_length h
      have hall : ∀ i, i < n → ∃ y g, ((cs.drop (i * u.sz)).take u.sz = cells u y g ∧ Holds w (fun _ k => k < w.heap.size) u .ro y g ∧ Rng u y) := fun i hi => by
        have hg := mapM_some_get h i i (by simp [hi])
        obtain ⟨z, hz⟩ : ∃ z, xs[i]? = some z := ⟨_, List.getElem?_eq_getElem (by rw [hlen]; simpa using hi)⟩
        rw [hz, hce] at hg
        exact open_ty hT fuel u e _ z he hg
      obtain ⟨ys, gs, h1, h2⟩ := list_of u.dflt hall
      refine ⟨ys, .many gs, ?_, ⟨h1, fun i hi => (h2 i hi).2.1⟩, h1, fun i hi => (h2 i hi).2.2⟩
      show cs = catN (fun i => cells u (ys.getD i u.dflt) (gs i)) n
      refine catN_of_get (s := u.sz) (fun i _ => length_cells _ _ _) hpos hl (fun i j hi hj => ?_)
      rw [← (h2 i hi).1, List.getElem?_take, if_pos hj, List.getElem?_drop]
    | slice e u =>
      obtain ⟨hu, he⟩ : P.underlying t = some (.slice e) ∧ C.ty e = some u := hd
      have hce := cells_of hT he
      have hpos := ty_pos hT he
      match cs, h with
      | [v], h =>
        cases v with
        | slice A len cap =>
          cases A with
          | none =>
            match len, cap, h with
            | 0, 0, h => exact ⟨([] : List u.den), .row (.slice none 0 0) fun _ => .leaf, rfl, zero_ro w _ (.slice e u), by simp [Rng]⟩
            | _ + 1, _, h => simp [DataW.trod, hu] at h
            | 0, _ + 1, h => simp [DataW.trod, hu] at h
          | some a =>
            simp only [DataW.trod, hu] at h
            split at h
            case isFalse => cases h
            rename_i hc
            obtain ⟨_, hle, hmax⟩ := hc
            simp only [Option.bind_eq_some_iff, Option.map_eq_some_iff] at h
            obtain ⟨xs, h, _, _, _⟩ := h
            have hlen := mapM_some_length h
            have hall : ∀ i, i < len → ∃ y g, ((∃ c0, w.cells? 0 (a.add (i * u.sz)) u.sz = some c0 ∧ c0 = cells u y g) ∧ Holds w (fun _ k => k < w.heap.size) u .ro y g ∧ Rng u y) := fun i hi => by
              have hg := mapM_some_get h i i (by simp [hi])
              obtain ⟨z, hz⟩ : ∃ z, xs[i]? = some z := ⟨_, List.getElem?_eq_getElem (by rw [hlen]; simpa using hi)⟩
              rw [hz, hce] at hg
              simp only [Option.bind_eq_some_iff] at hg
              obtain ⟨c0, hc0, hg⟩ := hg
              obtain ⟨y, g, q1, q2, q3⟩ := open_ty hT fuel u e c0 z he hg
              exact ⟨y, g, ⟨c0, hc0, q1⟩, q2, q3⟩
            obtain ⟨ys, gs, h1, h2⟩ := list_of u.dflt hall
            have hspot : 0 < len → a.spot = none ∧ a.block < w.heap.size := fun hi => by
              obtain ⟨⟨c0, hc0, _⟩, _⟩ := h2 0 hi
              obtain ⟨_, hl0, hcell⟩ := World.cells?_some hc0
              have := hcell 0 hpos
              have hsome : ∃ v, w.cell? ((a.add (0 * u.sz)).add 0) = some v := ⟨c0[0]'(by omega), by rw [this]; exact List.getElem?_eq_getElem _⟩
              obtain ⟨v, hv⟩ := hsome
              have e0 : (a.add (0 * u.sz)).add 0 = a := by simp [Addr.add]
              rw [e0] at hv
              unfold World.cell? at hv
              split at hv
              · rename_i c1 _ _ hh
                split at hv
                · cases hv
                · rename_i hsp
                  exact ⟨by simpa using hsp, (Array.getElem?_eq_some_iff.1 hh).1⟩
              · cases hv
            refine ⟨ys, .row (.slice (some a) len cap) gs, rfl, ?_, by rw [h1]; omega, fun i hi => (h2 i (by omega)).2.2⟩
            show (∃ A cap', _ ∧ _) ∧ _
            refine ⟨⟨some a, cap, by rw [h1]; rfl, by rw [h1]; exact hle, fun hne ad had => ?_, by simp, fun hne => ?_, fun ad had => ?_⟩, fun i hi => (h2 i (by omega)).2.1⟩
            · cases had
              have : 0 < ys.length := List.length_pos_iff.2 hne
              exact (hspot (by omega)).1
            · have : 0 < ys.length := List.length_pos_iff.2 hne
              exact ⟨a, rfl, (hspot (by omega)).2⟩
            · cases had
              rw [h1]
              by_cases h0 : len = 0
              · subst h0; intro j v hj; simp [catN] at hj
              · refine memAt_catN (hspot (by omega)).1 (fun _ _ => length_cells _ _ _) (fun i hi => ?_)
                obtain ⟨⟨c0, hc0, q1⟩, _⟩ := h2 i hi
                obtain ⟨_, hl0, hcell⟩ := World.cells?_some hc0
                intro j v hj
                have hjl : j < u.sz := by have := (List.getElem?_eq_some_iff.1 hj).1; rw [length_cells] at this; exact this
                rw [hcell j hjl, q1]
                exact hj
        | _ => simp [DataW.trod, hu] at h
      | [], h => simp [DataW.trod, hu] at h
      | _ :: _ :: _, h => simp [DataW.trod, hu] at h
end
end Go.Rx
/- A reflected evaluator for Go code, part 40: a row's arguments; a law's function answers. -/
namespace Go.Rx
noncomputable section
open Go.RowKit
variable {P : Program} {C : Ctx}

theorem arg_open {H : Type} {enc : TypeId × Value → H} {W : World} {r : Reach} {b0 : Nat} {t : TypeId} {ty : Ty} {v : Value} {d : DataW H} {ps : List MemPlace} (hT : TabOk P C) (ht : C.ty t = some ty) (hval : Value.okWide P W r b0 t v)
    (hd : DataW.Trod enc P W 0 (fun _ => true) true t v d ps) : ∃ x g, v = toV ty (cells ty x g) ∧ Holds W (fun _ k => k < W.heap.size) ty .ro x g ∧ Rng ty x := by
  obtain ⟨fuel, hf⟩ := hd
  obtain ⟨x, g, h1, h2, h3⟩ := open_ty hT fuel ty t _ _ ht hf
  refine ⟨x, g, ?_, h2, h3⟩
  obtain ⟨ti, _, hti, hok, _⟩ := ty_ok hT ht
  have hdesc := hok.desc
  rw [hti] at hdesc
  have key : ty.agg = true → v = .agg v.cells := fun ha => by
    cases ty with
    | prod a b =>
      obtain ⟨fs, hu, _⟩ := hdesc
      unfold Value.okWide at hval
      rw [hu] at hval
      obtain ⟨cs, rfl, _⟩ := hval
      rfl
    | arr n u =>
      obtain ⟨e, hu, _⟩ := hdesc
      unfold Value.okWide at hval
      rw [hu] at hval
      obtain ⟨cs, rfl, _⟩ := hval
      rfl
    | _ => simp [Ty.agg] at ha
  have key2 : ty.agg = false → v.cells = #[v] := fun ha => by
    cases ty with
    | prod a b => simp [Ty.agg] at ha
    | arr n u => simp [Ty.agg] at ha
    | int k =>
      have hu : P.underlying t = some (.int k) := hdesc
      unfold Value.okWide at hval; rw [hu] at hval
      unfold Cell.okWide at hval; rw [hu] at hval
      cases v <;> first | rfl | (unfold Cell.ok at hval; rw [hu] at hval; exact hval.elim)
    | bool =>
      have hu : P.underlying t = some .bool := hdesc
      unfold Value.okWide at hval; rw [hu] at hval
      unfold Cell.okWide at hval; rw [hu] at hval
      cases v <;> first | rfl | (unfold Cell.ok at hval; rw [hu] at hval; exact hval.elim)
    | str =>
      have hu : P.underlying t = some .string := hdesc
      unfold Value.okWide at hval; rw [hu] at hval
      unfold Cell.okWide at hval; rw [hu] at hval
      cases v <;> first | rfl | (unfold Cell.ok at hval; rw [hu] at hval; exact hval.elim)
    | err =>
      obtain ⟨ms, hu⟩ : ∃ ms, P.underlying t = some (.interface ms) := hdesc
      unfold Value.okWide at hval; rw [hu] at hval
      unfold Cell.okWide at hval; rw [hu] at hval
      cases v <;> first | rfl | (unfold Cell.ok at hval; rw [hu] at hval; exact hval.elim)
    | slice e u =>
      obtain ⟨hu, _⟩ : P.underlying t = some (.slice e) ∧ C.ty e = some u := hdesc
      unfold Value.okWide at hval; rw [hu] at hval
      unfold Cell.okWide at hval; rw [hu] at hval
      cases v <;> first | rfl | (unfold Cell.ok at hval; rw [hu] at hval; exact hval.elim)
  unfold toV
  cases ha : ty.agg with
  | true =>
    rw [key ha]
    simp only [if_true]
    rw [← h1]
  | false =>
    simp only [Bool.false_eq_true, if_false]
    rw [← h1, key2 ha]
    rfl

/-- The world of a row's start: everything in it is read only. -/
theorem sat_calls [Laid P] {f : FuncId} {l : List Ty} {res : Ty} {p : Perm} {F : Unit → ADen l → Option (res.den × Unit)} (hs : Sat P f ⟨.none, l, res, 1, p, F⟩) {W : World} {xs : ADen l} {vs : List Value} {r : res.den} (ha : ArgsOk W (fun _ k => k < W.heap.size) l xs vs) (hD : Laid.D P W (fun _ k => k < W.heap.size)) (hr : F () xs = some (r, ())) :
    Calls P f vs.toArray W fun e w' => ∃ v g', e = .returned v ∧ v = toV res (cells res r g') ∧ Frame W [] w' ∧ ∃ T', Holds w' T' res p r g' := by
  refine (hs.2 W (fun _ k => k < W.heap.size) () .leaf 0 xs [] vs (r, ()) rfl ha (by simp [givFeet]) (by simp [givFeet]) (fun _ k hk => ⟨hk, by simp [givFeet]⟩) hD hr).mono fun e w' ⟨v, he, g', gh', T', h1, h2, h3, _⟩ => ?_
  exact ⟨v, g', he, by simpa using h2, h1, T', h3⟩
end
end Go.Rx
/- A reflected evaluator for Go code, part 41: a law's row. -/
namespace Go.Rx
noncomputable section
open Go.RowKit
theorem Frame.below {W w' : World} (h : Frame W [] w') : Below W.heap.size W w' := ⟨h.os, h.tape, h.output, h.size, fun k hk => h.block k hk (by simp)⟩
end
end Go.Rx
/- A reflected evaluator for Go code, part 42: a contract that owns less of its result. -/
namespace Go.Rx
noncomputable section
open Go.RowKit
theorem sat_weak {P : Program} [Laid P] {f : FuncId} {g : Giv} {l : List Ty} {res : Ty} {n : Nat} {p q : Perm} {F : g.den → ADen l → Option (res.den × g.out)} (h : Sat P f ⟨g, l, res, n, p, F⟩) (hw : weak res p q = true) : Sat P f ⟨g, l, res, n, q, F⟩ := by
  refine ⟨h.1, fun w T x gh b xs vs0 vs r a1 a2 a3 a4 a5 a6 hr => (h.2 w T x gh b xs vs0 vs r a1 a2 a3 a4 a5 a6 hr).mono fun e w' ⟨v, he, g', gh', T', hfr, hv, hres, hbk, hnd, hown, hT'⟩ => ?_⟩
  simp only at hv hres hbk hnd hown hT'
  obtain ⟨h1, h2⟩ := holds_weak (T' := fun e k => T' e k ∨ (k ∈ foot res p r.1 g' ∧ k ∉ foot res q r.1 g')) (fun _ k hk => .inl hk) res p q r.1 g' hw hres (fun k hk hn _ => .inr ⟨hk, hn⟩) (List.nodup_append.1 hnd).1
  have hs := h2.append (List.Sublist.refl (backFeet g r.2 gh' b))
  refine ⟨v, he, g', gh', _, hfr, hv, h1, hbk.mono (fun _ k hk => .inl hk), hnd.sublist hs, fun k hk => hown k (hs.subset hk), fun e k hk => ?_⟩
  rcases hk with hk | ⟨hk, hn⟩
  · obtain ⟨b1, b2, b3⟩ := hT' e k hk
    exact ⟨b1, b2, fun hin => b3 (hs.subset hin)⟩
  · obtain ⟨b1, b2⟩ := hown k (List.mem_append_left _ hk)
    refine ⟨b2.elim (fun h => .inr (.inr h)) (fun h => .inr (.inl h)), b1, fun hin => ?_⟩
    rcases List.mem_append.1 hin with h3 | h3
    · exact hn h3
    · exact (List.nodup_append.1 hnd).2.2 k hk k h3 rfl
end
end Go.Rx
/- A reflected evaluator for Go code, part 43: functions of Go's library, by their contracts. -/
namespace Go.Rx
noncomputable section
open Go.RowKit
variable {P : Program}

/-- ASCII text of a length that the library's contracts take. -/
def asciiB (s : ByteArray) : Bool := decide (s.size < 4294967281) && s.data.toList.all fun b => decide (b.toNat < 128)
namespace Px
def strings_ContainsAny (N : Nat) (s c : ByteArray) : Option (Bool × Unit) := chk (asciiB s && asciiB c) <| some (s.data.toList.any fun b => c.data.toList.contains b, ())
end Px
theorem asciiB_out {s : ByteArray} (h : asciiB s = true) : s.size < 4294967281 ∧ ∀ (j : Nat) b, s.data.toList[j]? = some b → b.toNat < 128 := by
  simp only [asciiB, Bool.and_eq_true, decide_eq_true_eq, List.all_eq_true] at h
  exact ⟨h.1, fun j b hj => h.2 b (List.mem_of_getElem? hj)⟩
theorem indexAny_iff (c : List UInt8) : ∀ s : List UInt8, 0 ≤ Lib.indexAny s c ↔ (s.any fun b => c.contains b) = true
  | [] => by simp [Lib.indexAny]
  | b :: l => by
    have ih := indexAny_iff c l
    have hge := Lib.indexAny_ge c l
    rw [List.any_cons, Bool.or_eq_true, ← ih]
    have e0 : Lib.indexAny (b :: l) c = if c.contains b = true then 0 else if (Lib.indexAny l c == -1) = true then -1 else Lib.indexAny l c + 1 := rfl
    by_cases hc : c.contains b = true
    · rw [e0, if_pos hc]
      exact ⟨fun _ => .inl hc, fun _ => Int.le_refl _⟩
    · rw [e0, if_neg hc]
      by_cases e : (Lib.indexAny l c == -1) = true
      · rw [if_pos e]
        have e1 : Lib.indexAny l c = -1 := by simpa using e
        exact ⟨fun h => absurd h (by decide), fun h => (h.resolve_left hc) |> fun h2 => by omega⟩
      · rw [if_neg e]
        have e1 : Lib.indexAny l c ≠ -1 := by simpa using e
        exact ⟨fun h => .inr (by omega), fun h => by have := h.resolve_left hc; omega⟩
theorem containsAny_eq (c s : List UInt8) : Lib.containsAny s c = s.any fun b => c.contains b := by
  rw [Bool.eq_iff_iff, ← indexAny_iff]
  simp only [Lib.containsAny, decide_eq_true_eq]
theorem chk_some {α : Type} {b : Bool} {x : Option α} {r : α} (h : chk b x = some r) : b = true ∧ x = some r := by
  cases b with
  | true => exact ⟨rfl, h⟩
  | false => cases h
/-- Two texts among the arguments. -/
theorem args_str2 {w : World} {T : TypeId → Nat → Prop} {xs : ADen [.str, .str]} {vs : List Value} (h : ArgsOk w T [.str, .str] xs vs) : vs = [.string xs.1, .string xs.2.1] := by
  obtain ⟨g, vs', rfl, _, g2, vs2, rfl, _, h3⟩ := h
  have h3' : vs2 = [] := h3
  subst h3'
  rfl
/-- A call that gives a value without a part that lies elsewhere, and leaves what was as it was. -/
theorem ret_flat {res : Ty} {n : Nat} {args : List Ty} {G : Giv.none.den → ADen args → Option (res.den × Giv.none.out)} {w w' : World} {T : TypeId → Nat → Prop} {x : Giv.none.den} {gh g : Gh} {b : Nat} {r : res.den × Giv.none.out} {v : Value} (hb : Below w.heap.size w w') (hv : v = (if n = 1 then toV res (cells res r.1 g) else .tuple (comps n res r.1 g).toArray))
    (hh : ∀ w T, Holds w T res .ro r.1 g) (hT : ∀ e k, T e k → k < w.heap.size) : RetOk ⟨.none, args, res, n, .ro, G⟩ w T x gh b r v w' := by
  refine ⟨g, .leaf, T, ⟨hb.os, hb.tape, hb.output, hb.size, fun k hk _ => hb.block k hk⟩, hv, hh _ _, trivial, ?_, ?_, ?_⟩
  · simp [foot_ro, backFeet]
  · simp [foot_ro, backFeet]
  · intro e k hk
    refine ⟨.inl hk, Nat.lt_of_lt_of_le (hT e k hk) hb.size, ?_⟩
    simp [foot_ro, backFeet]
theorem sat_containsAny [Laid P] {N : Nat} {f : FuncId} {fn : Func} (hf : P.funcs[f]? = some fn) (hname : (fn.name == "runtime.NumGoroutine") = false) (hb0 : fn.body.isSome = true)
    (h : ∀ (s c : ByteArray) (w : World), s.size < 4294967281 → c.size < 4294967281 → (∀ (j : Nat) b, s.data.toList[j]? = some b → b.toNat < 128) → (∀ (j : Nat) b, c.data.toList[j]? = some b → b.toNat < 128) →
      Calls P f #[.string s, .string c] w fun e w' => e = .returned (.bool (Lib.containsAny s.data.toList c.data.toList)) ∧ Below w.heap.size w w') :
    Sat P f ⟨.none, [.str, .str], .bool, 1, .ro, fun _ x => Px.strings_ContainsAny N x.1 x.2.1⟩ := by
  obtain ⟨c0, hc0⟩ := Option.isSome_iff_exists.1 hb0
  refine ⟨⟨fn, c0, hf, hname, hc0⟩, fun w T x gh b xs vs0 vs r hg ha hnd hlt hT _ hr => ?_⟩
  have hg' : vs0 = [] := hg
  subst hg'
  rw [args_str2 ha]
  obtain ⟨h1, h2⟩ := chk_some hr
  simp only [Bool.and_eq_true] at h1
  cases h2
  obtain ⟨a1, a2⟩ := asciiB_out h1.1
  obtain ⟨b1, b2⟩ := asciiB_out h1.2
  refine (h xs.1 xs.2.1 w a1 b1 a2 b2).mono fun e w' ⟨he, hb⟩ => ⟨_, he, ?_⟩
  refine ret_flat (g := .leaf) hb ?_ (fun _ _ => trivial) (fun e k hk => (hT e k hk).1)
  rw [containsAny_eq]
  rfl
end
end Go.Rx
/- A reflected evaluator for Go code, part 44: functions of Go's library that read a variable of the library's; a function that calls itself. -/
namespace Go.Rx
noncomputable section
open Go.RowKit
variable {P : Program}

/-- A function of which nothing is asked. -/
theorem sat_none [Laid P] {f : FuncId} {fn : Func} {g : Giv} {l : List Ty} {res : Ty} {n : Nat} {p : Perm} (hf : P.funcs[f]? = some fn) (hname : (fn.name == "runtime.NumGoroutine") = false) (hb0 : fn.body.isSome = true) :
    Sat P f ⟨g, l, res, n, p, fun _ _ => none⟩ := by
  obtain ⟨c0, hc0⟩ := Option.isSome_iff_exists.1 hb0
  exact ⟨⟨fn, c0, hf, hname, hc0⟩, fun w T x gh b xs vs0 vs r hg ha hnd hlt hT hD hr => by cases hr⟩

/-- What the library's own variables hold: a number; the table of powers. -/
def doorD (P : Program) (gm : Nat) (w : World) (T : TypeId → Nat → Prop) : Prop :=
  ((∃ e, T e gm) ∧ ∃ m, w.cell? ⟨gm, 0, none⟩ = some (.int .i64 m)) ∧
    ∃ gt, P.globalNamed "internal/strconv.uint64pow10" = some gt ∧ (∃ e, T e gt) ∧ Lib.TabIs P w "internal/strconv.uint64pow10" .u64 Lib.pow10Tab
theorem tabIs_of_block {w w' : World} {name : String} {k : IntKind} {zs : List Int} {g : Nat} (hg : P.globalNamed name = some g) (hb : w'.heap[g]? = w.heap[g]?) (h : Lib.TabIs P w name k zs) : Lib.TabIs P w' name k zs := by
  unfold Lib.TabIs World.var? at h ⊢
  rw [hg] at h ⊢
  simp only [Option.bind_some] at h ⊢
  rw [hb]; exact h
theorem doorD_stable {gm : Nat} {w w' : World} {T T' : TypeId → Nat → Prop} (h : doorD P gm w T) (hk : ∀ e k, T e k → T' e k ∧ w'.heap[k]? = w.heap[k]?) : doorD P gm w' T' := by
  obtain ⟨⟨⟨e1, h1⟩, m, h2⟩, gt, h3, ⟨e4, h4⟩, h5⟩ := h
  refine ⟨⟨⟨e1, (hk e1 gm h1).1⟩, m, ?_⟩, gt, h3, ⟨e4, (hk e4 gt h4).1⟩, tabIs_of_block h3 (hk e4 gt h4).2 h5⟩
  rw [World.cell?_of_block (w := w) (hk e1 gm h1).2]; exact h2
abbrev doorLaid (P : Program) (gm : Nat) : Laid P := ⟨doorD P gm, doorD_stable⟩

namespace Px
def shortB (s : ByteArray) : Bool := decide (s.size < 4294967281)
def strings_Contains (N : Nat) (s c : ByteArray) : Option (Bool × Unit) := chk (shortB s) <| some (Lib.contains s.data.toList c.data.toList, ())
def strings_Cut (N : Nat) (s c : ByteArray) : Option ((ByteArray × ByteArray × Bool) × Unit) :=
  chk (shortB s) <| some ((⟨(Lib.cut s.data.toList c.data.toList).1.toArray⟩, ⟨(Lib.cut s.data.toList c.data.toList).2.1.toArray⟩, (Lib.cut s.data.toList c.data.toList).2.2), ())
def strconv_Itoa (N : Nat) (n : Int) : Option (ByteArray × Unit) := chk (decide (-9223372036854775808 ≤ n) && decide (n ≤ 9223372036854775807)) <| some (⟨(Lib.itoa n).toArray⟩, ())
end Px
theorem args_int1 {k : IntKind} {w : World} {T : TypeId → Nat → Prop} {xs : ADen [.int k]} {vs : List Value} (h : ArgsOk w T [.int k] xs vs) : vs = [.int k xs.1] := by
  obtain ⟨g, vs', rfl, _, h3⟩ := h
  have h3' : vs' = [] := h3
  subst h3'
  rfl
theorem below_drawn (B : Nat) (w : World) (n : Nat) : Below B w (w.drewN n) := ⟨rfl, rfl, rfl, Nat.le_refl _, fun _ _ => rfl⟩
theorem sat_contains (gm : Nat) {N : Nat} {f : FuncId} {fn : Func} (hf : P.funcs[f]? = some fn) (hname : (fn.name == "runtime.NumGoroutine") = false) (hb0 : fn.body.isSome = true)
    (h : ∀ (s c : ByteArray) (m : Int) (w : World), s.size < 4294967281 → w.cell? ⟨gm, 0, none⟩ = some (.int .i64 m) →
      Calls P f #[.string s, .string c] w fun e w' => e = .returned (.bool (Lib.contains s.data.toList c.data.toList)) ∧ w' = w) :
    letI := doorLaid P gm; Sat P f ⟨.none, [.str, .str], .bool, 1, .ro, fun _ x => Px.strings_Contains N x.1 x.2.1⟩ := by
  letI := doorLaid P gm
  obtain ⟨c0, hc0⟩ := Option.isSome_iff_exists.1 hb0
  refine ⟨⟨fn, c0, hf, hname, hc0⟩, fun w T x gh b xs vs0 vs r hg ha hnd hlt hT hD hr => ?_⟩
  have hg' : vs0 = [] := hg
  subst hg'
  rw [args_str2 ha]
  obtain ⟨h1, h2⟩ := chk_some hr
  cases h2
  obtain ⟨⟨_, m, hm⟩, _⟩ := hD
  refine (h xs.1 xs.2.1 m w (of_decide_eq_true h1) hm).mono fun e w' ⟨he, hw⟩ => ⟨_, he, ?_⟩
  subst hw
  exact ret_flat (g := .leaf) (Below.refl _ _) rfl (fun _ _ => trivial) (fun e k hk => (hT e k hk).1)
theorem sat_cut (gm : Nat) {N : Nat} {f : FuncId} {fn : Func} (hf : P.funcs[f]? = some fn) (hname : (fn.name == "runtime.NumGoroutine") = false) (hb0 : fn.body.isSome = true)
    (h : ∀ (s c : ByteArray) (m : Int) (w : World), s.size < 4294967281 → w.cell? ⟨gm, 0, none⟩ = some (.int .i64 m) →
      Calls P f #[.string s, .string c] w fun e w' => e = .returned (.tuple #[.string ⟨(Lib.cut s.data.toList c.data.toList).1.toArray⟩, .string ⟨(Lib.cut s.data.toList c.data.toList).2.1.toArray⟩, .bool (Lib.cut s.data.toList c.data.toList).2.2]) ∧ ∃ n, w' = w.drewN n) :
    letI := doorLaid P gm; Sat P f ⟨.none, [.str, .str], .prod .str (.prod .str .bool), 3, .ro, fun _ x => Px.strings_Cut N x.1 x.2.1⟩ := by
  letI := doorLaid P gm
  obtain ⟨c0, hc0⟩ := Option.isSome_iff_exists.1 hb0
  refine ⟨⟨fn, c0, hf, hname, hc0⟩, fun w T x gh b xs vs0 vs r hg ha hnd hlt hT hD hr => ?_⟩
  have hg' : vs0 = [] := hg
  subst hg'
  rw [args_str2 ha]
  obtain ⟨h1, h2⟩ := chk_some hr
  cases h2
  obtain ⟨⟨_, m, hm⟩, _⟩ := hD
  refine (h xs.1 xs.2.1 m w (of_decide_eq_true h1) hm).mono fun e w' ⟨he, n, hw⟩ => ⟨_, he, ?_⟩
  subst hw
  exact ret_flat (g := .leaf) (below_drawn _ _ _) rfl (fun _ _ => by simp [Holds]) (fun e k hk => (hT e k hk).1)
theorem sat_itoa (gm : Nat) {N : Nat} {f : FuncId} {fn : Func} (hf : P.funcs[f]? = some fn) (hname : (fn.name == "runtime.NumGoroutine") = false) (hb0 : fn.body.isSome = true)
    (h : ∀ (n : Int), -9223372036854775808 ≤ n → n ≤ 9223372036854775807 → ∀ w : World, Lib.TabIs P w "internal/strconv.uint64pow10" .u64 Lib.pow10Tab →
      Calls P f #[.int .i64 n] w fun e w' => e = .returned (.string ⟨(Lib.itoa n).toArray⟩) ∧ ∃ k os, w' = Sort.grow (w.drewN k) os) :
    letI := doorLaid P gm; Sat P f ⟨.none, [.int .i64], .str, 1, .ro, fun _ x => Px.strconv_Itoa N x.1⟩ := by
  letI := doorLaid P gm
  obtain ⟨c0, hc0⟩ := Option.isSome_iff_exists.1 hb0
  refine ⟨⟨fn, c0, hf, hname, hc0⟩, fun w T x gh b xs vs0 vs r hg ha hnd hlt hT hD hr => ?_⟩
  have hg' : vs0 = [] := hg
  subst hg'
  rw [args_int1 ha]
  obtain ⟨h1, h2⟩ := chk_some hr
  cases h2
  simp only [Bool.and_eq_true, decide_eq_true_eq] at h1
  obtain ⟨_, gt, _, _, ht⟩ := hD
  refine (h xs.1 h1.1 h1.2 w ht).mono fun e w' ⟨he, k, os, hw⟩ => ⟨_, he, ?_⟩
  subst hw
  exact ret_flat (g := .leaf) (Lib.below_grow _ _ (Nat.le_refl _) _ _) rfl (fun _ _ => by simp [Holds]) (fun e k hk => (hT e k hk).1)
end
end Go.Rx
/- A reflected evaluator for Go code, part 45: a law's row that lists variables of the library's. -/
namespace Go.Rx
noncomputable section
open Go.RowKit
section
variable {H : Type} {enc : TypeId × Value → H}
theorem returns_laid {a : Assume} {C : Checked} {os : Os} {f : FuncId} {fn : Func} {s : ChangeSpec} {conds : List PathCond} {apart fresh handsOn again : Bool} {X : World → Array Value → Prop}
    (hX : ∀ (w w' : World) (args : Array Value), w.heap = w'.heap → X w args → X w' args)
    (own : ownKnob C.prog.godebug = none) (started : os.Started) (noInit : C.prog.inits.idxOf? f = none) (hfn : C.prog.funcs[f]? = some fn)
    (witness : ∃ (w : World) (tape : Tape) (i : Input), w.os = os ∧ (w.forCall tape i).Shaped C.prog ∧ i.vars = [] ∧ Input.okWide C.prog (w.forCall tape i) .any w.heap.size f i ∧
      ((s.pre enc C.prog fn conds apart (w.forCall tape i).memory i.args ∧ X (w.forCall tape i).memory i.args) ∧ sizedMet enc C.prog fn (OpenSpec.ofChange s) apart (w.forCall tape i).memory i.args) ∧ a.holds C.prog (lone (Frame.enter C.prog f i.args .normal) [] (w.forCall tape i)))
    (contract : ∀ (W : World) (base : Nat) (args : Array Value) (ds gs : List (DataW H)) (before : List MemPlace),
      (∀ (j : Nat) t v, fn.params[j]? = some t → args[j]? = some v → Value.okWide C.prog W .any base t v) →
      DataW.Whole enc C.prog fn.params.toList s.vars apart W args.toList ds gs before → X W args → W.ShapedOpen C.prog →
      Calls C.prog f args W fun e W' => ∃ v, e = .returned v ∧ s.post enc C.prog fn apart fresh handsOn again W args v W') :
    ReturnsInHanded a C os f .any (fun w args => (s.pre enc C.prog fn conds apart w args ∧ X w args) ∧ sizedMet enc C.prog fn (OpenSpec.ofChange s) apart w args) (s.post enc C.prog fn apart fresh handsOn again) := by
  refine returnsInHanded_of_calls own started noInit witness ?_
  intro w tape i _ hsh _ hok hpre hholds
  obtain ⟨_, _, _, fn', hfn', _, _, _, _, hval⟩ := hok
  have e : fn' = fn := Option.some.inj (hfn'.symm.trans hfn)
  subst e
  obtain ⟨⟨⟨ds, gs, before, hw, hc⟩, hx⟩, hz⟩ := hpre
  have hw' := DataW.Whole.of_heap (w' := w.forCall tape i) (by rfl) hw
  refine (contract (w.forCall tape i) w.heap.size i.args ds gs before hval hw' (hX _ _ _ (by rfl) hx) hsh).mono fun e W' ⟨v, he, hp⟩ => ?_
  subst he
  exact ChangeSpec.post_blind hp
end
theorem block_of_cell {w : World} {a : Addr} {v : Value} (h : w.cell? a = some v) : a.block < w.heap.size := by
  rcases Nat.lt_or_ge a.block w.heap.size with h1 | h1
  · exact h1
  · unfold World.cell? at h
    rw [Array.getElem?_eq_none h1] at h
    cases h
theorem block_of_tab {P : Program} {w : World} {name : String} {k : IntKind} {zs : List Int} {g : Nat} (hg : P.globalNamed name = some g) (h : Lib.TabIs P w name k zs) : g < w.heap.size := by
  rcases Nat.lt_or_ge g w.heap.size with h1 | h1
  · exact h1
  · unfold Lib.TabIs World.var? at h
    rw [hg] at h
    simp only [Option.bind_some] at h
    rw [Array.getElem?_eq_none h1] at h
    cases h
theorem door_start {P : Program} {gm gt : Nat} {W : World} (hm : ∃ m, W.cell? ⟨gm, 0, none⟩ = some (.int .i64 m)) (hg : P.globalNamed "internal/strconv.uint64pow10" = some gt) (ht : Lib.TabIs P W "internal/strconv.uint64pow10" .u64 Lib.pow10Tab) :
    doorD P gm W (fun _ k => k < W.heap.size) := by
  obtain ⟨m, hm⟩ := hm
  exact ⟨⟨⟨0, block_of_cell hm⟩, m, hm⟩, gt, hg, ⟨0, block_of_tab hg ht⟩, ht⟩
theorem laid_tail {P : Program} {x : String × DataW Unit} {r : List (String × DataW Unit)} {w : World} (h : laidMet P (x :: r) w) : laidMet P r w := by
  obtain ⟨ps, hv, hnd, hrows⟩ := h
  obtain ⟨n, d⟩ := x
  obtain ⟨g, t, cs, fuel, p, q, _, _, _, _, hq, rfl⟩ := hv
  exact ⟨q, hq, List.Nodup.sublist (List.sublist_append_right _ _) hnd, fun b off hm => hrows b off (List.mem_append_right _ hm)⟩
end
end Go.Rx
