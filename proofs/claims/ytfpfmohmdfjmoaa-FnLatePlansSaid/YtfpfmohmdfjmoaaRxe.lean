/- This text proves laws about a reflected evaluator of Go code, part 5 of 5; no condition beyond those each theorem states. -/
import Derived.Handed
import Derived.Lib.AppendIntMem
import Derived.Lib.Atoi
import Derived.Lib.AtoiErrMem
import Derived.Lib.IndexBytes
import Derived.Lib.ItoaLen
import Derived.Lib.Join
import Derived.Lib.LaidTab
import Derived.Lib.SplitLaws
import Derived.Lib.Strings
import Derived.Shelf.Strconv.Itoa1
import Derived.Shelf.Strings.Cut
import Derived.Test.YtfpfmohmdfjmoaaRxd
set_option linter.unusedVariables false
set_option linter.unusedSimpArgs false
/- A reflected evaluator for Go code, part 44: functions of Go's library that read a variable of the library's; a function that calls itself. -/
namespace Go.Rx
noncomputable section
open Go.RowKit
variable {P : Program}

/-- A function of which nothing is asked. -/
theorem sat_none [Laid P] {f : FuncId} {fn : Func} {g : Giv} {l : List Ty} {res : Ty} {n : Nat} {p : Perm} (hf : P.funcs[f]? = some fn) (hname : (fn.name == "runtime.NumGoroutine") = false) (hb0 : fn.body.isSome = true) :
    Sat P f ⟨g, l, res, n, p, fun _ _ => none⟩ := by
  obtain ⟨c0, hc0⟩ := Option.isSome_iff_exists.1 hb0
  exact ⟨⟨fn, c0, hf, hname, hc0⟩, fun w T x gh b xs vs0 vs r hg ha hnd hlt hT hD hr => by cases hr⟩

/-- What the library's own variables hold: a number; the table of powers; an error, if there is such a variable. -/
def errD (P : Program) (w : World) (T : TypeId → Nat → Prop) : Prop :=
  ∀ ge, P.globalNamed "strconv.ErrSyntax" = some ge → (∃ e, T e ge) ∧ ∃ ev, w.cell? ⟨ge, 0, none⟩ = some ev ∧ (ev = .nilIface ∨ ∃ te pe, ev = .iface te pe)
def doorD (P : Program) (gm : Nat) (w : World) (T : TypeId → Nat → Prop) : Prop :=
  ((∃ e, T e gm) ∧ ∃ m, w.cell? ⟨gm, 0, none⟩ = some (.int .i64 m)) ∧
    ∃ gt, P.globalNamed "internal/strconv.uint64pow10" = some gt ∧ ((∃ e, T e gt) ∧ errD P w T) ∧ Lib.TabIs P w "internal/strconv.uint64pow10" .u64 Lib.pow10Tab
theorem tabIs_of_block {w w' : World} {name : String} {k : IntKind} {zs : List Int} {g : Nat} (hg : P.globalNamed name = some g) (hb : w'.heap[g]? = w.heap[g]?) (h : Lib.TabIs P w name k zs) : Lib.TabIs P w' name k zs := by
  unfold Lib.TabIs World.var? at h ⊢
  rw [hg] at h ⊢
  simp only [Option.bind_some] at h ⊢
  rw [hb]; exact h
theorem doorD_stable {gm : Nat} {w w' : World} {T T' : TypeId → Nat → Prop} (h : doorD P gm w T) (hk : ∀ e k, T e k → T' e k ∧ w'.heap[k]? = w.heap[k]?) : doorD P gm w' T' := by
  obtain ⟨⟨⟨e1, h1⟩, m, h2⟩, gt, h3, ⟨⟨e4, h4⟩, h6⟩, h5⟩ := h
  refine ⟨⟨⟨e1, (hk e1 gm h1).1⟩, m, ?_⟩, gt, h3, ⟨⟨e4, (hk e4 gt h4).1⟩, fun ge hg => ?_⟩, tabIs_of_block h3 (hk e4 gt h4).2 h5⟩
  · rw [World.cell?_of_block (w := w) (hk e1 gm h1).2]; exact h2
  · obtain ⟨⟨e, he⟩, ev, hc, hv⟩ := h6 ge hg
    exact ⟨⟨e, (hk e ge he).1⟩, ev, by rw [World.cell?_of_block (w := w) (hk e ge he).2]; exact hc, hv⟩
abbrev doorLaid (P : Program) (gm : Nat) : Laid P := ⟨doorD P gm, doorD_stable⟩

namespace Px
def shortB (s : ByteArray) : Bool := decide (s.size < 4294967281)
def strings_Contains (N : Nat) (s c : ByteArray) : Option (Bool × Unit) := chk (shortB s) <| some (Lib.contains s.data.toList c.data.toList, ())
def strings_Cut (N : Nat) (s c : ByteArray) : Option ((ByteArray × ByteArray × Bool) × Unit) :=
  chk (shortB s) <| some ((⟨(Lib.cut s.data.toList c.data.toList).1.toArray⟩, ⟨(Lib.cut s.data.toList c.data.toList).2.1.toArray⟩, (Lib.cut s.data.toList c.data.toList).2.2), ())
def strconv_Itoa (N : Nat) (n : Int) : Option (ByteArray × Unit) := chk (decide (-9223372036854775808 ≤ n) && decide (n ≤ 9223372036854775807)) <| some (⟨(Lib.itoa n).toArray⟩, ())
end Px
theorem args_int1 {k : IntKind} {w : World} {T : TypeId → Nat → Prop} {xs : ADen [.int k]} {vs : List Value} (h : ArgsOk w T [.int k] xs vs) : vs = [.int k xs.1] := by
  obtain ⟨g, vs', rfl, _, h3⟩ := h
  have h3' : vs' = [] := h3
  subst h3'
  rfl
theorem below_drawn (B : Nat) (w : World) (n : Nat) : Below B w (w.drewN n) := ⟨rfl, rfl, rfl, Nat.le_refl _, fun _ _ => rfl⟩
theorem sat_contains (gm : Nat) {N : Nat} {f : FuncId} {fn : Func} (hf : P.funcs[f]? = some fn) (hname : (fn.name == "runtime.NumGoroutine") = false) (hb0 : fn.body.isSome = true)
    (h : ∀ (s c : ByteArray) (m : Int) (w : World), s.size < 4294967281 → w.cell? ⟨gm, 0, none⟩ = some (.int .i64 m) →
      Calls P f #[.string s, .string c] w fun e w' => e = .returned (.bool (Lib.contains s.data.toList c.data.toList)) ∧ w' = w) :
    letI := doorLaid P gm; Sat P f ⟨.none, [.str, .str], .bool, 1, .ro, fun _ x => Px.strings_Contains N x.1 x.2.1⟩ := by
  letI := doorLaid P gm
  obtain ⟨c0, hc0⟩ := Option.isSome_iff_exists.1 hb0
  refine ⟨⟨fn, c0, hf, hname, hc0⟩, fun w T x gh b xs vs0 vs r hg ha hnd hlt hT hD hr => ?_⟩
  have hg' : vs0 = [] := hg
  subst hg'
  rw [args_str2 ha]
  obtain ⟨h1, h2⟩ := chk_some hr
  cases h2
  obtain ⟨⟨_, m, hm⟩, _⟩ := hD
  refine (h xs.1 xs.2.1 m w (of_decide_eq_true h1) hm).mono fun e w' ⟨he, hw⟩ => ⟨_, he, ?_⟩
  subst hw
  exact ret_flat (g := .leaf) (Below.refl _ _) rfl (fun _ _ => trivial) (fun e k hk => (hT e k hk).1)
theorem sat_cut (gm : Nat) {N : Nat} {f : FuncId} {fn : Func} (hf : P.funcs[f]? = some fn) (hname : (fn.name == "runtime.NumGoroutine") = false) (hb0 : fn.body.isSome = true)
    (h : ∀ (s c : ByteArray) (m : Int) (w : World), s.size < 4294967281 → w.cell? ⟨gm, 0, none⟩ = some (.int .i64 m) →
      Calls P f #[.string s, .string c] w fun e w' => e = .returned (.tuple #[.string ⟨(Lib.cut s.data.toList c.data.toList).1.toArray⟩, .string ⟨(Lib.cut s.data.toList c.data.toList).2.1.toArray⟩, .bool (Lib.cut s.data.toList c.data.toList).2.2]) ∧ ∃ n, w' = w.drewN n) :
    letI := doorLaid P gm; Sat P f ⟨.none, [.str, .str], .prod .str (.prod .str .bool), 3, .ro, fun _ x => Px.strings_Cut N x.1 x.2.1⟩ := by
  letI := doorLaid P gm
  obtain ⟨c0, hc0⟩ := Option.isSome_iff_exists.1 hb0
  refine ⟨⟨fn, c0, hf, hname, hc0⟩, fun w T x gh b xs vs0 vs r hg ha hnd hlt hT hD hr => ?_⟩
  have hg' : vs0 = [] := hg
  subst hg'
  rw [args_str2 ha]
  obtain ⟨h1, h2⟩ := chk_some hr
  cases h2
  obtain ⟨⟨_, m, hm⟩, _⟩ := hD
  refine (h xs.1 xs.2.1 m w (of_decide_eq_true h1) hm).mono fun e w' ⟨he, n, hw⟩ => ⟨_, he, ?_⟩
  subst hw
  exact ret_flat (g := .leaf) (below_drawn _ _ _) rfl (fun _ _ => by simp [Holds]) (fun e k hk => (hT e k hk).1)
theorem sat_itoa (gm : Nat) {N : Nat} {f : FuncId} {fn : Func} (hf : P.funcs[f]? = some fn) (hname : (fn.name == "runtime.NumGoroutine") = false) (hb0 : fn.body.isSome = true)
    (h : ∀ (n : Int), -9223372036854775808 ≤ n → n ≤ 9223372036854775807 → ∀ w : World, Lib.TabIs P w "internal/strconv.uint64pow10" .u64 Lib.pow10Tab →
      Calls P f #[.int .i64 n] w fun e w' => e = .returned (.string ⟨(Lib.itoa n).toArray⟩) ∧ ∃ k os, w' = Sort.grow (w.drewN k) os) :
    letI := doorLaid P gm; Sat P f ⟨.none, [.int .i64], .str, 1, .ro, fun _ x => Px.strconv_Itoa N x.1⟩ := by
  letI := doorLaid P gm
  obtain ⟨c0, hc0⟩ := Option.isSome_iff_exists.1 hb0
  refine ⟨⟨fn, c0, hf, hname, hc0⟩, fun w T x gh b xs vs0 vs r hg ha hnd hlt hT hD hr => ?_⟩
  have hg' : vs0 = [] := hg
  subst hg'
  rw [args_int1 ha]
  obtain ⟨h1, h2⟩ := chk_some hr
  cases h2
  simp only [Bool.and_eq_true, decide_eq_true_eq] at h1
  obtain ⟨_, gt, _, _, ht⟩ := hD
  refine (h xs.1 h1.1 h1.2 w ht).mono fun e w' ⟨he, k, os, hw⟩ => ⟨_, he, ?_⟩
  subst hw
  exact ret_flat (g := .leaf) (Lib.below_grow _ _ (Nat.le_refl _) _ _) rfl (fun _ _ => by simp [Holds]) (fun e k hk => (hT e k hk).1)
end
end Go.Rx
/- A reflected evaluator for Go code, part 45: a law's row that lists variables of the library's. -/
namespace Go.Rx
noncomputable section
open Go.RowKit
section
variable {H : Type} {enc : TypeId × Value → H}
theorem returns_laid {a : Assume} {C : Checked} {os : Os} {f : FuncId} {fn : Func} {s : ChangeSpec} {conds : List PathCond} {apart fresh handsOn again : Bool} {X : World → Array Value → Prop}
    (hX : ∀ (w w' : World) (args : Array Value), w.heap = w'.heap → X w args → X w' args)
    (own : ownKnob C.prog.godebug = none) (started : os.Started) (noInit : C.prog.inits.idxOf? f = none) (hfn : C.prog.funcs[f]? = some fn)
    (witness : ∃ (w : World) (tape : Tape) (i : Input), w.os = os ∧ (w.forCall tape i).Shaped C.prog ∧ i.vars = [] ∧ Input.okWide C.prog (w.forCall tape i) .any w.heap.size f i ∧
      ((s.pre enc C.prog fn conds apart (w.forCall tape i).memory i.args ∧ X (w.forCall tape i).memory i.args) ∧ sizedMet enc C.prog fn (OpenSpec.ofChange s) apart (w.forCall tape i).memory i.args) ∧ a.holds C.prog (lone (Frame.enter C.prog f i.args .normal) [] (w.forCall tape i)))
    (contract : ∀ (W : World) (base : Nat) (args : Array Value) (ds gs : List (DataW H)) (before : List MemPlace),
      (∀ (j : Nat) t v, fn.params[j]? = some t → args[j]? = some v → Value.okWide C.prog W .any base t v) →
      DataW.Whole enc C.prog fn.params.toList s.vars apart W args.toList ds gs before → X W args → W.ShapedOpen C.prog →
      Calls C.prog f args W fun e W' => ∃ v, e = .returned v ∧ s.post enc C.prog fn apart fresh handsOn again W args v W') :
    ReturnsInHanded a C os f .any (fun w args => (s.pre enc C.prog fn conds apart w args ∧ X w args) ∧ sizedMet enc C.prog fn (OpenSpec.ofChange s) apart w args) (s.post enc C.prog fn apart fresh handsOn again) := by
  refine returnsInHanded_of_calls own started noInit witness ?_
  intro w tape i _ hsh _ hok hpre hholds
  obtain ⟨_, _, _, fn', hfn', _, _, _, _, hval⟩ := hok
  have e : fn' = fn := Option.some.inj (hfn'.symm.trans hfn)
  subst e
  obtain ⟨⟨⟨ds, gs, before, hw, hc⟩, hx⟩, hz⟩ := hpre
  have hw' := DataW.Whole.of_heap (w' := w.forCall tape i) (by rfl) hw
  refine (contract (w.forCall tape i) w.heap.size i.args ds gs before hval hw' (hX _ _ _ (by rfl) hx) hsh).mono fun e W' ⟨v, he, hp⟩ => ?_
  subst he
  exact ChangeSpec.post_blind hp
end
theorem block_of_cell {w : World} {a : Addr} {v : Value} (h : w.cell? a = some v) : a.block < w.heap.size := by
  rcases Nat.lt_or_ge a.block w.heap.size with h1 | h1
  · exact h1
  · unfold World.cell? at h
    rw [Array.getElem?_eq_none h1] at h
    cases h
theorem block_of_tab {P : Program} {w : World} {name : String} {k : IntKind} {zs : List Int} {g : Nat} (hg : P.globalNamed name = some g) (h : Lib.TabIs P w name k zs) : g < w.heap.size := by
  rcases Nat.lt_or_ge g w.heap.size with h1 | h1
  · exact h1
  · unfold Lib.TabIs World.var? at h
    rw [hg] at h
    simp only [Option.bind_some] at h
    rw [Array.getElem?_eq_none h1] at h
    cases h
theorem door_start {P : Program} {gm gt : Nat} {W : World} (hm : ∃ m, W.cell? ⟨gm, 0, none⟩ = some (.int .i64 m)) (hg : P.globalNamed "internal/strconv.uint64pow10" = some gt) (ht : Lib.TabIs P W "internal/strconv.uint64pow10" .u64 Lib.pow10Tab)
    (he : ∀ ge, P.globalNamed "strconv.ErrSyntax" = some ge → ∃ ev, W.cell? ⟨ge, 0, none⟩ = some ev ∧ (ev = .nilIface ∨ ∃ te pe, ev = .iface te pe)) :
    doorD P gm W (fun _ k => k < W.heap.size) := by
  obtain ⟨m, hm⟩ := hm
  refine ⟨⟨⟨0, block_of_cell hm⟩, m, hm⟩, gt, hg, ⟨⟨0, block_of_tab hg ht⟩, fun ge hg2 => ?_⟩, ht⟩
  obtain ⟨ev, hc, hv⟩ := he ge hg2
  exact ⟨⟨0, block_of_cell hc⟩, ev, hc, hv⟩
/-- A listed variable that holds an error. -/
theorem err_of_head {P : Program} {W : World} {name nm : String} {d : DataW Unit} {rest : List (String × DataW Unit)} {g : Nat} {t : TypeId} {ms : Array (String × TypeId)}
    (hg : P.globalNamed name = some g) (hty : (P.globals[g]?).map (·.type) = some t) (ht : P.underlying t = some (.interface ms)) (h : laidMet P ((name, .iface nm d) :: rest) W) :
    ∀ ge, P.globalNamed name = some ge → ∃ ev, W.cell? ⟨ge, 0, none⟩ = some ev ∧ (ev = .nilIface ∨ ∃ te pe, ev = .iface te pe) := by
  intro ge hge
  obtain rfl := Option.some.inj (hg.symm.trans hge)
  obtain ⟨ps, ⟨g', t', cs, fuel, p, q, hg', ht', hvar, hd, _, _⟩, _⟩ := h
  obtain rfl := Option.some.inj (hg.symm.trans hg')
  obtain rfl := Option.some.inj (hty.symm.trans ht')
  have key : ∃ ev, cs.toList = [ev] ∧ (ev = .nilIface ∨ ∃ te pe, ev = .iface te pe) := by
    cases fuel with
    | zero => cases hd
    | succ fuel =>
      unfold DataW.trod at hd
      rw [ht] at hd
      generalize cs.toList = l at hd
      match l, hd with
      | [.nilIface], _ => exact ⟨_, rfl, .inl rfl⟩
      | [.iface u v], _ => exact ⟨_, rfl, .inr ⟨u, v, rfl⟩⟩
  obtain ⟨ev, h1, h2⟩ := key
  have h3 := World.var?_cell hg hvar 0
  refine ⟨ev, ?_, h2⟩
  rw [h3]
  have : cs[0]? = cs.toList[0]? := by simp
  rw [this, h1]; rfl
theorem laid_tail {P : Program} {x : String × DataW Unit} {r : List (String × DataW Unit)} {w : World} (h : laidMet P (x :: r) w) : laidMet P r w := by
  obtain ⟨ps, hv, hnd, hrows⟩ := h
  obtain ⟨n, d⟩ := x
  obtain ⟨g, t, cs, fuel, p, q, _, _, _, _, hq, rfl⟩ := hv
  exact ⟨q, hq, List.Nodup.sublist (List.sublist_append_right _ _) hnd, fun b off hm => hrows b off (List.mem_append_right _ hm)⟩
end
end Go.Rx
/- A reflected evaluator for Go code, part 46: strings.Join, strings.Split. -/
namespace Go.Rx
noncomputable section
open Go.RowKit
variable {P : Program}
namespace Px
def joinB (xs : List ByteArray) (sep : ByteArray) : Bool := decide (xs.length ≤ 140737488355328) && decide ((Lib.join (xs.map (·.data.toList)) sep.data.toList).length ≤ 140737488355328)
def strings_Join (N : Nat) (xs : List ByteArray) (sep : ByteArray) : Option (ByteArray × Unit) := chk (joinB xs sep) <| some (⟨(Lib.join (xs.map (·.data.toList)) sep.data.toList).toArray⟩, ())
end Px
theorem sat_join [Laid P] {e : TypeId} {N : Nat} {f : FuncId} {fn : Func} (hf : P.funcs[f]? = some fn) (hname : (fn.name == "runtime.NumGoroutine") = false) (hb0 : fn.body.isSome = true)
    (h0 : ∀ (a : Option Addr) (c : Nat) (sep : ByteArray) (w : World), Calls P f #[.slice a 0 c, .string sep] w fun e w' => e = .returned (.string ⟨#[]⟩) ∧ w' = w)
    (h : ∀ (bk o c : Nat) (xs : List ByteArray) (sep : ByteArray) (w : World), (∀ (j : Nat) x, xs[j]? = some x → w.cell? ⟨bk, o + j, none⟩ = some (.string x)) → bk < w.heap.size → xs.length ≤ 140737488355328 → xs.length ≤ c →
      (Lib.join (xs.map (·.data.toList)) sep.data.toList).length ≤ 140737488355328 →
      Calls P f #[.slice (some ⟨bk, o, none⟩) xs.length c, .string sep] w fun e w' => e = .returned (.string ⟨(Lib.join (xs.map (·.data.toList)) sep.data.toList).toArray⟩) ∧ Below w.heap.size w w') :
    Sat P f ⟨.none, [.slice e .str, .str], .str, 1, .ro, fun _ x => Px.strings_Join N x.1 x.2.1⟩ := by
  obtain ⟨c0, hc0⟩ := Option.isSome_iff_exists.1 hb0
  refine ⟨⟨fn, c0, hf, hname, hc0⟩, fun w T x gh b xs vs0 vs r hg ha hnd hlt hT _ hr => ?_⟩
  have hg' : vs0 = [] := hg
  subst hg'
  obtain ⟨g, vs', rfl, hh, g2, vs2, rfl, _, h3⟩ := ha
  have h3' : vs2 = [] := h3
  subst h3'
  obtain ⟨h1, h2⟩ := chk_some hr
  simp only [Px.joinB, Bool.and_eq_true, decide_eq_true_eq] at h1
  cases h2
  simp only [Holds] at hh
  obtain ⟨⟨A, cap, q1, q2, q3, q4, q5, q6⟩, _⟩ := hh
  have hv : toV (.slice e .str) (cells (.slice e .str) xs.1 g) = .slice A xs.1.length cap := by simp [toV, Ty.agg, cells, q1]
  have hv2 : toV .str (cells .str xs.2.1 g2) = .string xs.2.1 := rfl
  rw [hv, hv2]
  have fin : ∀ (e1 : Ending) (w' : World), e1 = .returned (.string ⟨(Lib.join (xs.1.map (·.data.toList)) xs.2.1.data.toList).toArray⟩) → Below w.heap.size w w' →
      ∃ v, e1 = .returned v ∧ RetOk ⟨.none, [.slice e .str, .str], .str, 1, .ro, fun _ x => Px.strings_Join N x.1 x.2.1⟩ w T x gh b (⟨(Lib.join (xs.1.map (·.data.toList)) xs.2.1.data.toList).toArray⟩, ()) v w' := fun e1 w' he hb =>
    ⟨_, he, ret_flat (g := .leaf) hb rfl (fun _ _ => trivial) (fun e2 k hk => (hT e2 k hk).1)⟩
  by_cases hx : xs.1 = []
  · have hl : xs.1.length = 0 := by rw [hx]; rfl
    rw [hl]
    refine (h0 A cap xs.2.1 w).mono fun e w' ⟨he, hw⟩ => ?_
    refine fin e w' ?_ (hw ▸ Below.refl _ _)
    rw [he, hx]; rfl
  · obtain ⟨a, ha1, ha2⟩ := q5 hx
    have hs := q3 hx a ha1
    obtain ⟨bk, o, sp⟩ := a
    simp only at hs
    subst hs
    rw [ha1]
    refine (h bk o cap xs.1 xs.2.1 w (fun j x hj => ?_) (hT e bk ha2).1 h1.1 q2 h1.2).mono fun e w' ⟨he, hw⟩ => fin e w' he hw
    have hjl : j < xs.1.length := (List.getElem?_eq_some_iff.1 hj).1
    have := (q6 _ ha1).elem (s := 1) rfl (fun i _ => rfl) j hjl 0 (.string x) (by simp [cells, List.getD_eq_getElem?_getD, hj])
    by_cases hj0 : j = 0
    · subst hj0; simpa [Addr.add] using this
    · simpa [Addr.add, hj0] using this
namespace Px
def strconv_Atoi (N : Nat) (s : ByteArray) : Option ((Int × Bool) × Unit) := chk (decide (s.size ≤ 18)) <| some (((Lib.atoi s.data.toList).getD 0, (Lib.atoi s.data.toList).isSome), ())
end Px
theorem args_str1 {w : World} {T : TypeId → Nat → Prop} {xs : ADen [.str]} {vs : List Value} (h : ArgsOk w T [.str] xs vs) : vs = [.string xs.1] := by
  obtain ⟨g, vs', rfl, _, h3⟩ := h
  have h3' : vs' = [] := h3
  subst h3'
  rfl
theorem sat_atoi (gm ge : Nat) {e : TypeId} {N : Nat} {f : FuncId} {fn : Func} (hf : P.funcs[f]? = some fn) (hname : (fn.name == "runtime.NumGoroutine") = false) (hb0 : fn.body.isSome = true) (hge : P.globalNamed "strconv.ErrSyntax" = some ge)
    (h : ∀ (s : ByteArray) (n : Int), s.size ≤ 18 → Lib.atoi s.data.toList = some n → ∀ w : World, Calls P f #[.string s] w fun e1 w' => e1 = .returned (.tuple #[.int .i64 n, .nilIface]) ∧ ∃ t, w' = Lib.bytesWorld w e t)
    (h0 : ∀ (s : ByteArray), s.size ≤ 18 → Lib.atoi s.data.toList = none → ∀ (ev : Value) (w : World), w.cell? ⟨ge, 0, none⟩ = some ev → (ev = .nilIface ∨ ∃ te pe, ev = .iface te pe) →
      Calls P f #[.string s] w fun e1 w' => (∃ te pe, e1 = .returned (.tuple #[.int .i64 0, .iface te pe])) ∧ Below w.heap.size w w') :
    letI := doorLaid P gm; Sat P f ⟨.none, [.str], .prod (.int .i64) .err, 2, .ro, fun _ x => Px.strconv_Atoi N x.1⟩ := by
  letI := doorLaid P gm
  obtain ⟨c0, hc0⟩ := Option.isSome_iff_exists.1 hb0
  refine ⟨⟨fn, c0, hf, hname, hc0⟩, fun w T x gh b xs vs0 vs r hg ha hnd hlt hT hD hr => ?_⟩
  have hg' : vs0 = [] := hg
  subst hg'
  rw [args_str1 ha]
  obtain ⟨h1, h2⟩ := chk_some hr
  have hs := of_decide_eq_true h1
  cases h2
  obtain ⟨_, gt, _, ⟨_, hE⟩, _⟩ := hD
  obtain ⟨_, ev, hc, hv⟩ := hE ge hge
  cases ho : Lib.atoi xs.1.data.toList with
  | some n =>
    refine (h xs.1 n hs ho w).mono fun e1 w' ⟨he, t, hw⟩ => ⟨_, he, ?_⟩
    subst hw
    exact ret_flat (g := .pr .leaf (.hd .nilIface)) (Lib.bytesWorld_below _ _ _) rfl (fun _ _ => by simp [Holds, Gh.r, Gh.head]) (fun e k hk => (hT e k hk).1)
  | none =>
    refine (h0 xs.1 hs ho ev w hc hv).mono fun e1 w' ⟨⟨te, pe, he⟩, hw⟩ => ⟨_, he, ?_⟩
    exact ret_flat (g := .pr .leaf (.hd (.iface te pe))) hw rfl (fun _ _ => by simp [Holds, Gh.r, Gh.head]) (fun e k hk => (hT e k hk).1)
namespace Px
def strings_Split (N : Nat) (s sep : ByteArray) : Option (List ByteArray × Unit) := chk (decide (s.size < 4294967281) && decide (1 ≤ sep.size)) <| some (Lib.splitB sep 0 (Lib.countB s sep) s, ())
end Px
theorem catN_strs (xs : List ByteArray) : ∀ n, n ≤ xs.length → catN (fun i => cells .str (xs.getD i (Ty.dflt .str)) .leaf) n = (xs.take n).map Value.string
  | 0, _ => rfl
  | n + 1, h => by
    simp only [catN]
    rw [catN_strs xs n (by omega), List.take_add_one, List.getElem?_eq_getElem (by omega), List.map_append]
    simp [cells, List.getD_eq_getElem?_getD, List.getElem?_eq_getElem (show n < xs.length by omega)]
theorem sat_split (gm : Nat) {e : TypeId} {N : Nat} {f : FuncId} {fn : Func} (hf : P.funcs[f]? = some fn) (hname : (fn.name == "runtime.NumGoroutine") = false) (hb0 : fn.body.isSome = true)
    (h : ∀ (s sep : ByteArray) (m : Int) (w : World), s.size < 4294967281 → w.cell? ⟨gm, 0, none⟩ = some (.int .i64 m) → 1 ≤ sep.size →
      Calls P f #[.string s, .string sep] w fun e1 w' => e1 = .returned (.slice (some ⟨w.heap.size, 0, none⟩) (Lib.countB s sep + 1) (Lib.countB s sep + 1)) ∧ w' = w.alloc (.cells ((Lib.splitB sep 0 (Lib.countB s sep) s).map Value.string).toArray e)) :
    letI := doorLaid P gm; Sat P f ⟨.none, [.str, .str], .slice e .str, 1, .own .ro, fun _ x => Px.strings_Split N x.1 x.2.1⟩ := by
  letI := doorLaid P gm
  obtain ⟨c0, hc0⟩ := Option.isSome_iff_exists.1 hb0
  refine ⟨⟨fn, c0, hf, hname, hc0⟩, fun w T x gh b xs vs0 vs r hg ha hnd hlt hT hD hr => ?_⟩
  have hg' : vs0 = [] := hg
  subst hg'
  rw [args_str2 ha]
  obtain ⟨h1, h2⟩ := chk_some hr
  simp only [Bool.and_eq_true, decide_eq_true_eq] at h1
  cases h2
  obtain ⟨⟨_, m, hm⟩, _⟩ := hD
  have hlen : (Lib.splitB xs.2.1 0 (Lib.countB xs.1 xs.2.1) xs.1).length = Lib.countB xs.1 xs.2.1 + 1 := Lib.splitB_all xs.2.1 h1.2 0 _ xs.1 rfl
  have hle := Lib.countB_le xs.2.1 h1.2 xs.1.size xs.1 (Nat.le_refl _)
  refine (h xs.1 xs.2.1 m w h1.1 hm h1.2).mono fun e1 w' ⟨he, hw⟩ => ⟨_, he, ?_⟩
  subst hw
  generalize hL : Lib.splitB xs.2.1 0 (Lib.countB xs.1 xs.2.1) xs.1 = L at hlen ⊢
  have hsz : (w.alloc (.cells (L.map Value.string).toArray e)).heap.size = w.heap.size + 1 := by simp
  have hfoot : foot (.slice e .str) (.own .ro) L (.row (.slice (some ⟨w.heap.size, 0, none⟩) (Lib.countB xs.1 xs.2.1 + 1) (Lib.countB xs.1 xs.2.1 + 1)) fun _ => .leaf) = [w.heap.size] := by
    simp only [foot, Gh.head, Gh.at]
    rw [catF_nil (fun _ _ => rfl)]
    simp [Value.ownBlock]
  have hb : Below w.heap.size w (w.alloc (.cells (L.map Value.string).toArray e)) := (Below.refl _ _).alloc (Nat.le_refl _) _
  refine ⟨.row (.slice (some ⟨w.heap.size, 0, none⟩) (Lib.countB xs.1 xs.2.1 + 1) (Lib.countB xs.1 xs.2.1 + 1)) fun _ => .leaf, .leaf, T, ⟨hb.os, hb.tape, hb.output, hb.size, fun k hk _ => hb.block k hk⟩, ?_, ?_, trivial, ?_, ?_, ?_⟩
  · simp [toV, Ty.agg, cells, Gh.head]
  · simp only [Holds, Gh.head, Gh.at]
    refine ⟨⟨length_catN (fun _ _ => rfl), .inr ⟨w.heap.size, L.length, (L.map Value.string).toArray, by rw [hlen], ⟨(0, 0), .inl rfl, heap_alloc_new w _⟩, Nat.le_refl _, ?_, by simp [Ty.sz], ?_⟩⟩, fun _ _ => trivial⟩
    · rw [hlen]; have : (4294967281 : Nat) ≤ maxLen := by decide
      omega
    · rw [catN_strs L L.length (Nat.le_refl _)]; simp [Ty.sz, List.take_of_length_le]
  · show (foot (.slice e .str) (.own .ro) L (.row (.slice (some ⟨w.heap.size, 0, none⟩) (Lib.countB xs.1 xs.2.1 + 1) (Lib.countB xs.1 xs.2.1 + 1)) fun _ => .leaf) ++ []).Nodup
    rw [List.append_nil, hfoot]; simp
  · intro k hk
    have hk' : k ∈ foot (.slice e .str) (.own .ro) L (.row (.slice (some ⟨w.heap.size, 0, none⟩) (Lib.countB xs.1 xs.2.1 + 1) (Lib.countB xs.1 xs.2.1 + 1)) fun _ => .leaf) := by simpa [backFeet] using hk
    rw [hfoot] at hk'
    obtain rfl : k = w.heap.size := by simpa using hk'
    exact ⟨by rw [hsz]; omega, .inl (Nat.le_refl _)⟩
  · intro e2 k hk
    have hlt := (hT e2 k hk).1
    refine ⟨.inl hk, by rw [hsz]; omega, fun hin => ?_⟩
    have hk' : k ∈ foot (.slice e .str) (.own .ro) L (.row (.slice (some ⟨w.heap.size, 0, none⟩) (Lib.countB xs.1 xs.2.1 + 1) (Lib.countB xs.1 xs.2.1 + 1)) fun _ => .leaf) := by simpa [backFeet] using hin
    rw [hfoot] at hk'
    obtain rfl : k = w.heap.size := by simpa using hk'
    omega
end
end Go.Rx
