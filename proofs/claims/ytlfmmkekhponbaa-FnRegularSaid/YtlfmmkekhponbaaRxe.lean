/- This text proves laws about a reflected evaluator of Go code, part 5 of 5; no condition beyond those each theorem states. -/
import Derived.Deep.LoopGhost
import Derived.Handed
import Derived.Lib.AppendIntMem
import Derived.Lib.Atoi
import Derived.Lib.AtoiErrMem
import Derived.Lib.IndexBytes
import Derived.Lib.ItoaLen
import Derived.Lib.Join
import Derived.Lib.LaidTab
import Derived.Lib.SplitLaws
import Derived.Lib.Strings
import Derived.Lib.Walk
import Derived.Shelf.Strconv.Itoa1
import Derived.Shelf.Strings.Cut
import Derived.WalkKit
import Derived.Test.YtlfmmkekhponbaaRxd
set_option linter.unusedVariables false
set_option linter.unusedSimpArgs false
namespace Go.Rx
noncomputable section
open Go.RowKit
variable {P : Program}
def errD (P : Program) (w : World) (T : TypeId → Nat → Prop) : Prop :=
  ∀ ge, P.globalNamed "strconv.ErrSyntax" = some ge → (∃ e, T e ge) ∧ ∃ ev, w.cell? ⟨ge, 0, none⟩ = some ev ∧ (ev = .nilIface ∨ ∃ te pe, ev = .iface te pe)
def doorD (P : Program) (gm : Nat) (w : World) (T : TypeId → Nat → Prop) : Prop :=
  ((∃ e, T e gm) ∧ ∃ m, w.cell? ⟨gm, 0, none⟩ = some (.int .i64 m)) ∧
    ∃ gt, P.globalNamed "internal/strconv.uint64pow10" = some gt ∧ ((∃ e, T e gt) ∧ errD P w T) ∧ Lib.TabIs P w "internal/strconv.uint64pow10" .u64 Lib.pow10Tab
theorem tabIs_of_block {w w' : World} {name : String} {k : IntKind} {zs : List Int} {g : Nat} (hg : P.globalNamed name = some g) (hb : w'.heap[g]? = w.heap[g]?) (h : Lib.TabIs P w name k zs) : Lib.TabIs P w' name k zs := by
  unfold Lib.TabIs World.var? at h ⊢
  rw [hg] at h ⊢
  simp only [Option.bind_some] at h ⊢
  rw [hb]; exact h
theorem doorD_stable {gm : Nat} {w w' : World} {T T' : TypeId → Nat → Prop} (h : doorD P gm w T) (hk : ∀ e k, T e k → T' e k ∧ w'.heap[k]? = w.heap[k]?) : doorD P gm w' T' := by
  obtain ⟨⟨⟨e1, h1⟩, m, h2⟩, gt, h3, ⟨⟨e4, h4⟩, h6⟩, h5⟩ := h
  refine ⟨⟨⟨e1, (hk e1 gm h1).1⟩, m, ?_⟩, gt, h3, ⟨⟨e4, (hk e4 gt h4).1⟩, fun ge hg => ?_⟩, tabIs_of_block h3 (hk e4 gt h4).2 h5⟩
  · rw [World.cell?_of_block (w := w) (hk e1 gm h1).2]; exact h2
  · obtain ⟨⟨e, he⟩, ev, hc, hv⟩ := h6 ge hg
    exact ⟨⟨e, (hk e ge he).1⟩, ev, by rw [World.cell?_of_block (w := w) (hk e ge he).2]; exact hc, hv⟩
abbrev doorLaid (P : Program) (gm : Nat) : Laid P := ⟨doorD P gm, doorD_stable⟩
namespace Px
end Px
end
end Go.Rx
namespace Go.Rx
noncomputable section
open Go.RowKit
section
variable {H : Type} {enc : TypeId × Value → H}
end
end
end Go.Rx
namespace Go.Rx
noncomputable section
open Go.RowKit
variable {P : Program}
namespace Px
end Px
namespace Px
end Px
namespace Px
end Px
end
end Go.Rx
namespace Go.Rx
noncomputable section
open Go.RowKit
variable {P : Program}
namespace Px
end Px
open Go.Proofs in
open Go.Proofs in
end
end Go.Rx
namespace Go.Rx
namespace Px
def lmNever : Int := 1099511627776
def lmAft (reg : Bool) (nd st ut hd lm stock part amount : Int) : Int × Int × Int :=
  if (0 < amount ∧ amount < lm) ∧ (reg = true ∧ part = 1) then (0, 0, lmNever) else
  if iadd .i64 stock (isub .i64 amount nd) < 0 then (0, 0, lmNever) else
  (iadd .i64 stock (isub .i64 amount nd), if iadd .i64 stock (isub .i64 amount nd) = 0 then 0 else (if 0 < amount ∧ amount < lm then 1 else part), if 0 < amount then iadd .i64 (iadd .i64 (imul .i64 ut amount) (imul .i64 hd (iadd .i64 stock (isub .i64 amount nd)))) st else iadd .i64 (imul .i64 ut amount) (imul .i64 hd (iadd .i64 stock (isub .i64 amount nd))))
def lmAftC (c : (List Int × List Int × List Int × List Int)) (l : List Int) (reg : Bool) (i : Nat) (s p x : Int) : Int × Int × Int := lmAft reg (gd c.1 i 0) (gd c.2.1 i 0) (gd c.2.2.1 i 0) (gd c.2.2.2 i 0) (gd l i 0) s p x
def lmMn (f : Nat → Int) : Nat → Int
  | 0 => lmNever
  | k + 1 => imin (lmMn f k) (f k)
def lmWth (c : (List Int × List Int × List Int × List Int)) (l : List Int) (reg : Bool) (L : Int → Int → Int) (i : Nat) (s p x : Int) : Int :=
  if (lmAftC c l reg i s p x).2.2 = lmNever then lmNever else imin lmNever (iadd .i64 (lmAftC c l reg i s p x).2.2 (L (lmAftC c l reg i s p x).1 (lmAftC c l reg i s p x).2.1))
def lmLst (c : (List Int × List Int × List Int × List Int)) (l : List Int) (reg : Bool) : Nat → Nat → Int → Int → Int
  | 0, i, s, p => if (c.1.drop i).sum < s then lmNever else 0
  | d + 1, i, s, p => if (c.1.drop i).sum < s then lmNever else lmMn (fun x => lmWth c l reg (lmLst c l reg d (i + 1)) i s p x) (gd l i 0 + 1).toNat
def lmFst (f : Nat → Int) (v : Int) : Nat → Nat → Nat
  | 0, x => x
  | k + 1, x => if f x = v then x else lmFst f v k (x + 1)
def lmWthN (c : (List Int × List Int × List Int × List Int)) (l : List Int) (reg : Bool) (d i : Nat) (s p : Int) (x : Nat) : Int := lmWth c l reg (lmLst c l reg d (i + 1)) i s p (x : Int)
def lmPlan (c : (List Int × List Int × List Int × List Int)) (l : List Int) (reg : Bool) : Nat → Nat → Int → Int → Option (List Int)
  | 0, _, _, _ => some []
  | d + 1, i, s, p =>
    if lmWthN c l reg d i s p (lmFst (lmWthN c l reg d i s p) (lmLst c l reg (d + 1) i s p) 161 0) = lmLst c l reg (d + 1) i s p then
      (lmPlan c l reg d (i + 1) (lmAftC c l reg i s p ((lmFst (lmWthN c l reg d i s p) (lmLst c l reg (d + 1) i s p) 161 0 : Nat) : Int)).1 (lmAftC c l reg i s p ((lmFst (lmWthN c l reg d i s p) (lmLst c l reg (d + 1) i s p) 161 0 : Nat) : Int)).2.1).map (fun w => ((lmFst (lmWthN c l reg d i s p) (lmLst c l reg (d + 1) i s p) 161 0 : Nat) : Int) :: w)
    else none
def lmB (TT : List Int → Option (Int × Unit)) (c : (List Int × List Int × List Int × List Int)) (l : List Int) : Bool :=
  decide (c.2.1.length = c.1.length ∧ c.2.2.1.length = c.1.length ∧ c.2.2.2.length = c.1.length ∧ l.length = c.1.length ∧ c.1.length ≤ 8) && (l.all (fun x => decide (0 ≤ x) && decide (x ≤ 160)) && (List.range (c.1.length + 1)).all fun i => decide (TT (c.1.drop i) = some ((c.1.drop i).sum, ())))
def lmG (G : (List Int × List Int × List Int × List Int) → List Int → Option ((Bool × Bool) × Unit)) (TT : List Int → Option (Int × Unit)) (c : (List Int × List Int × List Int × List Int)) (l : List Int) (reg : Bool) : Option ((List Int × Int × Bool) × Unit) :=
  (G c l).bind fun r => bif r.1.1 && r.1.2 then (chk (lmB TT c l) <| (lmPlan c l reg c.1.length 0 0 0).bind fun w => some ((w, lmLst c l reg c.1.length 0 0 0, true), ())) else some (([], 0, false), ())
end Px
end Go.Rx

